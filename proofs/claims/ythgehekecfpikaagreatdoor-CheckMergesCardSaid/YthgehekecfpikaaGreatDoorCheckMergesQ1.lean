/- CheckMerges: texts XA, XW, XO, XS, XP, XQ, XR, XK, XN, XC, XSy, XD, XD2, XMin, XMap, XMap2, XF, XL, XL3, joined by a program of ours; what nothing names is left out. -/
import Derived.Tactics
import Derived.Deep.Quiet
import Derived.Below
import Derived.WalkKit
import Derived.ChangeArms
import Derived.ChangeOld
import Derived.Laws.LoneSync
import Derived.OrdersHeld
import Derived.MapKept
import Derived.Maps.RangeRun
import Derived.Test.YthgehekecfpikaaGreatDoorProg
import Derived.KernelRfl
set_option linter.unusedVariables false
set_option linter.unusedSimpArgs false
set_option maxHeartbeats 8000000
namespace Go.Proofs.YthgehekecfpikaaGreatDoor.X
open Go
abbrev Foot := Nat → Prop
def none_ : Foot := fun _ => False
structure Upd (S : Foot) (w w' : World) : Prop where
 os : w'.os = w.os
 tape : w'.tape = w.tape
 output : w'.output = w.output
 size : w.heap.size ≤ w'.heap.size
 block : ∀ k, k < w.heap.size → ¬ S k → w'.heap[k]? = w.heap[k]?
theorem Upd.refl (S : Foot) (w : World) : Upd S w w := ⟨rfl, rfl, rfl, Nat.le_refl _, fun _ _ _ => rfl⟩
theorem Upd.trans {S S1 : Foot} {a b c : World} (h : Upd S a b) (k : Upd S1 b c) (hs : ∀ i, i < a.heap.size → S1 i → S i) : Upd S a c :=
 ⟨k.os.trans h.os, k.tape.trans h.tape, k.output.trans h.output, Nat.le_trans h.size k.size,
  fun i hi hn => (k.block i (Nat.lt_of_lt_of_le hi h.size) (fun x => hn (hs i hi x))).trans (h.block i hi hn)⟩
theorem Upd.below {w w' : World} (h : Upd none_ w w') : Go.RowKit.Below w.heap.size w w' :=
 ⟨h.os, h.tape, h.output, h.size, fun k hk => h.block k hk id⟩
theorem Upd.drewN (S : Foot) (w : World) (n : Nat) : Upd S w (w.drewN n) := ⟨rfl, rfl, rfl, Nat.le_refl _, fun _ _ _ => rfl⟩
theorem Upd.alloc (S : Foot) (w : World) (o : Obj) : Upd S w (w.alloc o) :=
 ⟨rfl, rfl, rfl, by simp, fun k hk _ => Go.RowKit.Below.heap_alloc w o k hk⟩
theorem Upd.setCell {S : Foot} (w : World) (a : Addr) (v : Value) (h : S a.block) : Upd S w (w.setCell a v) :=
 ⟨rfl, rfl, rfl, by simp, fun k _ hn => Go.RowKit.Below.heap_setCell w a v k (fun e => hn (e ▸ h))⟩
structure SP where
 P : World → Foot → Prop
 loc : ∀ {w w' : World} {F : Foot}, P w F → (∀ k, F k → w'.heap[k]? = w.heap[k]?) → P w' F
 mono : ∀ {w : World} {F F' : Foot}, P w F → (∀ k, F k → F' k) → P w F'
def Star : List SP → World → Foot → Prop
 | [], _, _ => True
 | A :: As, w, F => ∃ F1 F2 : Foot, (∀ k, F1 k → F k) ∧ (∀ k, F2 k → F k) ∧ (∀ k, F1 k → ¬ F2 k) ∧ A.P w F1 ∧ Star As w F2
theorem Star.loc : ∀ {As : List SP} {w w' : World} {F : Foot}, Star As w F → (∀ k, F k → w'.heap[k]? = w.heap[k]?) → Star As w' F
 | [], _, _, _, _, _ => trivial
 | _ :: _, _, _, _, ⟨F1, F2, h1, h2, h3, a, s⟩, h => ⟨F1, F2, h1, h2, h3, SP.loc _ a (fun k hk => h k (h1 k hk)), Star.loc s (fun k hk => h k (h2 k hk))⟩
theorem Star.mono : ∀ {As : List SP} {w : World} {F F' : Foot}, Star As w F → (∀ k, F k → F' k) → Star As w F'
 | [], _, _, _, _, _ => trivial
 | _ :: _, _, _, _, ⟨F1, F2, h1, h2, h3, a, s⟩, h => ⟨F1, F2, fun k hk => h k (h1 k hk), fun k hk => h k (h2 k hk), h3, a, s⟩
theorem Star.append_out : ∀ {As Bs : List SP} {w : World} {F : Foot}, Star (As ++ Bs) w F →
  ∃ F1 F2 : Foot, (∀ k, F1 k → F k) ∧ (∀ k, F2 k → F k) ∧ (∀ k, F1 k → ¬ F2 k) ∧ Star As w F1 ∧ Star Bs w F2
 | [], _, _, F, h => ⟨none_, F, fun _ h => h.elim, fun _ h => h, fun _ h => h.elim, trivial, h⟩
 | _ :: As, Bs, w, F, ⟨F1, F2, h1, h2, h3, a, s⟩ => by
  obtain ⟨G1, G2, g1, g2, g3, sa, sb⟩ := Star.append_out (As := As) (Bs := Bs) s
  refine ⟨fun k => F1 k ∨ G1 k, G2, fun k hk => hk.elim (h1 k) (fun x => h2 k (g1 k x)), fun k hk => h2 k (g2 k hk), ?_, ⟨F1, G1, fun _ => .inl, fun _ => .inr, fun k a b => h3 k a (g1 k b), a, sa⟩, sb⟩
  intro k hk hg
  exact hk.elim (fun x => h3 k x (g2 k hg)) (fun x => g3 k x hg)
theorem Star.append_in : ∀ {As Bs : List SP} {w : World} {F F1 F2 : Foot}, (∀ k, F1 k → F k) → (∀ k, F2 k → F k) → (∀ k, F1 k → ¬ F2 k) → Star As w F1 → Star Bs w F2 → Star (As ++ Bs) w F
 | [], _, _, _, _, _, _, h2, _, _, b => Star.mono b h2
 | _ :: As, Bs, _, F, F1, F2, h1, h2, h3, ⟨G1, G2, g1, g2, g3, a, s⟩, b => by
  refine ⟨G1, fun k => G2 k ∨ F2 k, fun k hk => h1 k (g1 k hk), fun k hk => hk.elim (fun x => h1 k (g2 k x)) (h2 k), ?_, a,
   Star.append_in (fun _ => .inl) (fun _ => .inr) (fun k x y => h3 k (g2 k x) y) s b⟩
  intro k hk hg
  exact hg.elim (fun x => g3 k hk x) (fun x => h3 k (g1 k hk) x)
theorem Star.perm {As Bs : List SP} (p : As.Perm Bs) : ∀ {w : World} {F : Foot}, Star As w F → Star Bs w F := by
 induction p with
 | nil => exact fun h => h
 | cons x _ ih => exact fun ⟨F1, F2, h1, h2, h3, a, s⟩ => ⟨F1, F2, h1, h2, h3, a, ih s⟩
 | swap x y l =>
  rintro w F ⟨F1, F2, h1, h2, h3, a, G1, G2, g1, g2, g3, b, s⟩
  refine ⟨G1, fun k => F1 k ∨ G2 k, fun k hk => h2 k (g1 k hk), fun k hk => hk.elim (h1 k) (fun x => h2 k (g2 k x)), ?_, b, F1, G2, fun _ => .inl, fun _ => .inr, fun k x y => h3 k x (g2 k y), a, s⟩
  intro k hk hg
  exact hg.elim (fun x => h3 k x (g1 k hk)) (fun x => g3 k hk x)
 | trans _ _ ih1 ih2 => exact fun h => ih2 (ih1 h)
theorem Star.mem : ∀ {As : List SP} {w : World} {F : Foot} {A : SP}, Star As w F → A ∈ As → A.P w F
 | _ :: _, _, _, _, ⟨_, _, h1, h2, _, a, s⟩, h => by
  cases h with
  | head => exact SP.mono _ a h1
  | tail _ hm => exact SP.mono _ (Star.mem s hm) h2
def Hd (w0 : World) (F0 : Foot) (w : World) (As Rs : List SP) : Prop :=
 ∃ F G : Foot, Star As w F ∧ (∀ R ∈ Rs, R.P w G) ∧ (∀ k, F k → ¬ G k) ∧ (∀ k, F k → k < w.heap.size ∧ (F0 k ∨ w0.heap.size ≤ k)) ∧ (∀ k, G k → k < w.heap.size) ∧ Upd F0 w0 w
section
variable {w0 w : World} {F0 : Foot} {As Bs Rs : List SP} {A B R : SP}
theorem Hd.upd (h : Hd w0 F0 w As Rs) : Upd F0 w0 w := by obtain ⟨_, _, _, _, _, _, _, u⟩ := h; exact u
theorem Hd.perm (p : As.Perm Bs) (h : Hd w0 F0 w As Rs) : Hd w0 F0 w Bs Rs := by
 obtain ⟨F, G, s, r, d, f, g, u⟩ := h
 exact ⟨F, G, s.perm p, r, d, f, g, u⟩
theorem Hd.subR {Ss : List SP} (h : Hd w0 F0 w As Rs) (hs : ∀ R ∈ Ss, R ∈ Rs) : Hd w0 F0 w As Ss := by
 obtain ⟨F, G, s, r, d, f, g, u⟩ := h
 exact ⟨F, G, s, fun R hR => r R (hs R hR), d, f, g, u⟩
theorem Hd.drop (h : Hd w0 F0 w (A :: As) Rs) : Hd w0 F0 w As Rs := by
 obtain ⟨F, G, ⟨F1, F2, h1, h2, h3, a, s⟩, r, d, f, g, u⟩ := h
 exact ⟨F2, G, s, r, fun k hk => d k (h2 k hk), fun k hk => f k (h2 k hk), g, u⟩
theorem Hd.nil (h : Hd w0 F0 w As Rs) : Hd w0 F0 w [] Rs := by
 obtain ⟨F, G, s, r, d, f, g, u⟩ := h
 exact ⟨F, G, trivial, r, d, f, g, u⟩
theorem Hd.turn (h : Hd w0 F0 w (A :: As) Rs) (hab : ∀ F, A.P w F → B.P w F) : Hd w0 F0 w (B :: As) Rs := by
 obtain ⟨F, G, ⟨F1, F2, h1, h2, h3, a, s⟩, r, d, f, g, u⟩ := h
 exact ⟨F, G, ⟨F1, F2, h1, h2, h3, hab _ a, s⟩, r, d, f, g, u⟩
theorem Hd.turn2 {C : SP} (h : Hd w0 F0 w (A :: B :: As) Rs) (hab : ∀ F1 F2, (∀ k, F1 k → ¬ F2 k) → A.P w F1 → B.P w F2 → C.P w (fun k => F1 k ∨ F2 k)) : Hd w0 F0 w (C :: As) Rs := by
 obtain ⟨F, G, ⟨F1, F2, h1, h2, h3, a, G1, G2, g1, g2, g3, b, s⟩, r, d, f, g, u⟩ := h
 refine ⟨F, G, ⟨fun k => F1 k ∨ G1 k, G2, fun k hk => hk.elim (h1 k) (fun x => h2 k (g1 k x)), fun k hk => h2 k (g2 k hk), ?_, hab F1 G1 (fun k x y => h3 k x (g1 k y)) a b, s⟩, r, d, f, g, u⟩
 intro k hk hg
 exact hk.elim (fun x => h3 k x (g2 k hg)) (fun x => g3 k x hg)
theorem Hd.open_ (h : Hd w0 F0 w (A :: As) Rs) (hab : ∀ F, A.P w F → Star Bs w F) : Hd w0 F0 w (Bs ++ As) Rs := by
 obtain ⟨F, G, ⟨F1, F2, h1, h2, h3, a, s⟩, r, d, f, g, u⟩ := h
 exact ⟨F, G, Star.append_in h1 h2 h3 (hab _ a) s, r, d, f, g, u⟩
theorem Hd.shut (h : Hd w0 F0 w (Bs ++ As) Rs) (hab : ∀ F, Star Bs w F → A.P w F) : Hd w0 F0 w (A :: As) Rs := by
 obtain ⟨F, G, s, r, d, f, g, u⟩ := h
 obtain ⟨F1, F2, h1, h2, h3, sa, sb⟩ := s.append_out
 exact ⟨F, G, ⟨F1, F2, h1, h2, h3, hab _ sa, sb⟩, r, d, f, g, u⟩
theorem Hd.addR (h : Hd w0 F0 w As Rs) (hab : ∀ G, (∀ R ∈ Rs, R.P w G) → R.P w G) : Hd w0 F0 w As (R :: Rs) := by
 obtain ⟨F, G, s, r, d, f, g, u⟩ := h
 refine ⟨F, G, s, ?_, d, f, g, u⟩
 intro R' hR
 cases hR with
 | head => exact hab G r
 | tail _ hm => exact r R' hm
theorem Hd.read {p : Prop} (h : Hd w0 F0 w As Rs) (hA : ∀ F, (∀ A ∈ As, A.P w F) → (∀ R ∈ Rs, R.P w F) → p) : p := by
 obtain ⟨F, G, s, r, d, f, g, u⟩ := h
 exact hA (fun k => F k ∨ G k) (fun A hm => SP.mono _ (s.mem hm) (fun _ => .inl)) (fun R hm => SP.mono _ (r R hm) (fun _ => .inr))
theorem Hd.fact {p : Prop} (h : Hd w0 F0 w As Rs) (hm : A ∈ As) (hA : ∀ F, A.P w F → p) : p := h.read fun F a _ => hA F (a A hm)
theorem Hd.factR {p : Prop} (h : Hd w0 F0 w As Rs) (hm : R ∈ Rs) (hA : ∀ F, R.P w F → p) : p := h.read fun F _ r => hA F (r R hm)
theorem Hd.drewN (h : Hd w0 F0 w As Rs) (n : Nat) : Hd w0 F0 (w.drewN n) As Rs := by
 obtain ⟨F, G, s, r, d, f, g, u⟩ := h
 exact ⟨F, G, s.loc (fun _ _ => rfl), fun R hR => SP.loc _ (r R hR) (fun _ _ => rfl), d, f, g, u.trans (Upd.drewN none_ w n) (fun _ _ x => x.elim)⟩
theorem Hd.frame {Cs Ss : List SP} (h : Hd w0 F0 w (Cs ++ As) Rs) (hS : ∀ S ∈ Ss, ∀ F, (∀ A ∈ As, A.P w F) → (∀ R ∈ Rs, R.P w F) → S.P w F) :
  ∃ Fc, Hd w Fc w Cs Ss ∧ ∀ w' Cs', Hd w Fc w' Cs' Ss → Hd w0 F0 w' (Cs' ++ As) Rs := by
 obtain ⟨F, G, s, r, d, f, g, u⟩ := h
 obtain ⟨F1, F2, h1, h2, h3, sc, sa⟩ := s.append_out
 refine ⟨F1, ⟨F1, fun k => F2 k ∨ G k, sc, ?_, ?_, fun k hk => ⟨(f k (h1 k hk)).1, .inl hk⟩, ?_, Upd.refl _ _⟩, ?_⟩
 ·intro S hm
  exact hS S hm _ (fun A ha => SP.mono _ (sa.mem ha) (fun _ => .inl)) (fun R hr => SP.mono _ (r R hr) (fun _ => .inr))
 ·intro k hk hg
  exact hg.elim (h3 k hk) (d k (h1 k hk))
 ·intro k hk
  exact hk.elim (fun x => (f k (h2 k x)).1) (g k)
 ·rintro w' Cs' ⟨F', G', s', _, _, f', _, u'⟩
  refine ⟨fun k => F' k ∨ F2 k, G, Star.append_in (fun _ => .inl) (fun _ => .inr) ?_ s' (sa.loc ?_), ?_, ?_, ?_, ?_, ?_⟩
  ·intro k hk hg
   have hlt := (f k (h2 k hg)).1
   exact (f' k hk).2.elim (fun x => h3 k x hg) (fun x => by omega)
  ·intro k hk
   exact u'.block k (f k (h2 k hk)).1 (fun x => h3 k x hk)
  ·intro R hm
   exact SP.loc _ (r R hm) (fun k hk => u'.block k (g k hk) (fun x => d k (h1 k x) hk))
  ·intro k hk hg
   refine hk.elim (fun x => ?_) (fun x => d k (h2 k x) hg)
   have hlt := g k hg
   exact (f' k x).2.elim (fun y => d k (h1 k y) hg) (fun y => by omega)
  ·intro k hk
   refine hk.elim (fun x => ⟨(f' k x).1, ?_⟩) (fun x => ⟨Nat.lt_of_lt_of_le (f k (h2 k x)).1 u'.size, (f k (h2 k x)).2⟩)
   exact (f' k x).2.elim (fun y => (f k (h1 k y)).2) (fun y => .inr (Nat.le_trans u.size y))
  ·intro k hk
   exact Nat.lt_of_lt_of_le (g k hk) u'.size
  ·exact u.trans u' (fun i hi x => (f i (h1 i x)).2.elim id (fun y => by omega))
end
def blk (b : Nat) (cs : List Value) (t : TypeId) : SP where
 P w F := F b ∧ w.heap[b]? = some (.cells cs.toArray t (0, 0))
 loc h hk := ⟨h.1, (hk b h.1).trans h.2⟩
 mono h hs := ⟨hs b h.1, h.2⟩
def pure_ (p : Prop) : SP where
 P _ _ := p
 loc h _ := h
 mono h _ := h
def star (As : List SP) : SP where
 P := Star As
 loc := Star.loc
 mono := Star.mono
def ex {α : Sort _} (A : α → SP) : SP where
 P w F := ∃ a, (A a).P w F
 loc h hk := h.elim fun a ha => ⟨a, SP.loc _ ha hk⟩
 mono h hs := h.elim fun a ha => ⟨a, SP.mono _ ha hs⟩
section
variable {w0 w : World} {F0 : Foot} {As Rs : List SP} {b : Nat} {cs : List Value} {t : TypeId}
theorem blk_cell {F : Foot} (h : (blk b cs t).P w F) {i : Nat} {v : Value} (hv : cs[i]? = some v) : w.cell? ⟨b, i, none⟩ = some v := by
 simp [World.cell?, h.2, hv]
theorem blk_free {F : Foot} (h : (blk b cs t).P w F) (i : Nat) : w.frozen? ⟨b, i, none⟩ = false := by
 simp [World.frozen?, h.2]
theorem blk_set {F : Foot} (h : (blk b cs t).P w F) (i : Nat) (v : Value) : (blk b (cs.set i v) t).P (w.setCell ⟨b, i, none⟩ v) F := by
 refine ⟨h.1, ?_⟩
 have h2 := h.2
 simp only [World.setCell, Array.getElem?_modify, ↓reduceIte, h2, Option.map_some]
 simp
theorem Hd.cell (h : Hd w0 F0 w As Rs) (hm : blk b cs t ∈ As) {i : Nat} {v : Value} (hv : cs[i]? = some v) : w.cell? ⟨b, i, none⟩ = some v := h.fact hm fun _ x => blk_cell x hv
theorem Hd.cellR (h : Hd w0 F0 w As Rs) (hm : blk b cs t ∈ Rs) {i : Nat} {v : Value} (hv : cs[i]? = some v) : w.cell? ⟨b, i, none⟩ = some v := h.factR hm fun _ x => blk_cell x hv
theorem Hd.free (h : Hd w0 F0 w As Rs) (hm : blk b cs t ∈ As) (i : Nat) : w.frozen? ⟨b, i, none⟩ = false := h.fact hm fun _ x => blk_free x i
theorem Hd.write {A B : SP} {w' : World} (h : Hd w0 F0 w (A :: As) Rs) (hab : ∀ F, A.P w F → B.P w' F ∧ Upd F w w') : Hd w0 F0 w' (B :: As) Rs := by
 obtain ⟨F, G, ⟨F1, F2, h1, h2, h3, a, s⟩, r, d, f, g, u⟩ := h
 obtain ⟨hb, ub⟩ := hab _ a
 refine ⟨F, G, ⟨F1, F2, h1, h2, h3, hb, s.loc ?_⟩, ?_, d, ?_, ?_, ?_⟩
 ·exact fun k hk => ub.block k (f k (h2 k hk)).1 (fun x => h3 k x hk)
 ·exact fun R hm => SP.loc _ (r R hm) (fun k hk => ub.block k (g k hk) (fun x => d k (h1 k x) hk))
 ·exact fun k hk => ⟨Nat.lt_of_lt_of_le (f k hk).1 ub.size, (f k hk).2⟩
 ·exact fun k hk => Nat.lt_of_lt_of_le (g k hk) ub.size
 ·exact u.trans ub (fun i hi x => (f i (h1 i x)).2.elim id (fun y => by omega))
theorem Hd.grow {A B : SP} {w' : World} (h : Hd w0 F0 w (A :: As) Rs) (hab : ∀ F, A.P w F → (∀ k, F k → k < w.heap.size) → ∃ F', B.P w' F' ∧ Upd F w w' ∧ ∀ k, F' k → k < w'.heap.size ∧ (F k ∨ w.heap.size ≤ k)) : Hd w0 F0 w' (B :: As) Rs := by
 obtain ⟨F, G, ⟨F1, F2, h1, h2, h3, a, s⟩, r, d, f, g, u⟩ := h
 obtain ⟨F', hb, ub, hF'⟩ := hab _ a (fun k hk => (f k (h1 k hk)).1)
 refine ⟨fun k => F' k ∨ F2 k, G, ⟨F', F2, fun _ => .inl, fun _ => .inr, ?_, hb, s.loc ?_⟩, ?_, ?_, ?_, ?_, ?_⟩
 ·intro k hk hg
  have := (f k (h2 k hg)).1
  exact (hF' k hk).2.elim (fun x => h3 k x hg) (fun x => by omega)
 ·exact fun k hk => ub.block k (f k (h2 k hk)).1 (fun x => h3 k x hk)
 ·exact fun R hm => SP.loc _ (r R hm) (fun k hk => ub.block k (g k hk) (fun x => d k (h1 k x) hk))
 ·intro k hk hg
  have := g k hg
  exact hk.elim (fun x => (hF' k x).2.elim (fun y => d k (h1 k y) hg) (fun y => by omega)) (fun x => d k (h2 k x) hg)
 ·intro k hk
  have := u.size
  refine hk.elim (fun x => ⟨(hF' k x).1, ?_⟩) (fun x => ⟨Nat.lt_of_lt_of_le (f k (h2 k x)).1 ub.size, (f k (h2 k x)).2⟩)
  exact (hF' k x).2.elim (fun y => (f k (h1 k y)).2) (fun y => .inr (by omega))
 ·exact fun k hk => Nat.lt_of_lt_of_le (g k hk) ub.size
 ·exact u.trans ub (fun i hi x => (f i (h1 i x)).2.elim id (fun y => by omega))
theorem Hd.new {B : SP} {w' : World} (h : Hd w0 F0 w As Rs) (ub : Upd none_ w w') {F' : Foot} (hb : B.P w' F') (hF' : ∀ k, F' k → k < w'.heap.size ∧ w.heap.size ≤ k) : Hd w0 F0 w' (B :: As) Rs := by
 obtain ⟨F, G, s, r, d, f, g, u⟩ := h
 have h' : Hd w0 F0 w (pure_ True :: As) Rs := ⟨F, G, ⟨none_, F, fun _ x => x.elim, fun _ x => x, fun _ x => x.elim, trivial, s⟩, r, d, f, g, u⟩
 exact h'.grow fun F1 _ _ => ⟨F', hb, ⟨ub.os, ub.tape, ub.output, ub.size, fun k hk _ => ub.block k hk id⟩, fun k hk => ⟨(hF' k hk).1, .inr (hF' k hk).2⟩⟩
theorem Hd.alloc (h : Hd w0 F0 w As Rs) (cs : List Value) (t : TypeId) : Hd w0 F0 (w.alloc (.cells cs.toArray t)) (blk w.heap.size cs t :: As) Rs := by
 refine h.new (Upd.alloc _ _ _) (F' := fun k => k = w.heap.size) ⟨rfl, ?_⟩ ?_
 ·show (w.heap.push _)[w.heap.size]? = _
  simp
 ·intro k hk
  subst hk
  simp
theorem Hd.store (h : Hd w0 F0 w (blk b cs t :: As) Rs) (i : Nat) (v : Value) : Hd w0 F0 (w.setCell ⟨b, i, none⟩ v) (blk b (cs.set i v) t :: As) Rs :=
 h.write fun _ hb => ⟨blk_set hb i v, Upd.setCell _ _ _ hb.1⟩
theorem Hd.le (h : Hd w0 F0 w As Rs) : w0.heap.size ≤ w.heap.size := h.upd.size
end
theorem Hd.begin {w : World} {As Rs : List SP} {F G : Foot} (s : Star As w F) (r : ∀ R ∈ Rs, R.P w G) (d : ∀ k, F k → ¬ G k) (f : ∀ k, F k → k < w.heap.size) (g : ∀ k, G k → k < w.heap.size) : Hd w F w As Rs :=
 ⟨F, G, s, r, d, fun k hk => ⟨f k hk, .inl hk⟩, g, Upd.refl _ _⟩
abbrev Env := List (Nat × Value)
def lk : Env → Nat → Option Value
 | [], _ => none
 | (k, v) :: l, s => match Nat.decEq k s with | .isTrue _ => some v | .isFalse _ => lk l s
def ev (l : Env) : Operand → Option Value
 | .tmp t => lk l t
 | .const v => some v
 | .global g => some (.pointer (some ⟨g, 0, none⟩))
 | .func f => some (.func (.func f) #[] #[])
def upO (l : Env) : Option Tmp → Value → Env
 | some d, v => (d, v) :: l
 | none, _ => l
def dok (n : Nat) : Option Tmp → Bool
 | some d => Nat.ble (d + 1) n
 | none => true
structure Fits (n : Nat) (l : Env) (a : Act) : Prop where
 defers : a.defers = []
 size : a.tmps.size = n
 get : ∀ s v, lk l s = some v → a.tmps.getD s undef = v ∧ s < n
theorem Fits.eval {n : Nat} {l : Env} {a : Act} (h : Fits n l a) {x : Operand} {v : Value} (hx : ev l x = some v) : a.eval x = v := by
 cases x with
 | tmp t => exact (h.get t v hx).1
 | const c => exact Option.some.inj hx
 | global g => exact Option.some.inj hx
 | func f => exact Option.some.inj hx
theorem Fits.put {n : Nat} {l : Env} {a : Act} (h : Fits n l a) (d : Option Tmp) (v : Value) (hd : dok n d = true) : Fits n (upO l d v) (a.put d v) := by
 cases d with
 | none => exact h
 | some d =>
  have hd' : d < n := by simp only [dok] at hd; exact Nat.le_of_ble_eq_true hd
  refine ⟨h.defers, by simp [Act.put, h.size], fun s u hs => ?_⟩
  simp only [upO, lk] at hs
  split at hs
  ·rename_i e _
   obtain rfl : v = u := by simpa using hs
   subst e
   exact ⟨by simp [Act.put, h.size, hd'], hd'⟩
  ·rename_i e _
   obtain ⟨g, hn⟩ := h.get s u hs
   refine ⟨?_, hn⟩
   simp only [Act.put, Array.getD_eq_getD_getElem?] at *
   rw [Array.getElem?_setIfInBounds_ne (by omega)]
   exact g
theorem Fits.sub {n : Nat} {l l' : Env} {a : Act} (h : Fits n l a) (hs : ∀ s v, lk l' s = some v → lk l s = some v) : Fits n l' a :=
 ⟨h.defers, h.size, fun s v x => h.get s v (hs s v x)⟩
def Keeps (l : Env) : Env → Prop
 | [] => True
 | (s, v) :: l' => lk l s = some v ∧ Keeps l l'
theorem Keeps.out {l : Env} : ∀ {l' : Env}, Keeps l l' → ∀ s v, lk l' s = some v → lk l s = some v
 | [], _, s, v, h => by simp [lk] at h
 | (k, u) :: l', ⟨h1, h2⟩, s, v, h => by
  simp only [lk] at h
  split at h
  ·rename_i e _
   obtain rfl : u = v := by simpa using h
   exact e ▸ h1
  ·exact h2.out s v h
/-! ### A list of operations -/
def WL (P : Program) (ops : Array Oper) (Q : Exit → Act → World → Prop) (rest : List Oper) (n : Nat) (l : Env) (w : World) : Prop := ∀ a, Fits n l a → wpList P ops Q rest a w
def WC (P : Program) (c : Code) (Q : Exit → Act → World → Prop) (n : Nat) (l : Env) (w : World) : Prop := ∀ a, Fits n l a → c.wp P Q a w
def WQ (Q : Exit → Act → World → Prop) (e : Exit) (n : Nat) (l : Env) (w : World) : Prop := ∀ a, Fits n l a → Q e a w
def gd (ops : Array Oper) (l : Env) (o : Oper) : Option Bool :=
 match o.guard with
 | none => some true
 | some (j, want) =>
  match (ops[j]?).bind (·.dst) with
  | none => some false
  | some d =>
   match lk l d with
   | some (.bool b) => some (b == want)
   | some _ => some false
   | none => none
theorem gd_wanted {n : Nat} {ops : Array Oper} {l : Env} {o : Oper} {a : Act} {b : Bool} (h : Fits n l a) (hg : gd ops l o = some b) : Region.wanted o (yielded ops a.tmps) = b := by
 unfold gd at hg
 unfold Region.wanted
 split at hg
 ·rename_i e
  simp only [e]
  simpa using hg
 ·rename_i j want e
  simp only [e]
  unfold yielded
  split at hg
  ·rename_i e1
   simp only [e1, Option.bind_none]
   cases b <;> cases want <;> simp_all
  ·rename_i d e1
   have key : ∀ v, lk l d = some v → a.tmps[d]? = some v := by
    intro v hv
    obtain ⟨g, hn⟩ := h.get d v hv
    have hlt : d < a.tmps.size := by rw [h.size]; exact hn
    rw [Array.getElem?_eq_getElem hlt]
    simp [Array.getD, hlt] at g
    rw [g]
   simp only [e1, Option.bind_some]
   split at hg
   ·rename_i b' e2
    simp only [key _ e2]
    have hg' : (b' == want) = b := by simpa using hg
    subst hg'
    cases b' <;> cases want <;> rfl
   ·rename_i v hv e2
    simp only [key _ e2]
    have hg' : false = b := by simpa using hg
    subst hg'
    cases v <;> simp_all
   ·simp at hg
section
variable {P : Program} {ops : Array Oper} {Q : Exit → Act → World → Prop} {rest : List Oper} {n : Nat} {l : Env} {w w' : World} {o : Oper} {v : Value}
def Run (P : Program) (n : Nat) (l : Env) (w : World) (o : Oper) (v : Value) (w' : World) : Prop := ∀ a, Fits n l a → (execOp a.eval o).run P w = .ok (.value v) w'
theorem s_val (hg : gd ops l o = some true) (hd : dok n o.dst = true) (hr : Run P n l w o v w') (h : WL P ops Q rest n (upO l o.dst v) w') : WL P ops Q (o :: rest) n l w := by
 intro a ha
 refine wpList_step fun K hK => ?_
 rw [if_pos (gd_wanted ha hg)]
 unfold Oper.wp
 rw [hr a ha]
 exact hK _ _ (h _ (ha.put _ _ hd))
theorem s_skip (hg : gd ops l o = some true) (hd : o.dst = none) (hr : ∀ a, Fits n l a → (execOp a.eval o).run P w = .ok .skip w') (h : WL P ops Q rest n l w') : WL P ops Q (o :: rest) n l w := by
 intro a ha
 refine wpList_step fun K hK => ?_
 rw [if_pos (gd_wanted ha hg)]
 unfold Oper.wp
 rw [hr a ha]
 refine hK _ _ ?_
 rw [hd]
 exact h _ ha
theorem s_no (hg : gd ops l o = some false) (hd : dok n o.dst = true) (h : WL P ops Q rest n (upO l o.dst undef) w) : WL P ops Q (o :: rest) n l w := by
 intro a ha
 refine wpList_step fun K hK => ?_
 rw [if_neg (by rw [gd_wanted ha hg]; simp)]
 exact hK _ _ (h _ (ha.put _ _ hd))
theorem s_nil (h : WQ Q .normal n l w) : WL P ops Q [] n l w := h
theorem c_env {c : Code} (l' : Env) (hk : Keeps l l') (h : WC P c Q n l' w) : WC P c Q n l w := fun a ha => h a (ha.sub hk.out)
def Ret (T : Value → World → Prop) : Ending → World → Prop := fun e w' => ∃ v, e = .returned v ∧ T v w'
def Enters (P : Program) (n : Nat) (l : Env) (w : World) (o : Oper) (f : FuncId) (args : Array Value) : Prop := ∀ a, Fits n l a → (execOp a.eval o).run P w = .ok (.enter f args) w
theorem s_call {f : FuncId} {args : Array Value} {T : Value → World → Prop} (hg : gd ops l o = some true) (hd : dok n o.dst = true) (hr : Enters P n l w o f args)
  (hc : Calls P f args w (Ret T)) (h : ∀ v w', T v w' → WL P ops Q rest n (upO l o.dst v) w') : WL P ops Q (o :: rest) n l w := by
 intro a ha
 refine wpList_step fun K hK => ?_
 rw [if_pos (gd_wanted ha hg)]
 unfold Oper.wp
 rw [hr a ha]
 refine hc.mono ?_
 rintro e w' ⟨v, rfl, hT⟩
 exact hK _ _ (h v w' hT _ (ha.put _ _ hd))
/-! ### Code -/
theorem c_seq {x y : Code} (h : WC P x (Exit.then (y.wp P Q) Q) n l w) : WC P (.seq x y) Q n l w := fun a ha => wp_seq (h a ha)
theorem c_reg {id : Nat} {os : List Oper} (h : WL P os.toArray Q os n l w) : WC P (.region id os.toArray false) Q n l w := fun a ha => wp_region_lit (h a ha)
theorem c_skip (h : WQ Q .normal n l w) : WC P .skip Q n l w := fun a ha => wp_skip (h a ha)
theorem c_exit {id : Nat} (h : WQ Q (.exit id) n l w) : WC P (.exit id) Q n l w := fun a ha => wp_exit (h a ha)
theorem c_ret (h : WQ Q .ret n l w) : WC P .ret Q n l w := fun a ha => wp_ret (h a ha)
theorem c_block {id : Nat} {c : Code} (h : WC P c (Exit.inBlock id Q) n l w) : WC P (.block id c) Q n l w := fun a ha => wp_block (h a ha)
theorem c_cond {c : Operand} {x y : Code} {b : Bool} (hc : ev l c = some (.bool b)) (ht : b = true → WC P x Q n l w) (hf : b = false → WC P y Q n l w) : WC P (.cond c x y) Q n l w :=
 fun a ha => wp_cond_split (ha.eval hc) (fun e => ht e a ha) (fun e => hf e a ha)
theorem c_dec {c : Operand} {x y : Code} {p : Prop} {_ : Decidable p} (hc : ev l c = some (.bool (decide p))) (ht : p → WC P x Q n l w) (hf : ¬ p → WC P y Q n l w) : WC P (.cond c x y) Q n l w :=
 c_cond hc (fun e => ht (of_decide_eq_true e)) (fun e => hf (of_decide_eq_false e))
theorem c_yes {c : Operand} {x y : Code} (hc : ev l c = some (.bool true)) (h : WC P x Q n l w) : WC P (.cond c x y) Q n l w := fun a ha => wp_cond_true (ha.eval hc) (h a ha)
theorem c_no {c : Operand} {x y : Code} (hc : ev l c = some (.bool false)) (h : WC P y Q n l w) : WC P (.cond c x y) Q n l w := fun a ha => wp_cond_false (ha.eval hc) (h a ha)
theorem s_dec {d : Nat} {p : Prop} {_ : Decidable p} (hc : lk l d = some (.bool (decide p))) (ht : p → WL P ops Q rest n ((d, .bool true) :: l) w) (hf : ¬ p → WL P ops Q rest n ((d, .bool false) :: l) w) : WL P ops Q rest n l w := by
 intro a ha
 by_cases hp : p
 ·refine ht hp a ⟨ha.defers, ha.size, fun s v hs => ?_⟩
  simp only [lk] at hs
  split at hs
  ·rename_i e _
   obtain rfl : Value.bool true = v := by simpa using hs
   subst e
   have := ha.get _ _ hc
   simpa [hp] using this
  ·exact ha.get _ _ hs
 ·refine hf hp a ⟨ha.defers, ha.size, fun s v hs => ?_⟩
  simp only [lk] at hs
  split at hs
  ·rename_i e _
   obtain rfl : Value.bool false = v := by simpa using hs
   subst e
   have := ha.get _ _ hc
   simpa [hp] using this
  ·exact ha.get _ _ hs
theorem q_then {y : Code} (h : WC P y Q n l w) : WQ (Exit.then (y.wp P Q) Q) .normal n l w := h
theorem q_thenR {K : Act → World → Prop} (h : WQ Q .ret n l w) : WQ (Exit.then K Q) .ret n l w := h
theorem q_thenE {K : Act → World → Prop} {id : Nat} (h : WQ Q (.exit id) n l w) : WQ (Exit.then K Q) (.exit id) n l w := h
theorem q_blockN {id : Nat} (h : WQ Q .normal n l w) : WQ (Exit.inBlock id Q) .normal n l w := h
theorem q_blockR {id : Nat} (h : WQ Q .ret n l w) : WQ (Exit.inBlock id Q) .ret n l w := h
theorem q_blockE {id : Nat} (h : WQ Q .normal n l w) : WQ (Exit.inBlock id Q) (.exit id) n l w := fun a ha => by simp only [Exit.inBlock, if_true]; exact h a ha
theorem c_loop {σ : Type} {c : Code} (L : σ → Env) (I : σ → World → Prop) (μ : σ → Nat) (s0 : σ) (h0 : Keeps l (L s0)) (hI : I s0 w)
  (round : ∀ s w, I s w → WC P c (Exit.then (fun a' w' => ∃ s', Fits n (L s') a' ∧ I s' w' ∧ μ s' < μ s) Q) n (L s) w) : WC P (.loop c) Q n l w := by
 intro a ha
 refine wp_loop (fun a w => ∃ s, Fits n (L s) a ∧ I s w) (fun a w => ?_) ?_ ?_ (c := c)
 ·exact Classical.epsilon fun m => ∃ s, Fits n (L s) a ∧ I s w ∧ μ s = m ∧ ∀ s', Fits n (L s') a → I s' w → m ≤ μ s'
 ·exact ⟨s0, ha.sub h0.out, hI⟩
 ·have key : ∀ a w, (∃ s, Fits n (L s) a ∧ I s w) → ∃ m, ∃ s, Fits n (L s) a ∧ I s w ∧ μ s = m ∧ ∀ s', Fits n (L s') a → I s' w → m ≤ μ s' := by
   intro a w ⟨s, hf, hi⟩
   have : ∀ k, ∀ s, Fits n (L s) a → I s w → μ s = k → ∃ m, ∃ s, Fits n (L s) a ∧ I s w ∧ μ s = m ∧ ∀ s', Fits n (L s') a → I s' w → m ≤ μ s' := by
    intro k
    induction k using Nat.strongRecOn with
    | _ k ih =>
     intro s hf hi hk
     by_cases hall : ∀ s', Fits n (L s') a → I s' w → μ s ≤ μ s'
     ·exact ⟨_, s, hf, hi, rfl, hall⟩
     ·have ⟨s', h'⟩ := Classical.not_forall.1 hall
      have ⟨hf', h''⟩ := Classical.not_imp.1 h'
      have ⟨hi', hlt⟩ := Classical.not_imp.1 h''
      exact ih (μ s') (by omega) s' hf' hi' rfl
   exact this _ s hf hi rfl
  rintro a w ⟨s, hf, hi⟩
  obtain ⟨s1, hf1, hi1, hm1, hmin1⟩ := Classical.epsilon_spec (key a w ⟨s, hf, hi⟩)
  refine Code.wp_mono ?_ (round s1 w hi1 a hf1)
  intro e a' w' hq
  cases e <;> try exact hq
  obtain ⟨s', hf', hi', hlt⟩ := hq
  refine ⟨⟨s', hf', hi'⟩, ?_⟩
  obtain ⟨_, _, _, _, hmin2⟩ := Classical.epsilon_spec (key a' w' ⟨s', hf', hi'⟩)
  have := hmin2 s' hf' hi'
  show _ < Classical.epsilon _
  rw [← hm1]
  exact Nat.lt_of_le_of_lt this hlt
theorem q_round {σ : Type} {L : σ → Env} {I : σ → World → Prop} {μ : σ → Nat} {s : σ} (s' : σ) (hk : Keeps l (L s')) (hI : I s' w) (hm : μ s' < μ s) :
  WQ (Exit.then (fun a' w' => ∃ s', Fits n (L s') a' ∧ I s' w' ∧ μ s' < μ s) Q) .normal n l w := fun _ ha => ⟨s', ha.sub hk.out, hI, hm⟩
theorem c_cut {σ : Type} {x y : Code} (L : σ → Env) (I : σ → World → Prop) (hx : WC P x (Exit.then (fun a' w' => ∃ s, Fits n (L s) a' ∧ I s w') Q) n l w)
  (hy : ∀ s w, I s w → WC P y Q n (L s) w) : WC P (.seq x y) Q n l w := by
 intro a ha
 refine wp_seq (Code.wp_mono ?_ (hx a ha))
 intro e a' w' hq
 cases e <;> try exact hq
 obtain ⟨s, hf, hi⟩ := hq
 exact hy s w' hi a' hf
theorem q_cut {σ : Type} {L : σ → Env} {I : σ → World → Prop} (s : σ) (hk : Keeps l (L s)) (hI : I s w) : WQ (Exit.then (fun a' w' => ∃ s, Fits n (L s) a' ∧ I s w') Q) .normal n l w := fun _ ha => ⟨s, ha.sub hk.out, hI⟩
/-! ### The function's ends -/
def envOf : Nat → List Value → Env
 | _, [] => []
 | i, v :: vs => (i, v) :: envOf (i + 1) vs
theorem lk_envOf : ∀ (vs : List Value) (i s : Nat) (v : Value), lk (envOf i vs) s = some v → i ≤ s ∧ vs[s - i]? = some v
 | [], i, s, v, h => by simp [envOf, lk] at h
 | u :: vs, i, s, v, h => by
  simp only [envOf, lk] at h
  split at h
  ·rename_i e _
   subst e
   exact ⟨Nat.le_refl _, by simpa using h⟩
  ·rename_i e _
   obtain ⟨h1, h2⟩ := lk_envOf vs (i + 1) s v h
   refine ⟨by omega, ?_⟩
   have : s - i = (s - (i + 1)) + 1 := by omega
   rw [this]
   simpa using h2
theorem enter {f : FuncId} {fn : Func} {c : Code} {args : List Value} {R : Ending → World → Prop} (hf : P.funcs[f]? = some fn) (hb : fn.body = some c) (hn : fn.ntmps = n) (hl : args.length ≤ n)
  (h : WC P c (bodyPost P fn R) n (envOf 0 args) w) : Calls P f args.toArray w R := by
 refine calls_of_wp hf hb (h _ ⟨rfl, ?_, ?_⟩)
 ·simp only [Array.size_append, List.size_toArray, Array.size_replicate, hn]
  omega
 ·intro s v hs
  obtain ⟨_, h2⟩ := lk_envOf args 0 s v hs
  have hlt : s < args.length := by
   rcases Nat.lt_or_ge s args.length with h' | h'
   ·exact h'
   ·simp [List.getElem?_eq_none h'] at h2
  refine ⟨?_, by omega⟩
  have h3 : args[s]? = some v := by simpa using h2
  simp [Array.getD_eq_getD_getElem?, Array.getElem?_append, hlt]
  simpa [List.getElem?_eq_getElem hlt] using h3
theorem q_ret1 {fn : Func} {R : Ending → World → Prop} {t : Tmp} (hr : fn.results = #[.tmp t]) (hv : lk l t = some v) (h : R (.returned v) w) : WQ (bodyPost P fn R) .ret n l w :=
 fun a ha => bodyPost_ret (v := v) (by rw [results_tmp hr]; rw [(ha.get t v hv).1]) ha.defers h
theorem q_ret2 {fn : Func} {R : Ending → World → Prop} {t u : Tmp} {v' : Value} (hr : fn.results = #[.tmp t, .tmp u]) (hv : lk l t = some v) (hu : lk l u = some v') (h : R (.returned (.tuple #[v, v'])) w) : WQ (bodyPost P fn R) .ret n l w :=
 fun a ha => bodyPost_ret (v := .tuple #[v, v']) (by rw [results_tmp2 hr]; rw [(ha.get t v hv).1, (ha.get u v' hu).1]) ha.defers h
theorem q_ret3 {fn : Func} {R : Ending → World → Prop} {t u s : Tmp} {v' v'' : Value} (hr : fn.results = #[.tmp t, .tmp u, .tmp s]) (hv : lk l t = some v) (hu : lk l u = some v') (hs : lk l s = some v'')
  (h : R (.returned (.tuple #[v, v', v''])) w) : WQ (bodyPost P fn R) .ret n l w :=
 fun a ha => bodyPost_ret (v := .tuple #[v, v', v'']) (by simp [results, hr]; simp [(ha.get t v hv).1, (ha.get u v' hu).1, (ha.get s v'' hs).1, ← Array.getD_eq_getD_getElem?]) ha.defers h
theorem q_ret4 {fn : Func} {R : Ending → World → Prop} {t u s r : Tmp} {v' v'' v3 : Value} (hr : fn.results = #[.tmp t, .tmp u, .tmp s, .tmp r]) (hv : lk l t = some v) (hu : lk l u = some v') (hs : lk l s = some v'') (h3 : lk l r = some v3)
  (h : R (.returned (.tuple #[v, v', v'', v3])) w) : WQ (bodyPost P fn R) .ret n l w :=
 fun a ha => bodyPost_ret (v := .tuple #[v, v', v'', v3]) (by simp [results, hr]; simp [(ha.get t v hv).1, (ha.get u v' hu).1, (ha.get s v'' hs).1, (ha.get r v3 h3).1, ← Array.getD_eq_getD_getElem?]) ha.defers h
theorem q_end {fn : Func} {R : Ending → World → Prop} (hr : fn.results = #[]) (h : R (.returned (.tuple #[])) w) : WQ (bodyPost P fn R) .normal n l w :=
 fun a ha => bodyPost_end (v := .tuple #[]) (by rw [results_none hr]) ha.defers h
theorem q_ret0 {fn : Func} {R : Ending → World → Prop} (hr : fn.results = #[]) (h : R (.returned (.tuple #[])) w) : WQ (bodyPost P fn R) .ret n l w :=
 fun a ha => bodyPost_ret (v := .tuple #[]) (by rw [results_none hr]) ha.defers h
end
/-! ### Contracts -/
def Cn (P : Program) (f : FuncId) (args : List Value) (As Rs : List SP) (T : Value → List SP → Prop) : Prop :=
 ∀ w F, Hd w F w As Rs → Calls P f args.toArray w (Ret fun v w' => ∃ Bs, T v Bs ∧ Hd w F w' Bs Rs)
section
variable {P : Program} {ops : Array Oper} {Q : Exit → Act → World → Prop} {rest : List Oper} {n : Nat} {l : Env} {w0 w w' : World} {F0 : Foot} {o : Oper} {v : Value} {As Rs Cs Ss : List SP}
def Lends (w : World) (As Rs Ss : List SP) : Prop := ∀ S ∈ Ss, ∀ F, (∀ A ∈ As, A.P w F) → (∀ R ∈ Rs, R.P w F) → S.P w F
theorem l0 : Lends w As Rs [] := fun _ h => by cases h
theorem lR {S : SP} (i : Nat) (hm : Rs[i]? = some S) (h : Lends w As Rs Ss) : Lends w As Rs (S :: Ss) := by
 intro S' hS F hA hR
 cases hS with
 | head => exact hR _ (List.mem_of_getElem? hm)
 | tail _ h' => exact h S' h' F hA hR
theorem lA {A S : SP} (i : Nat) (hm : As[i]? = some A) (hs : ∀ F, A.P w F → S.P w F) (h : Lends w As Rs Ss) : Lends w As Rs (S :: Ss) := by
 intro S' hS F hA hR
 cases hS with
 | head => exact hs F (hA _ (List.mem_of_getElem? hm))
 | tail _ h' => exact h S' h' F hA hR
theorem lX {S : SP} (hs : ∀ F, (∀ A ∈ As, A.P w F) → (∀ R ∈ Rs, R.P w F) → S.P w F) (h : Lends w As Rs Ss) : Lends w As Rs (S :: Ss) := by
 intro S' hS F hA hR
 cases hS with
 | head => exact hs F hA hR
 | tail _ h' => exact h S' h' F hA hR
theorem lAll : Lends w As Rs Rs := fun _ hS _ _ hR => hR _ hS
theorem call_frame {f : FuncId} {args : List Value} {T : Value → List SP → Prop} (hc : Cn P f args Cs Ss T) (H : Hd w0 F0 w (Cs ++ As) Rs) (hl : Lends w As Rs Ss) :
  Calls P f args.toArray w (Ret fun v w' => ∃ Bs, T v Bs ∧ Hd w0 F0 w' (Bs ++ As) Rs) := by
 obtain ⟨Fc, h1, h2⟩ := H.frame hl
 refine (hc w Fc h1).mono ?_
 rintro e w' ⟨v, rfl, Bs, hT, hB⟩
 exact ⟨v, rfl, Bs, hT, h2 w' Bs hB⟩
theorem s_cn {f : FuncId} {args : List Value} {T : Value → List SP → Prop} (hg : gd ops l o = some true) (hd : dok n o.dst = true) (hr : Enters P n l w o f args.toArray)
  (hc : Cn P f args Cs Ss T) (H : Hd w0 F0 w (Cs ++ As) Rs) (hl : Lends w As Rs Ss)
  (h : ∀ v Bs w', T v Bs → Hd w0 F0 w' (Bs ++ As) Rs → WL P ops Q rest n (upO l o.dst v) w') : WL P ops Q (o :: rest) n l w :=
 s_call hg hd hr (call_frame hc H hl) fun v w' ⟨Bs, hT, hB⟩ => h v Bs w' hT hB
theorem Cn.mono {f : FuncId} {args : List Value} {T T' : Value → List SP → Prop} (h : Cn P f args Cs Ss T) (hT : ∀ v Bs, T v Bs → T' v Bs) : Cn P f args Cs Ss T' :=
 fun w F H => (h w F H).mono fun e w' ⟨v, he, Bs, t, hb⟩ => ⟨v, he, Bs, hT v Bs t, hb⟩
theorem perm_pick {A : SP} : ∀ (As : List SP) (i : Nat), As[i]? = some A → As.Perm (A :: As.eraseIdx i)
 | [], _, h => by simp at h
 | B :: As, 0, h => by
  obtain rfl : B = A := by simpa using h
  exact List.Perm.refl _
 | B :: As, i + 1, h => by
  have := perm_pick As i (by simpa using h)
  exact (this.cons B).trans (List.Perm.swap _ _ _)
theorem Hd.pick {A : SP} (i : Nat) (hi : As[i]? = some A) (h : Hd w0 F0 w As Rs) : Hd w0 F0 w (A :: As.eraseIdx i) Rs := by
 exact h.perm (perm_pick _ i hi)
end
/-! ### A region that draws its order, and only reads -/
section
variable {P : Program} {ops : Array Oper} {C : World → Prop} {Q : Act → Prop} {rest : List Oper} {n : Nat} {l : Env} {o : Oper} {v : Value}
def WU (P : Program) (ops : Array Oper) (C : World → Prop) (Q : Act → Prop) (rest : List Oper) (n : Nat) (l : Env) : Prop := ∀ a, Fits n l a → wpQuiet P ops C Q rest a
theorem u_val (hg : gd ops l o = some true) (hd : dok n o.dst = true) (hr : ∀ w, C w → Run P n l w o v w) (h : WU P ops C Q rest n (upO l o.dst v)) : WU P ops C Q (o :: rest) n l := by
 intro a ha
 refine wpQuiet_step fun K hK => ?_
 rw [if_pos (gd_wanted ha hg)]
 refine ⟨v, fun w hw => ?_, hK _ (h _ (ha.put _ _ hd))⟩
 unfold Oper.quietAt
 rw [hr w hw a ha]
 exact ⟨rfl, rfl⟩
theorem u_no (hg : gd ops l o = some false) (hd : dok n o.dst = true) (h : WU P ops C Q rest n (upO l o.dst undef)) : WU P ops C Q (o :: rest) n l := by
 intro a ha
 refine wpQuiet_step fun K hK => ?_
 rw [if_neg (by rw [gd_wanted ha hg]; simp)]
 exact hK _ (h _ (ha.put _ _ hd))
theorem u_nil (h : ∀ a, Fits n l a → Q a) : WU P ops C Q [] n l := h
end
section
variable {P : Program} {Q : Exit → Act → World → Prop} {n : Nat} {l : Env} {w0 w : World} {F0 : Foot} {As Rs : List SP}
theorem c_draw {id : Nat} {os : List Oper} (hm : P.follows .mixedOrders = true) (hB : Region.lexB .any os.toArray = true) (H : Hd w0 F0 w As Rs)
  (h : WU P os.toArray (fun w => Hd w0 F0 w As Rs) (fun a => ∀ w', Hd w0 F0 w' As Rs → Q .normal a w') os n l) : WC P (.region id os.toArray true) Q n l w := by
 intro a ha
 exact wp_region_quiet hm hB (H.drewN 1) (by simpa using h a ha)
theorem u_end {ops : Array Oper} (h : ∀ w, Hd w0 F0 w As Rs → WQ Q .normal n l w) : WU P ops (fun w => Hd w0 F0 w As Rs) (fun a => ∀ w', Hd w0 F0 w' As Rs → Q .normal a w') [] n l :=
 u_nil fun a ha w' H => h w' H a ha
end
/-! ### What is asked of the types' table -/
def slOf (P : Program) (t : TypeId) : Option (TypeId × Nat × Nat) :=
 match P.underlying t with
 | some (.slice e) => (P.info? e).map fun i => (e, i.size, i.bytes)
 | _ => none
def tyOf (P : Program) (t : TypeId) : Option (Bool × Nat) :=
 match P.underlying t, P.info? t with
 | some d, some i => some ((match d with | .struct _ | .array _ _ => true | _ => false), i.size)
 | _, _ => none
def foOf (P : Program) (s : TypeId) (k : Nat) : Option Nat :=
 match P.underlying s with
 | some (.struct fs) => match fs[k]? with
  | some f => match P.info? f.type with
   | some i => if i.size = 0 then none else some f.offset
   | none => none
  | none => none
 | _ => none
def zrOf (P : Program) (t : TypeId) : Option Value := (P.info? t).bind (·.zero)
section
variable {P : Program} {n : Nat} {l : Env} {w w' : World} {o : Oper} {v u : Value} {x y : Operand} {t : TypeId}
theorem slOf_spec {e size bytes : Nat} (h : slOf P t = some (e, size, bytes)) : P.underlying t = some (.slice e) ∧ ∃ i, P.info? e = some i ∧ i.size = size ∧ i.bytes = bytes := by
 unfold slOf at h
 split at h
 ·rename_i e' he
  cases hi : P.info? e' with
  | none => simp [hi] at h
  | some i =>
   simp [hi] at h
   obtain ⟨rfl, h1, h2⟩ := h
   exact ⟨he, i, hi, h1, h2⟩
 ·simp at h
theorem tyOf_spec {b : Bool} {size : Nat} (h : tyOf P t = some (b, size)) : ∃ d i, P.underlying t = some d ∧ P.info? t = some i ∧ (match d with | .struct _ | .array _ _ => true | _ => false) = b ∧ i.size = size := by
 unfold tyOf at h
 split at h
 ·rename_i d i hd hi
  simp only [Option.some.injEq, Prod.mk.injEq] at h
  exact ⟨d, i, hd, hi, h.1, h.2⟩
 ·simp at h
theorem run_isAgg {b : Bool} {size : Nat} (h : tyOf P t = some (b, size)) : (isAgg t).run P w = .ok b w := by
 obtain ⟨d, i, hd, hi, hb, hs⟩ := tyOf_spec h
 unfold isAgg
 rw [Sem.run_bind, run_underlying hd w]
 subst hb
 cases d <;> simp
theorem run_sizeOf {b : Bool} {size : Nat} (h : tyOf P t = some (b, size)) : (sizeOf t).run P w = .ok size w := by
 obtain ⟨d, i, hd, hi, hb, hs⟩ := tyOf_spec h
 simp [sizeOf, typeInfo, hi, hs]
/-! ### Operations that touch no memory -/
theorem r_mv (ho : o.op = .move x) (hx : ev l x = some v) : Run P n l w o v w := by
 intro a ha; simp [execOp, ho, ha.eval hx]
theorem r_as (ho : o.op = .assign x) (hx : ev l x = some v) : Run P n l w o v w := by
 intro a ha; simp [execOp, ho, ha.eval hx]
theorem r_pickT {c : Operand} (ho : o.op = .pick c x y) (hc : ev l c = some (.bool true)) (hx : ev l x = some v) : Run P n l w o v w := by
 intro a ha; simp [execOp, ho, ha.eval hx, ha.eval hc, asBool]
theorem r_pickF {c : Operand} (ho : o.op = .pick c x y) (hc : ev l c = some (.bool false)) (hy : ev l y = some v) : Run P n l w o v w := by
 intro a ha; simp [execOp, ho, ha.eval hy, ha.eval hc, asBool]
theorem r_nilP {a : Addr} (ho : o.op = .nilCheck x) (hx : ev l x = some (.pointer (some a))) : Run P n l w o (.pointer (some a)) w := by
 intro a' ha; simp [execOp, ho, ha.eval hx]
theorem r_not {b c : Bool} (ho : o.op = .unOp .not t x) (hx : ev l x = some (.bool b)) (hc : (!b) = c) : Run P n l w o (.bool c) w := by
 intro a ha; simp [execOp, ho, ha.eval hx, Op.unary, hc]
theorem r_notP {p : Prop} {_ : Decidable p} (ho : o.op = .unOp .not t x) (hx : ev l x = some (.bool (decide p))) : Run P n l w o (.bool (decide ¬ p)) w := by
 refine r_not ho hx ?_
 simp
theorem r_add {k : IntKind} {i j z : Int} {t' : TypeId} (ho : o.op = .binOp .add t x y t') (hx : ev l x = some (.int k i)) (hy : ev l y = some (.int k j)) (hz : k.wrap (i + j) = z) : Run P n l w o (.int k z) w := by
 intro a ha; simp [execOp, ho, ha.eval hx, ha.eval hy, eqGuard, binOp, Op.intArith, hz]
theorem r_sub {k : IntKind} {i j z : Int} {t' : TypeId} (ho : o.op = .binOp .sub t x y t') (hx : ev l x = some (.int k i)) (hy : ev l y = some (.int k j)) (hz : k.wrap (i - j) = z) : Run P n l w o (.int k z) w := by
 intro a ha; simp [execOp, ho, ha.eval hx, ha.eval hy, eqGuard, binOp, Op.intArith, hz]
theorem r_mul {k : IntKind} {i j z : Int} {t' : TypeId} (ho : o.op = .binOp .mul t x y t') (hx : ev l x = some (.int k i)) (hy : ev l y = some (.int k j)) (hz : k.wrap (i * j) = z) : Run P n l w o (.int k z) w := by
 intro a ha; simp [execOp, ho, ha.eval hx, ha.eval hy, eqGuard, binOp, Op.intArith, hz]
theorem r_rem {k : IntKind} {i j z : Int} {t' : TypeId} (ho : o.op = .binOp .rem t x y t') (hx : ev l x = some (.int k i)) (hy : ev l y = some (.int k j)) (h0 : j ≠ 0) (hz : i.tmod j = z) : Run P n l w o (.int k z) w := by
 intro a ha; simp [execOp, ho, ha.eval hx, ha.eval hy, eqGuard, binOp, Op.intDiv, h0, hz]
theorem r_shr {k k' : IntKind} {i j z : Int} {t' : TypeId} (ho : o.op = .binOp .shr t x y t') (hx : ev l x = some (.int k i)) (hy : ev l y = some (.int k' j)) (h0 : 0 ≤ j) (hz : i.fdiv (2 ^ (min j.toNat k.bits)) = z) : Run P n l w o (.int k z) w := by
 intro a ha; simp [execOp, ho, ha.eval hx, ha.eval hy, eqGuard, binOp, Op.shift, Int.not_lt.2 h0, hz]
theorem r_lt {k : IntKind} {i j : Int} {t' : TypeId} (ho : o.op = .binOp .lss t x y t') (hx : ev l x = some (.int k i)) (hy : ev l y = some (.int k j)) : Run P n l w o (.bool (decide (i < j))) w := by
 intro a ha; simp [execOp, ho, ha.eval hx, ha.eval hy, eqGuard, binOp, Op.intCmp]
theorem r_le {k : IntKind} {i j : Int} {t' : TypeId} (ho : o.op = .binOp .leq t x y t') (hx : ev l x = some (.int k i)) (hy : ev l y = some (.int k j)) : Run P n l w o (.bool (decide (i ≤ j))) w := by
 intro a ha; simp [execOp, ho, ha.eval hx, ha.eval hy, eqGuard, binOp, Op.intCmp]
theorem r_gt {k : IntKind} {i j : Int} {t' : TypeId} (ho : o.op = .binOp .gtr t x y t') (hx : ev l x = some (.int k i)) (hy : ev l y = some (.int k j)) : Run P n l w o (.bool (decide (j < i))) w := by
 intro a ha; simp [execOp, ho, ha.eval hx, ha.eval hy, eqGuard, binOp, Op.intCmp]
theorem r_ge {k : IntKind} {i j : Int} {t' : TypeId} (ho : o.op = .binOp .geq t x y t') (hx : ev l x = some (.int k i)) (hy : ev l y = some (.int k j)) : Run P n l w o (.bool (decide (j ≤ i))) w := by
 intro a ha; simp [execOp, ho, ha.eval hx, ha.eval hy, eqGuard, binOp, Op.intCmp]
theorem beqI (i j : Int) : (i == j) = decide (i = j) := by rw [Bool.eq_iff_iff]; simp
theorem r_eq {k : IntKind} {i j : Int} {t' : TypeId} (ho : o.op = .binOp .eql t x y t') (hx : ev l x = some (.int k i)) (hy : ev l y = some (.int k j)) : Run P n l w o (.bool (decide (i = j))) w := by
 intro a ha; simp [execOp, ho, ha.eval hx, ha.eval hy, eqGuard, binOp, Op.intCmp, beqI]
theorem r_ne {k : IntKind} {i j : Int} {t' : TypeId} (ho : o.op = .binOp .neq t x y t') (hx : ev l x = some (.int k i)) (hy : ev l y = some (.int k j)) : Run P n l w o (.bool (decide (i ≠ j))) w := by
 intro a ha; simp [execOp, ho, ha.eval hx, ha.eval hy, eqGuard, binOp, Op.intCmp, bne, beqI]
theorem r_i2i {k : IntKind} {src dst : TypeId} {i z : Int} {k' : IntKind} {d : TypeDesc} (ho : o.op = .convert src dst x) (hx : ev l x = some (.int k i)) (hs : P.underlying src = some d) (hd : P.underlying dst = some (.int k')) (hz : k'.wrap i = z) : Run P n l w o (.int k' z) w := by
 intro a ha; simp [execOp, ho, ha.eval hx, convert, run_underlying hs, run_underlying hd, Conv.intToInt, hz]
theorem r_ex {vs : Array Value} {i : Nat} (ho : o.op = .extract x i) (hx : ev l x = some (.tuple vs)) (hi : vs[i]? = some v) : Run P n l w o v w := by
 intro a ha; simp [execOp, ho, ha.eval hx, Instr.extract, hi]
theorem r_fn {f : FuncId} {first captured : Array Operand} {fs cs : Array Value} (ho : o.op = .makeFunc (.func f) first captured) (hf : first.toList.map (ev l) = fs.toList.map some) (hc : captured.toList.map (ev l) = cs.toList.map some) : Run P n l w o (.func (.func f) fs cs) w := by
 have key : ∀ (a : Act), Fits n l a → ∀ (xs : List Operand) (vs : List Value), xs.map (ev l) = vs.map some → xs.map a.eval = vs := by
  intro a ha xs
  induction xs with
  | nil => intro vs h; cases vs <;> simp_all
  | cons x xs ih =>
   intro vs h
   cases vs with
   | nil => simp at h
   | cons v vs =>
    simp only [List.map_cons, List.cons.injEq] at h ⊢
    exact ⟨ha.eval h.1, ih vs h.2⟩
 intro a ha
 have h1 := key a ha _ _ hf
 have h2 := key a ha _ _ hc
 have e1 : first.map a.eval = fs := by rw [← Array.toList_inj]; simpa using h1
 have e2 : captured.map a.eval = cs := by rw [← Array.toList_inj]; simpa using h2
 simp [execOp, ho, Instr.makeFunc, e1, e2]
theorem r_min {k : IntKind} {i j z : Int} {ts : Array TypeId} (ho : o.op = .call { callee := .builtin .min, args := #[x, y], argTypes := ts }) (hx : ev l x = some (.int k i)) (hy : ev l y = some (.int k j)) (hz : min i j = z) : Run P n l w o (.int k z) w := by
 intro a ha
 subst hz
 simp [execOp, ho, resolve, ha.eval hx, ha.eval hy, invoke, builtin, Builtin.min_, Builtin.min2]
 omega
theorem r_max {k : IntKind} {i j z : Int} {ts : Array TypeId} (ho : o.op = .call { callee := .builtin .max, args := #[x, y], argTypes := ts }) (hx : ev l x = some (.int k i)) (hy : ev l y = some (.int k j)) (hz : max i j = z) : Run P n l w o (.int k z) w := by
 intro a ha
 subst hz
 simp [execOp, ho, resolve, ha.eval hx, ha.eval hy, invoke, builtin, Builtin.max_, Builtin.max2]
 omega
theorem r_lenL {tt : TypeId} {A : Option Addr} {m c : Nat} {e : TypeId} (ho : o.op = .call { callee := .builtin .len, args := #[x], argTypes := #[tt] }) (ht : P.underlying tt = some (.slice e)) (hx : ev l x = some (.slice A m c)) : Run P n l w o (.int .i64 (m : Int)) w := by
 intro a ha
 simp [execOp, ho, resolve, ha.eval hx, invoke, builtin, Builtin.len_, run_underlying ht, goInt]
theorem r_lenS {tt : TypeId} {s : ByteArray} (ho : o.op = .call { callee := .builtin .len, args := #[x], argTypes := #[tt] }) (ht : P.underlying tt = some .string) (hx : ev l x = some (.string s)) : Run P n l w o (.int .i64 (s.size : Int)) w := by
 intro a ha
 simp [execOp, ho, resolve, ha.eval hx, invoke, builtin, Builtin.len_, run_underlying ht, goInt]
/-! ### Nil or not -/
theorem eqIn_ptr (d : Nat) {q : Option Addr} {e : TypeId} (ht : P.underlying t = some (.pointer e)) : (Op.equalIn (d + 1) t (.pointer q) (.pointer none)).run P w = .ok q.isNone w := by
 cases q <;> simp [Op.equalIn, run_underlying ht]
theorem eqIn_fn (d : Nat) {f : Fn} {fs cs : Array Value} {ps rs : Array TypeId} {b : Bool} (ht : P.underlying t = some (.func ps rs b)) : (Op.equalIn (d + 1) t (.func f fs cs) .nilFunc).run P w = .ok false w := by
 simp [Op.equalIn, run_underlying ht]
theorem eqIn_sl (d : Nat) {A : Option Addr} {m c : Nat} {e : TypeId} (ht : P.underlying t = some (.slice e)) : (Op.equalIn (d + 1) t (.slice A m c) (.slice none 0 0)).run P w = .ok A.isNone w := by
 cases A <;> simp [Op.equalIn, run_underlying ht]
theorem r_eqX {t' : TypeId} {u v : Value} {b : Bool} (ho : o.op = .binOp .eql t x y t') (hx : ev l x = some u) (hy : ev l y = some v) (h1 : binOp .eql t u v = (do pure (.bool (← Op.equal t u v)))) (h2 : eqGuard .eql t x y u v = pure ())
  (hb : (Op.equalIn (9999 + 1) t u v).run P w = .ok b w) : Run P n l w o (.bool b) w := by
 intro a ha
 have hb' : (Op.equal t u v).run P w = .ok b w := hb
 unfold execOp
 simp only [ho, ha.eval hx, ha.eval hy, h1, h2, Sem.run_bind, Sem.run_pure, Result.andThen_ok, hb']
theorem r_neX {t' : TypeId} {u v : Value} {b : Bool} (ho : o.op = .binOp .neq t x y t') (hx : ev l x = some u) (hy : ev l y = some v) (h1 : binOp .neq t u v = (do pure (.bool (!(← Op.equal t u v))))) (h2 : eqGuard .neq t x y u v = pure ())
  (hb : (Op.equalIn (9999 + 1) t u v).run P w = .ok b w) : Run P n l w o (.bool !b) w := by
 intro a ha
 have hb' : (Op.equal t u v).run P w = .ok b w := hb
 unfold execOp
 simp only [ho, ha.eval hx, ha.eval hy, h1, h2, Sem.run_bind, Sem.run_pure, Result.andThen_ok, hb']
theorem r_peq {q : Option Addr} {e t' : TypeId} (ho : o.op = .binOp .eql t x y t') (ht : P.underlying t = some (.pointer e)) (hx : ev l x = some (.pointer q)) (hy : ev l y = some (.pointer none)) : Run P n l w o (.bool q.isNone) w :=
 r_eqX ho hx hy rfl rfl (eqIn_ptr _ ht)
theorem r_pne {q : Option Addr} {e t' : TypeId} (ho : o.op = .binOp .neq t x y t') (ht : P.underlying t = some (.pointer e)) (hx : ev l x = some (.pointer q)) (hy : ev l y = some (.pointer none)) : Run P n l w o (.bool !q.isNone) w :=
 r_neX ho hx hy rfl rfl (eqIn_ptr _ ht)
theorem r_fne {f : Fn} {fs cs : Array Value} {t' : TypeId} {ps rs : Array TypeId} {b : Bool} (ho : o.op = .binOp .neq t x y t') (ht : P.underlying t = some (.func ps rs b)) (hx : ev l x = some (.func f fs cs)) (hy : ev l y = some .nilFunc) : Run P n l w o (.bool true) w :=
 r_neX (b := false) ho hx hy rfl rfl (eqIn_fn _ ht)
theorem r_seq0 {A : Option Addr} {m c : Nat} {e t' : TypeId} (ho : o.op = .binOp .eql t x y t') (ht : P.underlying t = some (.slice e)) (hx : ev l x = some (.slice A m c)) (hy : ev l y = some (.slice none 0 0)) : Run P n l w o (.bool A.isNone) w :=
 r_eqX ho hx hy rfl rfl (eqIn_sl _ ht)
/-! ### Addresses -/
theorem add_of (b off k : Nat) : (⟨b, off, none⟩ : Addr).add k = ⟨b, off + k, none⟩ := by unfold Addr.add; split <;> simp_all
theorem r_fa {s : TypeId} {b off k fo : Nat} (ho : o.op = .fieldAddr s x k) (hf : foOf P s k = some fo) (hx : ev l x = some (.pointer (some ⟨b, off, none⟩))) : Run P n l w o (.pointer (some ⟨b, off + fo, none⟩)) w := by
 intro a ha
 unfold foOf at hf
 split at hf
 ·rename_i fs hu
  split at hf
  ·rename_i f hk
   split at hf
   ·rename_i i hi
    split at hf
    ·simp at hf
    ·rename_i hn
     obtain rfl : f.offset = fo := by simpa using hf
     simp [execOp, ho, ha.eval hx, Instr.fieldAt, run_underlying hu, hk, Instr.sureAddr, fieldPlace, sizeOf, typeInfo, hi, hn, add_of]
   ·simp at hf
  ·simp at hf
 ·simp at hf
theorem r_ia {tt e size bytes : TypeId} {b off m c : Nat} {k : IntKind} {i : Int} {p : Nat} (ho : o.op = .indexAddr tt x y) (hs : slOf P tt = some (e, size, bytes)) (hx : ev l x = some (.slice (some ⟨b, off, none⟩) m c)) (hy : ev l y = some (.int k i))
  (h0 : 0 ≤ i) (h1 : i < (m : Int)) (hp : off + i.toNat * size = p) : Run P n l w o (.pointer (some ⟨b, p, none⟩)) w := by
 intro a ha
 obtain ⟨hu, inf, hi, hz, _⟩ := slOf_spec hs
 subst hp
 simp [execOp, ho, ha.eval hx, ha.eval hy, Instr.indexAt, run_underlying hu, asIntOf, sizeOf, typeInfo, hi, hz, add_of, h0, h1]
theorem r_iaA {tt e : TypeId} {size len : Nat} {b off : Nat} {k : IntKind} {i : Int} {p : Nat} {inf : TypeInfo} (ho : o.op = .indexAddr tt x y) (hu : P.underlying tt = some (.array len e)) (hi : P.info? e = some inf) (hz : inf.size = size)
  (hx : ev l x = some (.pointer (some ⟨b, off, none⟩))) (hy : ev l y = some (.int k i)) (h0 : 0 ≤ i) (h1 : i < (len : Int)) (hp : off + i.toNat * size = p) : Run P n l w o (.pointer (some ⟨b, p, none⟩)) w := by
 intro a ha
 subst hp
 simp [execOp, ho, ha.eval hx, ha.eval hy, Instr.indexAt, run_underlying hu, asIntOf, Instr.sureAddr, sizeOf, typeInfo, hi, hz, add_of, h0, h1]
/-! ### Loads -/
theorem r_ld {sz : Nat} {p : Addr} (ho : o.op = .load t x) (ht : tyOf P t = some (false, sz)) (hx : ev l x = some (.pointer (some p))) (hc : w.cell? p = some v) : Run P n l w o v w := by
 intro a ha
 simp [execOp, ho, ha.eval hx, Instr.loadAt, Instr.sureAddr, loadVar, run_isAgg ht, hc]
theorem r_ldA {sz : Nat} {p : Addr} {cs : List Value} (ho : o.op = .load t x) (ht : tyOf P t = some (true, sz)) (hx : ev l x = some (.pointer (some p))) (hz : cs.length = sz) (hc : ∀ j v, cs[j]? = some v → w.cell? (p.add j) = some v) : Run P n l w o (.agg cs.toArray) w := by
 intro a ha
 have hl := run_loadCells_list (P := P) w p cs hc
 simp [execOp, ho, ha.eval hx, Instr.loadAt, Instr.sureAddr, loadVar, run_isAgg ht, run_sizeOf ht, ← hz, hl]
/-! ### Aggregates as values -/
theorem r_idxS {tt : TypeId} {s : ByteArray} {k : IntKind} {i : Int} {b : UInt8} (ho : o.op = .index tt x y) (ht : P.underlying tt = some .string) (hx : ev l x = some (.string s)) (hy : ev l y = some (.int k i)) (h0 : 0 ≤ i) (hb : s[i.toNat]? = some b) : Run P n l w o (.int .u8 (b.toNat : Int)) w := by
 intro a ha
 simp [execOp, ho, ha.eval hx, ha.eval hy, Instr.index, run_underlying ht, asIntOf, h0, hb]
/-! ### Cuts -/
/-! ### Calls -/
def Known (P : Program) (f : FuncId) : Prop := ∀ args w, (callFunc f args).run P w = .ok (.enter f args) w
theorem known {f : FuncId} {fn : Func} (hf : P.funcs[f]? = some fn) (hn : (fn.name == "runtime.NumGoroutine") = false) (hb : fn.body.isNone = false) : Known P f := by
 intro args w
 unfold callFunc
 simp only [Sem.run_bind, run_program, Result.andThen_ok, hf, hn, hb]
 simp
theorem evals {a : Act} (ha : Fits n l a) : ∀ (xs : List Operand) (vs : List Value), xs.map (ev l) = vs.map some → xs.map a.eval = vs := by
 intro xs
 induction xs with
 | nil => intro vs h; cases vs <;> simp_all
 | cons x xs ih =>
  intro vs h
  cases vs with
  | nil => simp at h
  | cons v vs =>
   simp only [List.map_cons, List.cons.injEq] at h ⊢
   exact ⟨ha.eval h.1, ih vs h.2⟩
theorem e_fn {f : FuncId} {xs : List Operand} {vs : List Value} {ts : Array TypeId} (hk : Known P f) (ho : o.op = .call { callee := .value (.func f), args := xs.toArray, argTypes := ts }) (hx : xs.map (ev l) = vs.map some) : Enters P n l w o f vs.toArray := by
 intro a ha
 have := evals ha xs vs hx
 simp [execOp, ho, resolve, Act.eval, Deferred.ofValue, invoke, this, hk _ w]
theorem e_val {f : FuncId} {xs : List Operand} {vs : List Value} {fs cs : Array Value} {ts : Array TypeId} (hk : Known P f) (ho : o.op = .call { callee := .value x, args := xs.toArray, argTypes := ts }) (hf : ev l x = some (.func (.func f) fs cs)) (hx : xs.map (ev l) = vs.map some) : Enters P n l w o f (fs.toList ++ vs ++ cs.toList).toArray := by
 intro a ha
 have := evals ha xs vs hx
 have e : (fs.toList ++ vs ++ cs.toList).toArray = fs ++ vs.toArray ++ cs := by apply Array.toList_inj.1; simp
 rw [e]
 simp [execOp, ho, resolve, ha.eval hf, Deferred.ofValue, invoke, this, hk _ w]
end
/-! ### Texts -/
theorem toList_inj {a b : ByteArray} (h : a.data.toList = b.data.toList) : a = b := by
 cases a; cases b; simp at h; subst h; rfl
theorem beqS (a b : ByteArray) : (a.toList == b.toList) = decide (a = b) := by
 rw [Bool.eq_iff_iff]
 simp only [beq_iff_eq, decide_eq_true_eq]
 constructor
 ·intro h
  rw [ByteArray.toList_eq, ByteArray.toList_eq] at h
  exact toList_inj h
 ·rintro rfl; rfl
def ltS (a b : ByteArray) : Bool := Op.bytesLess a.data.toList b.data.toList
section
variable {P : Program} {n : Nat} {l : Env} {w w' : World} {o : Oper} {v u : Value} {x y : Operand} {t : TypeId} {a b : ByteArray} {t' : TypeId}
theorem r_eqS (ho : o.op = .binOp .eql t x y t') (hx : ev l x = some (.string a)) (hy : ev l y = some (.string b)) : Run P n l w o (.bool (decide (a = b))) w := by
 intro a' ha; simp [execOp, ho, ha.eval hx, ha.eval hy, eqGuard, binOp, Op.stringOp, beqS]
theorem r_neS (ho : o.op = .binOp .neq t x y t') (hx : ev l x = some (.string a)) (hy : ev l y = some (.string b)) : Run P n l w o (.bool (decide (a ≠ b))) w := by
 intro a' ha; simp [execOp, ho, ha.eval hx, ha.eval hy, eqGuard, binOp, Op.stringOp, beqS]
theorem r_ltS (ho : o.op = .binOp .lss t x y t') (hx : ev l x = some (.string a)) (hy : ev l y = some (.string b)) : Run P n l w o (.bool (decide (ltS a b = true))) w := by
 intro a' ha
 rw [show decide (ltS a b = true) = ltS a b from Bool.decide_eq_true]
 simp [execOp, ho, ha.eval hx, ha.eval hy, eqGuard, binOp, Op.stringOp, ltS, ByteArray.toList_eq]
theorem r_gtS (ho : o.op = .binOp .gtr t x y t') (hx : ev l x = some (.string a)) (hy : ev l y = some (.string b)) : Run P n l w o (.bool (!(ltS a b || decide (a = b)))) w := by
 intro a' ha; simp [execOp, ho, ha.eval hx, ha.eval hy, eqGuard, binOp, Op.stringOp, ltS, ← ByteArray.toList_eq, beqS]
theorem r_addS (ho : o.op = .binOp .add t x y t') (hx : ev l x = some (.string a)) (hy : ev l y = some (.string b)) (hb : a.size + b.size ≤ 9223372036854775807) : Run P n l w o (.string (a ++ b)) w := by
 intro a' ha; simp [execOp, ho, ha.eval hx, ha.eval hy, eqGuard, binOp, run_string_add_sum w a b hb]
end
/-! ### Kinds of data -/
structure Kd (α : Type) where
 sz : Nat
 O : World → Foot → α → List Value → Prop
 R : World → Foot → α → List Value → Prop
 O_loc : ∀ {w w' : World} {F : Foot} {x : α} {cs : List Value}, O w F x cs → (∀ k, F k → w'.heap[k]? = w.heap[k]?) → O w' F x cs
 O_mono : ∀ {w : World} {F F' : Foot} {x : α} {cs : List Value}, O w F x cs → (∀ k, F k → F' k) → O w F' x cs
 R_loc : ∀ {w w' : World} {F : Foot} {x : α} {cs : List Value}, R w F x cs → (∀ k, F k → w'.heap[k]? = w.heap[k]?) → R w' F x cs
 R_mono : ∀ {w : World} {F F' : Foot} {x : α} {cs : List Value}, R w F x cs → (∀ k, F k → F' k) → R w F' x cs
 O_R : ∀ {w : World} {F : Foot} {x : α} {cs : List Value}, O w F x cs → R w F x cs
 len : ∀ {w : World} {F : Foot} {x : α} {cs : List Value}, R w F x cs → cs.length = sz
 one : ∀ {w : World} {F : Foot} {x : α} {cs : List Value}, R w F x cs → ∀ c ∈ cs, c.oneCell' = true
 pos : 0 < sz
def flat {α : Type} (enc : α → List Value) (sz : Nat) (hp : 0 < sz) (hl : ∀ x, (enc x).length = sz) (h1 : ∀ x, ∀ c ∈ enc x, c.oneCell' = true) : Kd α where
 sz := sz
 O _ _ x cs := cs = enc x
 R _ _ x cs := cs = enc x
 O_loc h _ := h
 O_mono h _ := h
 R_loc h _ := h
 R_mono h _ := h
 O_R h := h
 len h := h ▸ hl _
 one h := h ▸ h1 _
 pos := hp
def kInt (k : IntKind) : Kd Int := flat (fun x => [.int k x]) 1 (by omega) (fun _ => rfl) (fun _ c h => by simp at h; subst h; rfl)
def kBool : Kd Bool := flat (fun x => [.bool x]) 1 (by omega) (fun _ => rfl) (fun _ c h => by simp at h; subst h; rfl)
def kStr : Kd ByteArray := flat (fun x => [.string x]) 1 (by omega) (fun _ => rfl) (fun _ c h => by simp at h; subst h; rfl)
section
variable {α : Type} (d : Kd α)
def RepsR (w : World) (F : Foot) : List α → List Value → Prop
 | [], cs => cs = []
 | x :: xs, cs => ∃ c cs', cs = c ++ cs' ∧ d.R w F x c ∧ RepsR w F xs cs'
def RepsO (w : World) : Foot → List α → List Value → Prop
 | _, [], cs => cs = []
 | F, x :: xs, cs => ∃ (F1 F2 : Foot) (c cs' : List Value), (∀ k, F1 k → F k) ∧ (∀ k, F2 k → F k) ∧ (∀ k, F1 k → ¬ F2 k) ∧ cs = c ++ cs' ∧ d.O w F1 x c ∧ RepsO w F2 xs cs'
variable {d} {w w' : World} {F F' : Foot} {xs ys : List α} {cs ds : List Value}
theorem RepsR.loc : ∀ {xs : List α} {cs : List Value}, RepsR d w F xs cs → (∀ k, F k → w'.heap[k]? = w.heap[k]?) → RepsR d w' F xs cs
 | [], _, h, _ => h
 | _ :: _, _, ⟨c, cs', e, h1, h2⟩, hk => ⟨c, cs', e, d.R_loc h1 hk, RepsR.loc h2 hk⟩
theorem RepsR.mono : ∀ {xs : List α} {cs : List Value}, RepsR d w F xs cs → (∀ k, F k → F' k) → RepsR d w F' xs cs
 | [], _, h, _ => h
 | _ :: _, _, ⟨c, cs', e, h1, h2⟩, hk => ⟨c, cs', e, d.R_mono h1 hk, RepsR.mono h2 hk⟩
theorem RepsO.loc : ∀ {xs : List α} {F : Foot} {cs : List Value}, RepsO d w F xs cs → (∀ k, F k → w'.heap[k]? = w.heap[k]?) → RepsO d w' F xs cs
 | [], _, _, h, _ => h
 | _ :: _, _, _, ⟨F1, F2, c, cs', s1, s2, dj, e, h1, h2⟩, hk => ⟨F1, F2, c, cs', s1, s2, dj, e, d.O_loc h1 (fun k x => hk k (s1 k x)), RepsO.loc h2 (fun k x => hk k (s2 k x))⟩
theorem RepsO.mono : ∀ {xs : List α} {F F' : Foot} {cs : List Value}, RepsO d w F xs cs → (∀ k, F k → F' k) → RepsO d w F' xs cs
 | [], _, _, _, h, _ => h
 | _ :: _, _, _, _, ⟨F1, F2, c, cs', s1, s2, dj, e, h1, h2⟩, hk => ⟨F1, F2, c, cs', fun k x => hk k (s1 k x), fun k x => hk k (s2 k x), dj, e, h1, h2⟩
theorem RepsO.toR : ∀ {xs : List α} {F : Foot} {cs : List Value}, RepsO d w F xs cs → RepsR d w F xs cs
 | [], _, _, h => h
 | _ :: _, _, _, ⟨F1, F2, c, cs', s1, s2, _, e, h1, h2⟩ => ⟨c, cs', e, d.R_mono (d.O_R h1) s1, (RepsO.toR h2).mono s2⟩
theorem RepsR.len : ∀ {xs : List α} {cs : List Value}, RepsR d w F xs cs → cs.length = xs.length * d.sz
 | [], _, h => by subst h; simp
 | _ :: _, _, ⟨c, cs', e, h1, h2⟩ => by
  subst e
  rw [List.length_append, d.len h1, RepsR.len h2, List.length_cons, Nat.succ_mul, Nat.add_comm]
theorem RepsR.one : ∀ {xs : List α} {cs : List Value}, RepsR d w F xs cs → ∀ c ∈ cs, c.oneCell' = true
 | [], _, h, c, hc => by subst h; cases hc
 | _ :: _, _, ⟨c, cs', e, h1, h2⟩, c', hc => by
  subst e
  exact (List.mem_append.1 hc).elim (d.one h1 c') (RepsR.one h2 c')
theorem RepsR.append : ∀ {xs : List α} {cs : List Value}, RepsR d w F xs cs → RepsR d w F ys ds → RepsR d w F (xs ++ ys) (cs ++ ds)
 | [], _, h, k => by subst h; exact k
 | _ :: _, _, ⟨c, cs', e, h1, h2⟩, k => ⟨c, cs' ++ ds, by rw [e, List.append_assoc], h1, RepsR.append h2 k⟩
theorem RepsO.append : ∀ {xs : List α} {F F1 F2 : Foot} {cs : List Value}, (∀ k, F1 k → F k) → (∀ k, F2 k → F k) → (∀ k, F1 k → ¬ F2 k) → RepsO d w F1 xs cs → RepsO d w F2 ys ds → RepsO d w F (xs ++ ys) (cs ++ ds)
 | [], _, _, _, _, _, s2, _, h, k => by subst h; exact k.mono s2
 | _ :: _, F, F1, F2, _, s1, s2, dj, ⟨G1, G2, c, cs', g1, g2, gd, e, h1, h2⟩, k =>
  ⟨G1, fun j => G2 j ∨ F2 j, c, cs' ++ ds, fun j hj => s1 j (g1 j hj), fun j hj => hj.elim (fun x => s1 j (g2 j x)) (s2 j), fun j hj hg => hg.elim (gd j hj) (dj j (g1 j hj)), by rw [e, List.append_assoc], h1,
   RepsO.append (fun _ => .inl) (fun _ => .inr) (fun j x => dj j (g2 j x)) h2 k⟩
theorem RepsR.get : ∀ {xs : List α} {cs : List Value} {i : Nat} {x : α}, RepsR d w F xs cs → xs[i]? = some x → ∃ c, d.R w F x c ∧ (cs.drop (i * d.sz)).take d.sz = c
 | [], _, _, _, _, h => by simp at h
 | y :: xs, _, 0, x, ⟨c, cs', e, h1, h2⟩, h => by
  obtain rfl : y = x := by simpa using h
  refine ⟨c, h1, ?_⟩
  subst e
  have := d.len h1
  simp [← this]
 | y :: xs, _, i + 1, x, ⟨c, cs', e, h1, h2⟩, h => by
  obtain ⟨c', h3, h4⟩ := RepsR.get h2 (by simpa using h)
  refine ⟨c', h3, ?_⟩
  subst e
  have := d.len h1
  rw [← h4, Nat.succ_mul, Nat.add_comm, ← List.drop_drop]
  congr 2
  rw [← this, List.drop_left]
theorem RepsR.take : ∀ {xs : List α} {cs : List Value} (i : Nat), RepsR d w F xs cs → RepsR d w F (xs.take i) (cs.take (i * d.sz))
 | [], _, i, h => by subst h; simp [RepsR]
 | _ :: _, _, 0, h => by simp [RepsR]
 | y :: xs, _, i + 1, ⟨c, cs', e, h1, h2⟩ => by
  have h3 := RepsR.take i h2
  have := d.len h1
  refine ⟨c, cs'.take (i * d.sz), ?_, h1, h3⟩
  subst e
  rw [Nat.succ_mul, Nat.add_comm, ← this, List.take_length_add_append]
theorem RepsR.drop : ∀ {xs : List α} {cs : List Value} (i : Nat), RepsR d w F xs cs → RepsR d w F (xs.drop i) (cs.drop (i * d.sz))
 | [], _, i, h => by subst h; simp [RepsR]
 | _ :: _, _, 0, h => by simpa using h
 | y :: xs, _, i + 1, ⟨c, cs', e, h1, h2⟩ => by
  have h3 := RepsR.drop i h2
  have := d.len h1
  subst e
  rw [Nat.succ_mul, Nat.add_comm (i * d.sz), ← this, List.drop_length_add_append, this]
  exact h3
theorem RepsO.take : ∀ {xs : List α} {F : Foot} {cs : List Value} (i : Nat), RepsO d w F xs cs → RepsO d w F (xs.take i) (cs.take (i * d.sz))
 | [], _, _, i, h => by subst h; simp [RepsO]
 | _ :: _, _, _, 0, h => by simp [RepsO]
 | y :: xs, _, _, i + 1, ⟨F1, F2, c, cs', s1, s2, dj, e, h1, h2⟩ => by
  have h3 := RepsO.take i h2
  have := d.len (d.O_R h1)
  refine ⟨F1, F2, c, cs'.take (i * d.sz), s1, s2, dj, ?_, h1, h3⟩
  subst e
  rw [Nat.succ_mul, Nat.add_comm, ← this, List.take_length_add_append]
end
theorem RepsO.flatR {α : Type} {enc : α → List Value} {sz : Nat} {hp : 0 < sz} {hl : ∀ x, (enc x).length = sz} {h1 : ∀ x, ∀ c ∈ enc x, c.oneCell' = true} {w : World} {F G : Foot} : ∀ {xs : List α} {cs : List Value},
  RepsR (flat enc sz hp hl h1) w F xs cs → RepsO (flat enc sz hp hl h1) w G xs cs
 | [], _, h => h
 | _ :: _, _, ⟨c, cs', e, h1, h2⟩ => ⟨none_, G, c, cs', fun _ h => h.elim, fun _ h => h, fun _ h => h.elim, e, h1, RepsO.flatR h2⟩
theorem RepsR.flat_eq {α : Type} {enc : α → List Value} {sz : Nat} {hp : 0 < sz} {hl : ∀ x, (enc x).length = sz} {h1 : ∀ x, ∀ c ∈ enc x, c.oneCell' = true} {w : World} {F : Foot} : ∀ {xs : List α} {cs : List Value},
  RepsR (flat enc sz hp hl h1) w F xs cs ↔ cs = xs.flatMap enc
 | [], _ => by simp [RepsR]
 | x :: xs, cs => by
  constructor
  ·rintro ⟨c, cs', rfl, hc, h2⟩
   rw [RepsR.flat_eq] at h2
   have : c = enc x := hc
   simp [h2, this]
  ·rintro rfl
   exact ⟨enc x, xs.flatMap enc, by simp, rfl, RepsR.flat_eq.2 rfl⟩
/-! ### Slices -/
def Plain (_ : Option Addr) : Prop := True
def RowR (w : World) (F : Foot) (A : Option Addr) (cs : List Value) : Prop :=
 Plain A ∧ (cs = [] ∨ ∃ b off C t fr, A = some ⟨b, off, none⟩ ∧ F b ∧ w.heap[b]? = some (.cells C t fr) ∧ (C.toList.drop off).take cs.length = cs)
def RowO (w : World) (F : Foot) (sz : Nat) (A : Option Addr) (n c : Nat) (cs : List Value) : Prop :=
 n ≤ c ∧ c ≤ 9223372036854775807 ∧ cs.length = n * sz ∧ ((c = 0 ∧ Plain A) ∨ ∃ b C t, A = some ⟨b, 0, none⟩ ∧ F b ∧ w.heap[b]? = some (.cells C t (0, 0)) ∧ C.size = c * sz ∧ C.toList.take (n * sz) = cs)
section
variable {w w' : World} {F F' : Foot} {A : Option Addr} {n c sz : Nat} {cs : List Value}
theorem RowR.loc (h : RowR w F A cs) (hk : ∀ k, F k → w'.heap[k]? = w.heap[k]?) : RowR w' F A cs :=
 ⟨h.1, h.2.imp id fun ⟨b, off, C, t, fr, e, hb, hh, ht⟩ => ⟨b, off, C, t, fr, e, hb, (hk b hb).trans hh, ht⟩⟩
theorem RowR.mono (h : RowR w F A cs) (hk : ∀ k, F k → F' k) : RowR w F' A cs :=
 ⟨h.1, h.2.imp id fun ⟨b, off, C, t, fr, e, hb, hh, ht⟩ => ⟨b, off, C, t, fr, e, hk b hb, hh, ht⟩⟩
theorem RowO.loc (h : RowO w F sz A n c cs) (hk : ∀ k, F k → w'.heap[k]? = w.heap[k]?) : RowO w' F sz A n c cs :=
 ⟨h.1, h.2.1, h.2.2.1, h.2.2.2.imp id fun ⟨b, C, t, e, hb, hh, hs, ht⟩ => ⟨b, C, t, e, hb, (hk b hb).trans hh, hs, ht⟩⟩
theorem RowO.mono (h : RowO w F sz A n c cs) (hk : ∀ k, F k → F' k) : RowO w F' sz A n c cs :=
 ⟨h.1, h.2.1, h.2.2.1, h.2.2.2.imp id fun ⟨b, C, t, e, hb, hh, hs, ht⟩ => ⟨b, C, t, e, hk b hb, hh, hs, ht⟩⟩
theorem RowO.toR (h : RowO w F sz A n c cs) : RowR w F A cs := by
 obtain ⟨h1, h2, h3, h4⟩ := h
 rcases h4 with ⟨hc, hp⟩ | ⟨b, C, t, e, hb, hh, hs, ht⟩
 ·have : n = 0 := by omega
  subst this
  exact ⟨hp, .inl (List.eq_nil_of_length_eq_zero (by simpa using h3))⟩
 ·refine ⟨trivial, .inr ⟨b, 0, C, t, (0, 0), e, hb, hh, ?_⟩⟩
  rw [h3]
  simpa using ht
theorem RowR.cell (h : RowR w F A cs) {j : Nat} {v : Value} (hv : cs[j]? = some v) : ∃ b off, A = some ⟨b, off, none⟩ ∧ w.cell? ⟨b, off + j, none⟩ = some v := by
 rcases h.2 with rfl | ⟨b, off, C, t, fr, e, hb, hh, ht⟩
 ·simp at hv
 ·refine ⟨b, off, e, ?_⟩
  have hlt : j < cs.length := by
   rcases Nat.lt_or_ge j cs.length with h' | h'
   ·exact h'
   ·simp [List.getElem?_eq_none h'] at hv
  rw [← ht, List.getElem?_take, if_pos hlt, List.getElem?_drop] at hv
  simp [World.cell?, hh]
  simpa using hv
end
def slR {α : Type} (d : Kd α) (w : World) (F : Foot) (xs : List α) (A : Option Addr) (n c : Nat) : Prop :=
 xs.length = n ∧ n ≤ c ∧ c ≤ 9223372036854775807 ∧ ∃ cs, RowR w F A cs ∧ RepsR d w F xs cs
def slO {α : Type} (d : Kd α) (w : World) (F : Foot) (xs : List α) (A : Option Addr) (n c : Nat) : Prop :=
 xs.length = n ∧ ∃ cs F1 F2, (∀ k, F1 k → F k) ∧ (∀ k, F2 k → F k) ∧ (∀ k, F1 k → ¬ F2 k) ∧ RowO w F1 d.sz A n c cs ∧ RepsO d w F2 xs cs
def kSl {α : Type} (d : Kd α) : Kd (List α) where
 sz := 1
 O w F xs cs := ∃ A n c, cs = [.slice A n c] ∧ slO d w F xs A n c
 R w F xs cs := ∃ A n c, cs = [.slice A n c] ∧ slR d w F xs A n c
 O_loc := fun ⟨A, n, c, e, h1, cs, F1, F2, s1, s2, dj, h2, h3⟩ hk => ⟨A, n, c, e, h1, cs, F1, F2, s1, s2, dj, h2.loc (fun k x => hk k (s1 k x)), h3.loc (fun k x => hk k (s2 k x))⟩
 O_mono := fun ⟨A, n, c, e, h1, cs, F1, F2, s1, s2, dj, h2, h3⟩ hk => ⟨A, n, c, e, h1, cs, F1, F2, fun k x => hk k (s1 k x), fun k x => hk k (s2 k x), dj, h2, h3⟩
 R_loc := fun ⟨A, n, c, e, h1, h2, h3, cs, h4, h5⟩ hk => ⟨A, n, c, e, h1, h2, h3, cs, h4.loc hk, h5.loc hk⟩
 R_mono := fun ⟨A, n, c, e, h1, h2, h3, cs, h4, h5⟩ hk => ⟨A, n, c, e, h1, h2, h3, cs, h4.mono hk, h5.mono hk⟩
 O_R := fun ⟨A, n, c, e, h1, cs, F1, F2, s1, s2, dj, h2, h3⟩ => ⟨A, n, c, e, h1, h2.1, h2.2.1, cs, h2.toR.mono s1, h3.toR.mono s2⟩
 len := fun ⟨A, n, c, e, _⟩ => by subst e; rfl
 one := fun ⟨A, n, c, e, _⟩ x hx => by subst e; simp at hx; subst hx; rfl
 pos := by omega
def own {α : Type} (d : Kd α) (x : α) (cs : List Value) : SP := ⟨fun w F => d.O w F x cs, d.O_loc, d.O_mono⟩
def rd {α : Type} (d : Kd α) (x : α) (cs : List Value) : SP := ⟨fun w F => d.R w F x cs, d.R_loc, d.R_mono⟩
abbrev osl {α : Type} (d : Kd α) (v : Value) (xs : List α) : SP := own (kSl d) xs [v]
abbrev rsl {α : Type} (d : Kd α) (v : Value) (xs : List α) : SP := rd (kSl d) xs [v]
theorem own_rd {α : Type} {d : Kd α} {x : α} {cs : List Value} {w : World} (F : Foot) (h : (own d x cs).P w F) : (rd d x cs).P w F := d.O_R h
section
variable {α : Type} {d : Kd α} {w0 w w' : World} {F F0 : Foot} {xs ys : List α} {v : Value} {As Rs : List SP}
theorem rsl_spec (h : (rsl d v xs).P w F) : ∃ A c, v = .slice A xs.length c ∧ xs.length ≤ c ∧ c ≤ 9223372036854775807 ∧ Plain A ∧ ∃ cs, RowR w F A cs ∧ RepsR d w F xs cs := by
 obtain ⟨A, n, c, e, h1, h2, h3, cs, h4, h5⟩ := h
 obtain rfl : v = .slice A n c := by simpa using e
 subst h1
 exact ⟨A, c, rfl, h2, h3, h4.1, cs, h4, h5⟩
theorem rsl_form (h : (rsl d v xs).P w F) : ∃ A c, v = .slice A xs.length c ∧ xs.length ≤ c ∧ c ≤ 9223372036854775807 ∧ Plain A := by
 obtain ⟨A, c, e, h1, h2, h3, _⟩ := rsl_spec h
 exact ⟨A, c, e, h1, h2, h3⟩
theorem Hd.form (H : Hd w0 F0 w As Rs) (hm : rsl d v xs ∈ Rs) : ∃ A c, v = .slice A xs.length c ∧ xs.length ≤ c ∧ c ≤ 9223372036854775807 ∧ Plain A := H.factR hm fun _ h => rsl_form h
theorem Hd.formO (H : Hd w0 F0 w As Rs) (hm : osl d v xs ∈ As) : ∃ A c, v = .slice A xs.length c ∧ xs.length ≤ c ∧ c ≤ 9223372036854775807 ∧ Plain A := H.fact hm fun F h => rsl_form (own_rd F h)
theorem rsl_at {A : Option Addr} {m c : Nat} (h : (rsl d (.slice A m c) xs).P w F) {i : Nat} {x : α} (hx : xs[i]? = some x) :
  ∃ (b off : Nat) (cs : List Value), A = some ⟨b, off, none⟩ ∧ cs.length = d.sz ∧ (∀ j u, cs[j]? = some u → w.cell? ⟨b, off + i * d.sz + j, none⟩ = some u) ∧ d.R w F x cs := by
 obtain ⟨A', c', e, _, _, _, cs, h4, h5⟩ := rsl_spec h
 cases e
 obtain ⟨c0, h6, h7⟩ := h5.get hx
 have hl := d.len h6
 have hp := d.pos
 have key : ∀ j u, c0[j]? = some u → cs[i * d.sz + j]? = some u := by
  intro j u hu
  rw [← h7, List.getElem?_take] at hu
  split at hu
  ·rwa [List.getElem?_drop] at hu
  ·cases hu
 have h0 : ∃ u, c0[0]? = some u := ⟨c0[0], by simp [List.getElem?_eq_getElem (show 0 < c0.length by omega)]⟩
 obtain ⟨u0, hu0⟩ := h0
 obtain ⟨b, off, e, _⟩ := h4.cell (key 0 u0 hu0)
 refine ⟨b, off, c0, e, hl, fun j u hu => ?_, h6⟩
 obtain ⟨b', off', e', hc⟩ := h4.cell (key j u hu)
 rw [e] at e'
 cases e'
 rwa [← Nat.add_assoc] at hc
theorem rsl_flat {enc : α → List Value} {sz : Nat} {hp : 0 < sz} {hl : ∀ x, (enc x).length = sz} {h1 : ∀ x, ∀ c ∈ enc x, c.oneCell' = true} {A : Option Addr} {m c : Nat} (h : (rsl (flat enc sz hp hl h1) (.slice A m c) xs).P w F) {i : Nat} {x : α} (hx : xs[i]? = some x) :
  ∃ b off, A = some ⟨b, off, none⟩ ∧ ∀ j u, (enc x)[j]? = some u → w.cell? ⟨b, off + i * sz + j, none⟩ = some u := by
 obtain ⟨b, off, cs, h1, h2, h3, h4⟩ := rsl_at h hx
 obtain rfl : cs = enc x := h4
 exact ⟨b, off, h1, h3⟩
end
/-! ### What is written: a block's cells -/
def puts : List Value → Nat → List Value → List Value
 | cs, _, [] => cs
 | cs, i, v :: vs => puts (cs.set i v) (i + 1) vs
section
variable {P : Program} {w : World} {F : Foot}
theorem run_put {b : Nat} {t : TypeId} : ∀ (vs cs : List Value) (off i : Nat) (w : World), (blk b cs t).P w F → off + i + vs.length ≤ cs.length → (∀ v ∈ vs, v.oneCell' = true) →
  ∃ w', (storeCells ⟨b, off, none⟩ vs i).run P w = .ok () w' ∧ (blk b (puts cs (off + i) vs) t).P w' F ∧ Upd F w w'
 | [], cs, off, i, w, h, _, _ => ⟨w, by simp [storeCells], h, Upd.refl _ _⟩
 | v :: vs, cs, off, i, w, h, hl, h1 => by
  simp only [List.length_cons] at hl
  have hlt : off + i < cs.length := by omega
  have hc : w.cell? ⟨b, off + i, none⟩ = some cs[off + i] := blk_cell h (by simp [List.getElem?_eq_getElem hlt])
  obtain ⟨w', hr, hb, hu⟩ := run_put vs (cs.set (off + i) v) off (i + 1) (w.setCell ⟨b, off + i, none⟩ v) (blk_set h _ _) (by simp; omega) (fun v' hv => h1 v' (List.mem_cons_of_mem _ hv))
  refine ⟨w', ?_, by rw [puts]; exact Nat.add_assoc off i 1 ▸ hb, (Upd.setCell w ⟨b, off + i, none⟩ v h.1).trans hu (fun _ _ x => x)⟩
  simp only [storeCells, add_of, Sem.run_bind]
  rw [run_store P w _ v _ (h1 v (List.mem_cons_self ..))]
  simp only [stored, hc, blk_free h]
  exact hr
end
section
variable {P : Program} {ops : Array Oper} {Q : Exit → Act → World → Prop} {rest : List Oper} {n : Nat} {l : Env} {w0 w : World} {F0 : Foot} {o : Oper} {v : Value} {As Rs : List SP} {x y : Operand} {t : TypeId}
theorem s_st {b off sz : Nat} {B : Bool} {cs : List Value} {bt : TypeId} (hg : gd ops l o = some true) (hd : o.dst = none) (ho : o.op = .store t x y) (ht : tyOf P t = some (B, sz)) (hx : ev l x = some (.pointer (some ⟨b, off, none⟩))) (hy : ev l y = some v)
  (H : Hd w0 F0 w (blk b cs bt :: As) Rs) (hs : v.cells.size = sz) (hl : off + sz ≤ cs.length) (h1 : ∀ u ∈ v.cells.toList, u.oneCell' = true) (h : ∀ w', Hd w0 F0 w' (blk b (puts cs off v.cells.toList) bt :: As) Rs → WL P ops Q rest n l w') : WL P ops Q (o :: rest) n l w := by
 obtain ⟨F, hb⟩ : ∃ F, (blk b cs bt).P w F := H.fact (List.mem_cons_self ..) fun F hb => ⟨F, hb⟩
 obtain ⟨w', hr, _, _⟩ := run_put (P := P) v.cells.toList cs off 0 w hb (by simp [hs]; omega) h1
 refine s_skip hg hd (w' := w') (fun a ha => ?_) (h w' (H.write fun F' hb' => ?_))
 ·simp [execOp, ho, ha.eval hx, ha.eval hy, Instr.storeAt, Instr.sureAddr, storeVar, run_sizeOf ht, hs, hr]
 ·obtain ⟨w'', hr', h2, h3⟩ := run_put (P := P) v.cells.toList cs off 0 w hb' (by simp [hs]; omega) h1
  rw [hr] at hr'
  cases hr'
  exact ⟨h2, h3⟩
theorem s_box (hg : gd ops l o = some true) (hd : dok n o.dst = true) (ho : o.op = .box t x) (hx : ev l x = some v) (H : Hd w0 F0 w As Rs)
  (h : ∀ b w', Hd w0 F0 w' (blk b v.cells.toList t :: As) Rs → WL P ops Q rest n (upO l o.dst (.pointer (some ⟨b, 0, none⟩))) w') : WL P ops Q (o :: rest) n l w := by
 refine s_val (w' := w.alloc (.cells v.cells t)) hg hd (v := .pointer (some ⟨w.heap.size, 0, none⟩)) (fun a ha => ?_) (h _ _ ?_)
 ·simp [execOp, ho, ha.eval hx, Instr.box, newVar, newRow]
 ·have := H.alloc v.cells.toList t
  simpa using this
theorem s_alloc {z : Value} (hg : gd ops l o = some true) (hd : dok n o.dst = true) (ho : o.op = .alloc t) (hz : zrOf P t = some z) (H : Hd w0 F0 w As Rs)
  (h : ∀ b w', Hd w0 F0 w' (blk b z.cells.toList t :: As) Rs → WL P ops Q rest n (upO l o.dst (.pointer (some ⟨b, 0, none⟩))) w') : WL P ops Q (o :: rest) n l w := by
 obtain ⟨i, hi, hz'⟩ := Option.bind_eq_some_iff.1 hz
 refine s_val (w' := w.alloc (.cells z.cells t)) hg hd (v := .pointer (some ⟨w.heap.size, 0, none⟩)) (fun a ha => ?_) (h _ _ ?_)
 ·simp [execOp, ho, Instr.alloc, zeroValue, typeInfo, hi, hz', newVar, newRow]
 ·have := H.alloc z.cells.toList t
  simpa using this
def fillL (place : Nat → Option (Nat × Nat)) : List Value → List (Nat × Value) → Option (List Value)
 | cs, [] => some cs
 | cs, (i, v) :: rest =>
  match place i with
  | none => none
  | some (off, size) => match Nat.decEq v.cells.size size, Nat.decLe (off + size) cs.length with
   | .isTrue _, .isTrue _ => fillL place (puts cs off v.cells.toList) rest
   | _, _ => none
theorem foldl_puts : ∀ (vs : List Value) (k off : Nat) (A : Array Value), ((vs.zipIdx k).foldl (fun cs (p : Value × Nat) => cs.setIfInBounds (off + p.2) p.1) A).toList = puts A.toList (off + k) vs
 | [], _, _, _ => rfl
 | v :: vs, k, off, A => by
  rw [List.zipIdx_cons, List.foldl_cons, foldl_puts vs (k + 1) off]
  simp [puts, Nat.add_assoc]
theorem fill_eq {place : Nat → Option (Nat × Nat)} : ∀ {parts : List (Nat × Value)} {A : Array Value} {cs : List Value}, fillL place A.toList parts = some cs → Instr.fill place A parts = some cs.toArray
 | [], A, cs, h => by
  have : A.toList = cs := by simpa [fillL] using h
  subst this
  simp [Instr.fill]
 | (i, v) :: rest, A, cs, h => by
  simp only [fillL] at h
  simp only [Instr.fill]
  split at h
  ·cases h
  ·rename_i off size hp
   simp only [hp]
   split at h
   ·rename_i e1 _ e2 _
    have e3 : A.toList.length = A.size := Array.length_toList
    rw [if_neg (by simp at e2 ⊢; omega)]
    refine fill_eq ?_
    have := foldl_puts v.cells.toList 0 off A
    rw [Nat.add_zero] at this
    rw [← h, ← this]
    congr 2
    rw [← Array.foldl_toList]
    simp
   ·cases h
theorem zeros_flat {z : List Value} {sz : Nat} (hz : z.length = sz) (hp : 0 < sz) (c : Nat) : (List.range (c * sz)).map (fun j => z[j % z.length]!) = (List.replicate c ()).flatMap fun _ => z := by
 have hfl : ∀ c, ((List.replicate c ()).flatMap fun _ => z).length = c * sz := by
  intro c
  induction c with
  | zero => simp
  | succ c ih => rw [List.replicate_succ, List.flatMap_cons, List.length_append, ih, hz, Nat.succ_mul, Nat.add_comm]
 have hd : ∀ c i, ((List.replicate c ()).flatMap fun _ => z).drop (i * sz) = (List.replicate (c - i) ()).flatMap fun _ => z := by
  intro c i
  induction i generalizing c with
  | zero => simp
  | succ i ih =>
   cases c with
   | zero => simp
   | succ c =>
    rw [List.replicate_succ, List.flatMap_cons, Nat.succ_mul, Nat.add_comm (i * sz), ← hz, List.drop_length_add_append, hz, ih]
    congr 2
    omega
 apply List.ext_getElem
 ·rw [hfl]; simp
 ·intro j h1 h2
  simp only [List.getElem_map, List.getElem_range]
  simp at h1
  have hdj : j = j / sz * sz + j % sz := by rw [Nat.mul_comm]; exact (Nat.div_add_mod j sz).symm
  have hjd : j / sz < c := Nat.div_lt_of_lt_mul (by rw [Nat.mul_comm]; exact h1)
  have hjm : j % sz < sz := Nat.mod_lt _ hp
  have h4 : (((List.replicate c ()).flatMap fun _ => z).drop (j / sz * sz))[j % sz]? = z[j % sz]? := by
   obtain ⟨r, hr⟩ : ∃ r, c - j / sz = r + 1 := ⟨c - j / sz - 1, by omega⟩
   rw [hd, hr, List.replicate_succ, List.flatMap_cons, List.getElem?_append_left (by omega)]
  rw [List.getElem?_drop, ← hdj, List.getElem?_eq_getElem h2, List.getElem?_eq_getElem (by omega)] at h4
  rw [hz, getElem!_pos z _ (by omega)]
  exact (Option.some.inj h4).symm
def bdOf (P : Program) (t : TypeId) : Option (Array Value × Array (Nat × Nat)) :=
 match P.underlying t with
 | some (.struct fs) => match zrOf P t, fs.mapM fun f => (P.info? f.type).map fun i => (f.offset, i.size) with
  | some z, some ps => some (z.cells, ps)
  | _, _ => none
 | _ => none
theorem run_places (w : World) : ∀ (fs : List Field) (ps : List (Nat × Nat)), (fs.mapM fun f => (P.info? f.type).map fun i => (f.offset, i.size)) = some ps → (fs.mapM fun f => (do pure (f.offset, ← sizeOf f.type) : Sem (Nat × Nat))).run P w = .ok ps w := by
 intro fs
 induction fs with
 | nil => intro ps h; simp at h; subst h; rfl
 | cons f fs ih =>
  intro ps h
  simp only [List.mapM_cons, Option.bind_eq_bind, Option.bind_eq_some_iff, Option.pure_def, Option.some.injEq] at h
  obtain ⟨p, hp, qs, hq, rfl⟩ := h
  obtain ⟨i, hi, rfl⟩ := Option.map_eq_some_iff.1 hp
  simp [List.mapM_cons, sizeOf, typeInfo, hi] at ih ⊢
  simp [ih qs hq]
theorem r_bd {parts : List (Nat × Operand)} {vs : List Value} {z : Array Value} {ps : Array (Nat × Nat)} {cs : List Value} (ho : o.op = .build t parts.toArray) (hb : bdOf P t = some (z, ps)) (hx : (parts.map fun p => ev l p.2) = vs.map some)
  (hf : fillL (ps[·]?) z.toList ((parts.map (·.1)).zip vs) = some cs) : Run P n l w o (.agg cs.toArray) w := by
 replace hf := fill_eq hf
 unfold bdOf at hb
 split at hb
 ·rename_i fs hu
  split at hb
  ·rename_i z' ps' hz hp
   simp only [Option.some.injEq, Prod.mk.injEq] at hb
   obtain ⟨rfl, rfl⟩ := hb
   obtain ⟨i, hi, hz'⟩ := Option.bind_eq_some_iff.1 hz
   intro a ha
   have hx' : ∀ (ps : List (Nat × Operand)) (vs : List Value), (ps.map fun p => ev l p.2) = vs.map some → (ps.map fun p => (p.1, a.eval p.2)) = (ps.map (·.1)).zip vs := by
    intro ps
    induction ps with
    | nil => intro vs h; cases vs <;> simp_all
    | cons p ps ih =>
     intro vs h
     cases vs with
     | nil => simp at h
     | cons v vs =>
      simp only [List.map_cons, List.cons.injEq, List.zip_cons_cons] at h ⊢
      exact ⟨by rw [ha.eval h.1], ih vs h.2⟩
   have hm : (fs.mapM fun f => (do pure (f.offset, ← sizeOf f.type) : Sem (Nat × Nat))).run P w = .ok ps' w := by
    have h1 : fs.toList.mapM (fun f => (P.info? f.type).map fun i => (f.offset, i.size)) = some ps'.toList := by
     have := congrArg (Option.map Array.toList) hp
     rw [Array.mapM_eq_mapM_toList] at hp
     cases h : fs.toList.mapM (fun f => (P.info? f.type).map fun i => (f.offset, i.size)) with
     | none => simp [h] at hp
     | some q => simp [h] at hp; simp [← hp]
    rw [Array.mapM_eq_mapM_toList]
    have h2 := run_places (P := P) w fs.toList ps'.toList h1
    simp only [Sem.run_map, h2, Result.andThen_ok]
   have hx2 := hx' parts vs hx
   have hm2 : (parts.toArray.map fun (x : Nat × Operand) => match x with | (i, x) => (i, a.eval x)).toList = (parts.map (·.1)).zip vs := by
    rw [← hx2]
    simp
   unfold execOp
   simp only [ho, Instr.build, Sem.run_bind, zeroValue, typeInfo, run_program, hi, hz', run_underlying hu, hm, Sem.run_pure, Result.andThen_ok, hm2, hf]
  ·simp at hb
 ·simp at hb
theorem s_bsl {parts : List (Nat × Operand)} {vs : List Value} {m e size bytes : Nat} {z : Value} {cs : List Value} (hg : gd ops l o = some true) (hd : dok n o.dst = true) (ho : o.op = .buildSlice t m parts.toArray)
  (hs : slOf P t = some (e, size, bytes)) (hz : zrOf P e = some z) (hzs : z.cells.toList.length = size) (h0 : m * size ≠ 0) (h1 : ¬ m * size > 2 ^ 24) (hx : (parts.map fun p => ev l p.2) = vs.map some)
  (hf : fillL (fun i => some (i * size, size)) ((List.replicate m ()).flatMap fun _ => z.cells.toList) ((parts.map (·.1)).zip vs) = some cs) (H : Hd w0 F0 w As Rs)
  (h : ∀ b w', Hd w0 F0 w' (blk b cs e :: As) Rs → WL P ops Q rest n (upO l o.dst (.slice (some ⟨b, 0, none⟩) m m)) w') : WL P ops Q (o :: rest) n l w := by
 obtain ⟨hu, inf, hi, hsz, _⟩ := slOf_spec hs
 obtain ⟨i, hi', hz'⟩ := Option.bind_eq_some_iff.1 hz
 rw [hi] at hi'
 cases hi'
 have hpos : 0 < size := by
  rcases Nat.eq_zero_or_pos size with h | h
  ·rw [h] at h0; simp at h0
  ·exact h
 have hz2 : ((Array.range (m * size)).map (z.cells[· % z.cells.size]!)).toList = (List.replicate m ()).flatMap fun _ => z.cells.toList := by
  rw [← zeros_flat hzs hpos m]
  simp
  intro a _
  rw [getElem!_def]
  cases z.cells[a % z.cells.size]? <;> rfl
 rw [← hz2] at hf
 replace hf := fill_eq hf
 refine s_val (w' := w.alloc (.cells cs.toArray e)) hg hd (v := .slice (some ⟨w.heap.size, 0, none⟩) m m) (fun a ha => ?_) (h _ _ ?_)
 ·have hx' : ∀ (ps : List (Nat × Operand)) (vs : List Value), (ps.map fun p => ev l p.2) = vs.map some → (ps.map fun p => (p.1, a.eval p.2)) = (ps.map (·.1)).zip vs := by
   intro ps
   induction ps with
   | nil => intro vs h; cases vs <;> simp_all
   | cons p ps ih =>
    intro vs h
    cases vs with
    | nil => simp at h
    | cons v vs =>
     simp only [List.map_cons, List.cons.injEq, List.zip_cons_cons] at h ⊢
     exact ⟨by rw [ha.eval h.1], ih vs h.2⟩
  have hm2 : (parts.toArray.map fun (x : Nat × Operand) => match x with | (i, x) => (i, a.eval x)).toList = (parts.map (·.1)).zip vs := by
   rw [← hx' parts vs hx]
   simp
  unfold execOp
  simp only [ho, Instr.buildSlice, Sem.run_bind, run_underlying hu, sizeOf, zeroValue, typeInfo, run_program, hi, hz', hsz, if_neg h1, if_neg h0, Sem.run_pure, Result.andThen_ok, hm2, hf, newRow, run_newObj]
  simp
 ·exact H.alloc cs e
end
section
variable {P : Program} {w : World} {F : Foot}
theorem run_append_gen {t tx ty e size bytes : Nat} {dx : TypeDesc} {z : Value} {A : Option Addr} {n c m : Nat} {cs news : List Value} {x : Value} (hs : slOf P t = some (e, size, bytes)) (hz : zrOf P e = some z) (hzs : z.cells.size = size)
  (htx : P.underlying tx = some dx) (hni : (∃ q, dx = .slice q) ∨ dx = .string) (h : RowO w F size A n c cs) (hF : ∀ k, F k → k < w.heap.size)
  (hlen : (Builtin.lenOf x).run P w = .ok m w) (hfc : ∀ w' : World, w'.heap = w.heap → (Builtin.firstCells size m x).run P w' = .ok news.toArray w') (hnl : news.length = m * size) (h1 : ∀ u ∈ news, u.oneCell' = true)
  (hb0 : 0 < bytes) (hb : (n + m) * bytes ≤ 140737488355328) :
  ∃ A' c' w' F', (Builtin.append_ #[t, tx] ty #[.slice A n c, x]).run P w = .ok (.slice A' (n + m) c') w' ∧ RowO w' F' size A' (n + m) c' (cs ++ news) ∧ Upd F w w' ∧ (∀ k, F' k → k < w'.heap.size ∧ (F k ∨ w.heap.size ≤ k)) := by
 obtain ⟨hu, i, hi, rfl, rfl⟩ := slOf_spec hs
 obtain ⟨i', hi', hz'⟩ := Option.bind_eq_some_iff.1 hz
 rw [hi] at hi'
 cases hi'
 obtain ⟨hnc, hcm, hcl, hrow⟩ := h
 have hsmall : n + m ≤ 140737488355328 := Nat.le_trans (Nat.le_mul_of_pos_right _ hb0) hb
 by_cases hroom : n + m ≤ c
 ·rcases hrow with ⟨hc0, hp⟩ | ⟨b, C, bt, hA, hFb, hh, hCs, htake⟩
  ·obtain rfl : n = 0 := by omega
   obtain rfl : m = 0 := by omega
   obtain rfl : cs = [] := List.eq_nil_of_length_eq_zero (by simpa using hcl)
   obtain rfl : news = [] := List.eq_nil_of_length_eq_zero (by simpa using hnl)
   refine ⟨A, c, w, F, ?_, ⟨hnc, hcm, by simp, .inl ⟨hc0, hp⟩⟩, Upd.refl _ _, fun k hk => ⟨hF k hk, .inl hk⟩⟩
   rcases hni with ⟨q, rfl⟩ | rfl <;> cases A <;> simp [Builtin.append_, run_underlying hu, run_underlying htx, sizeOf, typeInfo, hi, hlen, hfc w rfl, hc0, storeCells]
  ·have hfit : n * i.size + news.length ≤ C.size := by rw [hnl, hCs, ← Nat.add_mul]; exact Nat.mul_le_mul_right _ hroom
   have hst := run_storeCells_at P b (n * i.size) bt news 0 C w hh (by simpa using hfit) h1
   simp only [Nat.add_zero] at hst
   refine ⟨A, c, w.setRow b (C.toList.take (n * i.size) ++ news ++ C.toList.drop (n * i.size + news.length)).toArray, F, ?_, ⟨hroom, hcm, by simp [hcl, hnl, Nat.add_mul], .inr ⟨b, _, bt, hA, hFb, setRow_heap w b C _ bt _ hh, ?_, ?_⟩⟩, ⟨rfl, rfl, rfl, by simp, fun k _ hk => setRow_other w b k _ (fun e => hk (e ▸ hFb))⟩, fun k hk => ⟨by simpa using hF k hk, .inl hk⟩⟩
   ·subst hA
    rcases hni with ⟨q, rfl⟩ | rfl <;> simp [Builtin.append_, run_underlying hu, run_underlying htx, sizeOf, typeInfo, hi, hlen, hfc w rfl, hroom, add_of, hst]
   ·simp only [List.size_toArray, List.length_append, List.length_take, List.length_drop, Array.length_toList]
    omega
   ·rw [htake]
    have : (cs ++ news).length = (n + m) * i.size := by simp [hcl, hnl, Nat.add_mul]
    rw [← this]
    exact List.take_left
 ·have hbz : i.bytes ≠ 0 := by omega
  have hold : ∀ w' : World, w'.heap = w.heap → (Builtin.firstCells i.size n (.slice A n c)).run P w' = .ok cs.toArray w' := by
   intro w' hw'
   rcases hrow with ⟨hc0, hp⟩ | ⟨b, C, bt, hA, hFb, hh, hCs, htake⟩
   ·obtain rfl : n = 0 := by omega
    obtain rfl : cs = [] := List.eq_nil_of_length_eq_zero (by simpa using hcl)
    cases A <;> simp [Builtin.firstCells, loadCells, loadCellsFrom]
   ·subst hA
    refine run_firstCells_some w' i.size n ⟨b, 0, none⟩ n c cs hcl (fun j v hv => ?_)
    have hR : RowR w F (some ⟨b, 0, none⟩) cs := RowO.toR (c := c) ⟨hnc, hcm, hcl, .inr ⟨b, C, bt, rfl, hFb, hh, hCs, htake⟩⟩
    obtain ⟨b', off', e', hcell⟩ := hR.cell hv
    cases e'
    have : w'.cell? ⟨b, 0 + j, none⟩ = w.cell? ⟨b, 0 + j, none⟩ := by simp [World.cell?, hw']
    rw [add_of, this]
    exact hcell
  have hbig : ¬ (9223372036854775807 < ((n + m : Nat) : Int)) := by omega
  have hfit : ¬ 281474976710656 < Builtin.nextslicecap (n + m) c * i.bytes := by
   have := growslice_fits (need := n + m) (old := c) (bytes := i.bytes) (by omega) hb
   omega
  have hge := grownCap_ge w (n + m) c e
  have hle : grownCap w (n + m) c e ≤ 9223372036854775807 := by
   have := grownCap_le_maxLen w (n + m) c e (by simp only [maxLen]; omega)
   simpa [maxLen] using this
  refine ⟨some ⟨w.heap.size, 0, none⟩, grownCap w (n + m) c e, w.drew.alloc (.cells (cs.toArray ++ news.toArray ++ Builtin.zeroCells z.cells (grownCap w (n + m) c e - (n + m))) e), fun k => k = w.heap.size, ?_, ⟨hge, hle, by simp [hcl, hnl, Nat.add_mul], .inr ⟨w.heap.size, _, e, rfl, rfl, heap_alloc_new w.drew _, ?_, ?_⟩⟩, ?_, ?_⟩
  ·rcases hni with ⟨q, rfl⟩ | rfl <;> simp [Builtin.append_, run_underlying hu, run_underlying htx, sizeOf, zeroValue, typeInfo, hi, hz', hlen, hfc w.drew rfl, hold w.drew rfl, hroom, hbz, hfit, newRow, grownCap, Question.forced] <;> (rw [← Array.append_assoc]; simp)
  ·simp only [Array.size_append, List.size_toArray, size_zeroCells, hzs, hcl, hnl, ← Nat.add_mul]
   congr 1
   omega
  ·simp only [Array.toList_append]
   have : (cs ++ news).length = (n + m) * i.size := by simp [hcl, hnl, Nat.add_mul]
   rw [← this]
   exact List.take_left
  ·exact (Upd.alloc F w.drew _).trans (Upd.refl F _) (fun _ _ x => x) |> fun u => ⟨u.os, u.tape, u.output, u.size, u.block⟩
  ·intro k hk
   subst hk
   simp
end
section
variable {P : Program} {ops : Array Oper} {Q : Exit → Act → World → Prop} {rest : List Oper} {n : Nat} {l : Env} {w0 w : World} {F0 : Foot} {o : Oper} {v : Value} {As Rs : List SP} {x y : Operand} {t : TypeId}
theorem firstCells_row {size m c : Nat} {B : Option Addr} {news : List Value} {F : Foot} (h : RowR w F B news) (hnl : news.length = m * size) (hm : B = none → m = 0) :
  ∀ w' : World, w'.heap = w.heap → (Builtin.firstCells size m (.slice B m c)).run P w' = .ok news.toArray w' := by
 intro w' hw'
 cases B with
 | none =>
  obtain rfl := hm rfl
  obtain rfl : news = [] := List.eq_nil_of_length_eq_zero (by simpa using hnl)
  simp [Builtin.firstCells]
 | some a =>
  refine run_firstCells_some w' size m a m c news hnl (fun j v hv => ?_)
  obtain ⟨b, off, e, hc⟩ := h.cell hv
  cases e
  have : w'.cell? ⟨b, off + j, none⟩ = w.cell? ⟨b, off + j, none⟩ := by simp [World.cell?, hw']
  rw [add_of, this]
  exact hc
theorem s_appF {α : Type} {enc : α → List Value} {sz : Nat} {hp : 0 < sz} {hl : ∀ x, (enc x).length = sz} {h1 : ∀ x, ∀ c ∈ enc x, c.oneCell' = true} {e bytes : Nat} {z u : Value} {xs ys : List α} {B : Option Addr} {m c2 : Nat}
  (hg : gd ops l o = some true) (hd : dok n o.dst = true) (ho : o.op = .call { callee := .builtin .append, args := #[x, y], argTypes := #[t, t] }) (hs : slOf P t = some (e, sz, bytes)) (hz : zrOf P e = some z) (hzs : z.cells.size = sz) (hb0 : 0 < bytes)
  (hx : ev l x = some u) (hy : ev l y = some (.slice B m c2)) (H : Hd w0 F0 w (osl (flat enc sz hp hl h1) u xs :: As) Rs) (hb : (xs.length + m) * bytes ≤ 140737488355328)
  (hn : ∀ F, (∀ A ∈ As, A.P w F) → (∀ R ∈ Rs, R.P w F) → (rsl (flat enc sz hp hl h1) (.slice B m c2) ys).P w F)
  (h : ∀ u' w', Hd w0 F0 w' (osl (flat enc sz hp hl h1) u' (xs ++ ys) :: As) Rs → WL P ops Q rest n (upO l o.dst u') w') : WL P ops Q (o :: rest) n l w := by
 obtain ⟨F, hF1, hF2⟩ : ∃ F, (∀ A ∈ As, A.P w F) ∧ (∀ R ∈ Rs, R.P w F) := H.read fun F a r => ⟨F, fun A hA => a A (List.mem_cons_of_mem _ hA), r⟩
 obtain ⟨hyl, _, _, news, hnr, hnR⟩ : slR (flat enc sz hp hl h1) w F ys B m c2 := by
  obtain ⟨A', n', c', e', h'⟩ := hn F hF1 hF2
  cases e'
  exact h'
 have hnl : news.length = m * sz := by rw [hnR.len, hyl]; rfl
 have hm0 : B = none → m = 0 := by
  intro hB
  rcases hnr.2 with rfl | ⟨b, off, C, t', fr, e', _⟩
  ·have : m * sz = 0 := by rw [← hnl]; rfl
   exact (Nat.mul_eq_zero.1 this).resolve_right (by omega)
  ·rw [hB] at e'; cases e'
 obtain ⟨hu, i, hi, hi1, hi2⟩ := slOf_spec hs
 have hfc := firstCells_row (P := P) (c := c2) hnr hnl hm0
 have key : ∀ F1, (osl (flat enc sz hp hl h1) u xs).P w F1 → (∀ k, F1 k → k < w.heap.size) → ∃ A c A' c' w' F', u = .slice A xs.length c ∧ (Builtin.append_ #[t, t] o.type #[u, .slice B m c2]).run P w = .ok (.slice A' (xs.length + m) c') w' ∧ (osl (flat enc sz hp hl h1) (.slice A' (xs.length + m) c') (xs ++ ys)).P w' F' ∧ Upd F1 w w' ∧ (∀ k, F' k → k < w'.heap.size ∧ (F1 k ∨ w.heap.size ≤ k)) := by
  rintro F1 ⟨A, n', c, e', hxl, cs, G1, G2, g1, g2, gd, hr, hR⟩ hlt
  cases e'
  subst hxl
  obtain ⟨A', c', w', F', hrun, hrow, hupd, hF'⟩ := run_append_gen (P := P) (tx := t) (ty := o.type) (x := .slice B m c2) (m := m) (news := news) hs hz hzs hu (.inl ⟨e, rfl⟩) hr (fun k hk => hlt k (g1 k hk)) (by simp [Builtin.lenOf]) hfc hnl hnR.one hb0 hb
  refine ⟨A, c, A', c', w', F', rfl, hrun, ?_, ⟨hupd.os, hupd.tape, hupd.output, hupd.size, fun k hk hn' => hupd.block k hk (fun q => hn' (g1 k q))⟩, fun k hk => ⟨(hF' k hk).1, (hF' k hk).2.imp (g1 k) id⟩⟩
  exact ⟨A', _, c', rfl, by simp [hyl], cs ++ news, F', none_, fun _ q => q, fun _ q => q.elim, fun _ _ q => q, hrow, RepsO.flatR (F := none_) (RepsR.flat_eq.2 (by rw [RepsR.flat_eq.1 hR.toR, RepsR.flat_eq.1 hnR]; simp))⟩
 have hall : ∃ F1, (osl (flat enc sz hp hl h1) u xs).P w F1 ∧ ∀ k, F1 k → k < w.heap.size := by
  obtain ⟨F, G, ⟨F1, F2, a1, a2, a3, a, s⟩, r, d, f, g, u⟩ := H
  exact ⟨F1, a, fun k hk => (f k (a1 k hk)).1⟩
 obtain ⟨F1, hO, hlt⟩ := hall
 obtain ⟨A, c, A', c', w', F', hue, hrun, _, _, _⟩ := key F1 hO hlt
 refine s_val hg hd (v := .slice A' (xs.length + m) c') (w' := w') (fun a ha => ?_) (h _ _ (H.grow fun F2 hO2 hlt2 => ?_))
 ·simp [execOp, ho, resolve, ha.eval hx, ha.eval hy, invoke, builtin, hrun]
 ·obtain ⟨A3, c3, A4, c4, w4, F4, _, hrun4, h4, h5, h6⟩ := key F2 hO2 hlt2
  rw [hrun] at hrun4
  cases hrun4
  exact ⟨F4, h4, h5, h6⟩
theorem s_appO {α : Type} {d : Kd α} {E : SP} {e bytes : Nat} {z u : Value} {xs ys : List α} {B : Option Addr} {m c2 : Nat}
  (hg : gd ops l o = some true) (hd : dok n o.dst = true) (ho : o.op = .call { callee := .builtin .append, args := #[x, y], argTypes := #[t, t] }) (hs : slOf P t = some (e, d.sz, bytes)) (hz : zrOf P e = some z) (hzs : z.cells.size = d.sz) (hb0 : 0 < bytes)
  (hx : ev l x = some u) (hy : ev l y = some (.slice B m c2)) (H : Hd w0 F0 w (osl d u xs :: E :: As) Rs) (hb : (xs.length + m) * bytes ≤ 140737488355328)
  (hyl : ys.length = m) (hE : ∀ F, E.P w F → ∃ news, RowR w F B news ∧ RepsO d w F ys news)
  (h : ∀ u' w', Hd w0 F0 w' (osl d u' (xs ++ ys) :: As) Rs → WL P ops Q rest n (upO l o.dst u') w') : WL P ops Q (o :: rest) n l w := by
 have H2 : Hd w0 F0 w (star [osl d u xs, E] :: As) Rs := H.shut (Bs := [osl d u xs, E]) (fun F hF => hF)
 obtain ⟨hu, i, hi, hi1, hi2⟩ := slOf_spec hs
 have hpos := d.pos
 have key : ∀ F1, (star [osl d u xs, E]).P w F1 → (∀ k, F1 k → k < w.heap.size) → ∃ A' c' w' F', (Builtin.append_ #[t, t] o.type #[u, .slice B m c2]).run P w = .ok (.slice A' (xs.length + m) c') w' ∧ (osl d (.slice A' (xs.length + m) c') (xs ++ ys)).P w' F' ∧ Upd F1 w w' ∧ (∀ k, F' k → k < w'.heap.size ∧ (F1 k ∨ w.heap.size ≤ k)) := by
  rintro F1 ⟨K1, K2, k1, k2, kd, ⟨A, n', c, e', hxl, cs, G1, G2, g1, g2, gd, hr, hR⟩, K3, K4, k3, k4, kd', hEP, _⟩ hlt
  cases e'
  subst hxl
  obtain ⟨news, hnr, hnO⟩ := hE K3 hEP
  have hnl : news.length = m * d.sz := by rw [hnO.toR.len, hyl]
  have hm0 : B = none → m = 0 := by
   intro hB
   rcases hnr.2 with rfl | ⟨b, off, C, t', fr, e', _⟩
   ·have : m * d.sz = 0 := by rw [← hnl]; rfl
    exact (Nat.mul_eq_zero.1 this).resolve_right (by omega)
   ·rw [hB] at e'; cases e'
  have hfc := firstCells_row (P := P) (c := c2) hnr hnl hm0
  obtain ⟨A', c', w', F', hrun, hrow, hupd, hF'⟩ := run_append_gen (P := P) (tx := t) (ty := o.type) (x := .slice B m c2) (m := m) (news := news) hs hz hzs hu (.inl ⟨e, rfl⟩) hr (fun k hk => hlt k (k1 k (g1 k hk))) (by simp [Builtin.lenOf]) hfc hnl hnO.toR.one hb0 hb
  have hsz := hupd.size
  refine ⟨A', c', w', fun k => F' k ∨ G2 k ∨ K3 k, hrun, ?_, ⟨hupd.os, hupd.tape, hupd.output, hupd.size, fun k hk hn' => hupd.block k hk (fun q => hn' (k1 k (g1 k q)))⟩, ?_⟩
  ·refine ⟨A', _, c', rfl, by simp [hyl], cs ++ news, F', fun k => G2 k ∨ K3 k, fun _ => .inl, fun _ => .inr, ?_, hrow, RepsO.append (F1 := G2) (F2 := K3) (fun _ => .inl) (fun _ => .inr) ?_ (hR.loc ?_) (hnO.loc ?_)⟩
   ·intro k hk hq
    have hold : k < w.heap.size := hq.elim (fun q => hlt k (k1 k (g2 k q))) (fun q => hlt k (k2 k (k3 k q)))
    rcases (hF' k hk).2 with hg | hg
    ·exact hq.elim (gd k hg) (fun q => kd k (g1 k hg) (k3 k q))
    ·omega
   ·exact fun k a b => kd k (g2 k a) (k3 k b)
   ·exact fun k hk => hupd.block k (hlt k (k1 k (g2 k hk))) (fun q => gd k q hk)
   ·exact fun k hk => hupd.block k (hlt k (k2 k (k3 k hk))) (fun q => kd k (g1 k q) (k3 k hk))
  ·intro k hk
   rcases hk with hk | hk | hk
   ·exact ⟨(hF' k hk).1, (hF' k hk).2.imp (fun q => k1 k (g1 k q)) id⟩
   ·exact ⟨Nat.lt_of_lt_of_le (hlt k (k1 k (g2 k hk))) hsz, .inl (k1 k (g2 k hk))⟩
   ·exact ⟨Nat.lt_of_lt_of_le (hlt k (k2 k (k3 k hk))) hsz, .inl (k2 k (k3 k hk))⟩
 have hall : ∃ F1, (star [osl d u xs, E]).P w F1 ∧ ∀ k, F1 k → k < w.heap.size := by
  obtain ⟨F, G, ⟨F1, F2, a1, a2, a3, a, s⟩, r, d, f, g, u⟩ := H2
  exact ⟨F1, a, fun k hk => (f k (a1 k hk)).1⟩
 obtain ⟨F1, hO, hlt⟩ := hall
 obtain ⟨A', c', w', F', hrun, _, _, _⟩ := key F1 hO hlt
 refine s_val hg hd (v := .slice A' (xs.length + m) c') (w' := w') (fun a ha => ?_) (h _ _ (H2.grow fun F2 hO2 hlt2 => ?_))
 ·simp [execOp, ho, resolve, ha.eval hx, ha.eval hy, invoke, builtin, hrun]
 ·obtain ⟨A4, c4, w4, F4, hrun4, h4, h5, h6⟩ := key F2 hO2 hlt2
  rw [hrun] at hrun4
  cases hrun4
  exact ⟨F4, h4, h5, h6⟩
theorem blk_rsl {α : Type} {d : Kd α} {b : Nat} {cs : List Value} {e : TypeId} {xs : List α} {F : Foot} {m : Nat} (h : (blk b cs e).P w F) (hx : xs.length = m) (hm : m ≤ 9223372036854775807) (hr : RepsR d w F xs cs) : (rsl d (.slice (some ⟨b, 0, none⟩) m m) xs).P w F := by
 refine ⟨_, _, _, rfl, hx, Nat.le_refl _, hm, cs, ⟨trivial, .inr ⟨b, 0, _, _, _, rfl, h.1, h.2, by simp⟩⟩, hr⟩
theorem osl_nil {α : Type} (d : Kd α) (w : World) (F : Foot) {A : Option Addr} (hA : Plain A) : (osl d (.slice A 0 0) ([] : List α)).P w F :=
 ⟨A, 0, 0, rfl, rfl, [], none_, none_, fun _ q => q.elim, fun _ q => q.elim, fun _ q => q.elim, ⟨Nat.le_refl _, by omega, by simp, .inl ⟨rfl, hA⟩⟩, rfl⟩
theorem Hd.newnil {α : Type} (d : Kd α) (H : Hd w0 F0 w As Rs) : Hd w0 F0 w (osl d (.slice none 0 0) [] :: As) Rs :=
 H.new (Upd.refl _ _) (F' := none_) (osl_nil d w none_ trivial) (fun _ q => q.elim)
end
theorem w64 {x : Int} (h0 : -9223372036854775808 ≤ x) (h1 : x ≤ 9223372036854775807) : IntKind.i64.wrap x = x := by
 simp only [IntKind.wrap, IntKind.bits, IntKind.signed]
 simp
 omega
theorem wu64 {x : Int} (h0 : 0 ≤ x) (h1 : x ≤ 18446744073709551615) : IntKind.u64.wrap x = x := by
 simp only [IntKind.wrap, IntKind.bits, IntKind.signed]
 simp
 omega
theorem wrapU (x : Int) : 0 ≤ IntKind.u64.wrap x ∧ IntKind.u64.wrap x ≤ 18446744073709551615 := by
 simp only [IntKind.wrap, IntKind.bits, IntKind.signed]
 simp
 omega
def bOf : Option Addr → Nat
 | some a => a.block
 | none => 0
def oOf : Option Addr → Nat
 | some a => a.off
 | none => 0
def There (A : Option Addr) : Prop := A = some ⟨bOf A, oOf A, none⟩
theorem there {A : Option Addr} {b off : Nat} (h : A = some ⟨b, off, none⟩) : There A := by subst h; rfl
section
variable {P : Program} {n : Nat} {l : Env} {w0 w : World} {F0 : Foot} {o : Oper} {v u : Value} {x y : Operand} {t : TypeId} {As Rs : List SP}
theorem Hd.cellI {b : Nat} {cs : List Value} {bt : TypeId} (H : Hd w0 F0 w As Rs) (i : Nat) (hi : As[i]? = some (blk b cs bt)) {j : Nat} (hv : cs[j]? = some v) : w.cell? ⟨b, j, none⟩ = some v := H.cell (List.mem_of_getElem? hi) hv
theorem Hd.cellRI {b : Nat} {cs : List Value} {bt : TypeId} (H : Hd w0 F0 w As Rs) (i : Nat) (hi : Rs[i]? = some (blk b cs bt)) {j : Nat} (hv : cs[j]? = some v) : w.cell? ⟨b, j, none⟩ = some v := H.cellR (List.mem_of_getElem? hi) hv
theorem Hd.cellsI {b : Nat} {cs ds : List Value} {bt : TypeId} (H : Hd w0 F0 w As Rs) (i : Nat) (hi : As[i]? = some (blk b cs bt)) {off : Nat} (hv : (cs.drop off).take ds.length = ds) : ∀ j v, ds[j]? = some v → w.cell? ((⟨b, off, none⟩ : Addr).add j) = some v := by
 intro j v hj
 rw [add_of]
 refine H.cellI i hi ?_
 rw [← hv, List.getElem?_take] at hj
 split at hj
 ·rwa [List.getElem?_drop] at hj
 ·cases hj
theorem r_iaE {tt e size bytes : TypeId} {A : Option Addr} {m c : Nat} {k : IntKind} {i : Int} {p : Nat} (ho : o.op = .indexAddr tt x y) (hs : slOf P tt = some (e, size, bytes)) (hx : ev l x = some (.slice A m c)) (hy : ev l y = some (.int k i))
  (h0 : 0 ≤ i) (h1 : i < (m : Int)) (hA : There A) (hp : oOf A + i.toNat * size = p) : Run P n l w o (.pointer (some ⟨bOf A, p, none⟩)) w := by
 exact r_ia (b := bOf A) (off := oOf A) (c := c) ho hs (hx.trans (congrArg (fun q => some (Value.slice q m c)) hA)) hy h0 h1 hp
variable {α : Type} {enc : α → List Value} {sz : Nat} {hp : 0 < sz} {hl : ∀ x, (enc x).length = sz} {h1 : ∀ x, ∀ c ∈ enc x, c.oneCell' = true} {xs : List α} {A : Option Addr} {m c : Nat}
theorem flat_cell {F : Foot} (h : (rsl (flat enc sz hp hl h1) (.slice A m c) xs).P w F) {i : Nat} {x : α} (hx : xs[i]? = some x) {j p : Nat} {u : Value} (hu : (enc x)[j]? = some u) (hpj : oOf A + i * sz + j = p) : w.cell? ⟨bOf A, p, none⟩ = some u := by
 obtain ⟨b, off, e, hc⟩ := rsl_flat h hx
 subst e
 subst hpj
 exact hc j u hu
theorem flat_there {F : Foot} (h : (rsl (flat enc sz hp hl h1) (.slice A m c) xs).P w F) {i : Nat} {x : α} (hx : xs[i]? = some x) : There A := by
 obtain ⟨b, off, e, hc⟩ := rsl_flat h hx
 exact there e
theorem Hd.thR (H : Hd w0 F0 w As Rs) (j : Nat) (hj : Rs[j]? = some (rsl (flat enc sz hp hl h1) (.slice A m c) xs)) {i : Nat} {x : α} (hx : xs[i]? = some x) : There A := H.factR (List.mem_of_getElem? hj) fun _ h => flat_there h hx
theorem Hd.thA (H : Hd w0 F0 w As Rs) (j : Nat) (hj : As[j]? = some (osl (flat enc sz hp hl h1) (.slice A m c) xs)) {i : Nat} {x : α} (hx : xs[i]? = some x) : There A := H.fact (List.mem_of_getElem? hj) fun F h => flat_there (own_rd F h) hx
theorem Hd.elR (H : Hd w0 F0 w As Rs) (j : Nat) (hj : Rs[j]? = some (rsl (flat enc sz hp hl h1) (.slice A m c) xs)) {i : Nat} {x : α} (hx : xs[i]? = some x) {q p : Nat} {u : Value} (hu : (enc x)[q]? = some u) (hpj : oOf A + i * sz + q = p) : w.cell? ⟨bOf A, p, none⟩ = some u :=
 H.factR (List.mem_of_getElem? hj) fun _ h => flat_cell h hx hu hpj
theorem Hd.elA (H : Hd w0 F0 w As Rs) (j : Nat) (hj : As[j]? = some (osl (flat enc sz hp hl h1) (.slice A m c) xs)) {i : Nat} {x : α} (hx : xs[i]? = some x) {q p : Nat} {u : Value} (hu : (enc x)[q]? = some u) (hpj : oOf A + i * sz + q = p) : w.cell? ⟨bOf A, p, none⟩ = some u :=
 H.fact (List.mem_of_getElem? hj) fun F h => flat_cell (own_rd F h) hx hu hpj
theorem Hd.elsR (H : Hd w0 F0 w As Rs) (j : Nat) (hj : Rs[j]? = some (rsl (flat enc sz hp hl h1) (.slice A m c) xs)) {i : Nat} {x : α} (hx : xs[i]? = some x) {p : Nat} (hpj : oOf A + i * sz = p) : ∀ q v, (enc x)[q]? = some v → w.cell? ((⟨bOf A, p, none⟩ : Addr).add q) = some v := by
 intro q v hq
 rw [add_of]
 exact H.elR j hj hx hq (by rw [hpj])
theorem Hd.elsA (H : Hd w0 F0 w As Rs) (j : Nat) (hj : As[j]? = some (osl (flat enc sz hp hl h1) (.slice A m c) xs)) {i : Nat} {x : α} (hx : xs[i]? = some x) {p : Nat} (hpj : oOf A + i * sz = p) : ∀ q v, (enc x)[q]? = some v → w.cell? ((⟨bOf A, p, none⟩ : Addr).add q) = some v := by
 intro q v hq
 rw [add_of]
 exact H.elA j hj hx hq (by rw [hpj])
theorem Hd.keep : ∀ (k : Nat) {As : List SP}, Hd w0 F0 w As Rs → Hd w0 F0 w (As.take k) Rs
 | k, As, h => by
  have : Hd w0 F0 w (As.take k ++ As.drop k) Rs := by rwa [List.take_append_drop]
  obtain ⟨Fc, h1, h2⟩ := this.frame (Ss := Rs) (fun S hS F _ hR => hR S hS)
  have h3 := this
  obtain ⟨F, G, s, r, d, f, g, u⟩ := h3
  obtain ⟨F1, F2, a1, a2, a3, s1, s2⟩ := s.append_out
  exact ⟨F1, G, s1, r, fun k hk => d k (a1 k hk), fun k hk => f k (a1 k hk), g, u⟩
theorem getD_range {α : Type} (l : List α) (d : α) : (List.range l.length).map (fun i => l.getD i d) = l := by
 apply List.ext_getElem?
 intro k
 rw [List.getElem?_map]
 rcases Nat.lt_or_ge k l.length with h | h
 ·rw [List.getElem?_range h, Option.map_some, List.getElem?_eq_getElem h]
  simp [h]
 ·rw [List.getElem?_eq_none (by simpa using h), List.getElem?_eq_none h]
  rfl
theorem Hd.sel {As : List SP} (n : Nat) (is js : List Nat) (hn : As.length = n) (h : (is ++ js).isPerm (List.range n) = true) (H : Hd w0 F0 w As Rs) : Hd w0 F0 w (is.map fun i => As.getD i (pure_ True)) Rs := by
 subst hn
 have p1 := (List.isPerm_iff.1 h).map fun i => As.getD i (pure_ True)
 rw [getD_range, List.map_append] at p1
 have h1 := (H.perm p1.symm).keep (is.map fun i => As.getD i (pure_ True)).length
 rwa [List.take_left] at h1
theorem Hd.fR (H : Hd w0 F0 w As Rs) (j : Nat) {d : Kd α} (hj : Rs[j]? = some (rsl d v xs)) : ∃ A c, v = .slice A xs.length c ∧ xs.length ≤ c ∧ c ≤ 9223372036854775807 ∧ Plain A := H.form (List.mem_of_getElem? hj)
theorem Hd.fA (H : Hd w0 F0 w As Rs) (j : Nat) {d : Kd α} (hj : As[j]? = some (osl d v xs)) : ∃ A c, v = .slice A xs.length c ∧ xs.length ≤ c ∧ c ≤ 9223372036854775807 ∧ Plain A := H.formO (List.mem_of_getElem? hj)
theorem s_boo {P : Program} {ops : Array Oper} {Q : Exit → Act → World → Prop} {rest : List Oper} {d : Nat} {b : Bool} (hc : lk l d = some (.bool b)) (ht : b = true → WL P ops Q rest n ((d, .bool true) :: l) w) (hf : b = false → WL P ops Q rest n ((d, .bool false) :: l) w) : WL P ops Q rest n l w := by
 have hc' : lk l d = some (.bool (decide (b = true))) := by cases b <;> exact hc
 exact s_dec hc' ht (fun h => hf (by simpa using h))
end
theorem sc {P : Program} {ops : Array Oper} {Q : Exit → Act → World → Prop} {rest : List Oper} {n : Nat} {l : Env} {w0 w : World} {F0 : Foot} {o : Oper} {As Rs Cs Ss : List SP} {f : FuncId} {args : List Value} {T : Value → List SP → Prop}
  (hc : Cn P f args Cs Ss T) (H : Hd w0 F0 w (Cs ++ As) Rs) (hl : Lends w As Rs Ss) (hg : gd ops l o = some true) (hd : dok n o.dst = true) (hr : Enters P n l w o f args.toArray)
  (h : ∀ v Bs w', T v Bs → Hd w0 F0 w' (Bs ++ As) Rs → WL P ops Q rest n (upO l o.dst v) w') : WL P ops Q (o :: rest) n l w := s_cn hg hd hr hc H hl h
theorem fin {T : Value → List SP → Prop} {w0 w : World} {F0 : Foot} {v : Value} {Bs Rs : List SP} (ht : T v Bs) (H : Hd w0 F0 w Bs Rs) : Ret (fun v w' => ∃ Bs, T v Bs ∧ Hd w0 F0 w' Bs Rs) (.returned v) w := ⟨v, rfl, Bs, ht, H⟩
/-! ### Lists -/
theorem take_more {α : Type} {xs ys : List α} {k : Nat} {x : α} (hx : xs[k]? = some x) (hy : ys[k]? = some x) (h : xs.take k = ys.take k) : xs.take (k + 1) = ys.take (k + 1) := by
 rw [List.take_add_one, List.take_add_one, hx, hy, h]
theorem take_snoc {α : Type} {xs : List α} {k : Nat} {x : α} (hx : xs[k]? = some x) : xs.take (k + 1) = xs.take k ++ [x] := by
 rw [List.take_add_one, hx]; rfl
theorem take_all {α : Type} {xs : List α} {k : Nat} (h : xs.length ≤ k) : xs.take k = xs := List.take_of_length_le h
theorem lt_of_some {α : Type} {xs : List α} {k : Nat} {x : α} (hx : xs[k]? = some x) : k < xs.length := by
 rcases Nat.lt_or_ge k xs.length with h | h
 ·exact h
 ·simp [List.getElem?_eq_none h] at hx
def Old (w : World) : Foot := fun k => k < w.heap.size
def Opens {α : Type} (P : Program) (t : TypeId) (d : Kd α) (W : α → Prop) : Prop :=
 ∀ {H : Type} (enc : TypeId × Value → H) (w : World) (fuel : Nat) (cs : List Value) (x : DataW H × List MemPlace), DataW.trod enc P w 0 (fun _ => true) true fuel t cs = some x → ∃ a, d.R w (Old w) a cs ∧ W a
def In64 (x : Int) : Prop := -9223372036854775808 ≤ x ∧ x ≤ 9223372036854775807
section
variable {P : Program} {t : TypeId}
theorem opens_int (hu : P.underlying t = some (.int .i64)) : Opens P t (kInt .i64) In64 := by
 intro H enc w fuel cs x h
 obtain ⟨n, rfl, _, hw⟩ := DataW.trod_int hu h
 refine ⟨n, rfl, ?_⟩
 simp [Lit.wf, IntKind.min, IntKind.max, IntKind.bits, IntKind.signed] at hw
 exact hw
theorem cells?_spec {w : World} {a : Addr} : ∀ {n : Nat} {cs : List Value}, w.cells? 0 a n = some cs → cs.length = n ∧ ∀ j v, cs[j]? = some v → w.cell? (a.add j) = some v := by
 intro n cs h
 simp only [World.cells?, Nat.zero_le, if_true] at h
 have hl := mapM_some_length h
 refine ⟨by simpa using hl, fun j v hj => ?_⟩
 have hlt : j < n := by
  rcases Nat.lt_or_ge j cs.length with h' | h'
  ·simp at hl; omega
  ·simp [List.getElem?_eq_none h'] at hj
 have := mapM_some_get h j j (by simp [hlt])
 rw [this, hj]
theorem cell_block {w : World} {a : Addr} {v : Value} (h : w.cell? a = some v) : a.spot = none ∧ ∃ C t fr, w.heap[a.block]? = some (.cells C t fr) ∧ C[a.off]? = some v := by
 unfold World.cell? at h
 split at h
 ·rename_i C t fr hb
  split at h
  ·cases h
  ·rename_i hs
   exact ⟨by simpa using hs, C, t, fr, hb, h⟩
 ·cases h
theorem row_of_cells {w : World} {a : Addr} {cs : List Value} (h : ∀ j v, cs[j]? = some v → w.cell? (a.add j) = some v) : RowR w (Old w) (some a) cs := by
 refine ⟨trivial, ?_⟩
 cases cs with
 | nil => exact .inl rfl
 | cons c cs =>
  right
  have h0 := h 0 c rfl
  have ha0 : a.add 0 = a := by simp [Addr.add]
  rw [ha0] at h0
  obtain ⟨hs, C, t, fr, hb, hc⟩ := cell_block h0
  obtain ⟨b, off, sp⟩ := a
  simp only at hs hb hc
  subst hs
  refine ⟨b, off, C, t, fr, rfl, (Array.getElem?_eq_some_iff.1 hb).1, hb, ?_⟩
  apply List.ext_getElem?
  intro j
  rw [List.getElem?_take]
  split
  ·rename_i hj
   rw [List.getElem?_drop]
   have hv := h j (c :: cs)[j] (by simp [List.getElem?_eq_getElem hj])
   rw [add_of] at hv
   obtain ⟨_, C', t', fr', hb', hc'⟩ := cell_block hv
   simp only at hb' hc'
   rw [hb] at hb'
   cases hb'
   rw [List.getElem?_eq_getElem hj, ← hc']
   simp
  ·rename_i hj
   rw [List.getElem?_eq_none (by omega)]
theorem opens_sl {α : Type} {d : Kd α} {W : α → Prop} {e size bytes : Nat} (hs : slOf P t = some (e, size, bytes)) (hd : d.sz = size) (he : Opens P e d W) : Opens P t (kSl d) (fun xs => (∀ x ∈ xs, W x) ∧ xs.length ≤ 9223372036854775807) := by
 intro H enc w fuel cs x h
 obtain ⟨hu, i, hi, hsz, _⟩ := slOf_spec hs
 have hc : P.cellsOf e = d.sz := by simp [Program.cellsOf, hi, hsz, hd]
 rcases DataW.trod_slice hu h with ⟨rfl, _⟩ | ⟨a, len, cap, elems, rest, n, _, rfl, _, _, hl, hm, hlen, hel, _, _⟩
 ·refine ⟨[], ⟨none, 0, 0, rfl, rfl, Nat.le_refl _, by omega, [], ⟨trivial, .inl rfl⟩, rfl⟩, by simp, by simp⟩
 ·have hm' : cap ≤ 9223372036854775807 := by simpa [maxLen] using hm
  have each : ∀ k, k < len → ∃ (y : α) (c : List Value), d.R w (Old w) y c ∧ W y ∧ c.length = d.sz ∧ ∀ j v, c[j]? = some v → w.cell? (a.add (k * d.sz + j)) = some v := by
   intro k hk
   have h1 := hel k hk
   rw [List.getElem?_eq_getElem (by omega), Option.bind_eq_some_iff] at h1
   obtain ⟨c, hc1, hc2⟩ := h1
   obtain ⟨y, hy, hW⟩ := he enc w n c _ hc2
   obtain ⟨hcl, hcc⟩ := cells?_spec hc1
   refine ⟨y, c, hy, hW, by rw [hcl, hc], fun j v hj => ?_⟩
   have h2 := hcc j v hj
   have h3 : (a.add (k * P.cellsOf e)).add j = a.add (k * d.sz + j) := by
    rw [hc]
    unfold Addr.add
    by_cases h4 : k * d.sz = 0 <;> by_cases h5 : j = 0 <;> simp [h4, h5, Nat.add_assoc]
   rwa [h3] at h2
  have all : ∀ k, k ≤ len → ∃ (ys : List α) (cs : List Value), ys.length = k ∧ RepsR d w (Old w) ys cs ∧ cs.length = k * d.sz ∧ (∀ y ∈ ys, W y) ∧ ∀ j v, cs[j]? = some v → w.cell? (a.add j) = some v := by
   intro k
   induction k with
   | zero => exact fun _ => ⟨[], [], rfl, rfl, by simp, by simp, by simp⟩
   | succ k ih =>
    intro hk
    obtain ⟨ys, cs, h1, h2, h3, h4, h5⟩ := ih (by omega)
    obtain ⟨y, c, g1, g2, g3, g4⟩ := each k (by omega)
    refine ⟨ys ++ [y], cs ++ c, by simp [h1], h2.append ⟨c, [], by simp, g1, rfl⟩, by simp [h3, g3, Nat.succ_mul], ?_, ?_⟩
    ·intro z hz
     simp at hz
     exact hz.elim (h4 z) (fun e => e ▸ g2)
    ·intro j v hj
     rcases Nat.lt_or_ge j cs.length with hlt | hge
     ·exact h5 j v (by rwa [List.getElem?_append_left hlt] at hj)
     ·rw [List.getElem?_append_right hge] at hj
      have := g4 _ v hj
      rwa [show k * d.sz + (j - cs.length) = j by omega] at this
  obtain ⟨ys, cs, h1, h2, h3, h4, h5⟩ := all len (Nat.le_refl _)
  exact ⟨ys, ⟨some a, len, cap, rfl, h1, hl, hm', cs, row_of_cells h5, h2⟩, h4, by omega⟩
def stOf (P : Program) (t : TypeId) : Option (List (TypeId × Nat × Nat)) :=
 match P.underlying t with
 | some (.struct fs) => some (fs.toList.map fun f => (f.type, f.offset, P.cellsOf f.type))
 | _ => none
theorem open_st {H : Type} {enc : TypeId × Value → H} {w : World} {fuel : Nat} {cs : List Value} {x : DataW H × List MemPlace} {l : List (TypeId × Nat × Nat)} (hs : stOf P t = some l) (h : DataW.trod enc P w 0 (fun _ => true) true fuel t cs = some x) :
  cs.length = P.cellsOf t ∧ ∃ n, ∀ (i : Nat) (ty off sz : Nat), l[i]? = some (ty, off, sz) → ∃ y, DataW.trod enc P w 0 (fun _ => true) true n ty ((cs.drop off).take sz) = some y := by
 unfold stOf at hs
 split at hs
 ·rename_i fs hu
  obtain ⟨xs, n, _, _, hl, hxl, hf⟩ := DataW.trod_struct hu h
  refine ⟨hl, n, fun i ty off sz hi => ?_⟩
  have hl' : l = fs.toList.map fun f => (f.type, f.offset, P.cellsOf f.type) := by simpa using hs.symm
  subst hl'
  simp only [List.getElem?_map, Option.map_eq_some_iff] at hi
  obtain ⟨f, hf1, hf2⟩ := hi
  simp only [Prod.mk.injEq] at hf2
  obtain ⟨rfl, rfl, rfl⟩ := hf2
  have := hf i f (by simpa using hf1)
  rw [this]
  have hlt : i < xs.length := by
   rw [hxl]
   rcases Nat.lt_or_ge i fs.size with h' | h'
   ·exact h'
   ·simp [h'] at hf1
  exact ⟨_, List.getElem?_eq_getElem hlt⟩
 ·cases hs
end
theorem law_run {P : Program} {f : FuncId} {args : List Value} {Rs : List SP} {T : Value → List SP → Prop} {u : Value} {W : World} (hc : Cn P f args [] Rs T) (hR : ∀ R ∈ Rs, R.P W (Old W)) (hT : ∀ v Bs, T v Bs → v = u) :
  Calls P f args.toArray W fun e W' => e = .returned u ∧ Go.RowKit.Below W.heap.size W W' := by
 refine (hc W none_ (Hd.begin (G := Old W) trivial hR (fun _ h => h.elim) (fun _ h => h.elim) (fun _ h => h))).mono ?_
 rintro e W' ⟨v, rfl, Bs, t, H⟩
 exact ⟨by rw [hT v Bs t], H.upd.below⟩
/-! ### Structs that lead nowhere -/
structure Pair where
 key : ByteArray
 val : ByteArray
deriving DecidableEq
def encPair (p : Pair) : List Value := [.string p.key, .string p.val]
def kPair : Kd Pair := flat encPair 2 (by omega) (fun _ => rfl) (fun _ c h => by simp [encPair] at h; rcases h with rfl | rfl <;> rfl)
theorem opens_pair {P : Program} {t s : TypeId} (hs : stOf P t = some [(s, 0, 1), (s, 1, 1)]) (hc : P.cellsOf t = 2) (hu : P.underlying s = some .string) : Opens P t kPair (fun p => p.key.size ≤ 9223372036854775807 ∧ p.val.size ≤ 9223372036854775807) := by
 intro H enc w fuel cs x h
 obtain ⟨hl, n, hf⟩ := open_st hs h
 rw [hc] at hl
 obtain ⟨y0, h0⟩ := hf 0 _ _ _ rfl
 obtain ⟨y1, h1⟩ := hf 1 _ _ _ rfl
 obtain ⟨a, b, rfl⟩ : ∃ a b, cs = [a, b] := by
  match cs, hl with
  | [a, b], _ => exact ⟨a, b, rfl⟩
 obtain ⟨s0, e0, _, l0⟩ := DataW.trod_string hu h0
 obtain ⟨s1, e1, _, l1⟩ := DataW.trod_string hu h1
 simp at e0 e1
 subst e0 e1
 exact ⟨⟨s0, s1⟩, rfl, by simpa [maxLen] using l0, by simpa [maxLen] using l1⟩
structure Ins where
 op : Int
 a : Int
 s : ByteArray
deriving DecidableEq
def encIns (p : Ins) : List Value := [.int .i64 p.op, .int .i64 p.a, .string p.s]
def kIns : Kd Ins := flat encIns 3 (by omega) (fun _ => rfl) (fun _ c h => by simp [encIns] at h; rcases h with rfl | rfl | rfl <;> rfl)
theorem opens_ins {P : Program} {t i s : TypeId} (hs : stOf P t = some [(i, 0, 1), (i, 1, 1), (s, 2, 1)]) (hc : P.cellsOf t = 3) (hi : P.underlying i = some (.int .i64)) (hu : P.underlying s = some .string) :
  Opens P t kIns (fun p => In64 p.op ∧ In64 p.a ∧ p.s.size ≤ 9223372036854775807) := by
 intro H enc w fuel cs x h
 obtain ⟨hl, n, hf⟩ := open_st hs h
 rw [hc] at hl
 obtain ⟨y0, h0⟩ := hf 0 _ _ _ rfl
 obtain ⟨y1, h1⟩ := hf 1 _ _ _ rfl
 obtain ⟨y2, h2⟩ := hf 2 _ _ _ rfl
 obtain ⟨a, b, c, rfl⟩ : ∃ a b c, cs = [a, b, c] := by
  match cs, hl with
  | [a, b, c], _ => exact ⟨a, b, c, rfl⟩
 obtain ⟨s0, ⟨e0⟩, l0⟩ := opens_int hi enc w n _ _ h0
 obtain ⟨s1, ⟨e1⟩, l1⟩ := opens_int hi enc w n _ _ h1
 obtain ⟨s2, e2, _, l2⟩ := DataW.trod_string hu h2
 simp at e2
 subst e2
 exact ⟨⟨s0, s1, s2⟩, rfl, l0, l1, by simpa [maxLen] using l2⟩
structure Act2 where
 x : Int
 y : Int
deriving DecidableEq
/-! ### '==' of structs that lead nowhere -/
section
variable {P : Program} {w : World} {t : TypeId}
theorem eqF_cons {d : Nat} {xs ys : Array Value} {f : Field} {fs : List Field} {sz : Nat} {u v : Value} {b : Bool} (hn : f.name ≠ "_") (ha : tyOf P f.type = some (false, sz)) (hx : xs[f.offset]? = some u) (hy : ys[f.offset]? = some v)
  (he : (Op.equalIn d f.type u v).run P w = .ok b w) : (Op.eqFields d xs ys (f :: fs)).run P w = if b then (Op.eqFields d xs ys fs).run P w else .ok false w := by
 simp only [Op.eqFields, if_pos hn, Sem.run_bind]
 simp only [part, Sem.run_bind, run_isAgg ha, Result.andThen_ok, hx, hy, Sem.run_pure, Bool.false_eq_true, if_false, he, Sem.run_ite]
 cases b <;> simp
theorem eqIn_int (d : Nat) {k k' : IntKind} {a b : Int} (h : P.underlying t = some (.int k')) : (Op.equalIn (d + 1) t (.int k a) (.int k b)).run P w = .ok (decide (a = b)) w := by rw [run_equalIn_int w d t k k' a b h, beqI]
theorem eqIn_str (d : Nat) {a b : ByteArray} (h : P.underlying t = some .string) : (Op.equalIn (d + 1) t (.string a) (.string b)).run P w = .ok (decide (a = b)) w := by rw [run_equalIn_string w d t a b h, beqS]
structure EqT (P : Program) (t : TypeId) (fs : List Field) : Prop where
 und : P.underlying t = some (.struct fs.toArray)
 stood : P.stoodInHeld t = false
 guard : P.eqGuardType P.depth t = false
theorem EqT.run {fs : List Field} (h : EqT P t fs) (d : Nat) (xs ys : Array Value) : (Op.equalIn (d + 1) t (.agg xs) (.agg ys)).run P w = (Op.eqFields d xs ys fs).run P w := by
 have hf : P.fieldsOf t = fs.toArray := by simp [Program.fieldsOf, h.und]
 rw [run_equalIn_struct w d t xs ys (by rw [hf]; exact h.und) h.stood, hf]
section
variable {n : Nat} {l : Env} {o : Oper} {x y : Operand} {t' : TypeId} {xs ys : Array Value} {fs : List Field} {b : Bool}
theorem r_neT (ho : o.op = .binOp .neq t x y t') (h : EqT P t fs) (hx : ev l x = some (.agg xs)) (hy : ev l y = some (.agg ys)) (hb : (Op.eqFields (9998 + 1) xs ys fs).run P w = .ok b w) : Run P n l w o (.bool !b) w := by
 intro a ha
 have h1 : (Op.equal t (.agg xs) (.agg ys)).run P w = .ok b w := (h.run (9998 + 1) xs ys).trans hb
 have h2 := run_eqGuard_agg (P := P) w .neq t x y xs ys h.guard
 unfold execOp
 simp only [ho, ha.eval hx, ha.eval hy, Sem.run_bind, h2, Result.andThen_ok]
 simp only [binOp, Sem.run_bind, h1, Result.andThen_ok, Sem.run_pure]
end
structure PairT (P : Program) (t s : TypeId) : Prop where
 ex : ∃ f0 f1 : Field, EqT P t [f0, f1] ∧ f0.name ≠ "_" ∧ f1.name ≠ "_" ∧ f0.type = s ∧ f1.type = s ∧ f0.offset = 0 ∧ f1.offset = 1
 str : P.underlying s = some .string
 one : tyOf P s = some (false, 1)
theorem eqF_pair {s : TypeId} {f0 f1 : Field} (d : Nat) (p q : Pair) (h1 : f0.name ≠ "_") (h2 : f1.name ≠ "_") (h3 : f0.type = s) (h4 : f1.type = s) (h5 : f0.offset = 0) (h6 : f1.offset = 1) (hs : P.underlying s = some .string) (ho : tyOf P s = some (false, 1)) :
  (Op.eqFields (d + 1) (encPair p).toArray (encPair q).toArray [f0, f1]).run P w = .ok (decide (p = q)) w := by
 rw [eqF_cons (u := .string p.key) (v := .string q.key) (b := decide (p.key = q.key)) h1 (by rw [h3]; exact ho) (by rw [h5]; rfl) (by rw [h5]; rfl) (by rw [h3]; exact eqIn_str d hs)]
 rw [eqF_cons (u := .string p.val) (v := .string q.val) (b := decide (p.val = q.val)) h2 (by rw [h4]; exact ho) (by rw [h6]; rfl) (by rw [h6]; rfl) (by rw [h4]; exact eqIn_str d hs)]
 obtain ⟨a, b⟩ := p
 obtain ⟨c, e⟩ := q
 by_cases e1 : a = c <;> by_cases e2 : b = e <;> simp [e1, e2, Op.eqFields]
variable {n : Nat} {l : Env} {o : Oper} {x y : Operand} {t' s : TypeId}
theorem r_nePair {p q : Pair} (ho : o.op = .binOp .neq t x y t') (h : PairT P t s) (hx : ev l x = some (.agg (encPair p).toArray)) (hy : ev l y = some (.agg (encPair q).toArray)) : Run P n l w o (.bool (decide (p ≠ q))) w := by
 obtain ⟨f0, f1, he, h1, h2, h3, h4, h5, h6⟩ := h.ex
 have := r_neT (n := n) (w := w) ho he hx hy (eqF_pair 9998 p q h1 h2 h3 h4 h5 h6 h.str h.one)
 rwa [show decide (p ≠ q) = !decide (p = q) from by simp]
structure InsT (P : Program) (t i s : TypeId) : Prop where
 ex : ∃ f0 f1 f2 : Field, EqT P t [f0, f1, f2] ∧ f0.name ≠ "_" ∧ f1.name ≠ "_" ∧ f2.name ≠ "_" ∧ f0.type = i ∧ f1.type = i ∧ f2.type = s ∧ f0.offset = 0 ∧ f1.offset = 1 ∧ f2.offset = 2
 str : P.underlying s = some .string
 int : P.underlying i = some (.int .i64)
 one : tyOf P s = some (false, 1)
 onei : tyOf P i = some (false, 1)
end
/-! ### Rows of known length -/
section
variable {α : Type} {enc : α → List Value} {sz : Nat} (hl : ∀ x, (enc x).length = sz)
include hl
theorem flat_len (xs : List α) : (xs.flatMap enc).length = xs.length * sz := by
 induction xs with
 | nil => simp
 | cons x xs ih => simp [hl, ih, Nat.succ_mul, Nat.add_comm]
theorem flat_drop : ∀ (xs : List α) (i : Nat), (xs.flatMap enc).drop (i * sz) = (xs.drop i).flatMap enc
 | [], i => by simp
 | x :: xs, 0 => by simp
 | x :: xs, i + 1 => by
  rw [List.flatMap_cons, List.drop_succ_cons, Nat.succ_mul, Nat.add_comm (i * sz), ← hl x, List.drop_length_add_append, hl x]
  exact flat_drop xs i
theorem flat_take : ∀ (xs : List α) (i : Nat), (xs.flatMap enc).take (i * sz) = (xs.take i).flatMap enc
 | [], i => by simp
 | x :: xs, 0 => by simp
 | x :: xs, i + 1 => by
  rw [List.flatMap_cons, List.take_succ_cons, List.flatMap_cons, Nat.succ_mul, Nat.add_comm (i * sz), ← hl x, List.take_length_add_append, hl x]
  rw [flat_take xs i]
end
theorem puts_eq : ∀ (vs cs : List Value) (i : Nat), i + vs.length ≤ cs.length → puts cs i vs = cs.take i ++ vs ++ cs.drop (i + vs.length)
 | [], cs, i, h => by simp [puts]
 | v :: vs, cs, i, h => by
  simp only [List.length_cons] at h
  rw [puts, puts_eq vs _ (i + 1) (by simp; omega)]
  have h1 : (cs.set i v).take (i + 1) = cs.take i ++ [v] := by
   rw [List.take_add_one, List.take_set_of_le (by omega)]
   simp [List.getElem?_set, show i < cs.length by omega]
  have h2 : (cs.set i v).drop (i + 1 + vs.length) = cs.drop (i + (vs.length + 1)) := by
   rw [List.drop_set_of_lt (by omega)]
   congr 1
   omega
  rw [h1, h2]
  simp
theorem puts_flat {α : Type} {enc : α → List Value} {sz : Nat} (hl : ∀ x, (enc x).length = sz) {xs : List α} {i : Nat} {x : α} (hi : i < xs.length) : puts (xs.flatMap enc) (i * sz) (enc x) = (xs.set i x).flatMap enc := by
 have h1 : i * sz + sz ≤ xs.length * sz := by rw [← Nat.succ_mul]; exact Nat.mul_le_mul_right _ hi
 rw [puts_eq _ _ _ (by rw [hl, flat_len hl]; exact h1), hl, flat_take hl, ← Nat.succ_mul, flat_drop hl, List.set_eq_take_append_cons_drop, if_pos hi]
 simp
section
variable {P : Program} {ops : Array Oper} {Q : Exit → Act → World → Prop} {rest : List Oper} {n : Nat} {l : Env} {w0 w : World} {F F0 : Foot} {o : Oper} {v : Value} {As Rs : List SP} {x y : Operand} {t : TypeId}
variable {α : Type} {enc : α → List Value} {sz : Nat} {hp : 0 < sz} {hl : ∀ x, (enc x).length = sz} {h1 : ∀ x, ∀ c ∈ enc x, c.oneCell' = true}
end
def encStr (x : ByteArray) : List Value := [.string x]
section
variable {w w0 : World} {F0 : Foot} {As Rs : List SP} {α : Type} {enc : α → List Value} {sz : Nat} {hp : 0 < sz} {hl : ∀ x, (enc x).length = sz} {h1 : ∀ x, ∀ c ∈ enc x, c.oneCell' = true} {A : Option Addr} {m c : Nat} {xs : List α}
theorem reps_one {F : Foot} {cs : List Value} (h : RepsO (flat enc sz hp hl h1) w F xs cs) : cs = xs.flatMap enc := RepsR.flat_eq.1 h.toR
theorem Hd.toBlk (H : Hd w0 F0 w (osl (flat enc sz hp hl h1) (.slice A m c) xs :: As) Rs) (hc : 0 < xs.length) :
  ∃ b t rest, A = some ⟨b, 0, none⟩ ∧ xs.length = m ∧ m ≤ c ∧ c ≤ 9223372036854775807 ∧ rest.length + m * sz = c * sz ∧ Hd w0 F0 w (blk b (xs.flatMap enc ++ rest) t :: As) Rs := by
 obtain ⟨b, C, t, hA, hm, hle, hmax, hh, hs, ht⟩ : ∃ b C t, A = some ⟨b, 0, none⟩ ∧ xs.length = m ∧ m ≤ c ∧ c ≤ 9223372036854775807 ∧ w.heap[b]? = some (.cells C t (0, 0)) ∧ C.size = c * sz ∧ C.toList.take (m * sz) = xs.flatMap enc := by
  refine H.fact (List.mem_cons_self ..) ?_
  rintro F ⟨A', n, c', e, hn, cs, F1, F2, s1, s2, dj, ⟨r1, r2, r3, r4⟩, hr⟩
  simp only [List.cons.injEq, Value.slice.injEq, and_true] at e
  obtain ⟨rfl, rfl, rfl⟩ := e
  have hcs := reps_one hr
  rcases r4 with ⟨h0, _⟩ | ⟨b, C, t, e, hb, hh, hs, ht⟩
  ·omega
  ·exact ⟨b, C, t, e, hn, r1, r2, hh, hs, by rw [← hcs]; exact ht⟩
 have hCl : C.toList.length = c * sz := by simpa using hs
 have hle' : m * sz ≤ c * sz := Nat.mul_le_mul_right _ hle
 refine ⟨b, t, C.toList.drop (m * sz), hA, hm, hle, hmax, by rw [List.length_drop]; omega, H.turn fun F hF => ?_⟩
 obtain ⟨A', n, c', e, hn, cs, F1, F2, s1, s2, dj, ⟨r1, r2, r3, r4⟩, hr⟩ := hF
 simp only [List.cons.injEq, Value.slice.injEq, and_true] at e
 obtain ⟨rfl, rfl, rfl⟩ := e
 rcases r4 with ⟨h0, _⟩ | ⟨b', C', t', e, hb, hh', hs', ht'⟩
 ·omega
 ·rw [hA] at e
  obtain rfl : b = b' := by simpa using e
  refine ⟨s1 b hb, ?_⟩
  rw [hh, ← ht, List.take_append_drop]
theorem Hd.ofBlk {b t : Nat} {rest : List Value} (H : Hd w0 F0 w (blk b (xs.flatMap enc ++ rest) t :: As) Rs) (hm : xs.length = m) (hle : m ≤ c) (hmax : c ≤ 9223372036854775807) (hr : rest.length + m * sz = c * sz) :
  Hd w0 F0 w (osl (flat enc sz hp hl h1) (.slice (some ⟨b, 0, none⟩) m c) xs :: As) Rs := by
 refine H.turn fun F hF => ?_
 have hfl : (xs.flatMap enc).length = m * sz := by rw [flat_len hl, hm]
 refine ⟨_, _, _, rfl, hm, xs.flatMap enc, F, none_, fun _ q => q, fun _ q => q.elim, fun _ _ q => q, ⟨hle, hmax, hfl, .inr ⟨b, _, _, rfl, hF.1, hF.2, by show (xs.flatMap enc ++ rest).toArray.size = c * sz; simp only [List.size_toArray, List.length_append]; omega, ?_⟩⟩, RepsO.flatR (F := none_) (RepsR.flat_eq.2 rfl)⟩
 show ((xs.flatMap enc ++ rest).toArray.toList).take (m * sz) = _
 rw [List.toList_toArray, List.take_left' hfl]
variable {P : Program} {ops : Array Oper} {Q : Exit → Act → World → Prop} {rest : List Oper} {n : Nat} {l : Env} {o : Oper} {v : Value} {x y : Operand} {t : TypeId}
theorem Hd.nilR {β : Type} {d : Kd β} {ys : List β} {A : Option Addr} {m c : Nat} (H : Hd w0 F0 w As Rs) (j : Nat) (hj : Rs[j]? = some (rsl d (.slice A m c) ys)) (hA : A.isNone = true) : ys = [] := by
 refine H.factR (List.mem_of_getElem? hj) ?_
 rintro F ⟨A', n, c', e, hn, h1, h2, cs, hr, hrep⟩
 simp only [List.cons.injEq, Value.slice.injEq, and_true] at e
 obtain ⟨rfl, rfl, rfl⟩ := e
 rcases hr.2 with rfl | ⟨b, off, C, t, fr, e, _⟩
 ·have := hrep.len
  have hp := d.pos
  rcases Nat.eq_zero_or_pos ys.length with h0 | h0
  ·exact List.eq_nil_of_length_eq_zero h0
  ·have := Nat.mul_pos h0 hp
   simp at *
   omega
 ·rw [e] at hA
  cases hA
theorem Hd.newnilA {β : Type} (d : Kd β) (A : Option Addr) (H : Hd w0 F0 w As Rs) : Hd w0 F0 w (osl d (.slice A 0 0) [] :: As) Rs := by
 obtain ⟨F, G, s, r⟩ := H
 exact ⟨F, G, ⟨none_, F, fun _ h => h.elim, fun _ h => h, fun _ h => h.elim, osl_nil d w none_ trivial, s⟩, r⟩
theorem s_bsl0 {e size bytes : Nat} (hg : gd ops l o = some true) (hd : dok n o.dst = true) (ho : o.op = .buildSlice t 0 #[]) (hs : slOf P t = some (e, size, bytes)) (H : Hd w0 F0 w As Rs)
  (h : ∀ b w', Hd w0 F0 w' (blk b [] e :: As) Rs → WL P ops Q rest n (upO l o.dst (.slice (some ⟨b, 0, none⟩) 0 0)) w') : WL P ops Q (o :: rest) n l w := by
 obtain ⟨hu, inf, hi, hsz, _⟩ := slOf_spec hs
 refine s_val (w' := w.alloc (.cells #[] e)) hg hd (v := .slice (some ⟨w.heap.size, 0, none⟩) 0 0) (fun a ha => ?_) (h _ _ ?_)
 ·unfold execOp
  simp only [ho, Instr.buildSlice, Sem.run_bind, run_underlying hu, sizeOf, typeInfo, run_program, hi, Nat.zero_mul, if_true, Sem.run_pure, Result.andThen_ok, newRow]
  have hz : ∀ f : Nat → Value, (Array.range 0).map f = #[] := fun f => Array.toList_inj.1 (by simp)
  simp [Instr.fill, hz]
 ·have := H.alloc [] e
  simpa using this
theorem s_stO {i p : Nat} {a : α} {B : Bool} (hg : gd ops l o = some true) (hd : o.dst = none) (ho : o.op = .store t x y) (ht : tyOf P t = some (B, sz)) (hx : ev l x = some (.pointer (some ⟨bOf A, p, none⟩))) (hy : ev l y = some v) (hv : v.cells.toList = enc a)
  (H : Hd w0 F0 w (osl (flat enc sz hp hl h1) (.slice A m c) xs :: As) Rs) (hi : i < xs.length) (hpi : oOf A + i * sz = p) (h : ∀ w', Hd w0 F0 w' (osl (flat enc sz hp hl h1) (.slice A m c) (xs.set i a) :: As) Rs → WL P ops Q rest n l w') : WL P ops Q (o :: rest) n l w := by
 obtain ⟨b, bt, spare, rfl, hm, hle, hmax, hr, H'⟩ := H.toBlk (by omega)
 simp only [bOf, oOf, Nat.zero_add] at hx hpi
 subst hpi
 have hfl : (xs.flatMap enc).length = xs.length * sz := flat_len hl xs
 have hfit : i * sz + sz ≤ (xs.flatMap enc).length := by rw [flat_len hl, ← Nat.succ_mul]; exact Nat.mul_le_mul_right _ hi
 refine s_st hg hd ho ht hx hy H' (by rw [← Array.length_toList, hv, hl]) (by rw [List.length_append]; omega) (by rw [hv]; exact h1 a) (fun w' H2 => h w' ?_)
 rw [hv] at H2
 have hp2 : puts (xs.flatMap enc ++ spare) (i * sz) (enc a) = (xs.set i a).flatMap enc ++ spare := by
  rw [← puts_flat hl hi, puts_eq _ _ _ (by rw [List.length_append, hl]; omega), puts_eq _ _ _ (by rw [hl]; exact hfit)]
  rw [List.take_append_of_le_length (by omega), List.drop_append_of_le_length (by rw [hl]; omega)]
  simp [List.append_assoc]
 rw [hp2] at H2
 exact H2.ofBlk (by rw [List.length_set]; exact hm) hle hmax hr
end
section
variable {P : Program} {n : Nat} {l : Env} {w : World} {o : Oper} {x y : Operand} {t : TypeId}
theorem map_add0 (A : Option Addr) : A.map (fun a => a.add 0) = A := by
 cases A with
 | none => rfl
 | some a => cases a; simp [Addr.add]
theorem r_cutP {tt e size bytes : TypeId} {A : Option Addr} {m c m' : Nat} {k : IntKind} {j : Int} (ho : o.op = .slice tt x none (some y) none) (hs : slOf P tt = some (e, size, bytes)) (hx : ev l x = some (.slice A m c)) (hy : ev l y = some (.int k j))
  (h0 : 0 ≤ j) (h1 : j ≤ (c : Int)) (hm : j.toNat = m') : Run P n l w o (.slice A m' c) w := by
 intro a ha
 obtain ⟨hu, inf, hi, hz, _⟩ := slOf_spec hs
 subst hm
 have hb : (Instr.sliceBounds true m c none (some (.int k j)) none).run P w = .ok (0, j.toNat, c) w := by
  simp [Instr.sliceBounds, Instr.sliceBound, asIntOf, h0, h1]
 simp [execOp, ho, ha.eval hx, ha.eval hy, Instr.sliceAt, Instr.slice, hb, run_underlying hu, sizeOf, typeInfo, hi, hz, map_add0]
end
section
variable {w : World} {F : Foot} {α : Type} {d : Kd α} {A : Option Addr} {m c : Nat} {xs : List α}
theorem rsl_pre (h : (rsl d (.slice A m c) xs).P w F) {i : Nat} (hi : i ≤ m) : (rsl d (.slice A i c) (xs.take i)).P w F := by
 obtain ⟨A', m', c', e, hl, h1, h2, cs, hr, hrep⟩ := h
 simp only [List.cons.injEq, Value.slice.injEq, and_true] at e
 obtain ⟨rfl, rfl, rfl⟩ := e
 refine ⟨_, _, _, rfl, by rw [List.length_take]; omega, by omega, h2, cs.take (i * d.sz), ⟨trivial, ?_⟩, hrep.take i⟩
 rcases hr.2 with rfl | ⟨b, off, C, t, fr, e, hb, hh, ht⟩
 ·exact .inl (by simp)
 ·refine .inr ⟨b, off, C, t, fr, e, hb, hh, ?_⟩
  rw [List.length_take, ← List.take_take, ht]
def cutA (A : Option Addr) (c i sz : Nat) : Option Addr := if c = i then A else A.map fun a => a.add (i * sz)
theorem rsl_suf (h : (rsl d (.slice A m c) xs).P w F) {i : Nat} (hi : i ≤ m) : (rsl d (.slice (cutA A c i d.sz) (m - i) (c - i)) (xs.drop i)).P w F := by
 obtain ⟨A', m', c', e, hl, h1, h2, cs, hr, hrep⟩ := h
 simp only [List.cons.injEq, Value.slice.injEq, and_true] at e
 obtain ⟨rfl, rfl, rfl⟩ := e
 refine ⟨_, _, _, rfl, by rw [List.length_drop]; omega, by omega, by omega, cs.drop (i * d.sz), ⟨trivial, ?_⟩, hrep.drop i⟩
 have hlen := hrep.len
 by_cases hc : c = i
 ·refine .inl ?_
  rw [List.drop_eq_nil_iff]
  rw [hlen]
  exact Nat.mul_le_mul_right _ (by omega)
 ·rcases hr.2 with rfl | ⟨b, off, C, t, fr, e, hb, hh, ht⟩
  ·exact .inl (by simp)
  ·refine .inr ⟨b, off + i * d.sz, C, t, fr, ?_, hb, hh, ?_⟩
   ·unfold cutA
    rw [if_neg hc, e, Option.map_some, add_of]
   ·have := congrArg (List.drop (i * d.sz)) ht
    rw [List.drop_take, List.drop_drop] at this
    rw [List.length_drop]
    exact this
end
section
variable {P : Program} {n : Nat} {l : Env} {w : World} {o : Oper} {x y : Operand} {t : TypeId}
theorem r_cutS {tt e size bytes : TypeId} {A : Option Addr} {m c i' : Nat} {k : IntKind} {i : Int} (ho : o.op = .slice tt x (some y) none none) (hs : slOf P tt = some (e, size, bytes)) (hx : ev l x = some (.slice A m c)) (hy : ev l y = some (.int k i))
  (h0 : 0 ≤ i) (h1 : i ≤ (m : Int)) (hi' : i.toNat = i') : Run P n l w o (.slice (cutA A c i' size) (m - i') (c - i')) w := by
 intro a ha
 obtain ⟨hu, inf, hi, hz, _⟩ := slOf_spec hs
 subst hi'
 have hb : (Instr.sliceBounds true m c (some (.int k i)) none none).run P w = .ok (i.toNat, m, c) w := by
  simp [Instr.sliceBounds, Instr.sliceBound, asIntOf, h0, h1]
 unfold cutA
 by_cases e1 : c = i.toNat
 ·rw [if_pos e1]
  rw [e1] at hb
  simp [execOp, ho, ha.eval hx, ha.eval hy, Instr.sliceAt, Instr.slice, hb, run_underlying hu, sizeOf, typeInfo, hi, hz, e1]
 ·rw [if_neg e1]
  simp [execOp, ho, ha.eval hx, ha.eval hy, Instr.sliceAt, Instr.slice, hb, run_underlying hu, sizeOf, typeInfo, hi, hz, e1]
end
section
variable {P : Program} {n : Nat} {l : Env} {w : World} {o : Oper} {x y : Operand} {t : TypeId} {t' : TypeId} {a b : ByteArray}
end
def ExtIs (P : Program) (f : FuncId) (g : Array Value → Sem Value) : Prop := ∃ fn, P.funcs[f]? = some fn ∧ (fn.name == "runtime.NumGoroutine") = false ∧ fn.body.isNone = true ∧ Extern.findNext fn = none ∧ Extern.find fn = some g
section
variable {P : Program} {ops : Array Oper} {Q : Exit → Act → World → Prop} {rest : List Oper} {n : Nat} {l : Env} {w0 w w' : World} {F0 : Foot} {o : Oper} {v : Value} {As Rs : List SP} {f : FuncId} {xs : List Operand} {vs : List Value} {ts : Array TypeId} {b off : Nat} {cs : List Value} {t : TypeId}
theorem r_ext (ho : o.op = .call { callee := .value (.func f), args := xs.toArray, argTypes := ts }) (hx : xs.map (ev l) = vs.map some) (hr : (callFunc f vs.toArray).run P w = .ok (.value v) w') : Run P n l w o v w' := by
 intro a ha
 have := evals ha xs vs hx
 simp [execOp, ho, resolve, Act.eval, Deferred.ofValue, invoke, this, hr]
theorem r_aload {k : IntKind} {x : Int} (he : ExtIs P f (Extern.Atomic.loadT (.int k))) (ho : o.op = .call { callee := .value (.func f), args := xs.toArray, argTypes := ts }) (hx : xs.map (ev l) = [some (.pointer (some ⟨b, off, none⟩))]) (hc : w.cell? ⟨b, off, none⟩ = some (.int k x)) : Run P n l w o (.int k x) w := by
 obtain ⟨fn, h1, h2, h3, h4, h5⟩ := he
 exact r_ext (vs := [.pointer (some ⟨b, off, none⟩)]) ho hx (run_call_load h1 h2 h3 h4 k h5 hc)
theorem set_write {w : World} {F : Foot} (h : (blk b cs t).P w F) (i : Nat) (v : Value) : (blk b (cs.set i v) t).P (w.setCell ⟨b, i, none⟩ v) F ∧ Upd F w (w.setCell ⟨b, i, none⟩ v) := ⟨blk_set h i v, Upd.setCell w _ v h.1⟩
theorem s_astore {k : IntKind} {y : Int} {u : Value} (he : ExtIs P f Extern.Atomic.storeT) (hg : gd ops l o = some true) (hd : dok n o.dst = true) (ho : o.op = .call { callee := .value (.func f), args := xs.toArray, argTypes := ts }) (hx : xs.map (ev l) = [some (.pointer (some ⟨b, off, none⟩)), some (.int k y)])
  (H : Hd w0 F0 w (blk b cs t :: As) Rs) (hc : cs[off]? = some u) (h : ∀ w', Hd w0 F0 w' (blk b (cs.set off (.int k y)) t :: As) Rs → WL P ops Q rest n (upO l o.dst (.tuple #[])) w') : WL P ops Q (o :: rest) n l w := by
 obtain ⟨fn, h1, h2, h3, h4, h5⟩ := he
 exact s_val hg hd (r_ext (vs := [.pointer (some ⟨b, off, none⟩), .int k y]) ho hx (run_call_store h1 h2 h3 h4 h5 (H.cell (List.mem_cons_self ..) hc) (H.free (List.mem_cons_self ..) off))) (h _ (H.write fun F hF => set_write hF off _))
theorem s_acas {k : IntKind} {x y : Int} (he : ExtIs P f (Extern.Atomic.casT (.int k))) (hg : gd ops l o = some true) (hd : dok n o.dst = true) (ho : o.op = .call { callee := .value (.func f), args := xs.toArray, argTypes := ts }) (hx : xs.map (ev l) = [some (.pointer (some ⟨b, off, none⟩)), some (.int k x), some (.int k y)])
  (H : Hd w0 F0 w (blk b cs t :: As) Rs) (hc : cs[off]? = some (.int k x)) (h : ∀ w', Hd w0 F0 w' (blk b (cs.set off (.int k y)) t :: As) Rs → WL P ops Q rest n (upO l o.dst (.bool true)) w') : WL P ops Q (o :: rest) n l w := by
 obtain ⟨fn, h1, h2, h3, h4, h5⟩ := he
 exact s_val hg hd (r_ext (vs := [.pointer (some ⟨b, off, none⟩), .int k x, .int k y]) ho hx (run_call_cas_hit h1 h2 h3 h4 k h5 (H.cell (List.mem_cons_self ..) hc) (H.free (List.mem_cons_self ..) off))) (h _ (H.write fun F hF => set_write hF off _))
theorem s_aadd {k : IntKind} {x y z : Int} (he : ExtIs P f (Extern.Atomic.update (Op.intArith .add) k true)) (hg : gd ops l o = some true) (hd : dok n o.dst = true) (ho : o.op = .call { callee := .value (.func f), args := xs.toArray, argTypes := ts }) (hx : xs.map (ev l) = [some (.pointer (some ⟨b, off, none⟩)), some (.int k y)])
  (H : Hd w0 F0 w (blk b cs t :: As) Rs) (hc : cs[off]? = some (.int k x)) (hz : k.wrap (x + y) = z) (h : ∀ w', Hd w0 F0 w' (blk b (cs.set off (.int k z)) t :: As) Rs → WL P ops Q rest n (upO l o.dst (.int k z)) w') : WL P ops Q (o :: rest) n l w := by
 obtain ⟨fn, h1, h2, h3, h4, h5⟩ := he
 refine s_val hg hd (r_ext (vs := [.pointer (some ⟨b, off, none⟩), .int k y]) ho hx (run_call_add h1 h2 h3 h4 k h5 (s := z) (H.cell (List.mem_cons_self ..) hc) (H.free (List.mem_cons_self ..) off) ?_)) (h _ (H.write fun F hF => set_write hF off _))
 subst hz
 simp [Op.intArith]
theorem r_mark0 {m : Mark} (he : ExtIs P f (fun _ => do mark m; pure Extern.Race.none_)) (ho : o.op = .call { callee := .value (.func f), args := xs.toArray, argTypes := ts }) (hx : xs.map (ev l) = []) : Run P n l w o (.tuple #[]) w := by
 obtain ⟨fn, h1, h2, h3, h4, h5⟩ := he
 exact r_ext (vs := []) ho hx (run_call_mark0 h1 h2 h3 h4 m h5 w)
theorem r_marked {m : Addr → Mark} (he : ExtIs P f (Extern.Race.marked m)) (ho : o.op = .call { callee := .value (.func f), args := xs.toArray, argTypes := ts }) {A : Addr} (hx : xs.map (ev l) = [some (.pointer (some A))]) : Run P n l w o (.tuple #[]) w := by
 obtain ⟨fn, h1, h2, h3, h4, h5⟩ := he
 exact r_ext (vs := [.pointer (some A)]) ho hx (run_call_marked h1 h2 h3 h4 m h5 A w)
end
inductive Stp
 | z
 | e (i : Nat) (s : Stp)
 | m (i : Nat) (s : Stp)
 | p (i j : Nat) (s : Stp)
 | b (i j : Nat) (s t : Stp)
def stps : Stp → Nat
 | .z => 0
 | .e _ s => stps s + 1
 | .m _ s => stps s + 1
 | .p _ _ s => stps s + 2
 | .b _ _ s _ => stps s + 1
def ordB (ops : Array Oper) : Stp → Array Bool → Bool
 | .z, listed => (Region.ready .any ops listed).isEmpty
 | .m i s, listed => decide (Region.ready .any ops listed = [i]) && ordB ops s (listed.setIfInBounds i true)
 | .e i s, listed => (Region.ready .any ops listed).contains i && Region.free .any ops listed i && ordB ops s (listed.setIfInBounds i true)
 | .p i j s, listed => decide (Region.ready .any ops listed = [i, j]) && decide (Region.ready .any ops (listed.setIfInBounds i true) = [j]) && decide (Region.ready .any ops (listed.setIfInBounds j true) = [i]) && Nat.blt i j && ordB ops s ((listed.setIfInBounds i true).setIfInBounds j true)
 | .b i j s t, listed => decide (Region.ready .any ops listed = [i, j]) && Nat.beq (stps s) (stps t) && ordB ops s (listed.setIfInBounds i true) && ordB ops t (listed.setIfInBounds j true)
section
variable {P : Program} {ops : Array Oper} {Q : Exit → Act → World → Prop} {S : World → Prop}
def onlyN (K : Act → World → Prop) : Exit → Act → World → Prop
 | .normal, a, w => K a w
 | _, _, _ => False
def wpO (P : Program) (ops : Array Oper) (Q : Exit → Act → World → Prop) (S : World → Prop) : Stp → Act → World → Prop
 | .z, a, w => Q .normal a w
 | .p i j s, a, w => ∃ oi oj vi vj, ops[i]? = some oi ∧ ops[j]? = some oj ∧ (∀ a', (a' = a ∨ a' = a.put oj.dst vj) → Region.wanted oi (yielded ops a'.tmps) = true ∧ (execOp a'.eval oi).run P w = .ok (.value vi) w) ∧
   (∀ a', (a' = a ∨ a' = a.put oi.dst vi) → Region.wanted oj (yielded ops a'.tmps) = true ∧ (execOp a'.eval oj).run P w = .ok (.value vj) w) ∧ wpO P ops Q S s ((a.put oi.dst vi).put oj.dst vj) w ∧ wpO P ops Q S s ((a.put oj.dst vj).put oi.dst vi) w
 | .b i j s t, a, w => (∃ o, ops[i]? = some o ∧ wpList P ops (onlyN fun a w => S w ∧ wpO P ops Q S s a w) [o] a w) ∧ ∃ o, ops[j]? = some o ∧ wpList P ops (onlyN fun a w => S w ∧ wpO P ops Q S t a w) [o] a w
 | .m i s, a, w => ∃ o, ops[i]? = some o ∧ wpList P ops (onlyN fun a w => S w ∧ wpO P ops Q S s a w) [o] a w
 | .e i s, a, w => ∃ o v, ops[i]? = some o ∧ YieldsIf P ops S o v a ∧ wpO P ops Q S s (a.put o.dst v) w
theorem wp_onlyN {o : Oper} {a : Act} {w : World} {K : Act → World → Prop} {Q' : Exit → Act → World → Prop} (hh : o.wp P a w K (onlyN K)) : o.wp P a w K Q' := by
 unfold Oper.wp at *
 generalize (execOp a.eval o).run P w = r at *
 cases r with
 | ok n w' =>
  cases n <;> simp only [Oper.upon] at hh ⊢ <;>
   first
    | exact hh
    | exact Calls.mono hh (fun e w'' he => by cases e <;> first | exact he | exact he.elim | exact (let ⟨_, _, h⟩ := he; h.elim))
 | halt x w' => cases x <;> simp only [Oper.upon] at hh ⊢ <;> first | exact hh | exact hh.elim
theorem wpOp_one {i : Nat} {o : Oper} {a : Act} {w : World} {K K2 : Act → World → Prop} (ho : ops[i]? = some o) (hS : S w) (h : wpList P ops (onlyN fun a w => S w ∧ K a w) [o] a w) (hk : ∀ a' w', S w' → K a' w' → K2 a' w') :
  wpOp P ops (onlyN fun a w => Q .normal a w) i (fun a' w' => S w' ∧ K2 a' w') a w := by
 unfold wpOp
 simp only [ho]
 simp only [wpList] at h
 split
 ·rename_i hw
  rw [if_pos hw] at h
  rcases h with h | ⟨_, a', w', h⟩
  ·exact .inl (Oper.wp_mono (fun a' w' (h' : S w' ∧ K a' w') => ⟨h'.1, hk a' w' h'.1 h'.2⟩) (wp_onlyN h))
  ·exact h.elim
 ·rename_i hw
  rw [if_neg hw] at h
  exact ⟨h.1, hk _ w h.1 h.2⟩
theorem wpAnyH_of_O (hs : Region.noSelect ops = true) : ∀ (s : Stp) (listed : Array Bool) (a : Act) (w : World), ordB ops s listed = true → S w → wpO P ops Q S s a w →
  wpAnyH P .any ops (onlyN fun a w => Q .normal a w) S (stps s) listed a w
 | .z, listed, a, w, hB, _, h => ⟨by simpa [ordB] using hB, h⟩
 | .b i j s t, listed, a, w, hB, hS, h => by
  simp only [ordB, Bool.and_eq_true, decide_eq_true_eq] at hB
  obtain ⟨⟨⟨b1, b2⟩, b3⟩, b4⟩ := hB
  have b2 : stps s = stps t := Nat.eq_of_beq_eq_true b2
  obtain ⟨⟨oi, hi, h1⟩, oj, hj, h2⟩ := h
  refine wpAnyH_all b1 (by simp) fun q hq => ?_
  simp only [List.mem_cons, List.not_mem_nil, or_false] at hq
  rcases hq with rfl | rfl
  ·exact wpOp_one hi hS h1 fun a' w' hS' h' => wpAnyH_of_O hs s _ a' w' b3 hS' h'
  ·refine wpOp_one hj hS h2 fun a' w' hS' h' => ?_
   have := wpAnyH_of_O hs t _ a' w' b4 hS' h'
   rwa [← b2] at this
 | .m i s, listed, a, w, hB, hS, h => by
  simp only [ordB, Bool.and_eq_true, decide_eq_true_eq] at hB
  obtain ⟨o, ho, h⟩ := h
  refine wpAnyH_all hB.1 (by simp) fun j hj => ?_
  obtain rfl : j = i := by simpa using hj
  exact wpOp_one ho hS h fun a' w' hS' h' => wpAnyH_of_O hs s _ a' w' hB.2 hS' h'
 | .p i j s, listed, a, w, hB, hS, h => by
  simp only [ordB, Bool.and_eq_true, decide_eq_true_eq] at hB
  obtain ⟨⟨⟨⟨b1, b2⟩, b3⟩, b4⟩, b5⟩ := hB
  obtain ⟨oi, oj, vi, vj, hi, hj, ri, rj, k1, k2⟩ := h
  have hij : j ≠ i := by
   have : i + 1 ≤ j := by simpa [Nat.blt] using b4
   omega
  have one : ∀ (k : Nat) (o : Oper) (v : Value) (a : Act) (K : Act → World → Prop), ops[k]? = some o → Region.wanted o (yielded ops a.tmps) = true → (execOp a.eval o).run P w = .ok (.value v) w → K (a.put o.dst v) w → wpOp P ops (onlyN fun a w => Q .normal a w) k K a w := by
   intro k o v a K hk hw hr hK
   unfold wpOp
   simp only [hk, hw, if_true, Oper.wp, hr, Oper.upon]
   exact .inl hK
  refine wpAnyH_all b1 (by simp) fun q hq => ?_
  simp only [List.mem_cons, List.not_mem_nil, or_false] at hq
  rcases hq with rfl | rfl
  ·obtain ⟨w1, e1⟩ := ri a (.inl rfl)
   obtain ⟨w2, e2⟩ := rj _ (.inr rfl)
   refine one _ _ _ _ _ hi w1 e1 ⟨hS, wpAnyH_all b2 (by simp) fun r hr => ?_⟩
   obtain rfl : r = j := by simpa using hr
   exact one _ _ _ _ _ hj w2 e2 ⟨hS, wpAnyH_of_O hs s _ _ w b5 hS k1⟩
  ·obtain ⟨w1, e1⟩ := rj a (.inl rfl)
   obtain ⟨w2, e2⟩ := ri _ (.inr rfl)
   refine one _ _ _ _ _ hj w1 e1 ⟨hS, wpAnyH_all b3 (by simp) fun r hr => ?_⟩
   obtain rfl : r = i := by simpa using hr
   refine one _ _ _ _ _ hi w2 e2 ⟨hS, ?_⟩
   rw [Array.setIfInBounds_comm _ _ hij]
   exact wpAnyH_of_O hs s _ _ w b5 hS k2
 | .e i s, listed, a, w, hB, hS, h => by
  simp only [ordB, Bool.and_eq_true] at hB
  obtain ⟨o, v, ho, hy, h⟩ := h
  exact wpAnyH_take ho hs hB.1.2 hB.1.1 (fun _ _ _ h => h) hy hS (wpAnyH_of_O hs s _ _ w hB.2 hS h)
end
section
variable {P : Program} {Q : Exit → Act → World → Prop} {S : World → Prop} {n : Nat} {l : Env} {w0 w : World} {F0 : Foot} {As Rs : List SP} {s t : Stp} {os : List Oper} {o : Oper} {v : Value} {i : Nat}
def WD (P : Program) (os : List Oper) (Q : Exit → Act → World → Prop) (S : World → Prop) (s : Stp) (n : Nat) (l : Env) (w : World) : Prop := ∀ a, Fits n l a → wpO P os.toArray Q S s a w
theorem c_ord {id : Nat} (s : Stp) (S : World → Prop) (hm : P.follows .mixedOrders = true) (hB : (Region.noSelect os.toArray && ordB os.toArray s (Array.replicate os.length false) && Nat.beq (stps s) os.length) = true)
  (hS : ∀ w', Hd w0 F0 w' As Rs → S w') (H : Hd w0 F0 w As Rs) (h : ∀ w', Hd w0 F0 w' As Rs → WD P os Q S s n l w') : WC P (.region id os.toArray true) Q n l w := by
 intro a ha
 simp only [Bool.and_eq_true] at hB
 have H' : Hd w0 F0 { w with drawn := w.drawn + 1 } As Rs := H.drewN 1
 have h1 := wpAnyH_of_O (Q := Q) hB.1.1 s _ a _ (by simpa using hB.1.2) (hS _ H') (h _ H' a ha)
 rw [Nat.eq_of_beq_eq_true hB.2, show os.length = os.toArray.size by simp] at h1
 exact wp_mono (wp_region_held hm (by simpa using h1)) fun e a w h => by
  cases e <;> first | exact h | exact h.elim
theorem d_val (hi : os[i]? = some o) (hg : gd os.toArray l o = some true) (hd : dok n o.dst = true) (hr : ∀ w, S w → Run P n l w o v w) (h : WD P os Q S s n (upO l o.dst v) w) : WD P os Q S (.e i s) n l w := by
 intro a ha
 exact ⟨o, v, by simpa using hi, .inl ⟨gd_wanted ha hg, fun w hw => hr w hw a ha⟩, h _ (ha.put _ _ hd)⟩
theorem d_no (hi : os[i]? = some o) (hg : gd os.toArray l o = some false) (hd : dok n o.dst = true) (h : WD P os Q S s n (upO l o.dst undef) w) : WD P os Q S (.e i s) n l w := by
 intro a ha
 exact ⟨o, undef, by simpa using hi, .inr ⟨gd_wanted ha hg, rfl⟩, h _ (ha.put _ _ hd)⟩
theorem d_main (hi : os[i]? = some o) (h : WL P os.toArray (onlyN fun a w => S w ∧ wpO P os.toArray Q S s a w) [o] n l w) : WD P os Q S (.m i s) n l w := by
 intro a ha
 exact ⟨o, by simpa using hi, h a ha⟩
theorem d_both {oi oj : Oper} {j : Nat} (hi : os[i]? = some oi) (hj : os[j]? = some oj) (h1 : WL P os.toArray (onlyN fun a w => S w ∧ wpO P os.toArray Q S s a w) [oi] n l w)
  (h2 : WL P os.toArray (onlyN fun a w => S w ∧ wpO P os.toArray Q S t a w) [oj] n l w) : WD P os Q S (.b i j s t) n l w := by
 intro a ha
 exact ⟨⟨oi, by simpa using hi, h1 a ha⟩, oj, by simpa using hj, h2 a ha⟩
theorem d_back (hS : S w) (h : WD P os Q S s n l w) : WL P os.toArray (onlyN fun a w => S w ∧ wpO P os.toArray Q S s a w) [] n l w := by
 intro a ha
 exact ⟨hS, h a ha⟩
theorem d_mno (hi : os[i]? = some o) (hS : S w) (hg : gd os.toArray l o = some false) (hd : dok n o.dst = true) (h : WD P os Q S s n (upO l o.dst undef) w) : WD P os Q S (.m i s) n l w := by
 intro a ha
 refine ⟨o, by simpa using hi, ?_⟩
 simp only [wpList]
 rw [if_neg (by rw [gd_wanted ha hg]; simp)]
 exact ⟨hS, h _ (ha.put _ _ hd)⟩
theorem lk_upO_ne {d : Option Tmp} {u : Value} {l : Env} {s : Nat} (h : d ≠ some s) : lk (upO l d u) s = lk l s := by
 cases d with
 | none => rfl
 | some d =>
  simp only [upO, lk]
  split
  ·rename_i e _
   exact absurd (congrArg some e) h
  ·rfl
theorem lk_upO_eq {u : Value} {l : Env} {s : Nat} : lk (upO l (some s) u) s = some u := by
 simp only [upO, lk]
 split
 ·rfl
 ·rename_i e _
  exact absurd rfl e
def nolk (l : Env) : Option Tmp → Bool
 | some d => (lk l d).isNone
 | none => true
theorem fits_old {a : Act} {d : Option Tmp} {u : Value} (ha : Fits n l a) (hd : dok n d = true) (hn : nolk l d = true) : Fits n l (a.put d u) := by
 refine (ha.put d u hd).sub fun s v hs => ?_
 rw [lk_upO_ne ?_, hs]
 rintro rfl
 simp [nolk, hs] at hn
theorem d_pair {oi oj : Oper} {vi vj : Value} {j : Nat} (hi : os[i]? = some oi) (hj : os[j]? = some oj) (gi : gd os.toArray l oi = some true) (gj : gd os.toArray l oj = some true) (di : dok n oi.dst = true) (dj : dok n oj.dst = true)
  (ni : nolk l oi.dst = true) (nj : nolk l oj.dst = true) (hij : oi.dst ≠ oj.dst) (ri : Run P n l w oi vi w) (rj : Run P n l w oj vj w) (h : WD P os Q S s n (upO (upO l oi.dst vi) oj.dst vj) w) : WD P os Q S (.p i j s) n l w := by
 intro a ha
 have f1 := fits_old (u := vi) ha di ni
 have f2 := fits_old (u := vj) ha dj nj
 refine ⟨oi, oj, vi, vj, by simpa using hi, by simpa using hj, ?_, ?_, h _ ((ha.put _ _ di).put _ _ dj), h _ (((ha.put _ _ dj).put _ _ di).sub fun s v hs => ?_)⟩
 ·rintro a' (rfl | rfl)
  ·exact ⟨gd_wanted ha gi, ri _ ha⟩
  ·exact ⟨gd_wanted f2 gi, ri _ f2⟩
 ·rintro a' (rfl | rfl)
  ·exact ⟨gd_wanted ha gj, rj _ ha⟩
  ·exact ⟨gd_wanted f1 gj, rj _ f1⟩
 ·by_cases e1 : oj.dst = some s
  ·rw [lk_upO_ne (by rw [← e1]; exact hij)]
   rw [e1, lk_upO_eq] at hs
   rw [e1, lk_upO_eq]
   exact hs
  ·rw [lk_upO_ne e1] at hs
   by_cases e2 : oi.dst = some s
   ·rw [e2, lk_upO_eq] at hs
    rw [e2, lk_upO_eq]
    exact hs
   ·rw [lk_upO_ne e2] at hs ⊢
    rw [lk_upO_ne e1]
    exact hs
theorem d_nil (h : WQ Q .normal n l w) : WD P os Q S .z n l w := h
theorem d_boo {d : Nat} {b : Bool} (hc : lk l d = some (.bool b)) (ht : b = true → WD P os Q S s n ((d, .bool true) :: l) w) (hf : b = false → WD P os Q S s n ((d, .bool false) :: l) w) : WD P os Q S s n l w := by
 intro a ha
 cases b
 ·refine hf rfl a ⟨ha.defers, ha.size, fun s v hs => ?_⟩
  simp only [lk] at hs
  split at hs
  ·rename_i e _
   obtain rfl : Value.bool false = v := by simpa using hs
   subst e
   exact ha.get _ _ hc
  ·exact ha.get _ _ hs
 ·refine ht rfl a ⟨ha.defers, ha.size, fun s v hs => ?_⟩
  simp only [lk] at hs
  split at hs
  ·rename_i e _
   obtain rfl : Value.bool true = v := by simpa using hs
   subst e
   exact ha.get _ _ hc
  ·exact ha.get _ _ hs
theorem d_dec {d : Nat} {p : Prop} {_ : Decidable p} (hc : lk l d = some (.bool (decide p))) (ht : p → WD P os Q S s n ((d, .bool true) :: l) w) (hf : ¬ p → WD P os Q S s n ((d, .bool false) :: l) w) : WD P os Q S s n l w :=
 d_boo hc (fun h => ht (of_decide_eq_true h)) (fun h => hf (of_decide_eq_false h))
end
inductive Stq
 | e (i : Nat) (q : Stq)
 | m (i : Nat) (q : Stq)
 | w (i : Nat) (s : Stp)
def stqs : Stq → Nat
 | .e _ q => stqs q + 1
 | .m _ q => stqs q + 1
 | .w _ s => stps s + 1
def wOf : Stq → Nat
 | .e _ q => wOf q
 | .m _ q => wOf q
 | .w i _ => i
def waits (ops : Array Oper) (k i : Nat) : Bool := match ops[k]? with
 | some o => o.after.any fun e => Region.binds .any e && Nat.beq e.on i
 | none => false
def waitsT (ops : Array Oper) : Nat → Nat → Nat → Bool
 | 0, k, i => waits ops k i
 | n + 1, k, i => waits ops k i || (List.range ops.size).any fun m => waits ops k m && waitsT ops n m i
def Shut (ops : Array Oper) (listed : Array Bool) : Prop := ∀ (k : Nat) (o : Oper), ops[k]? = some o → listed.getD k true = true → ∀ e ∈ o.after, Region.binds .any e = true → listed.getD e.on true = true
theorem waits_in {ops : Array Oper} {L : Array Bool} {k i : Nat} (h : waits ops k i = true) (hk : ∀ o, ops[k]? = some o → ∀ e ∈ o.after, Region.binds .any e = true → L.getD e.on true = true) : L.getD i true = true := by
 unfold waits at h
 split at h
 ·rename_i o ho
  obtain ⟨x, hx, hx2⟩ := Array.any_eq_true'.1 h
  rw [Bool.and_eq_true] at hx2
  have := hk o ho x hx hx2.1
  rwa [Nat.eq_of_beq_eq_true hx2.2] at this
 ·cases h
theorem waitsT_in {ops : Array Oper} {L : Array Bool} (hL : Shut ops L) {i : Nat} : ∀ (n k : Nat), waitsT ops n k i = true → (∀ o, ops[k]? = some o → ∀ e ∈ o.after, Region.binds .any e = true → L.getD e.on true = true) → L.getD i true = true
 | 0, k, h, hk => waits_in h hk
 | n + 1, k, h, hk => by
  unfold waitsT at h
  rw [Bool.or_eq_true] at h
  rcases h with h | h
  ·exact waits_in h hk
  ·obtain ⟨m, _, hm⟩ := List.any_eq_true.1 h
   rw [Bool.and_eq_true] at hm
   have h1 := waits_in hm.1 hk
   exact waitsT_in hL n m hm.2 fun o ho e he hb => hL m o ho h1 e he hb
def ordQ (ops : Array Oper) : Stq → Array Bool → Bool
 | .e i q, listed => (Region.ready .any ops listed).contains i && Region.free .any ops listed i && waitsT ops 2 (wOf q) i && ordQ ops q (listed.setIfInBounds i true)
 | .m i q, listed => decide (Region.ready .any ops listed = [i]) && ordQ ops q (listed.setIfInBounds i true)
 | .w i s, listed => decide (Region.ready .any ops listed = [i]) && ordB ops s (listed.setIfInBounds i true)
section
variable {P : Program} {ops : Array Oper} {Q : Exit → Act → World → Prop} {S S2 : World → Prop} {W : Nat}
def wpAnyR (P : Program) (ops : Array Oper) (Q : Exit → Act → World → Prop) (S S2 : World → Prop) (W : Nat) : Nat → Array Bool → Act → World → Prop
 | 0, listed, a, w => Region.ready .any ops listed = [] ∧ Q .normal a w
 | n + 1, listed, a, w => (Region.ready .any ops listed = [] → Q .normal a w) ∧ ∀ i ∈ Region.ready .any ops listed,
   wpOp P ops Q i (fun a' w' => (i ≠ W ∧ S w' ∧ wpAnyR P ops Q S S2 W n (listed.setIfInBounds i true) a' w') ∨ (i = W ∧ wpAnyH P .any ops Q S2 n (listed.setIfInBounds i true) a' w')) a w
theorem wpAny_of_R : ∀ (n : Nat) (listed : Array Bool) (a : Act) (w : World), wpAnyR P ops Q S S2 W n listed a w → wpAny P .any ops Q n listed a w
 | 0, _, _, _, h => h
 | n + 1, _, _, _, h => ⟨h.1, fun i hi => wpOp_mono (fun a' w' h' => h'.elim (fun g => wpAny_of_R n _ a' w' g.2.2) fun g => wpAny_of_held n _ a' w' g.2) (h.2 i hi)⟩
theorem set_up (i : Nat) {k : Nat} (L : Array Bool) (h : L.getD k true = true) : (L.setIfInBounds i true).getD k true = true := by
 by_cases e : i = k
 ·subst e
  rcases Nat.lt_or_ge i L.size with h' | h'
  ·simp [Array.getD_eq_getD_getElem?, h']
  ·simp [Array.getD_eq_getD_getElem?, Array.getElem?_eq_none, h']
 ·rw [getD_set_ne true e]; exact h
theorem listed_of {L : Array Bool} {k : Nat} (h : L.getD k false = true) : L.getD k true = true := by
 rw [Array.getD_eq_getD_getElem?] at h ⊢
 cases hk : L[k]? with
 | none => rfl
 | some b => rw [hk] at h; exact h
theorem shut_set {L : Array Bool} {j : Nat} (h : Shut ops L) (hj : j ∈ Region.ready .any ops L) : Shut ops (L.setIfInBounds j true) := by
 intro k o ho hk e he hb
 obtain ⟨_, oj, hoj, hall⟩ := mem_ready.1 hj
 by_cases hjk : j = k
 ·subst hjk
  rw [hoj] at ho
  injection ho with ho
  subst ho
  exact set_up j L (listed_of (hall e he hb))
 ·rw [getD_set_ne true hjk] at hk
  exact set_up j L (h k o ho hk e he hb)
theorem first_R {i : Nat} {oi : Oper} {v : Value} (hi : ops[i]? = some oi) (hsel : ∀ (j : Nat) (o : Oper) cs b, ops[j]? = some o → o.op ≠ .select cs b) (hQ : ∀ c a w, Q (.panic c) (a.put oi.dst v) w → Q (.panic c) a w)
  (hw : waitsT ops 2 W i = true) (hiW : i ≠ W) : ∀ (n : Nat) (listed : Array Bool) (a : Act) (w : World), Shut ops listed →
   (∀ j oj, ops[j]? = some oj → j ≠ i → listed.getD j true = false → (∀ e ∈ oj.after, Region.binds .any e = true → e.on ≠ i) → oi.apart ops oj = true) →
   i ∈ Region.ready .any ops listed → YieldsIf P ops S oi v a → S w → wpAnyR P ops Q S S2 W n (listed.setIfInBounds i true) (a.put oi.dst v) w → wpAnyR P ops Q S S2 W (n + 1) listed a w := by
 intro n
 induction n with
 | zero =>
  intro listed a w hcl _ hr hy hS hH
  refine ⟨fun h => (by rw [h] at hr; cases hr), fun j hj => ?_⟩
  by_cases hji : j = i
  ·subst hji; exact hy.wpOp hi hS (.inl ⟨hiW, hS, hH⟩)
  ·have := ready_mono hj hji
   rw [hH.1] at this
   cases this
 | succ n ih =>
  intro listed a w hcl hfree hr hy hS hH
  refine ⟨fun h => (by rw [h] at hr; cases hr), fun j hj => ?_⟩
  by_cases hji : j = i
  ·subst hji; exact hy.wpOp hi hS (.inl ⟨hiW, hS, hH⟩)
  ·have h1 := hH.2 j (ready_mono hj hji)
   obtain ⟨hjun, oj, hoj, hall⟩ := mem_ready.1 hj
   have hnot : ∀ e ∈ oj.after, Region.binds .any e = true → e.on ≠ i := by
    intro e he hb heq
    have g1 := hall e he hb
    have g0 := (mem_ready.1 hr).1
    rw [heq] at g1
    rcases Nat.lt_or_ge i listed.size with h' | h'
    ·simp [h'] at g0 g1; rw [g0] at g1; cases g1
    ·simp [Array.getElem?_eq_none h'] at g1
   have hjW : j ≠ W := by
    intro e
    have g0 := (mem_ready.1 hr).1
    have g1 := waitsT_in hcl 2 W hw fun o ho x hx hb => listed_of (hall x (by rw [← e, hoj] at ho; injection ho with ho; rw [ho]; exact hx) hb)
    rw [g1] at g0
    cases g0
   have h2 := wpOp_putIf hoj (hfree j oj hoj hji hjun hnot) (fun cs b => hsel i oi cs b hi) (fun cs b => hsel j oj cs b hoj) hQ hy h1
   refine wpOp_mono (fun a' w' h3 => ?_) h2
   obtain ⟨hy', h4 | h4⟩ := h3
   ·refine .inl ⟨hjW, h4.2.1, ih (listed.setIfInBounds j true) a' w' (shut_set hcl hj) (fun k ok hk hki hun hno => ?_) (ready_mono hr (Ne.symm hji)) hy' h4.2.1 ?_⟩
    ·refine hfree k ok hk hki ?_ hno
     by_cases hjk : j = k
     ·subst hjk; exact hjun
     ·rw [getD_set_ne true hjk] at hun; exact hun
    ·rw [Array.setIfInBounds_comm _ _ hji]
     exact h4.2.2
   ·exact absurd h4.1 hjW
def wpQ (P : Program) (ops : Array Oper) (Q : Exit → Act → World → Prop) (S S2 : World → Prop) : Stq → Act → World → Prop
 | .e i q, a, w => ∃ o v, ops[i]? = some o ∧ YieldsIf P ops S o v a ∧ wpQ P ops Q S S2 q (a.put o.dst v) w
 | .m i q, a, w => ∃ o, ops[i]? = some o ∧ wpList P ops (onlyN fun a w => S w ∧ wpQ P ops Q S S2 q a w) [o] a w
 | .w i s, a, w => ∃ o, ops[i]? = some o ∧ wpList P ops (onlyN fun a w => S2 w ∧ wpO P ops Q S2 s a w) [o] a w
theorem wpOp_any {i : Nat} {o : Oper} {a : Act} {w : World} {T : World → Prop} {K K2 : Act → World → Prop} (ho : ops[i]? = some o) (h : wpList P ops (onlyN fun a w => T w ∧ K a w) [o] a w) (hk : ∀ a' w', T w' → K a' w' → K2 a' w') :
  wpOp P ops (onlyN fun a w => Q .normal a w) i K2 a w := by
 unfold wpOp
 simp only [ho]
 simp only [wpList] at h
 split
 ·rename_i hw
  rw [if_pos hw] at h
  rcases h with h | ⟨_, a', w', h⟩
  ·exact .inl (Oper.wp_mono (fun a' w' (h' : T w' ∧ K a' w') => hk a' w' h'.1 h'.2) (wp_onlyN h))
  ·exact h.elim
 ·rename_i hw
  rw [if_neg hw] at h
  exact hk _ w h.1 h.2
theorem wpAnyR_of_Q (hs : Region.noSelect ops = true) : ∀ (q : Stq) (listed : Array Bool) (a : Act) (w : World), ordQ ops q listed = true → Shut ops listed → (∀ k, waitsT ops 2 k k = true → False) → listed.getD (wOf q) true = false → S w → wpQ P ops Q S S2 q a w →
  wpAnyR P ops (onlyN fun a w => Q .normal a w) S S2 (wOf q) (stqs q) listed a w
 | .e i q, listed, a, w, hB, hcl, hno, hl, hS, h => by
  simp only [ordQ, Bool.and_eq_true] at hB
  obtain ⟨o, v, ho, hy, h⟩ := h
  have hne : i ≠ wOf q := fun e => hno i (by have := hB.1.2; rw [← e] at this; exact this)
  exact first_R ho (Region.noSelect_spec hs) (fun _ _ _ h => h) hB.1.2 hne _ listed a w hcl (Region.free_spec ho hB.1.1.2) (by simpa using hB.1.1.1) hy hS
   (wpAnyR_of_Q hs q _ _ w hB.2 (shut_set hcl (by simpa using hB.1.1.1)) hno (by rw [getD_set_ne true hne]; exact hl) hS h)
 | .m i q, listed, a, w, hB, hcl, hno, hl, hS, h => by
  simp only [ordQ, Bool.and_eq_true, decide_eq_true_eq] at hB
  obtain ⟨o, ho, h⟩ := h
  show wpAnyR P ops _ S S2 (wOf q) (stqs q + 1) listed a w
  refine ⟨fun h0 => (by rw [hB.1] at h0; cases h0), fun j hj => ?_⟩
  rw [hB.1] at hj
  obtain rfl : j = i := by simpa using hj
  by_cases hne : j = wOf q
  ·exfalso
   have : ∀ (q : Stq) (L : Array Bool), L.getD (wOf q) true = true → ordQ ops q L = true → False := by
    intro q
    induction q with
    | e i q ih => intro L hL hB; simp only [ordQ, Bool.and_eq_true] at hB; exact ih _ (set_up i _ hL) hB.2
    | m i q ih => intro L hL hB; simp only [ordQ, Bool.and_eq_true] at hB; exact ih _ (set_up i _ hL) hB.2
    | w i s =>
     intro L hL hB
     simp only [ordQ, Bool.and_eq_true, decide_eq_true_eq] at hB
     have hr : i ∈ Region.ready .any ops L := by rw [hB.1]; simp
     have := (mem_ready.1 hr).1
     rw [show L.getD i true = true from hL] at this; cases this
   refine this q _ ?_ hB.2
   rw [← hne]
   rcases Nat.lt_or_ge j listed.size with h' | h'
   ·simp [Array.getD_eq_getD_getElem?, h']
   ·simp [Array.getD_eq_getD_getElem?, Array.getElem?_eq_none h', Array.getElem?_setIfInBounds_ne, h']
  ·exact wpOp_any ho h fun a' w' hS' h' => .inl ⟨hne, hS', wpAnyR_of_Q hs q _ a' w' hB.2 (shut_set hcl (by rw [hB.1]; simp)) hno (by rw [getD_set_ne true hne]; exact hl) hS' h'⟩
 | .w i s, listed, a, w, hB, hcl, hno, hl, hS, h => by
  simp only [ordQ, Bool.and_eq_true, decide_eq_true_eq] at hB
  obtain ⟨o, ho, h⟩ := h
  show wpAnyR P ops _ S S2 i (stps s + 1) listed a w
  refine ⟨fun h0 => (by rw [hB.1] at h0; cases h0), fun j hj => ?_⟩
  rw [hB.1] at hj
  obtain rfl : j = i := by simpa using hj
  exact wpOp_any ho h fun a' w' hS' h' => .inr ⟨rfl, wpAnyH_of_O hs s _ a' w' hB.2 hS' h'⟩
end
section
variable {P : Program} {Q : Exit → Act → World → Prop} {S S2 : World → Prop} {n : Nat} {l : Env} {w0 w : World} {F0 : Foot} {As Rs : List SP} {s : Stp} {q : Stq} {os : List Oper} {o : Oper} {v : Value} {i : Nat}
def WG (P : Program) (os : List Oper) (Q : Exit → Act → World → Prop) (S S2 : World → Prop) (q : Stq) (n : Nat) (l : Env) (w : World) : Prop := ∀ a, Fits n l a → wpQ P os.toArray Q S S2 q a w
def noSelf (ops : Array Oper) : Bool := (List.range ops.size).all fun k => !waitsT ops 2 k k
theorem waitsT_no {ops : Array Oper} {k i : Nat} (hk : ops[k]? = none) : ∀ n, waitsT ops n k i = false
 | 0 => by unfold waitsT waits; rw [hk]
 | n + 1 => by
  have h0 : ∀ m, waits ops k m = false := fun m => by unfold waits; rw [hk]
  unfold waitsT
  rw [h0, Bool.false_or, List.any_eq_false]
  intro m _
  rw [h0]; simp
theorem noSelf_no {ops : Array Oper} (h : noSelf ops = true) (k : Nat) (hk : waitsT ops 2 k k = true) : False := by
 by_cases hl : k < ops.size
 ·have := List.all_eq_true.1 h k (List.mem_range.2 hl)
  rw [hk] at this; cases this
 ·rw [waitsT_no (Array.getElem?_eq_none (by omega))] at hk; cases hk
theorem shut0 (ops : Array Oper) : Shut ops (Array.replicate ops.size false) := by
 intro k o ho hk
 obtain ⟨hl, _⟩ := Array.getElem?_eq_some_iff.1 ho
 simp [Array.getD_eq_getD_getElem?, hl] at hk
theorem c_ord2 {id : Nat} (q : Stq) (S S2 : World → Prop) (hm : P.follows .mixedOrders = true) (hB : (Region.noSelect os.toArray && noSelf os.toArray && !((Array.replicate os.length false).getD (wOf q) true) && ordQ os.toArray q (Array.replicate os.length false) && Nat.beq (stqs q) os.length) = true)
  (hS : ∀ w', Hd w0 F0 w' As Rs → S w') (H : Hd w0 F0 w As Rs) (h : ∀ w', Hd w0 F0 w' As Rs → WG P os Q S S2 q n l w') : WC P (.region id os.toArray true) Q n l w := by
 intro a ha
 simp only [Bool.and_eq_true, Bool.not_eq_true'] at hB
 have H' : Hd w0 F0 { w with drawn := w.drawn + 1 } As Rs := H.drewN 1
 have h1 := wpAnyR_of_Q (Q := Q) (S2 := S2) hB.1.1.1.1 q _ a _ hB.1.2 (by have := shut0 os.toArray; simpa using this) (noSelf_no hB.1.1.1.2) hB.1.1.2 (hS _ H') (h _ H' a ha)
 have h2 := wpAny_of_R _ _ _ _ h1
 rw [Nat.eq_of_beq_eq_true hB.2, show os.length = os.toArray.size by simp] at h2
 exact wp_mono (wp_region_any hm (by simpa using h2)) fun e a w h => by
  cases e <;> first | exact h | exact h.elim
theorem g_val (hi : os[i]? = some o) (hg : gd os.toArray l o = some true) (hd : dok n o.dst = true) (hr : ∀ w, S w → Run P n l w o v w) (h : WG P os Q S S2 q n (upO l o.dst v) w) : WG P os Q S S2 (.e i q) n l w := by
 intro a ha
 exact ⟨o, v, by simpa using hi, .inl ⟨gd_wanted ha hg, fun w hw => hr w hw a ha⟩, h _ (ha.put _ _ hd)⟩
theorem g_no (hi : os[i]? = some o) (hg : gd os.toArray l o = some false) (hd : dok n o.dst = true) (h : WG P os Q S S2 q n (upO l o.dst undef) w) : WG P os Q S S2 (.e i q) n l w := by
 intro a ha
 exact ⟨o, undef, by simpa using hi, .inr ⟨gd_wanted ha hg, rfl⟩, h _ (ha.put _ _ hd)⟩
theorem g_main (hi : os[i]? = some o) (h : WL P os.toArray (onlyN fun a w => S w ∧ wpQ P os.toArray Q S S2 q a w) [o] n l w) : WG P os Q S S2 (.m i q) n l w := by
 intro a ha
 exact ⟨o, by simpa using hi, h a ha⟩
theorem g_back (hS : S w) (h : WG P os Q S S2 q n l w) : WL P os.toArray (onlyN fun a w => S w ∧ wpQ P os.toArray Q S S2 q a w) [] n l w := by
 intro a ha
 exact ⟨hS, h a ha⟩
theorem g_sw (hi : os[i]? = some o) (h : WL P os.toArray (onlyN fun a w => S2 w ∧ wpO P os.toArray Q S2 s a w) [o] n l w) : WG P os Q S S2 (.w i s) n l w := by
 intro a ha
 exact ⟨o, by simpa using hi, h a ha⟩
end
def nthV : List Value → Nat → Option Value
 | [], _ => none
 | v :: _, 0 => some v
 | _ :: r, i + 1 => nthV r i
theorem nthV_eq : ∀ (l : List Value) (i : Nat), nthV l i = l[i]?
 | [], i => by simp [nthV]
 | v :: r, 0 => by simp [nthV]
 | v :: r, i + 1 => by simp [nthV, nthV_eq r i]
def mvV (l : Env) : Op → Option Value
 | .move x => ev l x
 | .assign x => ev l x
 | .pick c x y => match ev l c with
  | some (.bool true) => ev l x
  | some (.bool false) => ev l y
  | _ => none
 | .extract x i => match ev l x with
  | some (.tuple vs) => nthV vs.toList i
  | _ => none
 | _ => none
def stp (ops : Array Oper) (n : Nat) (l : Env) (o : Oper) : Option Env :=
 match dok n o.dst with
 | false => none
 | true => match gd ops l o with
  | some true => match mvV l o.op with
   | some v => some (upO l o.dst v)
   | none => none
  | some false => some (upO l o.dst undef)
  | none => none
def stpk (ops : Array Oper) (n : Nat) : Nat → List Oper → Env → Option (List Oper × Env)
 | 0, r, l => some (r, l)
 | k + 1, o :: r, l => match stp ops n l o with
  | some l' => stpk ops n k r l'
  | none => none
 | _ + 1, [], _ => none
theorem mvV_run {P : Program} {n : Nat} {l : Env} {w : World} {o : Oper} {v : Value} (h : mvV l o.op = some v) : Run P n l w o v w := by
 unfold mvV at h
 split at h
 ·rename_i x ho; exact r_mv ho h
 ·rename_i x ho; exact r_as ho h
 ·rename_i c x y ho
  split at h
  ·rename_i hc; exact r_pickT ho hc h
  ·rename_i hc; exact r_pickF ho hc h
  ·cases h
 ·rename_i x i ho
  split at h
  ·rename_i vs hx; exact r_ex ho hx (by rw [nthV_eq] at h; simpa using h)
  ·cases h
 ·cases h
section
variable {P : Program} {ops : Array Oper} {Q : Exit → Act → World → Prop} {rest rest' : List Oper} {n : Nat} {l l' : Env} {w : World} {o : Oper}
theorem stp_cases (h : stp ops n l o = some l') : dok n o.dst = true ∧ ((gd ops l o = some true ∧ ∃ v, mvV l o.op = some v ∧ l' = upO l o.dst v) ∨ (gd ops l o = some false ∧ l' = upO l o.dst undef)) := by
 unfold stp at h
 split at h
 ·cases h
 ·rename_i hd
  refine ⟨hd, ?_⟩
  split at h
  ·rename_i hg
   split at h
   ·rename_i v hv; cases h; exact .inl ⟨hg, v, hv, rfl⟩
   ·cases h
  ·rename_i hg; cases h; exact .inr ⟨hg, rfl⟩
  ·cases h
theorem s_1 (h : stp ops n l o = some l') (hk : WL P ops Q rest n l' w) : WL P ops Q (o :: rest) n l w := by
 obtain ⟨hd, ⟨hg, v, hv, rfl⟩ | ⟨hg, rfl⟩⟩ := stp_cases h
 ·exact s_val hg hd (mvV_run hv) hk
 ·exact s_no hg hd hk
theorem s_k (k : Nat) (h : stpk ops n k rest l = some (rest', l')) (hk : WL P ops Q rest' n l' w) : WL P ops Q rest n l w := by
 induction k generalizing rest l with
 | zero => unfold stpk at h; cases h; exact hk
 | succ k ih =>
  cases rest with
  | nil => unfold stpk at h; cases h
  | cons o r =>
   unfold stpk at h
   split at h
   ·rename_i l1 h1; exact s_1 h1 (ih h)
   ·cases h
theorem u_1 {C : World → Prop} {K : Act → Prop} (h : stp ops n l o = some l') (hk : WU P ops C K rest n l') : WU P ops C K (o :: rest) n l := by
 obtain ⟨hd, ⟨hg, v, hv, rfl⟩ | ⟨hg, rfl⟩⟩ := stp_cases h
 ·exact u_val hg hd (fun _ _ => mvV_run hv) hk
 ·exact u_no hg hd hk
theorem u_k {C : World → Prop} {K : Act → Prop} (k : Nat) (h : stpk ops n k rest l = some (rest', l')) (hk : WU P ops C K rest' n l') : WU P ops C K rest n l := by
 induction k generalizing rest l with
 | zero => unfold stpk at h; cases h; exact hk
 | succ k ih =>
  cases rest with
  | nil => unfold stpk at h; cases h
  | cons o r =>
   unfold stpk at h
   split at h
   ·rename_i l1 h1; exact u_1 h1 (ih h)
   ·cases h
def stpd (os : List Oper) (n : Nat) (l : Env) (i : Nat) : Option Env := match os[i]? with
 | some o => stp os.toArray n l o
 | none => none
theorem d_1 {os : List Oper} {S : World → Prop} {s : Stp} {i : Nat} (h : stpd os n l i = some l') (hk : WD P os Q S s n l' w) : WD P os Q S (.e i s) n l w := by
 unfold stpd at h
 split at h
 ·rename_i o ho
  obtain ⟨hd, ⟨hg, v, hv, rfl⟩ | ⟨hg, rfl⟩⟩ := stp_cases h
  ·exact d_val ho hg hd (fun _ _ => mvV_run hv) hk
  ·exact d_no ho hg hd hk
 ·cases h
theorem g_1 {os : List Oper} {S S2 : World → Prop} {q : Stq} {i : Nat} (h : stpd os n l i = some l') (hk : WG P os Q S S2 q n l' w) : WG P os Q S S2 (.e i q) n l w := by
 unfold stpd at h
 split at h
 ·rename_i o ho
  obtain ⟨hd, ⟨hg, v, hv, rfl⟩ | ⟨hg, rfl⟩⟩ := stp_cases h
  ·exact g_val ho hg hd (fun _ _ => mvV_run hv) hk
  ·exact g_no ho hg hd hk
 ·cases h
end
section
variable {w0 w : World} {F0 : Foot} {As Rs : List SP} {A B C D E F G I J K : SP}
theorem Hd.k1 (H : Hd w0 F0 w (A :: As) Rs) : Hd w0 F0 w [A] Rs := H.keep 1
theorem Hd.k2 (H : Hd w0 F0 w (A :: B :: As) Rs) : Hd w0 F0 w [A, B] Rs := H.keep 2
theorem Hd.k3 (H : Hd w0 F0 w (A :: B :: C :: As) Rs) : Hd w0 F0 w [A, B, C] Rs := H.keep 3
theorem Hd.k4 (H : Hd w0 F0 w (A :: B :: C :: D :: As) Rs) : Hd w0 F0 w [A, B, C, D] Rs := H.keep 4
theorem Hd.k5 (H : Hd w0 F0 w (A :: B :: C :: D :: E :: As) Rs) : Hd w0 F0 w [A, B, C, D, E] Rs := H.keep 5
theorem Hd.k6 (H : Hd w0 F0 w (A :: B :: C :: D :: E :: F :: As) Rs) : Hd w0 F0 w [A, B, C, D, E, F] Rs := H.keep 6
theorem Hd.k7 (H : Hd w0 F0 w (A :: B :: C :: D :: E :: F :: G :: As) Rs) : Hd w0 F0 w [A, B, C, D, E, F, G] Rs := H.keep 7
theorem Hd.k8 (H : Hd w0 F0 w (A :: B :: C :: D :: E :: F :: G :: I :: As) Rs) : Hd w0 F0 w [A, B, C, D, E, F, G, I] Rs := H.keep 8
theorem Hd.k9 (H : Hd w0 F0 w (A :: B :: C :: D :: E :: F :: G :: I :: J :: As) Rs) : Hd w0 F0 w [A, B, C, D, E, F, G, I, J] Rs := H.keep 9
theorem Hd.k10 (H : Hd w0 F0 w (A :: B :: C :: D :: E :: F :: G :: I :: J :: K :: As) Rs) : Hd w0 F0 w [A, B, C, D, E, F, G, I, J, K] Rs := H.keep 10
theorem Hd.p1 (H : Hd w0 F0 w (A :: B :: As) Rs) : Hd w0 F0 w (B :: A :: As) Rs := H.pick 1 rfl
theorem Hd.p2 (H : Hd w0 F0 w (A :: B :: C :: As) Rs) : Hd w0 F0 w (C :: A :: B :: As) Rs := H.pick 2 rfl
theorem Hd.p3 (H : Hd w0 F0 w (A :: B :: C :: D :: As) Rs) : Hd w0 F0 w (D :: A :: B :: C :: As) Rs := H.pick 3 rfl
theorem Hd.p4 (H : Hd w0 F0 w (A :: B :: C :: D :: E :: As) Rs) : Hd w0 F0 w (E :: A :: B :: C :: D :: As) Rs := H.pick 4 rfl
theorem Hd.p5 (H : Hd w0 F0 w (A :: B :: C :: D :: E :: F :: As) Rs) : Hd w0 F0 w (F :: A :: B :: C :: D :: E :: As) Rs := H.pick 5 rfl
theorem Hd.p6 (H : Hd w0 F0 w (A :: B :: C :: D :: E :: F :: G :: As) Rs) : Hd w0 F0 w (G :: A :: B :: C :: D :: E :: F :: As) Rs := H.pick 6 rfl
theorem Hd.p7 (H : Hd w0 F0 w (A :: B :: C :: D :: E :: F :: G :: I :: As) Rs) : Hd w0 F0 w (I :: A :: B :: C :: D :: E :: F :: G :: As) Rs := H.pick 7 rfl
theorem Hd.p8 (H : Hd w0 F0 w (A :: B :: C :: D :: E :: F :: G :: I :: J :: As) Rs) : Hd w0 F0 w (J :: A :: B :: C :: D :: E :: F :: G :: I :: As) Rs := H.pick 8 rfl
theorem Hd.p9 (H : Hd w0 F0 w (A :: B :: C :: D :: E :: F :: G :: I :: J :: K :: As) Rs) : Hd w0 F0 w (K :: A :: B :: C :: D :: E :: F :: G :: I :: J :: As) Rs := H.pick 9 rfl
theorem Hd.h1 (H : Hd w0 F0 w (A :: As) Rs) : Hd w0 F0 w (A :: As) Rs := H
theorem Hd.h2 (H : Hd w0 F0 w (A :: B :: As) Rs) : Hd w0 F0 w (A :: B :: As) Rs := H
theorem Hd.h3 (H : Hd w0 F0 w (A :: B :: C :: As) Rs) : Hd w0 F0 w (A :: B :: C :: As) Rs := H
theorem Hd.h4 (H : Hd w0 F0 w (A :: B :: C :: D :: As) Rs) : Hd w0 F0 w (A :: B :: C :: D :: As) Rs := H
theorem Hd.h5 (H : Hd w0 F0 w (A :: B :: C :: D :: E :: As) Rs) : Hd w0 F0 w (A :: B :: C :: D :: E :: As) Rs := H
theorem Hd.h6 (H : Hd w0 F0 w (A :: B :: C :: D :: E :: F :: As) Rs) : Hd w0 F0 w (A :: B :: C :: D :: E :: F :: As) Rs := H
theorem Hd.h7 (H : Hd w0 F0 w (A :: B :: C :: D :: E :: F :: G :: As) Rs) : Hd w0 F0 w (A :: B :: C :: D :: E :: F :: G :: As) Rs := H
theorem Hd.h8 (H : Hd w0 F0 w (A :: B :: C :: D :: E :: F :: G :: I :: As) Rs) : Hd w0 F0 w (A :: B :: C :: D :: E :: F :: G :: I :: As) Rs := H
theorem Hd.h9 (H : Hd w0 F0 w (A :: B :: C :: D :: E :: F :: G :: I :: J :: As) Rs) : Hd w0 F0 w (A :: B :: C :: D :: E :: F :: G :: I :: J :: As) Rs := H
theorem Hd.h10 (H : Hd w0 F0 w (A :: B :: C :: D :: E :: F :: G :: I :: J :: K :: As) Rs) : Hd w0 F0 w (A :: B :: C :: D :: E :: F :: G :: I :: J :: K :: As) Rs := H
end
def EntI (es : List MapEntry) (kvs : List (Int × Value)) : Prop := es.map (fun e => (e.key, e.val)) = kvs.map (fun p => (Value.int .i64 p.1, p.2))
def alook (k : Int) : List (Int × Value) → Option Value
 | [] => none
 | p :: r => if k = p.1 then some p.2 else alook k r
def mapI (b : Nat) (kvs : List (Int × Value)) : SP where
 P w F := F b ∧ ∃ es c, w.heap[b]? = some (.map es c) ∧ EntI es.toList kvs
 loc := fun ⟨h, es, c, e, h2⟩ hk => ⟨h, es, c, (hk b h).trans e, h2⟩
 mono := fun ⟨h, h2⟩ hs => ⟨hs b h, h2⟩
theorem findNow_i {k : Int} : ∀ {es : List MapEntry} {kvs : List (Int × Value)} (i : Nat), EntI es kvs →
  (alook k kvs = none ∧ Instr.findNow (.int .i64) (.int .i64 k) es i = some none) ∨ ∃ j v, alook k kvs = some v ∧ Instr.findNow (.int .i64) (.int .i64 k) es i = some (some (j, v))
 | [], kvs, i, h => by
  obtain rfl : kvs = [] := by simpa [EntI] using h.symm
  exact .inl ⟨rfl, rfl⟩
 | e :: es, [], i, h => by simp [EntI] at h
 | e :: es, p :: kvs, i, h => by
  simp only [EntI, List.map_cons, List.cons.injEq, Prod.mk.injEq] at h
  obtain ⟨⟨h1, h2⟩, h3⟩ := h
  have ih := findNow_i (k := k) (i + 1) (show EntI es kvs from h3)
  unfold alook Instr.findNow
  rw [h1]
  simp only [Instr.sameNow, if_true]
  by_cases hk : k = p.1
  ·rw [if_pos hk]
   refine .inr ⟨i, p.2, rfl, ?_⟩
   simp [hk, h2]
  ·rw [if_neg hk]
   have : (k == p.1) = false := by simpa using hk
   rw [this]
   exact ih
section
variable {P : Program} {ops : Array Oper} {Q : Exit → Act → World → Prop} {rest : List Oper} {n : Nat} {l : Env} {w0 w : World} {F0 : Foot} {o : Oper} {v : Value} {As Rs : List SP} {x y : Operand} {t kt et : TypeId} {b : Nat} {kvs : List (Int × Value)}
theorem run_look {F : Foot} (hm : P.underlying t = some (.map kt et)) (hk : P.underlying kt = some (.int .i64)) {z : Value} (hz : zrOf P et = some z) (k : Int) (h : (mapI b kvs).P w F) : (Instr.lookup t (.map (some b)) (.int .i64 k) false).run P w = .ok ((alook k kvs).getD z) w := by
 obtain ⟨_, es, c, hb, he⟩ := h
 have hg := MapKept.run_getObj_map (P := P) hb
 have hc := fun e => MapKept.run_checkKey (P := P) (w := w) (k := .int .i64 k) hk (by trivial) e 9999
 obtain ⟨i, hi, hz'⟩ := Option.bind_eq_some_iff.1 hz
 rcases findNow_i (k := k) 0 he with ⟨h1, h2⟩ | ⟨j, u, h1, h2⟩
 ·have hf := MapKept.run_findKey (w := w) hk h2
  simp [Instr.lookup, run_underlying hm, hg, hc, hf, h1, zeroValue, typeInfo, hi, hz']
 ·have hf := MapKept.run_findKey (w := w) hk h2
  simp [Instr.lookup, run_underlying hm, hg, hc, hf, h1]
theorem r_look (ho : o.op = .lookup t x y false) (hm : P.underlying t = some (.map kt et)) (hk : P.underlying kt = some (.int .i64)) {z : Value} (hz : zrOf P et = some z) (hx : ev l x = some (.map (some b))) {k : Int} (hy : ev l y = some (.int .i64 k))
  (H : Hd w0 F0 w As Rs) (j : Nat) (hj : As[j]? = some (mapI b kvs)) : Run P n l w o ((alook k kvs).getD z) w := by
 intro a ha
 refine H.fact (List.mem_of_getElem? hj) fun F h => ?_
 have := run_look hm hk hz k h
 simp [execOp, ho, ha.eval hx, ha.eval hy, this]
theorem s_mset {z : Operand} (hg : gd ops l o = some true) (hd : o.dst = none) (ho : o.op = .mapUpdate t x y z) (hm : P.underlying t = some (.map kt et)) (hk : P.underlying kt = some (.int .i64)) (hx : ev l x = some (.map (some b))) {k : Int} (hy : ev l y = some (.int .i64 k)) (hz : ev l z = some v)
  (hn : alook k kvs = none) (H : Hd w0 F0 w (mapI b kvs :: As) Rs) (h : ∀ w', Hd w0 F0 w' (mapI b (kvs ++ [(k, v)]) :: As) Rs → WL P ops Q rest n l w') : WL P ops Q (o :: rest) n l w := by
 obtain ⟨es, c, hb, he⟩ : ∃ es c, w.heap[b]? = some (.map es c) ∧ EntI es.toList kvs := H.fact (List.mem_cons_self ..) fun F h => h.2
 have hgo := MapKept.run_getObj_map (P := P) hb
 have hc := MapKept.run_checkKey (P := P) (w := w) (k := .int .i64 k) hk (by trivial) false 9999
 have hf : (Instr.findKey kt (.int .i64 k) es.toList).run P w = .ok none w := by
  rcases findNow_i (k := k) 0 he with ⟨h1, h2⟩ | ⟨j, u, h1, h2⟩
  ·exact MapKept.run_findKey (w := w) hk h2
  ·rw [hn] at h1; cases h1
 have hs := fun ob => MapKept.run_setObj_map (P := P) (o := ob) hb
 refine s_skip hg hd (w' := { w with heap := w.heap.setIfInBounds b (.map (es.push { key := .int .i64 k, val := v, born := c }) (c + 1)) }) (fun a ha => ?_) (h _ (H.write fun F hF => ?_))
 ·simp [execOp, ho, ha.eval hx, ha.eval hy, ha.eval hz, Instr.mapUpdate, run_underlying hm, hgo, hc, hf, hs]
 ·have hlt : b < w.heap.size := (Array.getElem?_eq_some_iff.1 hb).1
  refine ⟨⟨hF.1, _, _, by simp [hlt]; exact ⟨rfl, rfl⟩, ?_⟩, ⟨rfl, rfl, rfl, by simp, fun k hk hn' => ?_⟩⟩
  ·simp only [EntI, Array.toList_push, List.map_append] at he ⊢
   rw [he]
   rfl
  ·have : b ≠ k := fun e => hn' (e ▸ hF.1)
   simp [this]
theorem s_mkmap (hg : gd ops l o = some true) (hd : dok n o.dst = true) (ho : o.op = .makeMap t none) (H : Hd w0 F0 w As Rs)
  (h : ∀ b w', Hd w0 F0 w' (mapI b [] :: As) Rs → WL P ops Q rest n (upO l o.dst (.map (some b))) w') : WL P ops Q (o :: rest) n l w := by
 refine s_val (w' := w.alloc (.map #[] 0)) hg hd (v := .map (some w.heap.size)) (fun a ha => ?_) (h _ _ ?_)
 ·simp [execOp, ho, Instr.makeMap]
 ·refine H.new (F' := fun k => k = w.heap.size) (Upd.alloc _ _ _) ⟨rfl, #[], 0, heap_alloc_new w _, rfl⟩ ?_
  intro k hk
  subst hk
  simp
end
/-! ### Lists of keys and values -/
theorem set_same {α : Type} {l : List α} {j : Nat} {x : α} (h : l[j]? = some x) : l.set j x = l := by
 refine List.ext_getElem? fun i => ?_
 rw [List.getElem?_set]
 split
 ·rename_i e
  subst e
  split
  ·exact h.symm
  ·rename_i hl
   rw [List.getElem?_eq_none (by omega)] at h
   cases h
 ·rfl
section
variable {κ : Type} [DecidableEq κ] {kvs : List (κ × Value)} {k : κ} {v u : Value} {j : Nat}
def lookK (k : κ) : List (κ × Value) → Option Value
 | [] => none
 | p :: r => if p.1 = k then some p.2 else lookK k r
def setK (k : κ) (v : Value) : List (κ × Value) → List (κ × Value)
 | [] => [(k, v)]
 | p :: r => if p.1 = k then (k, v) :: r else p :: setK k v r
theorem look_at : ∀ {kvs : List (κ × Value)} {j : Nat}, (kvs.map (·.1)).Nodup → kvs[j]? = some (k, v) → lookK k kvs = some v
 | [], j, _, h => by simp at h
 | p :: r, 0, _, h => by
  obtain rfl : p = (k, v) := by simpa using h
  exact if_pos rfl
 | p :: r, j + 1, hn, h => by
  rw [List.map_cons, List.nodup_cons] at hn
  have hr : r[j]? = some (k, v) := by simpa using h
  have hne : ¬ p.1 = k := fun e => hn.1 (List.mem_map.2 ⟨(k, v), List.mem_of_getElem? hr, e.symm⟩)
  unfold lookK
  rw [if_neg hne]
  exact look_at hn.2 hr
theorem set_at : ∀ {kvs : List (κ × Value)} {j : Nat}, (kvs.map (·.1)).Nodup → kvs[j]? = some (k, v) → setK k u kvs = kvs.set j (k, u)
 | [], j, _, h => by simp at h
 | p :: r, 0, _, h => by
  obtain rfl : p = (k, v) := by simpa using h
  exact if_pos rfl
 | p :: r, j + 1, hn, h => by
  rw [List.map_cons, List.nodup_cons] at hn
  have hr : r[j]? = some (k, v) := by simpa using h
  have hne : ¬ p.1 = k := fun e => hn.1 (List.mem_map.2 ⟨(k, v), List.mem_of_getElem? hr, e.symm⟩)
  unfold setK
  rw [if_neg hne, set_at hn.2 hr]
  rfl
theorem look_none : ∀ {kvs : List (κ × Value)}, (∀ p ∈ kvs, p.1 ≠ k) → lookK k kvs = none
 | [], _ => rfl
 | p :: r, h => by
  unfold lookK
  rw [if_neg (h p (List.mem_cons_self ..))]
  exact look_none fun q hq => h q (List.mem_cons_of_mem _ hq)
theorem set_none : ∀ {kvs : List (κ × Value)}, (∀ p ∈ kvs, p.1 ≠ k) → setK k u kvs = kvs ++ [(k, u)]
 | [], _ => rfl
 | p :: r, h => by
  unfold setK
  rw [if_neg (h p (List.mem_cons_self ..)), set_none fun q hq => h q (List.mem_cons_of_mem _ hq)]
  rfl
theorem set_keys (hn : (kvs.map (·.1)).Nodup) : ((setK k u kvs).map (·.1)).Nodup := by
 by_cases h : ∀ p ∈ kvs, p.1 ≠ k
 ·rw [set_none h, List.map_append]
  exact List.nodup_append.2 ⟨hn, by simp, fun a ha b hb e => by
   obtain ⟨p, hp, rfl⟩ := List.mem_map.1 ha
   rw [List.map_cons, List.map_nil, List.mem_singleton] at hb
   exact h p hp (e.trans hb)⟩
 ·have : ∃ p ∈ kvs, p.1 = k := Classical.byContradiction fun hh => h fun p hp e => hh ⟨p, hp, e⟩
  obtain ⟨⟨_, v⟩, hp, rfl⟩ := this
  obtain ⟨j, hj⟩ := List.getElem?_of_mem hp
  rw [set_at hn hj, List.map_set, set_same (by rw [List.getElem?_map, hj]; rfl)]
  exact hn
end
/-! ### What a key's type must be -/
structure KeyT (P : Program) (kt : TypeId) {κ : Type} (enc : κ → Value) : Prop where
 inj : ∀ {a b : κ}, enc a = enc b → a = b
 check : ∀ (w : World) (e : Bool) (k : κ), (Instr.checkKey e 10000 kt (enc k)).run P w = .ok () w
 find : ∀ (w : World) (k : κ) (es : List MapEntry), (∀ e ∈ es, ∃ k', e.key = enc k') → ((Instr.findKey kt (enc k) es).run P w = .ok none w ∧ ∀ e ∈ es, e.key ≠ enc k) ∨ ∃ j e, (Instr.findKey kt (enc k) es).run P w = .ok (some (j, e.val)) w ∧ es[j]? = some e ∧ e.key = enc k
 stays : ∀ (w : World) (k : κ), (Instr.keyThatStays (enc k) (enc k)).run P w = .ok (enc k) w
def key2 (k : Int × Int) : Value := .agg #[.int .i64 k.1, .int .i64 k.2]
structure Int2T (P : Program) (t i : TypeId) : Prop where
 ex : ∃ f0 f1 : Field, EqT P t [f0, f1] ∧ f0.name ≠ "_" ∧ f1.name ≠ "_" ∧ f0.type = i ∧ f1.type = i ∧ f0.offset = 0 ∧ f1.offset = 1
 int : P.underlying i = some (.int .i64)
 one : tyOf P i = some (false, 1)
theorem eqF_int2 {P : Program} {w : World} {i : TypeId} {f0 f1 : Field} (d : Nat) (p q : Int × Int) (h1 : f0.name ≠ "_") (h2 : f1.name ≠ "_") (h3 : f0.type = i) (h4 : f1.type = i) (h5 : f0.offset = 0) (h6 : f1.offset = 1) (hs : P.underlying i = some (.int .i64)) (ho : tyOf P i = some (false, 1)) :
  (Op.eqFields (d + 1) #[.int .i64 p.1, .int .i64 p.2] #[.int .i64 q.1, .int .i64 q.2] [f0, f1]).run P w = .ok (decide (p = q)) w := by
 rw [eqF_cons (u := .int .i64 p.1) (v := .int .i64 q.1) (b := decide (p.1 = q.1)) h1 (by rw [h3]; exact ho) (by rw [h5]; rfl) (by rw [h5]; rfl) (by rw [h3]; exact eqIn_int d hs)]
 rw [eqF_cons (u := .int .i64 p.2) (v := .int .i64 q.2) (b := decide (p.2 = q.2)) h2 (by rw [h4]; exact ho) (by rw [h6]; rfl) (by rw [h6]; rfl) (by rw [h4]; exact eqIn_int d hs)]
 obtain ⟨a, b⟩ := p
 obtain ⟨c, e⟩ := q
 by_cases e1 : a = c <;> by_cases e2 : b = e <;> simp [e1, e2, Op.eqFields]
theorem run_eq2 {P : Program} {t i : TypeId} (h : Int2T P t i) (w : World) (p q : Int × Int) : (Op.equal t (key2 p) (key2 q)).run P w = .ok (decide (p = q)) w := by
 obtain ⟨f0, f1, he, h1, h2, h3, h4, h5, h6⟩ := h.ex
 exact (he.run (9998 + 1) _ _).trans (eqF_int2 9998 p q h1 h2 h3 h4 h5 h6 h.int h.one)
theorem run_ask2 {P : Program} {t i : TypeId} (h : Int2T P t i) (w : World) (k : Int × Int) : ∀ (es : List MapEntry) (n : Nat), (∀ e ∈ es, ∃ k', e.key = key2 k') →
  ((Instr.findAsking t (key2 k) es n).run P w = .ok none w ∧ ∀ e ∈ es, e.key ≠ key2 k) ∨ ∃ j e, (Instr.findAsking t (key2 k) es n).run P w = .ok (some (n + j, e.val)) w ∧ es[j]? = some e ∧ e.key = key2 k
 | [], n, _ => .inl ⟨by simp [Instr.findAsking], by simp⟩
 | e :: es, n, hs => by
  obtain ⟨k', hk'⟩ := hs e (List.mem_cons_self ..)
  have hq := run_eq2 h w k k'
  by_cases hkk : k = k'
  ·subst hkk
   exact .inr ⟨0, e, by simp [Instr.findAsking, hk', hq], rfl, hk'⟩
  ·have hne : e.key ≠ key2 k := fun q => by
    rw [hk'] at q
    unfold key2 at q
    simp only [Value.agg.injEq, Array.mk.injEq, List.cons.injEq, Value.int.injEq, and_true, true_and] at q
    exact hkk (Prod.ext q.1.symm q.2.symm)
   rcases run_ask2 h w k es (n + 1) (fun x hx => hs x (List.mem_cons_of_mem _ hx)) with ⟨h1, h2⟩ | ⟨j, e', h1, h2, h3⟩
   ·exact .inl ⟨by simp [Instr.findAsking, hk', hq, hkk, h1], fun x hx => by
     cases hx with
     | head => exact hne
     | tail _ hx => exact h2 x hx⟩
   ·exact .inr ⟨j + 1, e', by simp [Instr.findAsking, hk', hq, hkk, h1]; omega, by simpa using h2, h3⟩
theorem keyT_2 {P : Program} {t i : TypeId} (h : Int2T P t i) : KeyT P t key2 where
 inj {a b} q := by
  unfold key2 at q
  simp only [Value.agg.injEq, Array.mk.injEq, List.cons.injEq, Value.int.injEq, and_true, true_and] at q
  exact Prod.ext q.1 q.2
 check w e k := by
  obtain ⟨f0, f1, he, h1, h2, h3, h4, h5, h6⟩ := h.ex
  have c0 : ∀ n, (Instr.checkKey e (n + 1) i (.int .i64 n)).run P w = .ok () w := fun n => MapKept.run_checkKey h.int (by trivial) e n
  have ck : ∀ x : Int, (Instr.checkKey e 9999 i (.int .i64 x)).run P w = .ok () w := fun x => MapKept.run_checkKey h.int (by trivial) e 9998
  unfold Instr.checkKey
  simp [run_underlying he.und, key2, h1, h2, h3, h4, h5, h6, part, run_isAgg h.one, ck]
 find w k es hs := by
  unfold Instr.findKey
  obtain ⟨f0, f1, he, h1, h2, h3, h4, h5, h6⟩ := h.ex
  simp only [Sem.run_bind, run_underlying he.und, Result.andThen]
  cases es with
  | nil => exact .inl ⟨by simp [Instr.findNow], by simp⟩
  | cons e es =>
   have : Instr.findNow (.struct [f0, f1].toArray) (key2 k) (e :: es) 0 = none := by
    obtain ⟨k', hk'⟩ := hs e (List.mem_cons_self ..)
    simp [Instr.findNow, hk', key2, Instr.sameNow]
   rw [this]
   simpa using run_ask2 h w k (e :: es) 0 hs
 stays w k := by
  unfold Instr.keyThatStays
  simp [key2, Instr.sameBits]
/-! ### Maps held -/
section
variable {κ : Type} [DecidableEq κ] {enc : κ → Value} {es : List MapEntry} {kvs : List (κ × Value)} {e : MapEntry} {j : Nat}
def EntK (enc : κ → Value) (es : List MapEntry) (kvs : List (κ × Value)) : Prop := es.map (fun e => (e.key, e.val)) = kvs.map fun p => (enc p.1, p.2)
theorem ent_at (h : EntK enc es kvs) (he : es[j]? = some e) : ∃ p, kvs[j]? = some p ∧ e.key = enc p.1 ∧ e.val = p.2 := by
 have _i : DecidableEq κ := inferInstance
 have h1 := congrArg (·[j]?) h
 simp only [List.getElem?_map, he, Option.map_some] at h1
 cases hp : kvs[j]? with
 | none => rw [hp] at h1; cases h1
 | some p =>
  rw [hp] at h1
  simp only [Option.map_some, Option.some.injEq, Prod.mk.injEq] at h1
  exact ⟨p, rfl, h1.1, h1.2⟩
theorem ent_at' (h : EntK enc es kvs) {p : κ × Value} (hp : kvs[j]? = some p) : ∃ e, es[j]? = some e ∧ e.key = enc p.1 ∧ e.val = p.2 := by
 have _i : DecidableEq κ := inferInstance
 have h1 := congrArg (·[j]?) h
 simp only [List.getElem?_map, hp, Option.map_some] at h1
 cases he : es[j]? with
 | none => rw [he] at h1; cases h1
 | some e =>
  rw [he] at h1
  simp only [Option.map_some, Option.some.injEq, Prod.mk.injEq] at h1
  exact ⟨e, rfl, h1.1, h1.2⟩
theorem ent_keys (h : EntK enc es kvs) : ∀ e ∈ es, ∃ k, e.key = enc k := by
 have _i : DecidableEq κ := inferInstance
 intro e he
 obtain ⟨j, hj⟩ := List.getElem?_of_mem he
 obtain ⟨p, _, h2, _⟩ := ent_at h hj
 exact ⟨p.1, h2⟩
theorem ent_find {P : Program} {kt : TypeId} (K : KeyT P kt enc) (h : EntK enc es kvs) (w : World) (k : κ) :
  ((Instr.findKey kt (enc k) es).run P w = .ok none w ∧ ∀ p ∈ kvs, p.1 ≠ k) ∨ ∃ j e, (Instr.findKey kt (enc k) es).run P w = .ok (some (j, e.val)) w ∧ es[j]? = some e ∧ e.key = enc k ∧ kvs[j]? = some (k, e.val) := by
 have _i : DecidableEq κ := inferInstance
 rcases K.find w k es (ent_keys h) with ⟨h1, h2⟩ | ⟨j, e, h1, h2, h3⟩
 ·refine .inl ⟨h1, fun p hp q => ?_⟩
  obtain ⟨j, hj⟩ := List.getElem?_of_mem hp
  obtain ⟨e, he, hk, _⟩ := ent_at' h hj
  exact h2 e (List.mem_of_getElem? he) (by rw [hk, q])
 ·obtain ⟨p, hp, hk, hv⟩ := ent_at h h2
  refine .inr ⟨j, e, h1, h2, h3, ?_⟩
  rw [hp, hv]
  exact congrArg some (Prod.ext (K.inj (hk.symm.trans h3)) rfl)
theorem ent_push (h : EntK enc es kvs) (k : κ) (v : Value) (n : Nat) : EntK enc (es ++ [{ key := enc k, val := v, born := n }]) (kvs ++ [(k, v)]) := by
 have _i : DecidableEq κ := inferInstance
 unfold EntK at h ⊢
 rw [List.map_append, List.map_append, h]; rfl
theorem ent_mod (h : EntK enc es kvs) {k : κ} {v : Value} {f : MapEntry → MapEntry} (he : es[j]? = some e) (hf : (f e).key = enc k ∧ (f e).val = v) : EntK enc (es.modify j f) (kvs.set j (k, v)) := by
 have _i : DecidableEq κ := inferInstance
 unfold EntK at h ⊢
 refine List.ext_getElem? fun i => ?_
 have hi := congrArg (·[i]?) h
 simp only [List.getElem?_map, List.getElem?_modify, List.getElem?_set] at hi ⊢
 by_cases hji : j = i
 ·subst hji
  obtain ⟨p, hp, _⟩ := ent_at h he
  have hl : j < kvs.length := by
   rcases Nat.lt_or_ge j kvs.length with h1 | h1
   ·exact h1
   ·rw [List.getElem?_eq_none h1] at hp; cases hp
  simp [he, hl, hf.1, hf.2]
 ·simpa [hji] using hi
abbrev NodK (kvs : List (κ × Value)) : Prop := (kvs.map fun p => p.1).Nodup
def mapK (enc : κ → Value) (b : Nat) (kvs : List (κ × Value)) : SP where
 P w F := F b ∧ ∃ es c, w.heap[b]? = some (.map es c) ∧ EntK enc es.toList kvs ∧ NodK kvs ∧ MapKept.Stamped es c
 loc := fun ⟨h, es, c, e, h2⟩ hk => ⟨h, es, c, (hk b h).trans e, h2⟩
 mono := fun ⟨h, h2⟩ hs => ⟨hs b h, h2⟩
end
section
variable {κ : Type} [DecidableEq κ] {enc : κ → Value} {P : Program} {ops : Array Oper} {Q : Exit → Act → World → Prop} {rest : List Oper} {n : Nat} {l : Env} {w0 w : World} {F0 : Foot} {o : Oper} {v : Value} {As Rs : List SP} {x y : Operand} {t kt et : TypeId} {b : Nat} {kvs : List (κ × Value)} {k : κ}
theorem heap_put {w : World} {b : Nat} {F : Foot} (hb : F b) (ob : Obj) : Upd F w { w with heap := w.heap.setIfInBounds b ob } := ⟨rfl, rfl, rfl, by simp, fun k hk hn => by
 have : b ≠ k := fun e => hn (e ▸ hb)
 simp [this]⟩
theorem heap_got {w : World} {b : Nat} {es : Array MapEntry} {c : Nat} (h : w.heap[b]? = some (.map es c)) (ob : Obj) : ({ w with heap := w.heap.setIfInBounds b ob } : World).heap[b]? = some ob := (MapKept.heap_set h).1
theorem Hd.mapKf (H : Hd w0 F0 w (mapK enc b kvs :: As) Rs) : ∃ es c, w.heap[b]? = some (.map es c) ∧ EntK enc es.toList kvs ∧ NodK kvs ∧ MapKept.Stamped es c := by have _i : DecidableEq κ := inferInstance; exact H.fact (List.mem_cons_self ..) fun F h => h.2
theorem run_lookK {F : Foot} (K : KeyT P kt enc) (hm : P.underlying t = some (.map kt et)) {z : Value} (hz : zrOf P et = some z) (k : κ) (h : (mapK enc b kvs).P w F) : (Instr.lookup t (.map (some b)) (enc k) false).run P w = .ok ((lookK k kvs).getD z) w := by
 obtain ⟨_, es, c, hb, he, hn, _⟩ := h
 have hg := MapKept.run_getObj_map (P := P) hb
 have hc := fun e => K.check w e k
 obtain ⟨i, hi, hz'⟩ := Option.bind_eq_some_iff.1 hz
 rcases ent_find K he w k with ⟨h1, h2⟩ | ⟨j, e, h1, _, _, h4⟩
 ·simp [Instr.lookup, run_underlying hm, hg, hc, h1, look_none h2, zeroValue, typeInfo, hi, hz']
 ·simp [Instr.lookup, run_underlying hm, hg, hc, h1, look_at hn h4]
theorem r_lookK (K : KeyT P kt enc) (ho : o.op = .lookup t x y false) (hm : P.underlying t = some (.map kt et)) {z : Value} (hz : zrOf P et = some z) (hx : ev l x = some (.map (some b))) (k : κ) (hy : ev l y = some (enc k)) (H : Hd w0 F0 w As Rs) (j : Nat) (hj : As[j]? = some (mapK enc b kvs)) : Run P n l w o ((lookK k kvs).getD z) w := by
 intro a ha
 refine H.fact (List.mem_of_getElem? hj) fun F h => ?_
 have := run_lookK K hm hz k h
 simp [execOp, ho, ha.eval hx, ha.eval hy, this]
theorem r_lookK1 (K : KeyT P kt enc) (ho : o.op = .lookup t x y false) (hm : P.underlying t = some (.map kt et)) {z : Value} (hz : zrOf P et = some z) (hx : ev l x = some (.map (some b))) (k : κ) (hy : ev l y = some (enc k)) (H : Hd w0 F0 w As Rs) (j : Nat) (hj : As[j]? = some (mapK enc b kvs)) (hv : (lookK k kvs).getD z = v) : Run P n l w o v w := by
 subst hv
 exact r_lookK K ho hm hz hx k hy H j hj
theorem s_msetK {z : Operand} (K : KeyT P kt enc) (hg : gd ops l o = some true) (hd : o.dst = none) (ho : o.op = .mapUpdate t x y z) (hm : P.underlying t = some (.map kt et)) (hx : ev l x = some (.map (some b))) (k : κ) (hy : ev l y = some (enc k)) (hz : ev l z = some v)
  (H : Hd w0 F0 w (mapK enc b kvs :: As) Rs) (h : ∀ w', Hd w0 F0 w' (mapK enc b (setK k v kvs) :: As) Rs → WL P ops Q rest n l w') : WL P ops Q (o :: rest) n l w := by
 obtain ⟨es, c, hb, he, hn, hs⟩ := H.mapKf
 have hgo := MapKept.run_getObj_map (P := P) hb
 have hc := K.check w false k
 have hso := fun ob => MapKept.run_setObj_map (P := P) (o := ob) hb
 rcases ent_find K he w k with ⟨h1, h2⟩ | ⟨j, e, h1, h2, h3, h4⟩
 ·refine s_skip hg hd (w' := { w with heap := w.heap.setIfInBounds b (.map (es.push { key := enc k, val := v, born := c }) (c + 1)) }) (fun a ha => ?_) (h _ (H.write fun F hF => ⟨⟨hF.1, _, _, heap_got hb _, ?_, set_keys hn, MapKept.stamped_push hs ?_⟩, heap_put hF.1 _⟩))
  ·simp [execOp, ho, ha.eval hx, ha.eval hy, ha.eval hz, Instr.mapUpdate, run_underlying hm, hgo, hc, h1, hso]
  ·rw [set_none h2, Array.toList_push]; exact ent_push he k v c
  ·intro e he1 q
   obtain ⟨j, hj⟩ := List.getElem?_of_mem he1
   obtain ⟨p, hp, hk, _⟩ := ent_at he hj
   exact h2 p (List.mem_of_getElem? hp) (K.inj (hk.symm.trans q))
 ·have hj : es[j]? = some e := by simpa using h2
  refine s_skip hg hd (w' := { w with heap := w.heap.setIfInBounds b (.map (es.modify j fun e => { e with key := enc k, val := v }) c) }) (fun a ha => ?_) (h _ (H.write fun F hF => ⟨⟨hF.1, _, _, heap_got hb _, ?_, set_keys hn, MapKept.stamped_modify hs _ _ (fun _ _ => rfl) (fun e' _ he' => ?_)⟩, heap_put hF.1 _⟩))
  ·simp [execOp, ho, ha.eval hx, ha.eval hy, ha.eval hz, Instr.mapUpdate, run_underlying hm, hgo, hc, h1, hj, h3, K.stays, hso]
  ·rw [set_at hn h4, Array.toList_modify]; exact ent_mod he h2 ⟨rfl, rfl⟩
  ·rw [hj] at he'; cases he'; exact h3.symm
theorem s_mkmapK (enc : κ → Value) (hg : gd ops l o = some true) (hd : dok n o.dst = true) (ho : o.op = .makeMap t none) (H : Hd w0 F0 w As Rs)
  (h : ∀ b w', Hd w0 F0 w' (mapK enc b [] :: As) Rs → WL P ops Q rest n (upO l o.dst (.map (some b))) w') : WL P ops Q (o :: rest) n l w := by
 have _i : DecidableEq κ := inferInstance
 refine s_val (w' := w.alloc (.map #[] 0)) hg hd (v := .map (some w.heap.size)) (fun a ha => ?_) (h _ _ ?_)
 ·simp [execOp, ho, Instr.makeMap]
 ·refine H.new (F' := fun k => k = w.heap.size) (Upd.alloc _ _ _) ⟨rfl, #[], 0, heap_alloc_new w _, rfl, List.nodup_nil, MapKept.stamped_empty 0⟩ ?_
  intro k hk
  subst hk
  simp
/-! ### A map that is gone through -/
end
theorem bd106 : bdOf Tryz.prog 106 = some (#[.string ⟨#[]⟩, .string ⟨#[]⟩], #[(0, 1), (1, 1)]) := by kernel_rfl
theorem bd185 : bdOf Tryz.prog 185 = some (#[.slice none 0 0, .int .i64 0, .slice none 0 0, .slice none 0 0, .slice none 0 0, .int .i64 0, .int .i64 0, .int .i64 0, .slice none 0 0, .int .i64 0, .int .i64 0, .int .i64 0, .int .i64 0, .int .i64 0, .bool false, .slice none 0 0, .bool false, .int .i64 0, .int .i64 0, .bool false, .slice none 0 0, .bool false, .int .i64 0, .int .i64 0, .bool false, .slice none 0 0, .bool false, .int .i64 0, .int .i64 0, .bool false, .slice none 0 0, .bool false, .int .i64 0, .int .i64 0, .bool false, .slice none 0 0, .bool false, .int .i64 0, .int .i64 0, .bool false, .slice none 0 0, .bool false, .int .i64 0, .int .i64 0, .pointer none, .slice none 0 0], #[(0, 12), (12, 1), (13, 1), (14, 30), (44, 1), (45, 1)]) := by kernel_rfl
theorem bd234 : bdOf Tryz.prog 234 = some (#[.int .u32 0, .int .i32 0, .int .u32 0, .int .u32 0, .nilFunc, .string ⟨#[]⟩], #[(0, 3), (3, 1), (4, 1), (5, 1)]) := by kernel_rfl
theorem bd253 : bdOf Tryz.prog 253 = some (#[.map none], #[(0, 1)]) := by kernel_rfl
theorem bd284 : bdOf Tryz.prog 284 = some (#[.bool false, .int .i64 0, .string ⟨#[]⟩], #[(0, 1), (1, 1), (2, 1)]) := by kernel_rfl
theorem bd288 : bdOf Tryz.prog 288 = some (#[.slice none 0 0, .string ⟨#[]⟩, .slice none 0 0, .int .i64 0, .int .i64 0, .int .i64 0, .bool false, .slice none 0 0, .bool false, .int .i64 0, .string ⟨#[]⟩, .bool false, .int .i64 0, .string ⟨#[]⟩, .bool false, .int .i64 0, .string ⟨#[]⟩, .bool false, .int .i64 0, .string ⟨#[]⟩, .bool false, .int .i64 0, .string ⟨#[]⟩, .bool false, .int .i64 0, .string ⟨#[]⟩, .bool false, .int .i64 0, .string ⟨#[]⟩, .bool false, .int .i64 0, .string ⟨#[]⟩, .slice none 0 0, .map none], #[(0, 1), (1, 1), (2, 1), (3, 1), (4, 1), (5, 1), (6, 1), (7, 1), (8, 24), (32, 1), (33, 1)]) := by kernel_rfl
theorem bd322 : bdOf Tryz.prog 322 = some (#[.int .i64 0, .int .i64 0, .int .i64 0, .int .i64 0, .int .i64 0, .int .i64 0, .int .i64 0, .int .i64 0], #[(0, 8)]) := by kernel_rfl
theorem bd37 : bdOf Tryz.prog 37 = some (#[.int .i64 0, .int .i64 0, .int .i64 0, .int .i64 0, .int .i64 0, .slice none 0 0, .slice none 0 0], #[(0, 1), (1, 1), (2, 1), (3, 1), (4, 1), (5, 1), (6, 1)]) := by kernel_rfl
theorem ce106 : Tryz.prog.cellsOf 106 = 2 := by kernel_rfl
theorem ce223 : Tryz.prog.cellsOf 223 = 3 := by kernel_rfl
theorem ce26 : Tryz.prog.cellsOf 26 = 9 := by kernel_rfl
theorem ce28 : Tryz.prog.cellsOf 28 = 12 := by kernel_rfl
theorem eq106 : EqT Tryz.prog 106 [⟨ "Key", 9, 0, false, "", "", 0⟩, ⟨ "Value", 9, 1, false, "", "", 16⟩] := ⟨by kernel_rfl, by kernel_rfl, by kernel_rfl⟩
theorem ex186 : ExtIs Tryz.prog 186 (Extern.Atomic.storeT) := ⟨_, Tryz.func186, by kernel_rfl, by kernel_rfl, by kernel_rfl, by kernel_rfl⟩
theorem ex188 : ExtIs Tryz.prog 188 (Extern.Atomic.loadT (.int .u32)) := ⟨_, Tryz.func188, by kernel_rfl, by kernel_rfl, by kernel_rfl, by kernel_rfl⟩
theorem ex294 : ExtIs Tryz.prog 294 (fun _ => do mark .disable; pure Extern.Race.none_) := ⟨_, Tryz.func294, by kernel_rfl, by kernel_rfl, by kernel_rfl, by kernel_rfl⟩
theorem ex295 : ExtIs Tryz.prog 295 (Extern.Atomic.casT (.int .i32)) := ⟨_, Tryz.func295, by kernel_rfl, by kernel_rfl, by kernel_rfl, by kernel_rfl⟩
theorem ex296 : ExtIs Tryz.prog 296 (fun _ => do mark .enable; pure Extern.Race.none_) := ⟨_, Tryz.func296, by kernel_rfl, by kernel_rfl, by kernel_rfl, by kernel_rfl⟩
theorem ex297 : ExtIs Tryz.prog 297 (Extern.Race.marked .acquire) := ⟨_, Tryz.func297, by kernel_rfl, by kernel_rfl, by kernel_rfl, by kernel_rfl⟩
theorem ex299 : ExtIs Tryz.prog 299 (Extern.Race.marked .releaseMerge) := ⟨_, Tryz.func299, by kernel_rfl, by kernel_rfl, by kernel_rfl, by kernel_rfl⟩
theorem ex300 : ExtIs Tryz.prog 300 (Extern.Atomic.update (Op.intArith .add) .i32 true) := ⟨_, Tryz.func300, by kernel_rfl, by kernel_rfl, by kernel_rfl, by kernel_rfl⟩
theorem ex316 : ExtIs Tryz.prog 316 (Extern.Atomic.loadT (.int .i64)) := ⟨_, Tryz.func316, by kernel_rfl, by kernel_rfl, by kernel_rfl, by kernel_rfl⟩
theorem ex317 : ExtIs Tryz.prog 317 (Extern.Atomic.casT (.int .i64)) := ⟨_, Tryz.func317, by kernel_rfl, by kernel_rfl, by kernel_rfl, by kernel_rfl⟩
theorem fo106_0 : foOf Tryz.prog 106 0 = some 0 := by kernel_rfl
theorem fo106_1 : foOf Tryz.prog 106 1 = some 1 := by kernel_rfl
theorem fo181_0 : foOf Tryz.prog 181 0 = some 0 := by kernel_rfl
theorem fo181_1 : foOf Tryz.prog 181 1 = some 1 := by kernel_rfl
theorem fo185_0 : foOf Tryz.prog 185 0 = some 0 := by kernel_rfl
theorem fo185_3 : foOf Tryz.prog 185 3 = some 14 := by kernel_rfl
theorem fo185_5 : foOf Tryz.prog 185 5 = some 45 := by kernel_rfl
theorem fo208_1 : foOf Tryz.prog 208 1 = some 0 := by kernel_rfl
theorem fo223_0 : foOf Tryz.prog 223 0 = some 0 := by kernel_rfl
theorem fo223_1 : foOf Tryz.prog 223 1 = some 1 := by kernel_rfl
theorem fo223_2 : foOf Tryz.prog 223 2 = some 2 := by kernel_rfl
theorem fo228_0 : foOf Tryz.prog 228 0 = some 0 := by kernel_rfl
theorem fo230_1 : foOf Tryz.prog 230 1 = some 0 := by kernel_rfl
theorem fo232_1 : foOf Tryz.prog 232 1 = some 0 := by kernel_rfl
theorem fo234_0 : foOf Tryz.prog 234 0 = some 0 := by kernel_rfl
theorem fo234_1 : foOf Tryz.prog 234 1 = some 3 := by kernel_rfl
theorem fo234_2 : foOf Tryz.prog 234 2 = some 4 := by kernel_rfl
theorem fo234_3 : foOf Tryz.prog 234 3 = some 5 := by kernel_rfl
theorem fo26_0 : foOf Tryz.prog 26 0 = some 0 := by kernel_rfl
theorem fo26_1 : foOf Tryz.prog 26 1 = some 1 := by kernel_rfl
theorem fo26_2 : foOf Tryz.prog 26 2 = some 2 := by kernel_rfl
theorem fo26_3 : foOf Tryz.prog 26 3 = some 3 := by kernel_rfl
theorem fo26_4 : foOf Tryz.prog 26 4 = some 4 := by kernel_rfl
theorem fo26_5 : foOf Tryz.prog 26 5 = some 5 := by kernel_rfl
theorem fo26_6 : foOf Tryz.prog 26 6 = some 6 := by kernel_rfl
theorem fo26_7 : foOf Tryz.prog 26 7 = some 7 := by kernel_rfl
theorem fo26_8 : foOf Tryz.prog 26 8 = some 8 := by kernel_rfl
theorem fo284_0 : foOf Tryz.prog 284 0 = some 0 := by kernel_rfl
theorem fo284_1 : foOf Tryz.prog 284 1 = some 1 := by kernel_rfl
theorem fo284_2 : foOf Tryz.prog 284 2 = some 2 := by kernel_rfl
theorem fo288_1 : foOf Tryz.prog 288 1 = some 1 := by kernel_rfl
theorem fo288_10 : foOf Tryz.prog 288 10 = some 33 := by kernel_rfl
theorem fo288_2 : foOf Tryz.prog 288 2 = some 2 := by kernel_rfl
theorem fo288_3 : foOf Tryz.prog 288 3 = some 3 := by kernel_rfl
theorem fo288_4 : foOf Tryz.prog 288 4 = some 4 := by kernel_rfl
theorem fo288_5 : foOf Tryz.prog 288 5 = some 5 := by kernel_rfl
theorem fo288_6 : foOf Tryz.prog 288 6 = some 6 := by kernel_rfl
theorem fo288_7 : foOf Tryz.prog 288 7 = some 7 := by kernel_rfl
theorem fo288_8 : foOf Tryz.prog 288 8 = some 8 := by kernel_rfl
theorem fo288_9 : foOf Tryz.prog 288 9 = some 32 := by kernel_rfl
theorem fo28_0 : foOf Tryz.prog 28 0 = some 0 := by kernel_rfl
theorem fo28_1 : foOf Tryz.prog 28 1 = some 9 := by kernel_rfl
theorem fo28_2 : foOf Tryz.prog 28 2 = some 10 := by kernel_rfl
theorem fo28_3 : foOf Tryz.prog 28 3 = some 11 := by kernel_rfl
theorem fo319_2 : foOf Tryz.prog 319 2 = some 0 := by kernel_rfl
theorem fo322_0 : foOf Tryz.prog 322 0 = some 0 := by kernel_rfl
theorem fo37_0 : foOf Tryz.prog 37 0 = some 0 := by kernel_rfl
theorem fo37_1 : foOf Tryz.prog 37 1 = some 1 := by kernel_rfl
theorem fo37_2 : foOf Tryz.prog 37 2 = some 2 := by kernel_rfl
theorem fo37_3 : foOf Tryz.prog 37 3 = some 3 := by kernel_rfl
theorem fo37_4 : foOf Tryz.prog 37 4 = some 4 := by kernel_rfl
theorem fo37_5 : foOf Tryz.prog 37 5 = some 5 := by kernel_rfl
theorem fo37_6 : foOf Tryz.prog 37 6 = some 6 := by kernel_rfl
theorem is181 : (Tryz.prog.info? 181).map (·.size) = some 5 := by kernel_rfl
theorem is284 : (Tryz.prog.info? 284).map (·.size) = some 3 := by kernel_rfl
theorem is319 : (Tryz.prog.info? 319).map (·.size) = some 1 := by kernel_rfl
theorem kn109 : Known Tryz.prog 109 := known Tryz.func109 rfl rfl
theorem kn118 : Known Tryz.prog 118 := known Tryz.func118 rfl rfl
theorem kn120 : Known Tryz.prog 120 := known Tryz.func120 rfl rfl
theorem kn123 : Known Tryz.prog 123 := known Tryz.func123 rfl rfl
theorem kn124 : Known Tryz.prog 124 := known Tryz.func124 rfl rfl
theorem kn125 : Known Tryz.prog 125 := known Tryz.func125 rfl rfl
theorem kn126 : Known Tryz.prog 126 := known Tryz.func126 rfl rfl
theorem kn128 : Known Tryz.prog 128 := known Tryz.func128 rfl rfl
theorem kn129 : Known Tryz.prog 129 := known Tryz.func129 rfl rfl
theorem kn131 : Known Tryz.prog 131 := known Tryz.func131 rfl rfl
theorem kn132 : Known Tryz.prog 132 := known Tryz.func132 rfl rfl
theorem kn136 : Known Tryz.prog 136 := known Tryz.func136 rfl rfl
theorem kn137 : Known Tryz.prog 137 := known Tryz.func137 rfl rfl
theorem kn138 : Known Tryz.prog 138 := known Tryz.func138 rfl rfl
theorem kn142 : Known Tryz.prog 142 := known Tryz.func142 rfl rfl
theorem kn144 : Known Tryz.prog 144 := known Tryz.func144 rfl rfl
theorem kn153 : Known Tryz.prog 153 := known Tryz.func153 rfl rfl
theorem kn154 : Known Tryz.prog 154 := known Tryz.func154 rfl rfl
theorem kn155 : Known Tryz.prog 155 := known Tryz.func155 rfl rfl
theorem kn156 : Known Tryz.prog 156 := known Tryz.func156 rfl rfl
theorem kn157 : Known Tryz.prog 157 := known Tryz.func157 rfl rfl
theorem kn158 : Known Tryz.prog 158 := known Tryz.func158 rfl rfl
theorem kn169 : Known Tryz.prog 169 := known Tryz.func169 rfl rfl
theorem kn173 : Known Tryz.prog 173 := known Tryz.func173 rfl rfl
theorem kn174 : Known Tryz.prog 174 := known Tryz.func174 rfl rfl
theorem kn175 : Known Tryz.prog 175 := known Tryz.func175 rfl rfl
theorem kn176 : Known Tryz.prog 176 := known Tryz.func176 rfl rfl
theorem kn177 : Known Tryz.prog 177 := known Tryz.func177 rfl rfl
theorem kn178 : Known Tryz.prog 178 := known Tryz.func178 rfl rfl
theorem kn18 : Known Tryz.prog 18 := known Tryz.func18 rfl rfl
theorem kn180 : Known Tryz.prog 180 := known Tryz.func180 rfl rfl
theorem kn181 : Known Tryz.prog 181 := known Tryz.func181 rfl rfl
theorem kn184 : Known Tryz.prog 184 := known Tryz.func184 rfl rfl
theorem kn185 : Known Tryz.prog 185 := known Tryz.func185 rfl rfl
theorem kn187 : Known Tryz.prog 187 := known Tryz.func187 rfl rfl
theorem kn19 : Known Tryz.prog 19 := known Tryz.func19 rfl rfl
theorem kn195 : Known Tryz.prog 195 := known Tryz.func195 rfl rfl
theorem kn205 : Known Tryz.prog 205 := known Tryz.func205 rfl rfl
theorem kn206 : Known Tryz.prog 206 := known Tryz.func206 rfl rfl
theorem kn207 : Known Tryz.prog 207 := known Tryz.func207 rfl rfl
theorem kn208 : Known Tryz.prog 208 := known Tryz.func208 rfl rfl
theorem kn209 : Known Tryz.prog 209 := known Tryz.func209 rfl rfl
theorem kn21 : Known Tryz.prog 21 := known Tryz.func21 rfl rfl
theorem kn210 : Known Tryz.prog 210 := known Tryz.func210 rfl rfl
theorem kn211 : Known Tryz.prog 211 := known Tryz.func211 rfl rfl
theorem kn212 : Known Tryz.prog 212 := known Tryz.func212 rfl rfl
theorem kn213 : Known Tryz.prog 213 := known Tryz.func213 rfl rfl
theorem kn214 : Known Tryz.prog 214 := known Tryz.func214 rfl rfl
theorem kn215 : Known Tryz.prog 215 := known Tryz.func215 rfl rfl
theorem kn218 : Known Tryz.prog 218 := known Tryz.func218 rfl rfl
theorem kn22 : Known Tryz.prog 22 := known Tryz.func22 rfl rfl
theorem kn224 : Known Tryz.prog 224 := known Tryz.func224 rfl rfl
theorem kn23 : Known Tryz.prog 23 := known Tryz.func23 rfl rfl
theorem kn24 : Known Tryz.prog 24 := known Tryz.func24 rfl rfl
theorem kn243 : Known Tryz.prog 243 := known Tryz.func243 rfl rfl
theorem kn244 : Known Tryz.prog 244 := known Tryz.func244 rfl rfl
theorem kn245 : Known Tryz.prog 245 := known Tryz.func245 rfl rfl
theorem kn246 : Known Tryz.prog 246 := known Tryz.func246 rfl rfl
theorem kn247 : Known Tryz.prog 247 := known Tryz.func247 rfl rfl
theorem kn248 : Known Tryz.prog 248 := known Tryz.func248 rfl rfl
theorem kn249 : Known Tryz.prog 249 := known Tryz.func249 rfl rfl
theorem kn25 : Known Tryz.prog 25 := known Tryz.func25 rfl rfl
theorem kn250 : Known Tryz.prog 250 := known Tryz.func250 rfl rfl
theorem kn251 : Known Tryz.prog 251 := known Tryz.func251 rfl rfl
theorem kn262 : Known Tryz.prog 262 := known Tryz.func262 rfl rfl
theorem kn263 : Known Tryz.prog 263 := known Tryz.func263 rfl rfl
theorem kn264 : Known Tryz.prog 264 := known Tryz.func264 rfl rfl
theorem kn265 : Known Tryz.prog 265 := known Tryz.func265 rfl rfl
theorem kn266 : Known Tryz.prog 266 := known Tryz.func266 rfl rfl
theorem kn267 : Known Tryz.prog 267 := known Tryz.func267 rfl rfl
theorem kn268 : Known Tryz.prog 268 := known Tryz.func268 rfl rfl
theorem kn269 : Known Tryz.prog 269 := known Tryz.func269 rfl rfl
theorem kn270 : Known Tryz.prog 270 := known Tryz.func270 rfl rfl
theorem kn271 : Known Tryz.prog 271 := known Tryz.func271 rfl rfl
theorem kn272 : Known Tryz.prog 272 := known Tryz.func272 rfl rfl
theorem kn273 : Known Tryz.prog 273 := known Tryz.func273 rfl rfl
theorem kn274 : Known Tryz.prog 274 := known Tryz.func274 rfl rfl
theorem kn275 : Known Tryz.prog 275 := known Tryz.func275 rfl rfl
theorem kn276 : Known Tryz.prog 276 := known Tryz.func276 rfl rfl
theorem kn277 : Known Tryz.prog 277 := known Tryz.func277 rfl rfl
theorem kn278 : Known Tryz.prog 278 := known Tryz.func278 rfl rfl
theorem kn279 : Known Tryz.prog 279 := known Tryz.func279 rfl rfl
theorem kn281 : Known Tryz.prog 281 := known Tryz.func281 rfl rfl
theorem kn282 : Known Tryz.prog 282 := known Tryz.func282 rfl rfl
theorem kn302 : Known Tryz.prog 302 := known Tryz.func302 rfl rfl
theorem kn303 : Known Tryz.prog 303 := known Tryz.func303 rfl rfl
theorem kn304 : Known Tryz.prog 304 := known Tryz.func304 rfl rfl
theorem kn305 : Known Tryz.prog 305 := known Tryz.func305 rfl rfl
theorem kn306 : Known Tryz.prog 306 := known Tryz.func306 rfl rfl
theorem kn326 : Known Tryz.prog 326 := known Tryz.func326 rfl rfl
theorem kn329 : Known Tryz.prog 329 := known Tryz.func329 rfl rfl
theorem kn33 : Known Tryz.prog 33 := known Tryz.func33 rfl rfl
theorem kn51 : Known Tryz.prog 51 := known Tryz.func51 rfl rfl
theorem kn53 : Known Tryz.prog 53 := known Tryz.func53 rfl rfl
theorem kn54 : Known Tryz.prog 54 := known Tryz.func54 rfl rfl
theorem kn56 : Known Tryz.prog 56 := known Tryz.func56 rfl rfl
theorem kn60 : Known Tryz.prog 60 := known Tryz.func60 rfl rfl
theorem kn67 : Known Tryz.prog 67 := known Tryz.func67 rfl rfl
theorem kn71 : Known Tryz.prog 71 := known Tryz.func71 rfl rfl
theorem kn87 : Known Tryz.prog 87 := known Tryz.func87 rfl rfl
theorem kn88 : Known Tryz.prog 88 := known Tryz.func88 rfl rfl
theorem kn89 : Known Tryz.prog 89 := known Tryz.func89 rfl rfl
theorem kn90 : Known Tryz.prog 90 := known Tryz.func90 rfl rfl
theorem kn91 : Known Tryz.prog 91 := known Tryz.func91 rfl rfl
theorem kn92 : Known Tryz.prog 92 := known Tryz.func92 rfl rfl
theorem kn94 : Known Tryz.prog 94 := known Tryz.func94 rfl rfl
theorem kn95 : Known Tryz.prog 95 := known Tryz.func95 rfl rfl
theorem mo : Tryz.prog.follows .mixedOrders = true := by kernel_rfl
theorem nz228 : (Tryz.prog.info? 228).map (fun i => decide (i.size = 0)) = some false := by kernel_rfl
theorem sl144 : slOf Tryz.prog 144 = some (24, 1, 24) := by kernel_rfl
theorem sl22 : slOf Tryz.prog 22 = some (35, 1, 24) := by kernel_rfl
theorem sl23 : slOf Tryz.prog 23 = some (223, 3, 32) := by kernel_rfl
theorem sl24 : slOf Tryz.prog 24 = some (3, 1, 8) := by kernel_rfl
theorem sl241 : slOf Tryz.prog 241 = some (9, 1, 16) := by kernel_rfl
theorem sl282 : slOf Tryz.prog 282 = some (284, 3, 32) := by kernel_rfl
theorem sl29 : slOf Tryz.prog 29 = some (37, 7, 88) := by kernel_rfl
theorem sl35 : slOf Tryz.prog 35 = some (106, 2, 32) := by kernel_rfl
theorem st106 : stOf Tryz.prog 106 = some [(9, 0, 1), (9, 1, 1)] := by kernel_rfl
theorem st223 : stOf Tryz.prog 223 = some [(3, 0, 1), (3, 1, 1), (9, 2, 1)] := by kernel_rfl
theorem st26 : stOf Tryz.prog 26 = some [(22, 0, 1), (3, 1, 1), (23, 2, 1), (23, 3, 1), (23, 4, 1), (3, 5, 1), (3, 6, 1), (3, 7, 1), (24, 8, 1)] := by kernel_rfl
theorem st28 : stOf Tryz.prog 28 = some [(26, 0, 9), (3, 9, 1), (3, 10, 1), (3, 11, 1)] := by kernel_rfl
theorem ty106 : tyOf Tryz.prog 106 = some (true, 2) := by kernel_rfl
theorem ty144 : tyOf Tryz.prog 144 = some (false, 1) := by kernel_rfl
theorem ty161 : tyOf Tryz.prog 161 = some (false, 1) := by kernel_rfl
theorem ty167 : tyOf Tryz.prog 167 = some (false, 1) := by kernel_rfl
theorem ty2 : tyOf Tryz.prog 2 = some (false, 1) := by kernel_rfl
theorem ty21 : tyOf Tryz.prog 21 = some (false, 1) := by kernel_rfl
theorem ty22 : tyOf Tryz.prog 22 = some (false, 1) := by kernel_rfl
theorem ty223 : tyOf Tryz.prog 223 = some (true, 3) := by kernel_rfl
theorem ty23 : tyOf Tryz.prog 23 = some (false, 1) := by kernel_rfl
theorem ty24 : tyOf Tryz.prog 24 = some (false, 1) := by kernel_rfl
theorem ty241 : tyOf Tryz.prog 241 = some (false, 1) := by kernel_rfl
theorem ty26 : tyOf Tryz.prog 26 = some (true, 9) := by kernel_rfl
theorem ty28 : tyOf Tryz.prog 28 = some (true, 12) := by kernel_rfl
theorem ty282 : tyOf Tryz.prog 282 = some (false, 1) := by kernel_rfl
theorem ty284 : tyOf Tryz.prog 284 = some (true, 3) := by kernel_rfl
theorem ty286 : tyOf Tryz.prog 286 = some (false, 1) := by kernel_rfl
theorem ty3 : tyOf Tryz.prog 3 = some (false, 1) := by kernel_rfl
theorem ty35 : tyOf Tryz.prog 35 = some (false, 1) := by kernel_rfl
theorem ty37 : tyOf Tryz.prog 37 = some (true, 7) := by kernel_rfl
theorem ty4 : tyOf Tryz.prog 4 = some (false, 1) := by kernel_rfl
theorem ty9 : tyOf Tryz.prog 9 = some (false, 1) := by kernel_rfl
theorem ui370 : Tryz.prog.underlying 370 = some (.interface (Tryz.prog.methodsAt 370)) := by kernel_rfl
theorem un158 : Tryz.prog.underlying 158 = some (.int .u64) := by kernel_rfl
theorem un161 : Tryz.prog.underlying 161 = some (.pointer 234) := by kernel_rfl
theorem un167 : Tryz.prog.underlying 167 = some (.func #[] #[9] false) := by kernel_rfl
theorem un178 : Tryz.prog.underlying 178 = some (.pointer 181) := by kernel_rfl
theorem un182 : Tryz.prog.underlying 182 = some (.array 6 181) := by kernel_rfl
theorem un2 : Tryz.prog.underlying 2 = some (.int .i64) := by kernel_rfl
theorem un206 : Tryz.prog.underlying 206 = some (.int .u32) := by kernel_rfl
theorem un22 : Tryz.prog.underlying 22 = some (.slice 35) := by kernel_rfl
theorem un23 : Tryz.prog.underlying 23 = some (.slice 223) := by kernel_rfl
theorem un24 : Tryz.prog.underlying 24 = some (.slice 3) := by kernel_rfl
theorem un241 : Tryz.prog.underlying 241 = some (.slice 9) := by kernel_rfl
theorem un270 : Tryz.prog.underlying 270 = some (.int .u64) := by kernel_rfl
theorem un282 : Tryz.prog.underlying 282 = some (.slice 284) := by kernel_rfl
theorem un285 : Tryz.prog.underlying 285 = some (.array 8 284) := by kernel_rfl
theorem un286 : Tryz.prog.underlying 286 = some (.map 2 161) := by kernel_rfl
theorem un29 : Tryz.prog.underlying 29 = some (.slice 37) := by kernel_rfl
theorem un291 : Tryz.prog.underlying 291 = some (.pointer 322) := by kernel_rfl
theorem un3 : Tryz.prog.underlying 3 = some (.int .i64) := by kernel_rfl
theorem un320 : Tryz.prog.underlying 320 = some (.array 8 319) := by kernel_rfl
theorem un326 : Tryz.prog.underlying 326 = some (.pointer 319) := by kernel_rfl
theorem un35 : Tryz.prog.underlying 35 = some (.slice 106) := by kernel_rfl
theorem un362 : Tryz.prog.underlying 362 = some (.pointer 228) := by kernel_rfl
theorem un5 : Tryz.prog.underlying 5 = some (.int .u8) := by kernel_rfl
theorem un75 : Tryz.prog.underlying 75 = some (.pointer 185) := by kernel_rfl
theorem un9 : Tryz.prog.underlying 9 = some (.string) := by kernel_rfl
theorem up366 : Tryz.prog.underlying 366 = some .unsafePointer := by kernel_rfl
theorem zr106 : zrOf Tryz.prog 106 = some (.agg #[.string ⟨#[]⟩, .string ⟨#[]⟩]) := by kernel_rfl
theorem zr161 : zrOf Tryz.prog 161 = some (.pointer none) := by kernel_rfl
theorem zr223 : zrOf Tryz.prog 223 = some (.agg #[.int .i64 0, .int .i64 0, .string ⟨#[]⟩]) := by kernel_rfl
theorem zr24 : zrOf Tryz.prog 24 = some (.slice none 0 0) := by kernel_rfl
theorem zr28 : zrOf Tryz.prog 28 = some (.agg #[.slice none 0 0, .int .i64 0, .slice none 0 0, .slice none 0 0, .slice none 0 0, .int .i64 0, .int .i64 0, .int .i64 0, .slice none 0 0, .int .i64 0, .int .i64 0, .int .i64 0]) := by kernel_rfl
theorem zr284 : zrOf Tryz.prog 284 = some (.agg #[.bool false, .int .i64 0, .string ⟨#[]⟩]) := by kernel_rfl
theorem zr3 : zrOf Tryz.prog 3 = some (.int .i64 0) := by kernel_rfl
theorem zr35 : zrOf Tryz.prog 35 = some (.slice none 0 0) := by kernel_rfl
theorem zr37 : zrOf Tryz.prog 37 = some (.agg #[.int .i64 0, .int .i64 0, .int .i64 0, .int .i64 0, .int .i64 0, .slice none 0 0, .slice none 0 0]) := by kernel_rfl
theorem zr9 : zrOf Tryz.prog 9 = some (.string ⟨#[]⟩) := by kernel_rfl
theorem eqz106 : PairT Tryz.prog 106 9 := ⟨⟨_, _, eq106, by decide, by decide, rfl, rfl, rfl, rfl⟩, un9, ty9⟩
def fidx {α : Type} (p : α → Bool) (xs : List α) : Int := match xs.findIdx? p with | some i => (i : Int) | none => -1
theorem fidx_hit {α : Type} {p : α → Bool} {xs : List α} {k : Nat} {x : α} (h : ∀ y ∈ xs.take k, p y = false) (hx : xs[k]? = some x) (hp : p x = true) : fidx p xs = (k : Int) := by
 have : xs.findIdx? p = some k := by
  rw [List.findIdx?_eq_some_iff_getElem]
  have hlt : k < xs.length := by
   rcases Nat.lt_or_ge k xs.length with h' | h'
   ·exact h'
   ·simp [List.getElem?_eq_none h'] at hx
  refine ⟨hlt, by rw [List.getElem?_eq_getElem hlt] at hx; rw [Option.some.inj hx]; exact hp, fun j hj => ?_⟩
  have := h xs[j] (by rw [List.mem_take_iff_getElem]; exact ⟨j, by omega, rfl⟩)
  simp [this]
 simp [fidx, this]
theorem fidx_miss {α : Type} {p : α → Bool} {xs : List α} (h : ∀ y ∈ xs, p y = false) : fidx p xs = -1 := by
 have : xs.findIdx? p = none := by
  rw [List.findIdx?_eq_none_iff]
  exact h
 simp [fidx, this]
theorem fidx_nonneg {α : Type} (p : α → Bool) (xs : List α) : decide (0 ≤ fidx p xs) = xs.any p := by
 by_cases h : ∃ y ∈ xs, p y = true
 ·have h1 : xs.any p = true := by simpa using h
  rw [h1, decide_eq_true_eq]
  unfold fidx
  cases hf : xs.findIdx? p with
  | none =>
   rw [List.findIdx?_eq_none_iff] at hf
   obtain ⟨y, hy, hp⟩ := h
   rw [hf y hy] at hp
   cases hp
  | some i => simp
 ·have h' : ∀ y ∈ xs, p y = false := fun y hy => by
   cases hp : p y with
   | false => rfl
   | true => exact (h ⟨y, hy, hp⟩).elim
  rw [fidx_miss h']
  have h1 : xs.any p = false := by
   rw [List.any_eq_false]
   intro y hy
   simp [h' y hy]
  rw [h1]
  decide
theorem take_false {α : Type} {p : α → Bool} {xs : List α} {k : Nat} {x : α} (h : ∀ y ∈ xs.take k, p y = false) (hx : xs[k]? = some x) (hp : p x = false) : ∀ y ∈ xs.take (k + 1), p y = false := by
 intro y hy
 rw [List.take_add_one, hx] at hy
 simp at hy
 exact hy.elim (h y) (fun e => e ▸ hp)
def cnt {α : Type} (p : α → Bool) (xs : List α) : Nat := (xs.filter p).length
end Go.Proofs.YthgehekecfpikaaGreatDoor.X
