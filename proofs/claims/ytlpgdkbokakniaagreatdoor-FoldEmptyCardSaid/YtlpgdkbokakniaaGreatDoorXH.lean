/- Slices of slices: each header is told by name. No program in sight. -/
import Derived.Test.YtlpgdkbokakniaaGreatDoorXC
set_option linter.unusedVariables false
namespace Go.Proofs.YtlpgdkbokakniaaGreatDoor.X
open Go

/-- A slice and its elements: the header itself is a part of the datum. -/
def kHd {α : Type} (d : Kd α) : Kd (Value × List α) where
  sz := 1
  O w F x cs := cs = [x.1] ∧ (kSl d).O w F x.2 [x.1]
  R w F x cs := cs = [x.1] ∧ (kSl d).R w F x.2 [x.1]
  O_loc h hk := ⟨h.1, (kSl d).O_loc h.2 hk⟩
  O_mono h hk := ⟨h.1, (kSl d).O_mono h.2 hk⟩
  R_loc h hk := ⟨h.1, (kSl d).R_loc h.2 hk⟩
  R_mono h hk := ⟨h.1, (kSl d).R_mono h.2 hk⟩
  O_R h := ⟨h.1, (kSl d).O_R h.2⟩
  len h := by rw [h.1]; rfl
  one h := fun c hc => (kSl d).one h.2 c (h.1 ▸ hc)
  pos := Nat.one_pos

section
variable {w w0 : World} {F F0 : Foot} {As Rs : List SP} {α : Type} {d : Kd α} {A : Option Addr} {m c : Nat} {us : List (Value × List α)}

theorem hd_at (h : (rsl (kHd d) (.slice A m c) us).P w F) {i : Nat} {x : Value × List α} (hx : us[i]? = some x) :
    There A ∧ w.cell? ⟨bOf A, oOf A + i * 1, none⟩ = some x.1 ∧ (rsl d x.1 x.2).P w F := by
  obtain ⟨b, off, cs, e, hl, hc, h1, h2⟩ := rsl_at h hx
  subst h1 e
  exact ⟨rfl, hc 0 x.1 rfl, h2⟩
theorem nest_rsl (h : (rsl (kHd d) (.slice A m c) us).P w F) {i : Nat} {u : Value} {x : List α} (hx : us[i]? = some (u, x)) : (rsl d u x).P w F := (hd_at h hx).2.2
theorem Hd.thRd (H : Hd w0 F0 w As Rs) (j : Nat) (hj : Rs[j]? = some (rsl (kHd d) (.slice A m c) us)) {i : Nat} {x : Value × List α} (hx : us[i]? = some x) : There A := H.factR (List.mem_of_getElem? hj) fun _ h => (hd_at h hx).1
theorem Hd.thAd (H : Hd w0 F0 w As Rs) (j : Nat) (hj : As[j]? = some (osl (kHd d) (.slice A m c) us)) {i : Nat} {x : Value × List α} (hx : us[i]? = some x) : There A := H.fact (List.mem_of_getElem? hj) fun F h => (hd_at (own_rd F h) hx).1
theorem Hd.elRd (H : Hd w0 F0 w As Rs) (j : Nat) (hj : Rs[j]? = some (rsl (kHd d) (.slice A m c) us)) {i : Nat} {u : Value} {x : List α} (hx : us[i]? = some (u, x)) {p : Nat} (hp : oOf A + i * 1 = p) : w.cell? ⟨bOf A, p, none⟩ = some u := by
  subst hp
  exact H.factR (List.mem_of_getElem? hj) fun _ h => (hd_at h hx).2.1
theorem Hd.elAd (H : Hd w0 F0 w As Rs) (j : Nat) (hj : As[j]? = some (osl (kHd d) (.slice A m c) us)) {i : Nat} {u : Value} {x : List α} (hx : us[i]? = some (u, x)) {p : Nat} (hp : oOf A + i * 1 = p) : w.cell? ⟨bOf A, p, none⟩ = some u := by
  subst hp
  exact H.fact (List.mem_of_getElem? hj) fun F h => (hd_at (own_rd F h) hx).2.1
theorem Hd.nestR (H : Hd w0 F0 w As Rs) (j : Nat) (hj : Rs[j]? = some (rsl (kHd d) (.slice A m c) us)) {i : Nat} {u : Value} {x : List α} (hx : us[i]? = some (u, x)) : ∃ A' c', u = .slice A' x.length c' ∧ x.length ≤ c' ∧ c' ≤ 9223372036854775807 := by
  refine H.factR (List.mem_of_getElem? hj) fun _ h => ?_
  obtain ⟨A', c', e, h1, h2, _⟩ := rsl_form (nest_rsl h hx)
  exact ⟨A', c', e, h1, h2⟩
theorem Hd.nestA (H : Hd w0 F0 w As Rs) (j : Nat) (hj : As[j]? = some (osl (kHd d) (.slice A m c) us)) {i : Nat} {u : Value} {x : List α} (hx : us[i]? = some (u, x)) : ∃ A' c', u = .slice A' x.length c' ∧ x.length ≤ c' ∧ c' ≤ 9223372036854775807 := by
  refine H.fact (List.mem_of_getElem? hj) fun F h => ?_
  obtain ⟨A', c', e, h1, h2, _⟩ := rsl_form (nest_rsl (own_rd F h) hx)
  exact ⟨A', c', e, h1, h2⟩

/-- What is lent, in another order, or less of it. -/
theorem Hd.pickR (is : List Nat) (H : Hd w0 F0 w As Rs) : Hd w0 F0 w As (is.filterMap fun i => Rs[i]?) := H.subR fun R hR => by
  obtain ⟨i, _, hi⟩ := List.mem_filterMap.1 hR
  exact List.mem_of_getElem? hi
theorem Hd.dropR {R : SP} (H : Hd w0 F0 w As (R :: Rs)) : Hd w0 F0 w As Rs := H.subR fun _ hR => List.mem_cons_of_mem _ hR
theorem Hd.dupR {R : SP} (H : Hd w0 F0 w As Rs) (j : Nat) (hj : Rs[j]? = some R) : Hd w0 F0 w As (R :: Rs) := H.addR fun _ h => h _ (List.mem_of_getElem? hj)
theorem Hd.sufR {xs : List α} (H : Hd w0 F0 w As Rs) (j : Nat) (hj : Rs[j]? = some (rsl d (.slice A m c) xs)) {n : Nat} (hn : n ≤ m) : Hd w0 F0 w As (rsl d (.slice (cutA A c n d.sz) (m - n) (c - n)) (xs.drop n) :: Rs) :=
  H.addR fun _ h => rsl_suf (h _ (List.mem_of_getElem? hj)) hn

/-- The headers of a slice of slices that came in. -/
theorem reps_heads : ∀ {xs : List (List α)} {cs : List Value}, RepsR (kSl d) w F xs cs → ∃ us : List (Value × List α), us.map (·.2) = xs ∧ RepsR (kHd d) w F us cs
  | [], _, h => ⟨[], rfl, h⟩
  | x :: xs, _, ⟨c, cs', e, h1, h2⟩ => by
    obtain ⟨us, rfl, hu⟩ := reps_heads h2
    obtain ⟨A', n', c', rfl, h3⟩ := h1
    exact ⟨(.slice A' n' c', x) :: us, rfl, _, _, e, ⟨rfl, _, _, _, rfl, h3⟩, hu⟩
theorem Hd.heads {v : Value} {xs : List (List α)} (H : Hd w0 F0 w As Rs) (j : Nat) (hj : Rs[j]? = some (rsl (kSl d) v xs)) : ∃ us : List (Value × List α), us.map (·.2) = xs ∧ Hd w0 F0 w As (rsl (kHd d) v us :: Rs) := by
  obtain ⟨F, G, s, r, dj, f, g, u⟩ := H
  obtain ⟨A', n', c', e, h1, h2, h3, cs, h4, h5⟩ := r _ (List.mem_of_getElem? hj)
  obtain ⟨us, rfl, hu⟩ := reps_heads h5
  refine ⟨us, rfl, F, G, s, ?_, dj, f, g, u⟩
  intro R hR
  cases hR with
  | head => exact ⟨A', n', c', e, by rw [← h1, List.length_map], h2, h3, cs, h4, hu⟩
  | tail _ hm => exact r R hm
theorem reps_hd : ∀ {us : List (Value × List α)}, (∀ p ∈ us, (rsl d p.1 p.2).P w F) → RepsR (kHd d) w F us (us.map (·.1))
  | [], _ => rfl
  | p :: us, h => ⟨[p.1], us.map (·.1), rfl, ⟨rfl, h p (List.mem_cons_self ..)⟩, reps_hd fun q hq => h q (List.mem_cons_of_mem _ hq)⟩
/-- One slice alone, as a slice of slices. -/
theorem one_rsl {b : Nat} {e : TypeId} {u : Value} {xs : List α} (h : (blk b [u] e).P w F) (hu : (rsl d u xs).P w F) : (rsl (kHd d) (.slice (some ⟨b, 0, none⟩) 1 1) [(u, xs)]).P w F :=
  blk_rsl h rfl (by decide) (reps_hd (us := [(u, xs)]) fun p hp => by simp at hp; subst hp; exact hu)
end

section
variable {P : Program} {ops : Array Oper} {Q : Exit → Act → World → Prop} {rest : List Oper} {n : Nat} {l : Env} {w0 w : World} {F0 : Foot} {o : Oper} {As Rs : List SP} {x y : Operand} {t : TypeId}

/-- append(v, ys): v is a slice of slices that is held, ys a slice that is held: it goes over to v. -/
theorem s_appH {α : Type} {d : Kd α} {e bytes et b : Nat} {z u v' : Value} {us : List (Value × List α)} {ys : List α}
    (hg : gd ops l o = some true) (hd : dok n o.dst = true) (ho : o.op = .call { callee := .builtin .append, args := #[x, y], argTypes := #[t, t] }) (hs : slOf P t = some (e, 1, bytes)) (hz : zrOf P e = some z) (hzs : z.cells.size = 1) (hb0 : 0 < bytes)
    (hx : ev l x = some u) (hy : ev l y = some (.slice (some ⟨b, 0, none⟩) 1 1)) (H : Hd w0 F0 w (osl (kHd d) u us :: blk b [v'] et :: osl d v' ys :: As) Rs) (hb : (us.length + 1) * bytes ≤ 140737488355328)
    (h : ∀ u' w', Hd w0 F0 w' (osl (kHd d) u' (us ++ [(v', ys)]) :: As) Rs → WL P ops Q rest n (upO l o.dst u') w') : WL P ops Q (o :: rest) n l w := by
  have H1 : Hd w0 F0 w ([blk b [v'] et, osl d v' ys] ++ (osl (kHd d) u us :: As)) Rs := H.perm ((List.Perm.swap _ _ _).trans ((List.Perm.swap _ _ _).cons _))
  have H2 := H1.shut (A := star [blk b [v'] et, osl d v' ys]) (fun F hF => hF)
  have H3 := H2.perm (List.Perm.swap _ _ _)
  refine s_appO (d := kHd d) (ys := [(v', ys)]) hg hd ho hs hz hzs hb0 hx hy H3 hb rfl ?_ h
  rintro F ⟨F1, F2, h1, h2, h3, hbk, G1, G2, g1, g2, g3, hos, _⟩
  refine ⟨[v'], ⟨trivial, .inr ⟨b, 0, _, _, _, rfl, h1 b hbk.1, hbk.2, by simp⟩⟩, ?_⟩
  exact ⟨F2, none_, [v'], [], h2, fun _ q => q.elim, fun _ _ q => q, rfl, ⟨rfl, (kSl d).O_mono hos g1⟩, rfl⟩
end
end Go.Proofs.YtlpgdkbokakniaaGreatDoor.X
