/- append, make, copy: rows of cells that grow. No program in sight. -/
import Derived.Test.YtlpgdkbokakniaaGreatDoorXS
set_option linter.unusedVariables false
set_option linter.unusedSimpArgs false
namespace Go.Proofs.YtlpgdkbokakniaaGreatDoor.X
open Go

section
variable {P : Program} {w : World} {F : Foot}

set_option maxHeartbeats 1000000 in
theorem run_append_gen {t tx ty e size bytes : Nat} {dx : TypeDesc} {z : Value} {A : Option Addr} {n c m : Nat} {cs news : List Value} {x : Value} (hs : slOf P t = some (e, size, bytes)) (hz : zrOf P e = some z) (hzs : z.cells.size = size)
    (htx : P.underlying tx = some dx) (hni : (∃ q, dx = .slice q) ∨ dx = .string) (h : RowO w F size A n c cs) (hF : ∀ k, F k → k < w.heap.size)
    (hlen : (Builtin.lenOf x).run P w = .ok m w) (hfc : ∀ w' : World, w'.heap = w.heap → (Builtin.firstCells size m x).run P w' = .ok news.toArray w') (hnl : news.length = m * size) (h1 : ∀ u ∈ news, u.oneCell' = true)
    (hb0 : 0 < bytes) (hb : (n + m) * bytes ≤ 140737488355328) :
    ∃ A' c' w' F', (Builtin.append_ #[t, tx] ty #[.slice A n c, x]).run P w = .ok (.slice A' (n + m) c') w' ∧ RowO w' F' size A' (n + m) c' (cs ++ news) ∧ Upd F w w' ∧ (∀ k, F' k → k < w'.heap.size ∧ (F k ∨ w.heap.size ≤ k)) := by
  obtain ⟨hu, i, hi, rfl, rfl⟩ := slOf_spec hs
  obtain ⟨i', hi', hz'⟩ := Option.bind_eq_some_iff.1 hz
  rw [hi] at hi'
  cases hi'
  obtain ⟨hnc, hcm, hcl, hrow⟩ := h
  have hsmall : n + m ≤ 140737488355328 := Nat.le_trans (Nat.le_mul_of_pos_right _ hb0) hb
  by_cases hroom : n + m ≤ c
  · rcases hrow with ⟨hc0, hp⟩ | ⟨b, C, bt, hA, hFb, hh, hCs, htake⟩
    · obtain rfl : n = 0 := by omega
      obtain rfl : m = 0 := by omega
      obtain rfl : cs = [] := List.eq_nil_of_length_eq_zero (by simpa using hcl)
      obtain rfl : news = [] := List.eq_nil_of_length_eq_zero (by simpa using hnl)
      refine ⟨A, c, w, F, ?_, ⟨hnc, hcm, by simp, .inl ⟨hc0, hp⟩⟩, Upd.refl _ _, fun k hk => ⟨hF k hk, .inl hk⟩⟩
      rcases hni with ⟨q, rfl⟩ | rfl <;> cases A <;> simp [Builtin.append_, run_underlying hu, run_underlying htx, sizeOf, typeInfo, hi, hlen, hfc w rfl, hc0, storeCells]
    · have hfit : n * i.size + news.length ≤ C.size := by rw [hnl, hCs, ← Nat.add_mul]; exact Nat.mul_le_mul_right _ hroom
      have hst := run_storeCells_at P b (n * i.size) bt news 0 C w hh (by simpa using hfit) h1
      simp only [Nat.add_zero] at hst
      refine ⟨A, c, w.setRow b (C.toList.take (n * i.size) ++ news ++ C.toList.drop (n * i.size + news.length)).toArray, F, ?_, ⟨hroom, hcm, by simp [hcl, hnl, Nat.add_mul], .inr ⟨b, _, bt, hA, hFb, setRow_heap w b C _ bt _ hh, ?_, ?_⟩⟩, ⟨rfl, rfl, rfl, by simp, fun k _ hk => setRow_other w b k _ (fun e => hk (e ▸ hFb))⟩, fun k hk => ⟨by simpa using hF k hk, .inl hk⟩⟩
      · subst hA
        rcases hni with ⟨q, rfl⟩ | rfl <;> simp [Builtin.append_, run_underlying hu, run_underlying htx, sizeOf, typeInfo, hi, hlen, hfc w rfl, hroom, add_of, hst]
      · simp only [List.size_toArray, List.length_append, List.length_take, List.length_drop, Array.length_toList]
        omega
      · rw [htake]
        have : (cs ++ news).length = (n + m) * i.size := by simp [hcl, hnl, Nat.add_mul]
        rw [← this]
        exact List.take_left
  · have hbz : i.bytes ≠ 0 := by omega
    have hold : ∀ w' : World, w'.heap = w.heap → (Builtin.firstCells i.size n (.slice A n c)).run P w' = .ok cs.toArray w' := by
      intro w' hw'
      rcases hrow with ⟨hc0, hp⟩ | ⟨b, C, bt, hA, hFb, hh, hCs, htake⟩
      · obtain rfl : n = 0 := by omega
        obtain rfl : cs = [] := List.eq_nil_of_length_eq_zero (by simpa using hcl)
        cases A <;> simp [Builtin.firstCells, loadCells, loadCellsFrom]
      · subst hA
        refine run_firstCells_some w' i.size n ⟨b, 0, none⟩ n c cs hcl (fun j v hv => ?_)
        have hR : RowR w F (some ⟨b, 0, none⟩) cs := RowO.toR (c := c) ⟨hnc, hcm, hcl, .inr ⟨b, C, bt, rfl, hFb, hh, hCs, htake⟩⟩
        obtain ⟨b', off', e', hcell⟩ := hR.cell hv
        cases e'
        have : w'.cell? ⟨b, 0 + j, none⟩ = w.cell? ⟨b, 0 + j, none⟩ := by simp [World.cell?, hw']
        rw [add_of, this]
        exact hcell
    have hbig : ¬ (9223372036854775807 < ((n + m : Nat) : Int)) := by omega
    have hfit : ¬ 281474976710656 < Builtin.nextslicecap (n + m) c * i.bytes := by
      have := growslice_fits (need := n + m) (old := c) (bytes := i.bytes) (by omega) hb
      omega
    have hge := grownCap_ge w (n + m) c e
    have hle : grownCap w (n + m) c e ≤ 9223372036854775807 := by
      have := grownCap_le_maxLen w (n + m) c e (by simp only [maxLen]; omega)
      simpa [maxLen] using this
    refine ⟨some ⟨w.heap.size, 0, none⟩, grownCap w (n + m) c e, w.drew.alloc (.cells (cs.toArray ++ news.toArray ++ Builtin.zeroCells z.cells (grownCap w (n + m) c e - (n + m))) e), fun k => k = w.heap.size, ?_, ⟨hge, hle, by simp [hcl, hnl, Nat.add_mul], .inr ⟨w.heap.size, _, e, rfl, rfl, heap_alloc_new w.drew _, ?_, ?_⟩⟩, ?_, ?_⟩
    · rcases hni with ⟨q, rfl⟩ | rfl <;> simp [Builtin.append_, run_underlying hu, run_underlying htx, sizeOf, zeroValue, typeInfo, hi, hz', hlen, hfc w.drew rfl, hold w.drew rfl, hroom, hbz, hfit, newRow, grownCap, Question.forced] <;> (rw [← Array.append_assoc]; simp)
    · simp only [Array.size_append, List.size_toArray, size_zeroCells, hzs, hcl, hnl, ← Nat.add_mul]
      congr 1
      omega
    · simp only [Array.toList_append]
      have : (cs ++ news).length = (n + m) * i.size := by simp [hcl, hnl, Nat.add_mul]
      rw [← this]
      exact List.take_left
    · exact (Upd.alloc F w.drew _).trans (Upd.refl F _) (fun _ _ x => x) |> fun u => ⟨u.os, u.tape, u.output, u.size, u.block⟩
    · intro k hk
      subst hk
      simp
end

section
variable {P : Program} {ops : Array Oper} {Q : Exit → Act → World → Prop} {rest : List Oper} {n : Nat} {l : Env} {w0 w : World} {F0 : Foot} {o : Oper} {v : Value} {As Rs : List SP} {x y : Operand} {t : TypeId}

theorem firstCells_row {size m c : Nat} {B : Option Addr} {news : List Value} {F : Foot} (h : RowR w F B news) (hnl : news.length = m * size) (hm : B = none → m = 0) :
    ∀ w' : World, w'.heap = w.heap → (Builtin.firstCells size m (.slice B m c)).run P w' = .ok news.toArray w' := by
  intro w' hw'
  cases B with
  | none =>
    obtain rfl := hm rfl
    obtain rfl : news = [] := List.eq_nil_of_length_eq_zero (by simpa using hnl)
    simp [Builtin.firstCells]
  | some a =>
    refine run_firstCells_some w' size m a m c news hnl (fun j v hv => ?_)
    obtain ⟨b, off, e, hc⟩ := h.cell hv
    cases e
    have : w'.cell? ⟨b, off + j, none⟩ = w.cell? ⟨b, off + j, none⟩ := by simp [World.cell?, hw']
    rw [add_of, this]
    exact hc

/-- append(v, ys...): v is held; ys are data that lead nowhere, wherever they lie. -/
theorem s_appF {α : Type} {enc : α → List Value} {sz : Nat} {hp : 0 < sz} {hl : ∀ x, (enc x).length = sz} {h1 : ∀ x, ∀ c ∈ enc x, c.oneCell' = true} {e bytes : Nat} {z u : Value} {xs ys : List α} {B : Option Addr} {m c2 : Nat}
    (hg : gd ops l o = some true) (hd : dok n o.dst = true) (ho : o.op = .call { callee := .builtin .append, args := #[x, y], argTypes := #[t, t] }) (hs : slOf P t = some (e, sz, bytes)) (hz : zrOf P e = some z) (hzs : z.cells.size = sz) (hb0 : 0 < bytes)
    (hx : ev l x = some u) (hy : ev l y = some (.slice B m c2)) (H : Hd w0 F0 w (osl (flat enc sz hp hl h1) u xs :: As) Rs) (hb : (xs.length + m) * bytes ≤ 140737488355328)
    (hn : ∀ F, (∀ A ∈ As, A.P w F) → (∀ R ∈ Rs, R.P w F) → (rsl (flat enc sz hp hl h1) (.slice B m c2) ys).P w F)
    (h : ∀ u' w', Hd w0 F0 w' (osl (flat enc sz hp hl h1) u' (xs ++ ys) :: As) Rs → WL P ops Q rest n (upO l o.dst u') w') : WL P ops Q (o :: rest) n l w := by
  obtain ⟨F, hF1, hF2⟩ : ∃ F, (∀ A ∈ As, A.P w F) ∧ (∀ R ∈ Rs, R.P w F) := H.read fun F a r => ⟨F, fun A hA => a A (List.mem_cons_of_mem _ hA), r⟩
  obtain ⟨hyl, _, _, news, hnr, hnR⟩ : slR (flat enc sz hp hl h1) w F ys B m c2 := by
    obtain ⟨A', n', c', e', h'⟩ := hn F hF1 hF2
    cases e'
    exact h'
  have hnl : news.length = m * sz := by rw [hnR.len, hyl]; rfl
  have hm0 : B = none → m = 0 := by
    intro hB
    rcases hnr.2 with rfl | ⟨b, off, C, t', fr, e', _⟩
    · have : m * sz = 0 := by rw [← hnl]; rfl
      exact (Nat.mul_eq_zero.1 this).resolve_right (by omega)
    · rw [hB] at e'; cases e'
  obtain ⟨hu, i, hi, hi1, hi2⟩ := slOf_spec hs
  have hfc := firstCells_row (P := P) (c := c2) hnr hnl hm0
  have key : ∀ F1, (osl (flat enc sz hp hl h1) u xs).P w F1 → (∀ k, F1 k → k < w.heap.size) → ∃ A c A' c' w' F', u = .slice A xs.length c ∧ (Builtin.append_ #[t, t] o.type #[u, .slice B m c2]).run P w = .ok (.slice A' (xs.length + m) c') w' ∧ (osl (flat enc sz hp hl h1) (.slice A' (xs.length + m) c') (xs ++ ys)).P w' F' ∧ Upd F1 w w' ∧ (∀ k, F' k → k < w'.heap.size ∧ (F1 k ∨ w.heap.size ≤ k)) := by
    rintro F1 ⟨A, n', c, e', hxl, cs, G1, G2, g1, g2, gd, hr, hR⟩ hlt
    cases e'
    subst hxl
    obtain ⟨A', c', w', F', hrun, hrow, hupd, hF'⟩ := run_append_gen (P := P) (tx := t) (ty := o.type) (x := .slice B m c2) (m := m) (news := news) hs hz hzs hu (.inl ⟨e, rfl⟩) hr (fun k hk => hlt k (g1 k hk)) (by simp [Builtin.lenOf]) hfc hnl hnR.one hb0 hb
    refine ⟨A, c, A', c', w', F', rfl, hrun, ?_, ⟨hupd.os, hupd.tape, hupd.output, hupd.size, fun k hk hn' => hupd.block k hk (fun q => hn' (g1 k q))⟩, fun k hk => ⟨(hF' k hk).1, (hF' k hk).2.imp (g1 k) id⟩⟩
    exact ⟨A', _, c', rfl, by simp [hyl], cs ++ news, F', none_, fun _ q => q, fun _ q => q.elim, fun _ _ q => q, hrow, RepsO.flatR (F := none_) (RepsR.flat_eq.2 (by rw [RepsR.flat_eq.1 hR.toR, RepsR.flat_eq.1 hnR]; simp))⟩
  have hall : ∃ F1, (osl (flat enc sz hp hl h1) u xs).P w F1 ∧ ∀ k, F1 k → k < w.heap.size := by
    obtain ⟨F, G, ⟨F1, F2, a1, a2, a3, a, s⟩, r, d, f, g, u⟩ := H
    exact ⟨F1, a, fun k hk => (f k (a1 k hk)).1⟩
  obtain ⟨F1, hO, hlt⟩ := hall
  obtain ⟨A, c, A', c', w', F', hue, hrun, _, _, _⟩ := key F1 hO hlt
  refine s_val hg hd (v := .slice A' (xs.length + m) c') (w' := w') (fun a ha => ?_) (h _ _ (H.grow fun F2 hO2 hlt2 => ?_))
  · simp [execOp, ho, resolve, ha.eval hx, ha.eval hy, invoke, builtin, hrun]
  · obtain ⟨A3, c3, A4, c4, w4, F4, _, hrun4, h4, h5, h6⟩ := key F2 hO2 hlt2
    rw [hrun] at hrun4
    cases hrun4
    exact ⟨F4, h4, h5, h6⟩

/-- append(v, ys...): v and ys are held; ys' own row is left behind. -/
theorem s_appO {α : Type} {d : Kd α} {E : SP} {e bytes : Nat} {z u : Value} {xs ys : List α} {B : Option Addr} {m c2 : Nat}
    (hg : gd ops l o = some true) (hd : dok n o.dst = true) (ho : o.op = .call { callee := .builtin .append, args := #[x, y], argTypes := #[t, t] }) (hs : slOf P t = some (e, d.sz, bytes)) (hz : zrOf P e = some z) (hzs : z.cells.size = d.sz) (hb0 : 0 < bytes)
    (hx : ev l x = some u) (hy : ev l y = some (.slice B m c2)) (H : Hd w0 F0 w (osl d u xs :: E :: As) Rs) (hb : (xs.length + m) * bytes ≤ 140737488355328)
    (hyl : ys.length = m) (hE : ∀ F, E.P w F → ∃ news, RowR w F B news ∧ RepsO d w F ys news)
    (h : ∀ u' w', Hd w0 F0 w' (osl d u' (xs ++ ys) :: As) Rs → WL P ops Q rest n (upO l o.dst u') w') : WL P ops Q (o :: rest) n l w := by
  have H2 : Hd w0 F0 w (star [osl d u xs, E] :: As) Rs := H.shut (Bs := [osl d u xs, E]) (fun F hF => hF)
  obtain ⟨hu, i, hi, hi1, hi2⟩ := slOf_spec hs
  have hpos := d.pos
  have key : ∀ F1, (star [osl d u xs, E]).P w F1 → (∀ k, F1 k → k < w.heap.size) → ∃ A' c' w' F', (Builtin.append_ #[t, t] o.type #[u, .slice B m c2]).run P w = .ok (.slice A' (xs.length + m) c') w' ∧ (osl d (.slice A' (xs.length + m) c') (xs ++ ys)).P w' F' ∧ Upd F1 w w' ∧ (∀ k, F' k → k < w'.heap.size ∧ (F1 k ∨ w.heap.size ≤ k)) := by
    rintro F1 ⟨K1, K2, k1, k2, kd, ⟨A, n', c, e', hxl, cs, G1, G2, g1, g2, gd, hr, hR⟩, K3, K4, k3, k4, kd', hEP, _⟩ hlt
    cases e'
    subst hxl
    obtain ⟨news, hnr, hnO⟩ := hE K3 hEP
    have hnl : news.length = m * d.sz := by rw [hnO.toR.len, hyl]
    have hm0 : B = none → m = 0 := by
      intro hB
      rcases hnr.2 with rfl | ⟨b, off, C, t', fr, e', _⟩
      · have : m * d.sz = 0 := by rw [← hnl]; rfl
        exact (Nat.mul_eq_zero.1 this).resolve_right (by omega)
      · rw [hB] at e'; cases e'
    have hfc := firstCells_row (P := P) (c := c2) hnr hnl hm0
    obtain ⟨A', c', w', F', hrun, hrow, hupd, hF'⟩ := run_append_gen (P := P) (tx := t) (ty := o.type) (x := .slice B m c2) (m := m) (news := news) hs hz hzs hu (.inl ⟨e, rfl⟩) hr (fun k hk => hlt k (k1 k (g1 k hk))) (by simp [Builtin.lenOf]) hfc hnl hnO.toR.one hb0 hb
    have hsz := hupd.size
    refine ⟨A', c', w', fun k => F' k ∨ G2 k ∨ K3 k, hrun, ?_, ⟨hupd.os, hupd.tape, hupd.output, hupd.size, fun k hk hn' => hupd.block k hk (fun q => hn' (k1 k (g1 k q)))⟩, ?_⟩
    · refine ⟨A', _, c', rfl, by simp [hyl], cs ++ news, F', fun k => G2 k ∨ K3 k, fun _ => .inl, fun _ => .inr, ?_, hrow, RepsO.append (F1 := G2) (F2 := K3) (fun _ => .inl) (fun _ => .inr) ?_ (hR.loc ?_) (hnO.loc ?_)⟩
      · intro k hk hq
        have hold : k < w.heap.size := hq.elim (fun q => hlt k (k1 k (g2 k q))) (fun q => hlt k (k2 k (k3 k q)))
        rcases (hF' k hk).2 with hg | hg
        · exact hq.elim (gd k hg) (fun q => kd k (g1 k hg) (k3 k q))
        · omega
      · exact fun k a b => kd k (g2 k a) (k3 k b)
      · exact fun k hk => hupd.block k (hlt k (k1 k (g2 k hk))) (fun q => gd k q hk)
      · exact fun k hk => hupd.block k (hlt k (k2 k (k3 k hk))) (fun q => kd k (g1 k q) (k3 k hk))
    · intro k hk
      rcases hk with hk | hk | hk
      · exact ⟨(hF' k hk).1, (hF' k hk).2.imp (fun q => k1 k (g1 k q)) id⟩
      · exact ⟨Nat.lt_of_lt_of_le (hlt k (k1 k (g2 k hk))) hsz, .inl (k1 k (g2 k hk))⟩
      · exact ⟨Nat.lt_of_lt_of_le (hlt k (k2 k (k3 k hk))) hsz, .inl (k2 k (k3 k hk))⟩
  have hall : ∃ F1, (star [osl d u xs, E]).P w F1 ∧ ∀ k, F1 k → k < w.heap.size := by
    obtain ⟨F, G, ⟨F1, F2, a1, a2, a3, a, s⟩, r, d, f, g, u⟩ := H2
    exact ⟨F1, a, fun k hk => (f k (a1 k hk)).1⟩
  obtain ⟨F1, hO, hlt⟩ := hall
  obtain ⟨A', c', w', F', hrun, _, _, _⟩ := key F1 hO hlt
  refine s_val hg hd (v := .slice A' (xs.length + m) c') (w' := w') (fun a ha => ?_) (h _ _ (H2.grow fun F2 hO2 hlt2 => ?_))
  · simp [execOp, ho, resolve, ha.eval hx, ha.eval hy, invoke, builtin, hrun]
  · obtain ⟨A4, c4, w4, F4, hrun4, h4, h5, h6⟩ := key F2 hO2 hlt2
    rw [hrun] at hrun4
    cases hrun4
    exact ⟨F4, h4, h5, h6⟩

/-- A row that was just made is read. -/
theorem blk_rsl {α : Type} {d : Kd α} {b : Nat} {cs : List Value} {e : TypeId} {xs : List α} {F : Foot} {m : Nat} (h : (blk b cs e).P w F) (hx : xs.length = m) (hm : m ≤ 9223372036854775807) (hr : RepsR d w F xs cs) : (rsl d (.slice (some ⟨b, 0, none⟩) m m) xs).P w F := by
  refine ⟨_, _, _, rfl, hx, Nat.le_refl _, hm, cs, ⟨trivial, .inr ⟨b, 0, _, _, _, rfl, h.1, h.2, by simp⟩⟩, hr⟩
theorem blk_osl {α : Type} {enc : α → List Value} {sz : Nat} {hp : 0 < sz} {hl : ∀ x, (enc x).length = sz} {h1 : ∀ x, ∀ c ∈ enc x, c.oneCell' = true} {b : Nat} {cs : List Value} {e : TypeId} {xs : List α} {F : Foot} {m : Nat} (h : (blk b cs e).P w F) (hx : xs.length = m) (hm : m ≤ 9223372036854775807)
    (hr : cs = xs.flatMap enc) : (osl (flat enc sz hp hl h1) (.slice (some ⟨b, 0, none⟩) m m) xs).P w F := by
  have hlen : cs.length = m * sz := by
    have := (RepsR.flat_eq (enc := enc) (hp := hp) (hl := hl) (h1 := h1) (w := w) (F := F)).2 hr
    rw [this.len, hx]
    rfl
  refine ⟨_, _, _, rfl, hx, cs, F, none_, fun _ q => q, fun _ q => q.elim, fun _ _ q => q, ⟨Nat.le_refl _, hm, hlen, .inr ⟨b, _, _, rfl, h.1, h.2, by simp [hlen]; rfl, by show cs.take (m * sz) = cs; rw [← hlen]; exact List.take_length⟩⟩, RepsO.flatR (F := none_) (RepsR.flat_eq.2 hr)⟩
/-- Nothing is held of no elements. -/
theorem osl_nil {α : Type} (d : Kd α) (w : World) (F : Foot) {A : Option Addr} (hA : Plain A) : (osl d (.slice A 0 0) ([] : List α)).P w F :=
  ⟨A, 0, 0, rfl, rfl, [], none_, none_, fun _ q => q.elim, fun _ q => q.elim, fun _ q => q.elim, ⟨Nat.le_refl _, by omega, by simp, .inl ⟨rfl, hA⟩⟩, rfl⟩
theorem rsl_nil {α : Type} (d : Kd α) (w : World) (F : Foot) {A : Option Addr} {c : Nat} (hA : Plain A) (hc : c ≤ 9223372036854775807) : (rsl d (.slice A 0 c) ([] : List α)).P w F :=
  ⟨A, 0, c, rfl, rfl, Nat.zero_le _, hc, [], ⟨hA, .inl rfl⟩, rfl⟩
theorem Hd.newnil {α : Type} (d : Kd α) (H : Hd w0 F0 w As Rs) : Hd w0 F0 w (osl d (.slice none 0 0) [] :: As) Rs :=
  H.new (Upd.refl _ _) (F' := none_) (osl_nil d w none_ trivial) (fun _ q => q.elim)
end
end Go.Proofs.YtlpgdkbokakniaaGreatDoor.X
