/- Records: whole, with their slices; and flat, as headers alone. No program in sight. -/
import Derived.Test.YtlpgdkbokakniaaGreatDoorXMer2
import Derived.Test.YtlpgdkbokakniaaGreatDoorXProg2
set_option linter.unusedVariables false
namespace Go.Proofs.YtlpgdkbokakniaaGreatDoor.X
open Go

/-- A record; its two slices with their headers. -/
structure Rec where
  kind : Int
  part : Int
  sp : Int
  att : Int
  why : Int
  sv : Value
  set : List Int
  pv : Value
  pairs : List Pair
def encRec (r : Rec) : List Value := [.int .i64 r.kind, .int .i64 r.part, .int .i64 r.sp, .int .i64 r.att, .int .i64 r.why, r.sv, r.pv]
def kRec : Kd Rec where
  sz := 7
  O w F x cs := cs = encRec x ∧ ∃ F1 F2 : Foot, (∀ k, F1 k → F k) ∧ (∀ k, F2 k → F k) ∧ (∀ k, F1 k → ¬ F2 k) ∧ (kSl (kInt .i64)).O w F1 x.set [x.sv] ∧ (kSl kPair).O w F2 x.pairs [x.pv]
  R w F x cs := cs = encRec x ∧ (kSl (kInt .i64)).R w F x.set [x.sv] ∧ (kSl kPair).R w F x.pairs [x.pv]
  O_loc := fun ⟨e, F1, F2, s1, s2, dj, h1, h2⟩ hk => ⟨e, F1, F2, s1, s2, dj, (kSl _).O_loc h1 (fun k x => hk k (s1 k x)), (kSl _).O_loc h2 (fun k x => hk k (s2 k x))⟩
  O_mono := fun ⟨e, F1, F2, s1, s2, dj, h1, h2⟩ hk => ⟨e, F1, F2, fun k x => hk k (s1 k x), fun k x => hk k (s2 k x), dj, h1, h2⟩
  R_loc := fun ⟨e, h1, h2⟩ hk => ⟨e, (kSl _).R_loc h1 hk, (kSl _).R_loc h2 hk⟩
  R_mono := fun ⟨e, h1, h2⟩ hk => ⟨e, (kSl _).R_mono h1 hk, (kSl _).R_mono h2 hk⟩
  O_R := fun ⟨e, F1, F2, s1, s2, dj, h1, h2⟩ => ⟨e, (kSl _).R_mono ((kSl _).O_R h1) s1, (kSl _).R_mono ((kSl _).O_R h2) s2⟩
  len h := by rw [h.1]; rfl
  one := fun ⟨e, h1, h2⟩ c hc => by
    have g1 := (kSl _).one h1
    have g2 := (kSl _).one h2
    subst e
    simp only [encRec, List.mem_cons, List.not_mem_nil, or_false] at hc
    rcases hc with rfl | rfl | rfl | rfl | rfl | rfl | rfl
    · rfl
    · rfl
    · rfl
    · rfl
    · rfl
    · exact g1 _ (List.mem_cons_self ..)
    · exact g2 _ (List.mem_cons_self ..)
  pos := by omega

/-- A record's cells alone. -/
structure RecF where
  kind : Int
  part : Int
  sp : Int
  att : Int
  why : Int
  hs : Hdr
  hp : Hdr
def encRecF (r : RecF) : List Value := [.int .i64 r.kind, .int .i64 r.part, .int .i64 r.sp, .int .i64 r.att, .int .i64 r.why, .slice r.hs.A r.hs.n r.hs.c, .slice r.hp.A r.hp.n r.hp.c]
def kRecF : Kd RecF := flat encRecF 7 (by omega) (fun _ => rfl) (fun _ c h => by
  simp only [encRecF, List.mem_cons, List.not_mem_nil, or_false] at h
  rcases h with rfl | rfl | rfl | rfl | rfl | rfl | rfl <;> rfl)
def toF (r : Rec) : RecF := ⟨r.kind, r.part, r.sp, r.att, r.why, hdrOf r.sv, hdrOf r.pv⟩

section
variable {w w0 : World} {F F0 : Foot} {As Rs : List SP} {A : Option Addr} {m c : Nat}
theorem rec_at {us : List Rec} (h : (rsl kRec (.slice A m c) us).P w F) {i : Nat} {x : Rec} (hx : us[i]? = some x) :
    There A ∧ (∀ q u, (encRec x)[q]? = some u → w.cell? ⟨bOf A, oOf A + i * 7 + q, none⟩ = some u) ∧ (rsl (kInt .i64) x.sv x.set).P w F ∧ (rsl kPair x.pv x.pairs).P w F := by
  obtain ⟨b, off, cs, e, hl, hc, h1, h2, h3⟩ := rsl_at h hx
  subst h1 e
  exact ⟨rfl, hc, h2, h3⟩
theorem rec_set {us : List Rec} (h : (rsl kRec (.slice A m c) us).P w F) {i : Nat} {a1 a2 a3 a4 a5 : Int} {sv pv : Value} {set : List Int} {pairs : List Pair} (hx : us[i]? = some ⟨a1, a2, a3, a4, a5, sv, set, pv, pairs⟩) : (rsl (kInt .i64) sv set).P w F := (rec_at h hx).2.2.1
theorem rec_pairs {us : List Rec} (h : (rsl kRec (.slice A m c) us).P w F) {i : Nat} {a1 a2 a3 a4 a5 : Int} {sv pv : Value} {set : List Int} {pairs : List Pair} (hx : us[i]? = some ⟨a1, a2, a3, a4, a5, sv, set, pv, pairs⟩) : (rsl kPair pv pairs).P w F := (rec_at h hx).2.2.2
theorem Hd.thRr {us : List Rec} (H : Hd w0 F0 w As Rs) (j : Nat) (hj : Rs[j]? = some (rsl kRec (.slice A m c) us)) {i : Nat} {x : Rec} (hx : us[i]? = some x) : There A := H.factR (List.mem_of_getElem? hj) fun _ h => (rec_at h hx).1
theorem Hd.thAr {us : List Rec} (H : Hd w0 F0 w As Rs) (j : Nat) (hj : As[j]? = some (osl kRec (.slice A m c) us)) {i : Nat} {x : Rec} (hx : us[i]? = some x) : There A := H.fact (List.mem_of_getElem? hj) fun F h => (rec_at (own_rd F h) hx).1
theorem Hd.elRr {us : List Rec} (H : Hd w0 F0 w As Rs) (j : Nat) (hj : Rs[j]? = some (rsl kRec (.slice A m c) us)) {i : Nat} {x : Rec} (hx : us[i]? = some x) {q p : Nat} {u : Value} (hu : (encRec x)[q]? = some u) (hp : oOf A + i * 7 + q = p) : w.cell? ⟨bOf A, p, none⟩ = some u := by
  subst hp
  exact H.factR (List.mem_of_getElem? hj) fun _ h => (rec_at h hx).2.1 q u hu
theorem Hd.elAr {us : List Rec} (H : Hd w0 F0 w As Rs) (j : Nat) (hj : As[j]? = some (osl kRec (.slice A m c) us)) {i : Nat} {x : Rec} (hx : us[i]? = some x) {q p : Nat} {u : Value} (hu : (encRec x)[q]? = some u) (hp : oOf A + i * 7 + q = p) : w.cell? ⟨bOf A, p, none⟩ = some u := by
  subst hp
  exact H.fact (List.mem_of_getElem? hj) fun F h => (rec_at (own_rd F h) hx).2.1 q u hu
theorem Hd.nestRr {us : List Rec} (H : Hd w0 F0 w As Rs) (j : Nat) (hj : Rs[j]? = some (rsl kRec (.slice A m c) us)) {i : Nat} {a1 a2 a3 a4 a5 : Int} {sv pv : Value} {set : List Int} {pairs : List Pair} (hx : us[i]? = some ⟨a1, a2, a3, a4, a5, sv, set, pv, pairs⟩) :
    ∃ A1 c1 A2 c2, sv = .slice A1 set.length c1 ∧ pv = .slice A2 pairs.length c2 ∧ set.length ≤ c1 ∧ c1 ≤ 9223372036854775807 ∧ pairs.length ≤ c2 ∧ c2 ≤ 9223372036854775807 := by
  refine H.factR (List.mem_of_getElem? hj) fun _ h => ?_
  obtain ⟨A1, c1, e1, g1, g2, _⟩ := rsl_form (rec_set h hx)
  obtain ⟨A2, c2, e2, g3, g4, _⟩ := rsl_form (rec_pairs h hx)
  exact ⟨A1, c1, A2, c2, e1, e2, g1, g2, g3, g4⟩
theorem Hd.nestAr {us : List Rec} (H : Hd w0 F0 w As Rs) (j : Nat) (hj : As[j]? = some (osl kRec (.slice A m c) us)) {i : Nat} {a1 a2 a3 a4 a5 : Int} {sv pv : Value} {set : List Int} {pairs : List Pair} (hx : us[i]? = some ⟨a1, a2, a3, a4, a5, sv, set, pv, pairs⟩) :
    ∃ A1 c1 A2 c2, sv = .slice A1 set.length c1 ∧ pv = .slice A2 pairs.length c2 ∧ set.length ≤ c1 ∧ c1 ≤ 9223372036854775807 ∧ pairs.length ≤ c2 ∧ c2 ≤ 9223372036854775807 := by
  refine H.fact (List.mem_of_getElem? hj) fun F h => ?_
  obtain ⟨A1, c1, e1, g1, g2, _⟩ := rsl_form (rec_set (own_rd F h) hx)
  obtain ⟨A2, c2, e2, g3, g4, _⟩ := rsl_form (rec_pairs (own_rd F h) hx)
  exact ⟨A1, c1, A2, c2, e1, e2, g1, g2, g3, g4⟩
/-- Of records that are read, their cells are. -/
theorem reps_recF : ∀ {us : List Rec} {cs : List Value}, RepsR kRec w F us cs → RepsR kRecF w F (us.map toF) cs
  | [], _, h => h
  | x :: us, _, ⟨c, cs', e, ⟨h1, h2, h3⟩, h4⟩ => by
    obtain ⟨A1, c1, e1, _⟩ := rsl_form (d := kInt .i64) (w := w) (F := F) h2
    obtain ⟨A2, c2, e2, _⟩ := rsl_form (d := kPair) (w := w) (F := F) h3
    exact ⟨c, cs', e, show c = encRecF (toF x) by rw [h1]; simp [encRec, encRecF, toF, hdrOf, e1, e2], reps_recF h4⟩
theorem rec_flat {v : Value} {us : List Rec} (h : (rsl kRec v us).P w F) : (rsl kRecF v (us.map toF)).P w F := by
  obtain ⟨A', n', c', e, h1, h2, h3, cs, h4, h5⟩ := h
  exact ⟨A', n', c', e, by rw [List.length_map, h1], h2, h3, cs, h4, reps_recF h5⟩
theorem Hd.recs {v : Value} {us : List Rec} (H : Hd w0 F0 w As Rs) (j : Nat) (hj : Rs[j]? = some (rsl kRec v us)) : ∃ fs : List RecF, fs.length = us.length ∧ Hd w0 F0 w As (rsl kRecF v fs :: Rs) :=
  ⟨us.map toF, List.length_map .., H.addR fun _ h => rec_flat (h _ (List.mem_of_getElem? hj))⟩
end

section
variable {P : Program} {t : TypeId}
theorem opens_rec {i s p : TypeId} {W2 : Pair → Prop} (hs : stOf P t = some [(i, 0, 1), (i, 1, 1), (i, 2, 1), (i, 3, 1), (i, 4, 1), (s, 5, 1), (p, 6, 1)]) (hc : P.cellsOf t = 7) (hi : P.underlying i = some (.int .i64))
    (h1 : Opens P s (kSl (kInt .i64)) (fun xs => (∀ x ∈ xs, In64 x) ∧ xs.length ≤ 9223372036854775807)) (h2 : Opens P p (kSl kPair) (fun xs => (∀ x ∈ xs, W2 x) ∧ xs.length ≤ 9223372036854775807)) :
    Opens P t kRec (fun r : Rec => (In64 r.kind ∧ In64 r.part ∧ In64 r.sp ∧ In64 r.att ∧ In64 r.why) ∧ ((∀ x ∈ r.set, In64 x) ∧ r.set.length ≤ 9223372036854775807) ∧ ((∀ x ∈ r.pairs, W2 x) ∧ r.pairs.length ≤ 9223372036854775807)) := by
  intro H enc w fuel cs x h
  obtain ⟨hl, n, hf⟩ := open_st hs h
  rw [hc] at hl
  match cs, hl with
  | [c0, c1, c2, c3, c4, c5, c6], _ =>
    obtain ⟨y0, g0⟩ := hf 0 _ _ _ rfl
    obtain ⟨y1, g1⟩ := hf 1 _ _ _ rfl
    obtain ⟨y2, g2⟩ := hf 2 _ _ _ rfl
    obtain ⟨y3, g3⟩ := hf 3 _ _ _ rfl
    obtain ⟨y4, g4⟩ := hf 4 _ _ _ rfl
    obtain ⟨y5, g5⟩ := hf 5 _ _ _ rfl
    obtain ⟨y6, g6⟩ := hf 6 _ _ _ rfl
    obtain ⟨a0, r0, w0⟩ := opens_int hi enc w n _ _ g0
    obtain ⟨a1, r1, w1⟩ := opens_int hi enc w n _ _ g1
    obtain ⟨a2, r2, w2⟩ := opens_int hi enc w n _ _ g2
    obtain ⟨a3, r3, w3⟩ := opens_int hi enc w n _ _ g3
    obtain ⟨a4, r4, w4⟩ := opens_int hi enc w n _ _ g4
    obtain ⟨a5, r5, w5⟩ := h1 enc w n _ _ g5
    obtain ⟨a6, r6, w6⟩ := h2 enc w n _ _ g6
    have r5' : (kSl (kInt .i64)).R w (Old w) a5 [c5] := r5
    have r6' : (kSl kPair).R w (Old w) a6 [c6] := r6
    refine ⟨⟨a0, a1, a2, a3, a4, c5, a5, c6, a6⟩, ⟨?_, r5', r6'⟩, ⟨w0, w1, w2, w3, w4⟩, w5, w6⟩
    have q0 : [c0] = [Value.int .i64 a0] := r0
    have q1 : [c1] = [Value.int .i64 a1] := r1
    have q2 : [c2] = [Value.int .i64 a2] := r2
    have q3 : [c3] = [Value.int .i64 a3] := r3
    have q4 : [c4] = [Value.int .i64 a4] := r4
    simp only [List.cons.injEq, and_true] at q0 q1 q2 q3 q4
    simp only [encRec]
    rw [q0, q1, q2, q3, q4]
end

/-! ### What records say -/
def endedL : List RecF → Int × Int × Int × Bool
  | [] => (0, 0, 0, false)
  | r :: rs => if r.kind = 2 then (1, 0, 0, false) else if r.kind = 3 then (if r.att = 1 then (2, r.why, r.part, true) else (2, r.why, r.sp, false)) else endedL rs
def wonL (s : Int) : List RecF → Int × Bool
  | [] => (0, false)
  | r :: rs => if r.kind = 1 ∧ r.sp = s then (r.att, true) else wonL s rs
theorem ended_app {a : List RecF} (b : List RecF) (h : (endedL a).1 ≠ 0) : endedL (a ++ b) = endedL a := by
  induction a with
  | nil => exact absurd rfl h
  | cons r a ih =>
    simp only [List.cons_append, endedL] at h ⊢
    split
    · rfl
    · rename_i h1
      rw [if_neg h1] at h
      split
      · rfl
      · rename_i h2
        rw [if_neg h2] at h
        exact ih h
theorem ended_zero {a : List RecF} (h : (endedL a).1 = 0) : endedL a = (0, 0, 0, false) := by
  induction a with
  | nil => rfl
  | cons r a ih =>
    simp only [endedL] at h ⊢
    split at h
    · cases h
    · rename_i h1
      rw [if_neg h1]
      split at h
      · split at h <;> cases h
      · rename_i h2
        rw [if_neg h2]
        exact ih h
theorem ended_app0 {a : List RecF} (b : List RecF) (h : (endedL a).1 = 0) : endedL (a ++ b) = endedL b := by
  induction a with
  | nil => rfl
  | cons r a ih =>
    simp only [List.cons_append, endedL] at h ⊢
    split at h
    · cases h
    · rename_i h1
      rw [if_neg h1]
      split at h
      · split at h <;> cases h
      · rename_i h2
        rw [if_neg h2]
        exact ih h
theorem won_app {s : Int} {a : List RecF} (b : List RecF) (h : (wonL s a).2 = true) : wonL s (a ++ b) = wonL s a := by
  induction a with
  | nil => cases h
  | cons r a ih =>
    simp only [List.cons_append, wonL] at h ⊢
    split
    · rfl
    · rename_i h1
      rw [if_neg h1] at h
      exact ih h
theorem drop_at {α : Type} {xs : List α} {k : Nat} {x : α} (hx : xs[k]? = some x) : xs.drop k = x :: xs.drop (k + 1) := by
  have hlt : k < xs.length := by
    rcases Nat.lt_or_ge k xs.length with h | h
    · exact h
    · simp [List.getElem?_eq_none h] at hx
  rw [List.drop_eq_getElem_cons hlt]
  rw [List.getElem?_eq_getElem hlt] at hx
  rw [Option.some.inj hx]
def greatR (rs : List Rec) (n : Int) : Bool := decide (¬ ((rs.length : Int) ≤ n ∧ ∀ r ∈ rs, r.set.length ≤ 20 ∧ greatP r.pairs 50 = false))
theorem greatR_hit {rs : List Rec} {n : Int} {k : Nat} {x : Rec} (hx : rs[k]? = some x) (h : 20 < x.set.length ∨ greatP x.pairs 50 = true) : true = greatR rs n := by
  have h' : ¬ ((rs.length : Int) ≤ n ∧ ∀ r ∈ rs, r.set.length ≤ 20 ∧ greatP r.pairs 50 = false) := by
    intro hh
    obtain ⟨h1, h2⟩ := hh.2 x (at_mem hx)
    rcases h with h | h
    · omega
    · rw [h] at h2; cases h2
  exact (decide_eq_true h').symm
theorem greatR_end {rs : List Rec} {n : Int} {k : Nat} (hn : ∀ r ∈ rs.take k, r.set.length ≤ 20 ∧ greatP r.pairs 50 = false) (h : rs.length ≤ k ∨ n < (rs.length : Int)) : decide (n < (rs.length : Int)) = greatR rs n := by
  unfold greatR
  by_cases hl : n < (rs.length : Int)
  · rw [decide_eq_true hl, decide_eq_true (by omega)]
  · rw [decide_eq_false hl, decide_eq_false]
    intro hh
    refine hh ⟨by omega, ?_⟩
    rw [List.take_of_length_le (h.resolve_right hl)] at hn
    exact hn
theorem greatR_no {rs : List Rec} {n : Int} (h : greatR rs n = false) : (rs.length : Int) ≤ n ∧ ∀ r ∈ rs, r.set.length ≤ 20 ∧ greatP r.pairs 50 = false := Classical.not_not.1 (of_decide_eq_false h)
def wlF (rs : List RecF) : List Int := (rs.filter fun r => decide (r.kind = 1)).map (·.sp)
def winL (rs : List RecF) : List Int := Lib.compact (sortI (wlF rs))
theorem wl_yes {rs : List RecF} {k : Nat} {x : RecF} (hx : rs[k]? = some x) (h : x.kind = 1) : wlF (rs.take (k + 1)) = wlF (rs.take k) ++ [x.sp] := by
  unfold wlF
  rw [take_snoc hx, List.filter_append]
  simp [h]
theorem wl_no {rs : List RecF} {k : Nat} {x : RecF} (hx : rs[k]? = some x) (h : ¬ x.kind = 1) : wlF (rs.take (k + 1)) = wlF (rs.take k) := by
  unfold wlF
  rw [take_snoc hx, List.filter_append]
  simp [h]
theorem wl_len (rs : List RecF) : (wlF rs).length ≤ rs.length := by
  unfold wlF
  rw [List.length_map]
  exact List.length_filter_le ..
theorem win_mem {rs : List RecF} {x : Int} : x ∈ winL rs ↔ x ∈ wlF rs := by
  unfold winL sortI
  rw [compact_mem, List.mem_mergeSort]
theorem win_len (a b : List RecF) : (winL a).length ≤ (winL (a ++ b)).length := by
  refine List.Nodup.length_le_of_subset ?_ ?_
  · exact (compact_rise (sortI_rise _)).imp fun h => by omega
  · intro x hx
    rw [win_mem] at hx ⊢
    unfold wlF at hx ⊢
    rw [List.filter_append, List.map_append]
    exact List.mem_append_left _ hx
theorem win_two : winL [⟨1, 0, 3, 0, 0, ⟨none, 0, 0⟩, ⟨none, 0, 0⟩⟩, ⟨1, 0, 1, 0, 0, ⟨none, 0, 0⟩, ⟨none, 0, 0⟩⟩] = [1, 3] := by
  refine rise_one (compact_rise (sortI_rise _)) (by simp) fun x => ?_
  show x ∈ winL _ ↔ _
  rw [win_mem]
  simp [wlF]
  omega
end Go.Proofs.YtlpgdkbokakniaaGreatDoor.X
