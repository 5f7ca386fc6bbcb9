/- What the walks cite at each step. No program in sight. -/
import Derived.Test.YtlpgdkbokakniaaGreatDoorXP
set_option linter.unusedVariables false
set_option linter.unusedSimpArgs false
namespace Go.Proofs.YtlpgdkbokakniaaGreatDoor.X
open Go

theorem w64 {x : Int} (h0 : -9223372036854775808 ≤ x) (h1 : x ≤ 9223372036854775807) : IntKind.i64.wrap x = x := by
  simp only [IntKind.wrap, IntKind.bits, IntKind.signed]
  simp
  omega
theorem wu64 {x : Int} (h0 : 0 ≤ x) (h1 : x ≤ 18446744073709551615) : IntKind.u64.wrap x = x := by
  simp only [IntKind.wrap, IntKind.bits, IntKind.signed]
  simp
  omega

theorem wrapU (x : Int) : 0 ≤ IntKind.u64.wrap x ∧ IntKind.u64.wrap x ≤ 18446744073709551615 := by
  simp only [IntKind.wrap, IntKind.bits, IntKind.signed]
  simp
  omega
def bOf : Option Addr → Nat
  | some a => a.block
  | none => 0
def oOf : Option Addr → Nat
  | some a => a.off
  | none => 0
/-- There is such a place. -/
def There (A : Option Addr) : Prop := A = some ⟨bOf A, oOf A, none⟩
theorem there {A : Option Addr} {b off : Nat} (h : A = some ⟨b, off, none⟩) : There A := by subst h; rfl

section
variable {P : Program} {n : Nat} {l : Env} {w0 w : World} {F0 : Foot} {o : Oper} {v u : Value} {x y : Operand} {t : TypeId} {As Rs : List SP}

theorem Hd.cellI {b : Nat} {cs : List Value} {bt : TypeId} (H : Hd w0 F0 w As Rs) (i : Nat) (hi : As[i]? = some (blk b cs bt)) {j : Nat} (hv : cs[j]? = some v) : w.cell? ⟨b, j, none⟩ = some v := H.cell (List.mem_of_getElem? hi) hv
theorem Hd.cellRI {b : Nat} {cs : List Value} {bt : TypeId} (H : Hd w0 F0 w As Rs) (i : Nat) (hi : Rs[i]? = some (blk b cs bt)) {j : Nat} (hv : cs[j]? = some v) : w.cell? ⟨b, j, none⟩ = some v := H.cellR (List.mem_of_getElem? hi) hv
theorem Hd.cellsI {b : Nat} {cs ds : List Value} {bt : TypeId} (H : Hd w0 F0 w As Rs) (i : Nat) (hi : As[i]? = some (blk b cs bt)) {off : Nat} (hv : (cs.drop off).take ds.length = ds) : ∀ j v, ds[j]? = some v → w.cell? ((⟨b, off, none⟩ : Addr).add j) = some v := by
  intro j v hj
  rw [add_of]
  refine H.cellI i hi ?_
  rw [← hv, List.getElem?_take] at hj
  split at hj
  · rwa [List.getElem?_drop] at hj
  · cases hj
theorem Hd.cellsRI {b : Nat} {cs ds : List Value} {bt : TypeId} (H : Hd w0 F0 w As Rs) (i : Nat) (hi : Rs[i]? = some (blk b cs bt)) {off : Nat} (hv : (cs.drop off).take ds.length = ds) : ∀ j v, ds[j]? = some v → w.cell? ((⟨b, off, none⟩ : Addr).add j) = some v := by
  intro j v hj
  rw [add_of]
  refine H.cellRI i hi ?_
  rw [← hv, List.getElem?_take] at hj
  split at hj
  · rwa [List.getElem?_drop] at hj
  · cases hj

/-- A slice's element: its place, its cells. -/
theorem r_iaE {tt e size bytes : TypeId} {A : Option Addr} {m c : Nat} {k : IntKind} {i : Int} {p : Nat} (ho : o.op = .indexAddr tt x y) (hs : slOf P tt = some (e, size, bytes)) (hx : ev l x = some (.slice A m c)) (hy : ev l y = some (.int k i))
    (h0 : 0 ≤ i) (h1 : i < (m : Int)) (hA : There A) (hp : oOf A + i.toNat * size = p) : Run P n l w o (.pointer (some ⟨bOf A, p, none⟩)) w := by
  exact r_ia (b := bOf A) (off := oOf A) (c := c) ho hs (hx.trans (congrArg (fun q => some (Value.slice q m c)) hA)) hy h0 h1 hp
variable {α : Type} {enc : α → List Value} {sz : Nat} {hp : 0 < sz} {hl : ∀ x, (enc x).length = sz} {h1 : ∀ x, ∀ c ∈ enc x, c.oneCell' = true} {xs : List α} {A : Option Addr} {m c : Nat}
theorem flat_cell {F : Foot} (h : (rsl (flat enc sz hp hl h1) (.slice A m c) xs).P w F) {i : Nat} {x : α} (hx : xs[i]? = some x) {j p : Nat} {u : Value} (hu : (enc x)[j]? = some u) (hpj : oOf A + i * sz + j = p) : w.cell? ⟨bOf A, p, none⟩ = some u := by
  obtain ⟨b, off, e, hc⟩ := rsl_flat h hx
  subst e
  subst hpj
  exact hc j u hu
theorem flat_there {F : Foot} (h : (rsl (flat enc sz hp hl h1) (.slice A m c) xs).P w F) {i : Nat} {x : α} (hx : xs[i]? = some x) : There A := by
  obtain ⟨b, off, e, hc⟩ := rsl_flat h hx
  exact there e
theorem Hd.thR (H : Hd w0 F0 w As Rs) (j : Nat) (hj : Rs[j]? = some (rsl (flat enc sz hp hl h1) (.slice A m c) xs)) {i : Nat} {x : α} (hx : xs[i]? = some x) : There A := H.factR (List.mem_of_getElem? hj) fun _ h => flat_there h hx
theorem Hd.thA (H : Hd w0 F0 w As Rs) (j : Nat) (hj : As[j]? = some (osl (flat enc sz hp hl h1) (.slice A m c) xs)) {i : Nat} {x : α} (hx : xs[i]? = some x) : There A := H.fact (List.mem_of_getElem? hj) fun F h => flat_there (own_rd F h) hx
theorem Hd.elR (H : Hd w0 F0 w As Rs) (j : Nat) (hj : Rs[j]? = some (rsl (flat enc sz hp hl h1) (.slice A m c) xs)) {i : Nat} {x : α} (hx : xs[i]? = some x) {q p : Nat} {u : Value} (hu : (enc x)[q]? = some u) (hpj : oOf A + i * sz + q = p) : w.cell? ⟨bOf A, p, none⟩ = some u :=
  H.factR (List.mem_of_getElem? hj) fun _ h => flat_cell h hx hu hpj
theorem Hd.elA (H : Hd w0 F0 w As Rs) (j : Nat) (hj : As[j]? = some (osl (flat enc sz hp hl h1) (.slice A m c) xs)) {i : Nat} {x : α} (hx : xs[i]? = some x) {q p : Nat} {u : Value} (hu : (enc x)[q]? = some u) (hpj : oOf A + i * sz + q = p) : w.cell? ⟨bOf A, p, none⟩ = some u :=
  H.fact (List.mem_of_getElem? hj) fun F h => flat_cell (own_rd F h) hx hu hpj
theorem Hd.elsR (H : Hd w0 F0 w As Rs) (j : Nat) (hj : Rs[j]? = some (rsl (flat enc sz hp hl h1) (.slice A m c) xs)) {i : Nat} {x : α} (hx : xs[i]? = some x) {p : Nat} (hpj : oOf A + i * sz = p) : ∀ q v, (enc x)[q]? = some v → w.cell? ((⟨bOf A, p, none⟩ : Addr).add q) = some v := by
  intro q v hq
  rw [add_of]
  exact H.elR j hj hx hq (by rw [hpj])
theorem Hd.elsA (H : Hd w0 F0 w As Rs) (j : Nat) (hj : As[j]? = some (osl (flat enc sz hp hl h1) (.slice A m c) xs)) {i : Nat} {x : α} (hx : xs[i]? = some x) {p : Nat} (hpj : oOf A + i * sz = p) : ∀ q v, (enc x)[q]? = some v → w.cell? ((⟨bOf A, p, none⟩ : Addr).add q) = some v := by
  intro q v hq
  rw [add_of]
  exact H.elA j hj hx hq (by rw [hpj])

theorem Hd.keep : ∀ (k : Nat) {As : List SP}, Hd w0 F0 w As Rs → Hd w0 F0 w (As.take k) Rs
  | k, As, h => by
    have : Hd w0 F0 w (As.take k ++ As.drop k) Rs := by rwa [List.take_append_drop]
    obtain ⟨Fc, h1, h2⟩ := this.frame (Ss := Rs) (fun S hS F _ hR => hR S hS)
    have h3 := this
    obtain ⟨F, G, s, r, d, f, g, u⟩ := h3
    obtain ⟨F1, F2, a1, a2, a3, s1, s2⟩ := s.append_out
    exact ⟨F1, G, s1, r, fun k hk => d k (a1 k hk), fun k hk => f k (a1 k hk), g, u⟩
theorem Hd.fR (H : Hd w0 F0 w As Rs) (j : Nat) {d : Kd α} (hj : Rs[j]? = some (rsl d v xs)) : ∃ A c, v = .slice A xs.length c ∧ xs.length ≤ c ∧ c ≤ 9223372036854775807 ∧ Plain A := H.form (List.mem_of_getElem? hj)
theorem Hd.fA (H : Hd w0 F0 w As Rs) (j : Nat) {d : Kd α} (hj : As[j]? = some (osl d v xs)) : ∃ A c, v = .slice A xs.length c ∧ xs.length ≤ c ∧ c ≤ 9223372036854775807 ∧ Plain A := H.formO (List.mem_of_getElem? hj)

/-- An opaque test is parted. -/
theorem s_boo {P : Program} {ops : Array Oper} {Q : Exit → Act → World → Prop} {rest : List Oper} {d : Nat} {b : Bool} (hc : lk l d = some (.bool b)) (ht : b = true → WL P ops Q rest n ((d, .bool true) :: l) w) (hf : b = false → WL P ops Q rest n ((d, .bool false) :: l) w) : WL P ops Q rest n l w := by
  have hc' : lk l d = some (.bool (decide (b = true))) := by cases b <;> exact hc
  exact s_dec hc' ht (fun h => hf (by simpa using h))
theorem u_boo {P : Program} {ops : Array Oper} {C : World → Prop} {K : Act → Prop} {rest : List Oper} {d : Nat} {b : Bool} (hc : lk l d = some (.bool b)) (ht : b = true → WU P ops C K rest n ((d, .bool true) :: l)) (hf : b = false → WU P ops C K rest n ((d, .bool false) :: l)) : WU P ops C K rest n l := by
  have hc' : lk l d = some (.bool (decide (b = true))) := by cases b <;> exact hc
  exact u_dec hc' ht (fun h => hf (by simpa using h))
end

/-- A call of a function with a contract. -/
theorem sc {P : Program} {ops : Array Oper} {Q : Exit → Act → World → Prop} {rest : List Oper} {n : Nat} {l : Env} {w0 w : World} {F0 : Foot} {o : Oper} {As Rs Cs Ss : List SP} {f : FuncId} {args : List Value} {T : Value → List SP → Prop}
    (hc : Cn P f args Cs Ss T) (H : Hd w0 F0 w (Cs ++ As) Rs) (hl : Lends w As Rs Ss) (hg : gd ops l o = some true) (hd : dok n o.dst = true) (hr : Enters P n l w o f args.toArray)
    (h : ∀ v Bs w', T v Bs → Hd w0 F0 w' (Bs ++ As) Rs → WL P ops Q rest n (upO l o.dst v) w') : WL P ops Q (o :: rest) n l w := s_cn hg hd hr hc H hl h
theorem uc {P : Program} {n : Nat} {l : Env} {w0 : World} {F0 : Foot} {As Rs Ss : List SP} {ops : Array Oper} {K : Act → Prop} {rest : List Oper} {o : Oper} {v : Value} {f : FuncId} {args : List Value} {T : Value → List SP → Prop}
    (hc : Cn P f args [] Ss T) (hT : ∀ u Bs, T u Bs → u = v) (hl : ∀ w, Hd w0 F0 w As Rs → Lends w As Rs Ss) (hg : gd ops l o = some true) (hd : dok n o.dst = true) (hr : ∀ w, Hd w0 F0 w As Rs → Enters P n l w o f args.toArray)
    (h : WU P ops (fun w => Hd w0 F0 w As Rs) K rest n (upO l o.dst v)) : WU P ops (fun w => Hd w0 F0 w As Rs) K (o :: rest) n l := u_cn hg hd hr hc hl hT h
/-- A slice type's number alone. -/
theorem slU {P : Program} {t e size bytes : Nat} (h : slOf P t = some (e, size, bytes)) : P.underlying t = some (.slice e) := (slOf_spec h).1
theorem fin {T : Value → List SP → Prop} {w0 w : World} {F0 : Foot} {v : Value} {Bs Rs : List SP} (ht : T v Bs) (H : Hd w0 F0 w Bs Rs) : Ret (fun v w' => ∃ Bs, T v Bs ∧ Hd w0 F0 w' Bs Rs) (.returned v) w := ⟨v, rfl, Bs, ht, H⟩
/-! ### Lists -/
theorem take_more {α : Type} {xs ys : List α} {k : Nat} {x : α} (hx : xs[k]? = some x) (hy : ys[k]? = some x) (h : xs.take k = ys.take k) : xs.take (k + 1) = ys.take (k + 1) := by
  rw [List.take_add_one, List.take_add_one, hx, hy, h]
theorem take_snoc {α : Type} {xs : List α} {k : Nat} {x : α} (hx : xs[k]? = some x) : xs.take (k + 1) = xs.take k ++ [x] := by
  rw [List.take_add_one, hx]; rfl
theorem take_all {α : Type} {xs : List α} {k : Nat} (h : xs.length ≤ k) : xs.take k = xs := List.take_of_length_le h
theorem lt_of_some {α : Type} {xs : List α} {k : Nat} {x : α} (hx : xs[k]? = some x) : k < xs.length := by
  rcases Nat.lt_or_ge k xs.length with h | h
  · exact h
  · simp [List.getElem?_eq_none h] at hx
end Go.Proofs.YtlpgdkbokakniaaGreatDoor.X
