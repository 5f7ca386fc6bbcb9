/- From what the shelf tells of a sort and a compaction to what the walks tell: rows of numbers, of texts. No program in sight. -/
import Derived.Test.YtlpgdkbokakniaaGreatDoorXN
import Derived.Sort.Row
import Derived.Sort.Grow
import Derived.Sort.EncStr
import Derived.Lib.SlicesCompact
set_option linter.unusedVariables false
namespace Go.Proofs.YtlpgdkbokakniaaGreatDoor.X
open Go

section
variable {w w0 : World} {F0 : Foot} {As Rs : List SP} {α : Type} [Inhabited α] {e1 : α → Value}

theorem holds_blk {b t : Nat} {xs : List α} {rest : List Value} (H : Hd w0 F0 w (blk b (xs.map e1 ++ rest) t :: As) Rs) : Sort.Holds e1 w b 0 xs.toArray := by
  intro j hj
  simp only [List.size_toArray] at hj
  rw [Nat.zero_add]
  refine ⟨H.cell (List.mem_cons_self ..) ?_, H.free (List.mem_cons_self ..) j⟩
  rw [List.getElem?_append_left (by simpa using hj), List.getElem?_map, List.getElem?_eq_getElem hj]
  simp [hj]

theorem put_cells {xs ys : List α} {rest : List Value} (hl : ys.length = xs.length) : Sort.putCells e1 0 ys.toArray (xs.map e1 ++ rest).toArray = (ys.map e1 ++ rest).toArray := by
  apply Array.toList_inj.1
  apply List.ext_getElem?
  intro i
  unfold Sort.putCells
  rw [Array.toList_mapIdx, List.getElem?_mapIdx]
  simp only [List.size_toArray, Nat.zero_le, true_and, Nat.zero_add, Nat.sub_zero, List.getElem!_toArray]
  rcases Nat.lt_or_ge i ys.length with h | h
  · rw [List.getElem?_append_left (by simpa using (hl ▸ h)), List.getElem?_append_left (by simpa using h), List.getElem?_map, List.getElem?_map, List.getElem?_eq_getElem h, List.getElem?_eq_getElem (by omega)]
    simp [h]
  · rw [List.getElem?_append_right (by simp; omega), List.getElem?_append_right (by simpa using h)]
    simp only [List.length_map, hl]
    cases rest[i - xs.length]? with
    | none => rfl
    | some v => simp; omega

theorem blk_put {b t n : Nat} {xs ys : List α} {rest : List Value} {os : Array Obj} (H : Hd w0 F0 w (blk b (xs.map e1 ++ rest) t :: As) Rs) (hl : ys.length = xs.length) :
    Hd w0 F0 (Sort.grow (Sort.putRow e1 (Sort.ahead w n) b 0 ys.toArray) os) (blk b (ys.map e1 ++ rest) t :: As) Rs := by
  refine H.write fun F hF => ?_
  have hb : b < w.heap.size := by
    rcases Nat.lt_or_ge b w.heap.size with h | h
    · exact h
    · have := hF.2
      rw [Array.getElem?_eq_none h] at this
      cases this
  have hh : ∀ k, k < w.heap.size → (Sort.grow (Sort.putRow e1 (Sort.ahead w n) b 0 ys.toArray) os).heap[k]? = (w.heap.modify b (Sort.onCells (Sort.putCells e1 0 ys.toArray)))[k]? := by
    intro k hk
    show ((w.heap.modify b (Sort.onCells (Sort.putCells e1 0 ys.toArray))) ++ os)[k]? = _
    rw [Array.getElem?_append_left (by simpa using hk)]
  refine ⟨⟨hF.1, ?_⟩, rfl, rfl, rfl, ?_, fun k hk hn => ?_⟩
  · rw [hh b hb, Array.getElem?_modify, if_pos rfl, hF.2]
    simp only [Option.map_some, Sort.onCells, put_cells hl]
  · show w.heap.size ≤ ((w.heap.modify b (Sort.onCells (Sort.putCells e1 0 ys.toArray))) ++ os).size
    simp
  · rw [hh k hk, Array.getElem?_modify, if_neg (by rintro rfl; exact hn hF.1)]
theorem grow_none (w : World) : Sort.grow w #[] = w := by
  unfold Sort.grow
  simp
end

theorem map_flat {α : Type} {e1 : α → Value} (xs : List α) : xs.flatMap (fun x => [e1 x]) = xs.map e1 := by
  induction xs with
  | nil => rfl
  | cons x xs ih => simp [ih]

section
variable {P : Program} {α : Type} [Inhabited α] {e1 : α → Value} {h1 : ∀ x, ∀ c ∈ [e1 x], c.oneCell' = true} {f : FuncId}
/-- A sort in place, of a kind of one cell. -/
theorem cn_sort {s : List α → List α} (hlen : ∀ xs, (s xs).length = xs.length) (hnil : s [] = [])
    (h0 : ∀ (p : Option Addr) (c : Nat) (w : World), Calls P f #[.slice p 0 c] w fun e w' => e = .returned (.tuple #[]) ∧ w' = w)
    (hc : ∀ (b c : Nat) (xs : List α) (w : World), Sort.Holds e1 w b 0 xs.toArray → b < w.heap.size → xs.length ≤ 1000000 → Calls P f #[.slice (some ⟨b, 0, none⟩) xs.length c] w fun e w' => e = .returned (.tuple #[]) ∧ ∃ n os, w' = Sort.grow (Sort.putRow e1 (Sort.ahead w n) b 0 (s xs).toArray) os)
    (v : Value) (xs : List α) (hb : xs.length ≤ 1000000) : Cn P f [v] [osl (flat (fun x => [e1 x]) 1 (by omega) (fun _ => rfl) h1) v xs] [] (fun _ Bs => Bs = [osl (flat (fun x => [e1 x]) 1 (by omega) (fun _ => rfl) h1) v (s xs)]) := by
  intro w F H
  obtain ⟨A, c, rfl, hle, hmax, hp⟩ := H.fA 0 rfl
  rcases Nat.eq_zero_or_pos xs.length with hx | hx
  · obtain rfl := List.eq_nil_of_length_eq_zero hx
    refine (h0 A c w).mono ?_
    rintro e w' ⟨rfl, rfl⟩
    exact ⟨_, rfl, _, rfl, by rw [hnil]; exact H⟩
  · obtain ⟨b, t, rest, rfl, hm, hle', hmax', hr, H'⟩ := H.toBlk hx
    rw [map_flat] at H'
    have hbl : b < w.heap.size := H'.fact (List.mem_cons_self ..) fun F hF => by
      rcases Nat.lt_or_ge b w.heap.size with h | h
      · exact h
      · have := hF.2
        rw [Array.getElem?_eq_none h] at this
        cases this
    refine (hc b c xs w (holds_blk H') hbl hb).mono ?_
    rintro e w' ⟨rfl, n, os, rfl⟩
    refine ⟨_, rfl, _, rfl, ?_⟩
    have H2 := blk_put (n := n) (os := os) H' (hlen xs)
    rw [← map_flat] at H2
    exact H2.ofBlk (hlen xs) hle' hmax' hr
/-- A compaction in place. -/
theorem cn_compact {s : List α → List α} {z : α} (hlen : ∀ xs, (s xs).length ≤ xs.length) (hnil : s [] = [])
    (h0 : ∀ (p : Option Addr) (c : Nat) (w : World), Calls P f #[.slice p 0 c] w fun e w' => e = .returned (.slice p 0 c) ∧ w' = w)
    (hc : ∀ (b c : Nat) (xs : List α) (w : World), Sort.Holds e1 w b 0 xs.toArray → xs.length ≤ 1000000 → xs.length ≤ c → Calls P f #[.slice (some ⟨b, 0, none⟩) xs.length c] w fun e w' => e = .returned (.slice (some ⟨b, 0, none⟩) (s xs).length c) ∧ ∃ n, w' = Sort.putRow e1 (Sort.ahead w n) b 0 (s xs ++ List.replicate (xs.length - (s xs).length) z).toArray)
    (v : Value) (xs : List α) (hb : xs.length ≤ 1000000) : Cn P f [v] [osl (flat (fun x => [e1 x]) 1 (by omega) (fun _ => rfl) h1) v xs] [] (fun u Bs => Bs = [osl (flat (fun x => [e1 x]) 1 (by omega) (fun _ => rfl) h1) u (s xs)]) := by
  intro w F H
  obtain ⟨A, c, rfl, hle, hmax, hp⟩ := H.fA 0 rfl
  rcases Nat.eq_zero_or_pos xs.length with hx | hx
  · obtain rfl := List.eq_nil_of_length_eq_zero hx
    refine (h0 A c w).mono ?_
    rintro e w' ⟨rfl, rfl⟩
    exact ⟨_, rfl, _, rfl, by rw [hnil]; exact H⟩
  · obtain ⟨b, t, rest, rfl, hm, hle', hmax', hr, H'⟩ := H.toBlk hx
    rw [map_flat] at H'
    refine (hc b c xs w (holds_blk H') hb hle).mono ?_
    rintro e w' ⟨rfl, n, rfl⟩
    refine ⟨_, rfl, _, rfl, ?_⟩
    have hl := hlen xs
    have H2 := blk_put (n := n) (os := #[]) H' (ys := s xs ++ List.replicate (xs.length - (s xs).length) z) (by simp; omega)
    rw [grow_none, List.map_append, List.append_assoc, ← map_flat (s xs)] at H2
    exact H2.ofBlk rfl (by omega) hmax' (by simp; omega)
end

theorem compact_le {α : Type} [Inhabited α] [DecidableEq α] (xs : List α) : (Lib.compact xs).length ≤ xs.length := by
  unfold Lib.compact Lib.compactUpTo
  rw [List.length_map]
  exact Nat.le_trans (List.length_filter_le _ _) (by simp)
/-- Numbers in order; texts in order; neighbours that are the same, once. -/
def sortI (xs : List Int) : List Int := xs.mergeSort fun x y => decide (x ≤ y)
def ofS (x : ByteArray) : List UInt8 := x.data.toList
def toS (x : List UInt8) : ByteArray := ⟨x.toArray⟩
theorem toS_ofS (x : ByteArray) : toS (ofS x) = x := by simp [toS, ofS]
theorem ofS_toS (x : List UInt8) : ofS (toS x) = x := by simp [toS, ofS]
def sortS (xs : List ByteArray) : List ByteArray := ((xs.map ofS).mergeSort fun x y => decide (x ≤ y)).map toS
def compS (xs : List ByteArray) : List ByteArray := (Lib.compact (xs.map ofS)).map toS
theorem holdsS {w : World} {b : Nat} {xs : List ByteArray} (h : Sort.Holds Value.string w b 0 xs.toArray) : Sort.Holds Go.Proofs.encStr w b 0 (xs.map ofS).toArray := by
  intro j hj
  have hj' : j < xs.length := by simpa using hj
  have := h j (by simpa using hj')
  simp only [List.getElem!_toArray] at this ⊢
  rw [getElem!_pos _ j (by simpa using hj')]
  rw [getElem!_pos _ j hj'] at this
  rw [List.getElem_map]
  have e : Go.Proofs.encStr (ofS xs[j]) = Value.string xs[j] := by simp [Go.Proofs.encStr, ofS]
  rw [e]
  exact this
theorem putS {w : World} {b : Nat} {zs : List (List UInt8)} : Sort.putRow Go.Proofs.encStr w b 0 zs.toArray = Sort.putRow Value.string w b 0 (zs.map toS).toArray := by
  unfold Sort.putRow
  congr 1
  funext c
  unfold Sort.putCells
  congr 1
  funext k x
  simp only [List.size_toArray, List.length_map, List.getElem!_toArray]
  split
  · rename_i h
    have h' : k - 0 < zs.length := by omega
    rw [getElem!_pos (zs.map toS) _ (by simpa using h'), getElem!_pos zs _ h', List.getElem_map]
    rfl
  · rfl
end Go.Proofs.YtlpgdkbokakniaaGreatDoor.X
