/- Headers of slices that are shared; parts of pairs. No program in sight. -/
import Derived.Test.YtlpgdkbokakniaaGreatDoorXH
import Derived.Test.YtlpgdkbokakniaaGreatDoorXMer
set_option linter.unusedVariables false
namespace Go.Proofs.YtlpgdkbokakniaaGreatDoor.X
open Go

/-- A slice's header alone. -/
structure Hdr where
  A : Option Addr
  n : Nat
  c : Nat
def encHdr (h : Hdr) : List Value := [.slice h.A h.n h.c]
def kHdr : Kd Hdr := flat encHdr 1 (by omega) (fun _ => rfl) (fun _ c h => by simp [encHdr] at h; subst h; rfl)
def hdrOf : Value → Hdr
  | .slice A n c => ⟨A, n, c⟩
  | _ => ⟨none, 0, 0⟩
def moreH {α : Type} (us : List (Value × List α)) : List Hdr := us.flatMap fun p => [⟨none, 0, 0⟩, hdrOf p.1, ⟨none, 0, 0⟩]
def moreU {α : Type} (us : List (Value × List α)) : List (Value × List α) := us.flatMap fun p => [(.slice none 0 0, []), p, (.slice none 0 0, [])]
theorem moreH_step {α : Type} {us : List (Value × List α)} {i : Nat} {A : Option Addr} {n c : Nat} {x : List α} (h : us[i]? = some (.slice A n c, x)) : moreH (us.take (i + 1)) = moreH (us.take i) ++ [⟨none, 0, 0⟩, ⟨A, n, c⟩, ⟨none, 0, 0⟩] := by
  unfold moreH
  rw [take_snoc h, List.flatMap_append]
  rfl
theorem moreH_len {α : Type} (us : List (Value × List α)) : (moreH us).length = 3 * us.length := by
  unfold moreH
  induction us with
  | nil => rfl
  | cons p us ih =>
    simp only [List.flatMap_cons, List.length_append, ih, List.length_cons, List.length_nil]
    omega
theorem moreU_flat : ∀ us : List (Value × List Pair), flat2 (moreU us) = flat2 us
  | [] => rfl
  | p :: us => by
    have ih := moreU_flat us
    unfold flat2 moreU at *
    rw [List.flatMap_cons, List.flatMap_append, ih, List.flatMap_cons]
    simp
section
variable {w w0 : World} {F F0 : Foot} {As Rs : List SP} {α : Type} {d : Kd α}
theorem hd_all : ∀ {us : List (Value × List α)} {cs : List Value}, RepsR (kHd d) w F us cs → ∀ p ∈ us, (rsl d p.1 p.2).P w F
  | [], _, _, p, hp => by cases hp
  | q :: us, _, ⟨c, cs', e, h1, h2⟩, p, hp => by
    cases hp with
    | head => exact h1.2
    | tail _ hm => exact hd_all h2 p hm
theorem more_cells : ∀ {us : List (Value × List α)}, (∀ p ∈ us, ∃ A n c, p.1 = .slice A n c) → (moreU us).map (·.1) = (moreH us).flatMap encHdr
  | [], _ => rfl
  | p :: us, h => by
    have ih := more_cells (us := us) fun q hq => h q (List.mem_cons_of_mem _ hq)
    obtain ⟨A, n, c, e⟩ := h p (List.mem_cons_self ..)
    unfold moreU moreH at *
    rw [List.flatMap_cons, List.map_append, ih, List.flatMap_cons, List.flatMap_append]
    simp [encHdr, hdrOf, e]
theorem more_rsl {v u : Value} {us : List (Value × List α)} (h : (rsl kHdr v (moreH us)).P w F) (hu : (rsl (kHd d) u us).P w F) : (rsl (kHd d) v (moreU us)).P w F := by
  obtain ⟨A, m, c, e, h1, h2, h3, cs, h4, h5⟩ := h
  obtain ⟨A', m', c', e', g1, g2, g3, ds, g4, g5⟩ := hu
  have hall := hd_all g5
  have hcs : cs = (moreH us).flatMap encHdr := RepsR.flat_eq.1 h5
  have hml : (moreU us).length = (moreH us).length := by
    have := congrArg List.length (more_cells (us := us) fun p hp => by
      obtain ⟨A, c, e, _⟩ := rsl_form (hall p hp)
      exact ⟨A, _, c, e⟩)
    rw [List.length_map] at this
    rw [this, flat_len (enc := encHdr) (sz := 1) (fun _ => rfl) (moreH us)]
    omega
  refine ⟨A, m, c, e, by rw [hml, h1], h2, h3, cs, h4, ?_⟩
  rw [hcs, ← more_cells fun p hp => by
    obtain ⟨A, c, e, _⟩ := rsl_form (hall p hp)
    exact ⟨A, _, c, e⟩]
  refine reps_hd fun p hp => ?_
  obtain ⟨q, hq, hp'⟩ := List.mem_flatMap.1 hp
  rcases List.mem_cons.1 hp' with rfl | hp2
  · exact rsl_nil _ _ _ trivial (by decide)
  · rcases List.mem_cons.1 hp2 with rfl | hp3
    · exact hall _ hq
    · rw [List.mem_singleton.1 hp3]
      exact rsl_nil _ _ _ trivial (by decide)
end
theorem srt_flat_one (u : Value) (x : List Pair) : srt (flat2 [(u, srt x)]) = srt x := by
  simp [flat2, srt_srt]

/-! ### Parts -/
def numK (key : ByteArray) : Nat → Int
  | 0 => 7
  | k + 1 => IntKind.u32.wrap (IntKind.u32.wrap (31 * numK key k) + ((key[k]?.getD 0).toNat : Int))
theorem wrap32 (x : Int) : 0 ≤ IntKind.u32.wrap x ∧ IntKind.u32.wrap x < 4294967296 := by
  simp only [IntKind.wrap, IntKind.bits, IntKind.signed]
  simp
  omega
theorem numK_range (key : ByteArray) (k : Nat) : 0 ≤ numK key k ∧ numK key k < 4294967296 := by
  cases k with
  | zero => exact ⟨by simp [numK], by simp [numK]⟩
  | succ k => exact wrap32 _
def partO (key : ByteArray) (n : Int) : Int := if n < 1 then -1 else numK key key.size % n
def onlyP (xs : List Pair) (n p : Int) : List Pair := xs.filter fun x => decide (partO x.key n = p)
theorem only_yes {xs : List Pair} {n p : Int} {k : Nat} {x : Pair} (hx : xs[k]? = some x) (h : partO x.key n = p) : onlyP (xs.take (k + 1)) n p = onlyP (xs.take k) n p ++ [x] := by
  unfold onlyP
  rw [take_snoc hx, List.filter_append]
  simp [h]
theorem only_no {xs : List Pair} {n p : Int} {k : Nat} {x : Pair} (hx : xs[k]? = some x) (h : ¬ partO x.key n = p) : onlyP (xs.take (k + 1)) n p = onlyP (xs.take k) n p := by
  unfold onlyP
  rw [take_snoc hx, List.filter_append]
  simp [h]
theorem only_len (xs : List Pair) (n p : Int) : (onlyP xs n p).length ≤ xs.length := List.length_filter_le ..
theorem only_app (xs ys : List Pair) (n p : Int) : onlyP (xs ++ ys) n p = onlyP xs n p ++ onlyP ys n p := List.filter_append ..
theorem only_stab {xs ys : List Pair} (h : Stab xs ys) (n p : Int) : Stab (onlyP xs n p) (onlyP ys n p) := by
  refine stab_of fun k => ?_
  have key : ∀ zs : List Pair, (onlyP zs n p).filter (fun q => decide (q.key = k)) = if partO k n = p then zs.filter (fun q => decide (q.key = k)) else [] := by
    intro zs
    unfold onlyP
    rw [List.filter_filter]
    split
    · rename_i e
      refine List.filter_congr fun q _ => ?_
      by_cases hk : q.key = k
      · simp [hk, e]
      · simp [hk]
    · rename_i e
      refine List.filter_eq_nil_iff.2 fun q _ => ?_
      by_cases hk : q.key = k
      · simp [hk, e]
      · simp [hk]
  rw [key, key, h.2 k]
theorem only_srt (xs : List Pair) (n p : Int) : onlyP (srt xs) n p = srt (onlyP xs n p) := srt_of (only_stab (srt_stab xs) n p) (List.Pairwise.sublist List.filter_sublist (srt_ord xs))
theorem numK_step {key : ByteArray} {k : Nat} {b : UInt8} (hb : key[k]? = some b) : numK key (k + 1) = IntKind.u32.wrap (IntKind.u32.wrap (31 * numK key k) + (b.toNat : Int)) := by
  rw [numK, hb]
  rfl
theorem wu32b (b : UInt8) : IntKind.u32.wrap (b.toNat : Int) = (b.toNat : Int) := by
  have := UInt8.toNat_lt b
  simp only [IntKind.wrap, IntKind.bits, IntKind.signed]
  simp
  omega
theorem mem_flat2 {us : List (Value × List Pair)} {i : Nat} {u : Value} {x : List Pair} (h : us[i]? = some (u, x)) {p : Pair} (hp : p ∈ x) : p ∈ flat2 us := List.mem_flatMap.2 ⟨_, at_mem h, hp⟩
theorem of_flat_snoc (zs : List (Value × List Pair)) (u : Value) (x : List Pair) (key : ByteArray) : ofL (flat2 (zs ++ [(u, srt x)])) key = ofL (flat2 zs) key ++ ofL x key := by
  rw [flat2_app, of_append]
  have : ofL (flat2 [(u, srt x)]) key = ofL x key := by
    rw [show flat2 [(u, srt x)] = srt x by simp [flat2]]
    exact (of_stab (srt_stab x) key).symm
  rw [this]
theorem flat_keys {zs : List (Value × List Pair)} {u : Value} {x : List Pair} {n : Nat} (h : ∀ p ∈ flat2 zs, p.key.size ≤ n) (hx : ∀ p ∈ x, p.key.size ≤ n) : ∀ p ∈ flat2 (zs ++ [(u, srt x)]), p.key.size ≤ n := by
  intro p hp
  rw [flat2_app] at hp
  rcases List.mem_append.1 hp with h1 | h1
  · exact h p h1
  · rw [show flat2 [(u, srt x)] = srt x by simp [flat2]] at h1
    exact hx p ((srt_stab x).symm.mem h1)
theorem only_flat_snoc {zs ws : List (Value × List Pair)} {j : Nat} {u v : Value} {x : List Pair} {n p : Int} (hx : zs[j]? = some (u, x)) (h : flat2 ws = onlyP (flat2 (zs.take j)) n p) : flat2 (ws ++ [(v, onlyP x n p)]) = onlyP (flat2 (zs.take (j + 1))) n p := by
  rw [flat2_app, h, flat2_step hx, only_app]
  simp [flat2]
end Go.Proofs.YtlpgdkbokakniaaGreatDoor.X
