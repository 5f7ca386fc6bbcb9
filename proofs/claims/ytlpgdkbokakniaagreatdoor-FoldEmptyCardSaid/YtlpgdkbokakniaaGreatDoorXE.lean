/- What a program tells of each key's values, in plain lists. No program in sight. -/
import Derived.Test.YtlpgdkbokakniaaGreatDoorXG
import Derived.Test.YtlpgdkbokakniaaGreatDoorXPair
import Derived.KernelRfl
set_option linter.unusedVariables false
namespace Go.Proofs.YtlpgdkbokakniaaGreatDoor.X
open Go
theorem emit_len {told : List Pair} {k v : ByteArray} (h : told.length ≤ 40) : (emitM told k v).2.length ≤ 40 := by
  unfold emitM
  split
  · exact h
  · split
    · exact h
    · simp only [List.length_append, List.length_cons, List.length_nil]; omega
theorem pushV_told (m : VM) (vs : List Val) : (pushV m vs).1.told = m.told := rfl
theorem nextM_told (m : VM) : (nextM m).1.told = m.told := by
  rw [next_S]
def TL (r : VM × Int) : Prop := r.1.told.length ≤ 40
theorem ite_p {c : Prop} [Decidable c] {x y : VM × Int} (hx : TL x) (hy : TL y) : TL (if c then x else y) := by
  split
  · exact hx
  · exact hy
theorem act_told {D : Dig} {key : ByteArray} {m : VM} {i : Ins} {v : List Val} (h : m.told.length ≤ 40) : (actM D key m i v).1.told.length ≤ 40 := by
  have hn : TL (nextM m) := by unfold TL; rw [nextM_told]; exact h
  have h20 : TL (if (v.getD 0 val0).n ≠ 0 then {m with pos := i.a} else m, 0) := by
    unfold TL
    dsimp only
    split <;> exact h
  exact ite_p h (ite_p h (ite_p h (ite_p h (ite_p h (ite_p h (ite_p hn (ite_p h (ite_p h (ite_p h (ite_p h (ite_p h (ite_p h (ite_p h (ite_p h (ite_p h (ite_p h20 (ite_p h (ite_p h (ite_p (emit_len h) h)))))))))))))))))))
theorem does_told {D : Dig} {key : ByteArray} {m : VM} {i : Ins} (h : m.told.length ≤ 40) : (doesM D key m i).1.told.length ≤ 40 := by
  unfold doesM
  split
  · exact h
  · exact act_told h
theorem play_told {D : Dig} {p : List Ins} {key : ByteArray} : ∀ (k : Nat) {m : VM}, m.told.length ≤ 40 → (playM D p key k m).1.told.length ≤ 40
  | 0, m, h => by
    unfold playM
    split <;> exact h
  | k + 1, m, h => by
    unfold playM
    split
    · split
      · split
        · exact does_told h
        · exact play_told k (does_told h)
      · exact h
    · exact h
theorem run_told (D : Dig) (p : List Ins) (key : ByteArray) (vals : List ByteArray) (fuel : Int) : (runM D p key vals fuel).1.length ≤ 40 := by
  unfold runM
  split
  · exact Nat.zero_le _
  · split
    · exact Nat.zero_le _
    · exact play_told _ (Nat.zero_le _)

def otherKey (k : ByteArray) (l : List Pair) : Bool := l.any fun x => decide (x.key ≠ k)
/-- Key by key. -/
def eachGo (D : Dig) (p : List Ins) (ps : List Pair) (fuel : Int) (own : Bool) : List ByteArray → List Pair → List Pair × Int
  | [], out => (out, 0)
  | k :: ks, out =>
    if (runM D p k (ofL ps k) fuel).2 ≠ 0 then ([], (runM D p k (ofL ps k) fuel).2)
    else if own = true ∧ otherKey k (runM D p k (ofL ps k) fuel).1 = true then ([], 6)
    else if 40 < out.length + (runM D p k (ofL ps k) fuel).1.length then ([], 5)
    else eachGo D p ps fuel own ks (out ++ (runM D p k (ofL ps k) fuel).1)
def eachM (D : Dig) (p : List Ins) (ps : List Pair) (fuel : Int) (own : Bool) : List Pair × Int := eachGo D p ps fuel own (keysL ps) []
def combM (D : Dig) (p : List Ins) (ps : List Pair) (fuel : Int) : List Pair × Int := if p.length = 0 then (srt ps, 0) else eachM D p ps fuel true
section
variable {D : Dig} {p : List Ins} {ps : List Pair} {fuel : Int} {own : Bool} {ks : List ByteArray} {k : ByteArray} {out : List Pair} {i : Nat}
theorem go_end (h : ks.length ≤ i) : eachGo D p ps fuel own (ks.drop i) out = (out, 0) := by
  rw [List.drop_eq_nil_of_le h]; rfl
theorem go_why (hk : ks[i]? = some k) (h : (runM D p k (ofL ps k) fuel).2 ≠ 0) : eachGo D p ps fuel own (ks.drop i) out = ([], (runM D p k (ofL ps k) fuel).2) := by
  rw [drop_at hk]; exact if_pos h
theorem go_key (hk : ks[i]? = some k) (h : ¬ (runM D p k (ofL ps k) fuel).2 ≠ 0) (h2 : own = true) (h3 : otherKey k (runM D p k (ofL ps k) fuel).1 = true) : eachGo D p ps fuel own (ks.drop i) out = ([], 6) := by
  rw [drop_at hk]; unfold eachGo; rw [if_neg h, if_pos ⟨h2, h3⟩]
theorem go_many (hk : ks[i]? = some k) (h : ¬ (runM D p k (ofL ps k) fuel).2 ≠ 0) (h2 : ¬ (own = true ∧ otherKey k (runM D p k (ofL ps k) fuel).1 = true)) (h3 : 40 < out.length + (runM D p k (ofL ps k) fuel).1.length) : eachGo D p ps fuel own (ks.drop i) out = ([], 5) := by
  rw [drop_at hk]; unfold eachGo; rw [if_neg h, if_neg h2, if_pos h3]
theorem go_on (hk : ks[i]? = some k) (h : ¬ (runM D p k (ofL ps k) fuel).2 ≠ 0) (h2 : ¬ (own = true ∧ otherKey k (runM D p k (ofL ps k) fuel).1 = true)) (h3 : ¬ 40 < out.length + (runM D p k (ofL ps k) fuel).1.length) :
    eachGo D p ps fuel own (ks.drop (i + 1)) (out ++ (runM D p k (ofL ps k) fuel).1) = eachGo D p ps fuel own (ks.drop i) out := by
  rw [drop_at hk]; conv => rhs; unfold eachGo
  rw [if_neg h, if_neg h2, if_neg h3]
end
theorem keysL_nil : keysL [] = [] := by rw [keys_ref]; rfl
theorem each_nil (D : Dig) (p : List Ins) (fuel : Int) (own : Bool) : eachM D p [] fuel own = ([], 0) := by
  unfold eachM; rw [keysL_nil]; rfl
theorem comb_nil (D : Dig) (p : List Ins) (fuel : Int) : combM D p [] fuel = ([], 0) := by
  unfold combM
  split
  · rfl
  · exact each_nil _ _ _ _
theorem run_halt (D : Dig) (key : ByteArray) (vals : List ByteArray) : runM D [⟨0, 0, ⟨#[]⟩⟩] key vals 1 = ([], 0) := by
  unfold runM
  rw [if_neg (by decide)]
  rfl
theorem go_halt (D : Dig) (ps : List Pair) (own : Bool) : ∀ ks : List ByteArray, eachGo D [⟨0, 0, ⟨#[]⟩⟩] ps 1 own ks [] = ([], 0)
  | [] => rfl
  | k :: ks => by
    unfold eachGo
    rw [run_halt, if_neg (by simp), if_neg (by simp [otherKey]), if_neg (by simp)]
    exact go_halt D ps own ks
theorem each_halt (D : Dig) (ps : List Pair) (own : Bool) : eachM D [⟨0, 0, ⟨#[]⟩⟩] ps 1 own = ([], 0) := go_halt D ps own _
theorem comb_halt (D : Dig) (ps : List Pair) : combM D [⟨0, 0, ⟨#[]⟩⟩] ps 1 = ([], 0) := (if_neg (by decide)).trans (each_halt D ps true)
theorem each_len (D : Dig) (p : List Ins) (ps : List Pair) (fuel : Int) (own : Bool) : ∀ (ks : List ByteArray) (out : List Pair), out.length ≤ 40 → (eachGo D p ps fuel own ks out).1.length ≤ 40
  | [], out, h => h
  | k :: ks, out, h => by
    unfold eachGo
    split
    · exact Nat.zero_le _
    · split
      · exact Nat.zero_le _
      · split
        · exact Nat.zero_le _
        · exact each_len D p ps fuel own ks _ (by simp only [List.length_append]; omega)
def firstP : List Ins := [⟨6, 0, ⟨#[]⟩⟩, ⟨7, 0, ⟨#[]⟩⟩, ⟨4, 0, ⟨#[]⟩⟩, ⟨23, 0, ⟨#[]⟩⟩]
theorem in64_first : ∀ i ∈ firstP, In64 i.a := by
  intro i hi
  simp only [firstP, List.mem_cons, List.not_mem_nil, or_false] at hi
  rcases hi with rfl | rfl | rfl | rfl <;> exact in0
theorem in64_halt : ∀ i ∈ [(⟨0, 0, ⟨#[]⟩⟩ : Ins)], In64 i.a := by
  intro i hi
  rw [List.mem_singleton.1 hi]
  exact in0
theorem first_each {D : Dig} : eachM D firstP [⟨⟨#[98]⟩, ⟨#[49]⟩⟩, ⟨⟨#[97]⟩, ⟨#[50]⟩⟩, ⟨⟨#[98]⟩, ⟨#[48]⟩⟩] 9 false = ([⟨⟨#[97]⟩, ⟨#[50]⟩⟩, ⟨⟨#[98]⟩, ⟨#[49]⟩⟩], 0) := by
  unfold eachM
  rw [show keysL [⟨⟨#[98]⟩, ⟨#[49]⟩⟩, ⟨⟨#[97]⟩, ⟨#[50]⟩⟩, ⟨⟨#[98]⟩, ⟨#[48]⟩⟩] = [⟨#[97]⟩, ⟨#[98]⟩] from (keys_ref _).trans (by decide)]
  kernel_rfl
theorem comb_first {D : Dig} : combM D [] [⟨⟨#[98]⟩, ⟨#[49]⟩⟩, ⟨⟨#[97]⟩, ⟨#[50]⟩⟩, ⟨⟨#[98]⟩, ⟨#[48]⟩⟩] 9 = ([⟨⟨#[97]⟩, ⟨#[50]⟩⟩, ⟨⟨#[98]⟩, ⟨#[49]⟩⟩, ⟨⟨#[98]⟩, ⟨#[48]⟩⟩], 0) := by
  have h : srt [⟨⟨#[98]⟩, ⟨#[49]⟩⟩, ⟨⟨#[97]⟩, ⟨#[50]⟩⟩, ⟨⟨#[98]⟩, ⟨#[48]⟩⟩] = [⟨⟨#[97]⟩, ⟨#[50]⟩⟩, ⟨⟨#[98]⟩, ⟨#[49]⟩⟩, ⟨⟨#[98]⟩, ⟨#[48]⟩⟩] := by decide
  unfold combM
  rw [h]
  rfl
end Go.Proofs.YtlpgdkbokakniaaGreatDoor.X
