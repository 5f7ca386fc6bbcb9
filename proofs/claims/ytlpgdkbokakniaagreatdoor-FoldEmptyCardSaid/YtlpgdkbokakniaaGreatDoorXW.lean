/- Steps: the walk through a function's code with what its slots hold kept as a short list. No program in sight. -/
import Derived.WalkKit
import Derived.Test.YtlpgdkbokakniaaGreatDoorXA
set_option linter.unusedVariables false
namespace Go.Proofs.YtlpgdkbokakniaaGreatDoor.X
open Go

abbrev Env := List (Nat × Value)
def lk : Env → Nat → Option Value
  | [], _ => none
  | (k, v) :: l, s => match Nat.decEq k s with | .isTrue _ => some v | .isFalse _ => lk l s
def ev (l : Env) : Operand → Option Value
  | .tmp t => lk l t
  | .const v => some v
  | .global g => some (.pointer (some ⟨g, 0, none⟩))
  | .func f => some (.func (.func f) #[] #[])
def upO (l : Env) : Option Tmp → Value → Env
  | some d, v => (d, v) :: l
  | none, _ => l
def dok (n : Nat) : Option Tmp → Bool
  | some d => Nat.ble (d + 1) n
  | none => true

structure Fits (n : Nat) (l : Env) (a : Act) : Prop where
  defers : a.defers = []
  size : a.tmps.size = n
  get : ∀ s v, lk l s = some v → a.tmps.getD s undef = v ∧ s < n

theorem Fits.eval {n : Nat} {l : Env} {a : Act} (h : Fits n l a) {x : Operand} {v : Value} (hx : ev l x = some v) : a.eval x = v := by
  cases x with
  | tmp t => exact (h.get t v hx).1
  | const c => exact Option.some.inj hx
  | global g => exact Option.some.inj hx
  | func f => exact Option.some.inj hx

theorem Fits.put {n : Nat} {l : Env} {a : Act} (h : Fits n l a) (d : Option Tmp) (v : Value) (hd : dok n d = true) : Fits n (upO l d v) (a.put d v) := by
  cases d with
  | none => exact h
  | some d =>
    have hd' : d < n := by simp only [dok] at hd; exact Nat.le_of_ble_eq_true hd
    refine ⟨h.defers, by simp [Act.put, h.size], fun s u hs => ?_⟩
    simp only [upO, lk] at hs
    split at hs
    · rename_i e _
      obtain rfl : v = u := by simpa using hs
      subst e
      exact ⟨by simp [Act.put, h.size, hd'], hd'⟩
    · rename_i e _
      obtain ⟨g, hn⟩ := h.get s u hs
      refine ⟨?_, hn⟩
      simp only [Act.put, Array.getD_eq_getD_getElem?] at *
      rw [Array.getElem?_setIfInBounds_ne (by omega)]
      exact g

theorem Fits.sub {n : Nat} {l l' : Env} {a : Act} (h : Fits n l a) (hs : ∀ s v, lk l' s = some v → lk l s = some v) : Fits n l' a :=
  ⟨h.defers, h.size, fun s v x => h.get s v (hs s v x)⟩

/-- Each row of the short list stands in the long one. -/
def Keeps (l : Env) : Env → Prop
  | [] => True
  | (s, v) :: l' => lk l s = some v ∧ Keeps l l'
theorem Keeps.out {l : Env} : ∀ {l' : Env}, Keeps l l' → ∀ s v, lk l' s = some v → lk l s = some v
  | [], _, s, v, h => by simp [lk] at h
  | (k, u) :: l', ⟨h1, h2⟩, s, v, h => by
    simp only [lk] at h
    split at h
    · rename_i e _
      obtain rfl : u = v := by simpa using h
      exact e ▸ h1
    · exact h2.out s v h

/-! ### A list of operations -/
def WL (P : Program) (ops : Array Oper) (Q : Exit → Act → World → Prop) (rest : List Oper) (n : Nat) (l : Env) (w : World) : Prop := ∀ a, Fits n l a → wpList P ops Q rest a w
def WC (P : Program) (c : Code) (Q : Exit → Act → World → Prop) (n : Nat) (l : Env) (w : World) : Prop := ∀ a, Fits n l a → c.wp P Q a w
def WQ (Q : Exit → Act → World → Prop) (e : Exit) (n : Nat) (l : Env) (w : World) : Prop := ∀ a, Fits n l a → Q e a w

/-- The guard's word, as the list has it. -/
def gd (ops : Array Oper) (l : Env) (o : Oper) : Option Bool :=
  match o.guard with
  | none => some true
  | some (j, want) =>
    match (ops[j]?).bind (·.dst) with
    | none => some false
    | some d =>
      match lk l d with
      | some (.bool b) => some (b == want)
      | some _ => some false
      | none => none

theorem gd_wanted {n : Nat} {ops : Array Oper} {l : Env} {o : Oper} {a : Act} {b : Bool} (h : Fits n l a) (hg : gd ops l o = some b) : Region.wanted o (yielded ops a.tmps) = b := by
  unfold gd at hg
  unfold Region.wanted
  split at hg
  · rename_i e
    simp only [e]
    simpa using hg
  · rename_i j want e
    simp only [e]
    unfold yielded
    split at hg
    · rename_i e1
      simp only [e1, Option.bind_none]
      cases b <;> cases want <;> simp_all
    · rename_i d e1
      have key : ∀ v, lk l d = some v → a.tmps[d]? = some v := by
        intro v hv
        obtain ⟨g, hn⟩ := h.get d v hv
        have hlt : d < a.tmps.size := by rw [h.size]; exact hn
        rw [Array.getElem?_eq_getElem hlt]
        simp [Array.getD, hlt] at g
        rw [g]
      simp only [e1, Option.bind_some]
      split at hg
      · rename_i b' e2
        simp only [key _ e2]
        have hg' : (b' == want) = b := by simpa using hg
        subst hg'
        cases b' <;> cases want <;> rfl
      · rename_i v hv e2
        simp only [key _ e2]
        have hg' : false = b := by simpa using hg
        subst hg'
        cases v <;> simp_all
      · simp at hg

section
variable {P : Program} {ops : Array Oper} {Q : Exit → Act → World → Prop} {rest : List Oper} {n : Nat} {l : Env} {w w' : World} {o : Oper} {v : Value}

def Run (P : Program) (n : Nat) (l : Env) (w : World) (o : Oper) (v : Value) (w' : World) : Prop := ∀ a, Fits n l a → (execOp a.eval o).run P w = .ok (.value v) w'

theorem s_val (hg : gd ops l o = some true) (hd : dok n o.dst = true) (hr : Run P n l w o v w') (h : WL P ops Q rest n (upO l o.dst v) w') : WL P ops Q (o :: rest) n l w := by
  intro a ha
  refine wpList_step fun K hK => ?_
  rw [if_pos (gd_wanted ha hg)]
  unfold Oper.wp
  rw [hr a ha]
  exact hK _ _ (h _ (ha.put _ _ hd))

/-- An operation that hands back nothing (a store). -/
theorem s_skip (hg : gd ops l o = some true) (hd : o.dst = none) (hr : ∀ a, Fits n l a → (execOp a.eval o).run P w = .ok .skip w') (h : WL P ops Q rest n l w') : WL P ops Q (o :: rest) n l w := by
  intro a ha
  refine wpList_step fun K hK => ?_
  rw [if_pos (gd_wanted ha hg)]
  unfold Oper.wp
  rw [hr a ha]
  refine hK _ _ ?_
  rw [hd]
  exact h _ ha

theorem s_no (hg : gd ops l o = some false) (hd : dok n o.dst = true) (h : WL P ops Q rest n (upO l o.dst undef) w) : WL P ops Q (o :: rest) n l w := by
  intro a ha
  refine wpList_step fun K hK => ?_
  rw [if_neg (by rw [gd_wanted ha hg]; simp)]
  exact hK _ _ (h _ (ha.put _ _ hd))

theorem s_nil (h : WQ Q .normal n l w) : WL P ops Q [] n l w := h

/-- The list told anew, shorter. -/
theorem s_env (l' : Env) (hk : Keeps l l') (h : WL P ops Q rest n l' w) : WL P ops Q rest n l w := fun a ha => h a (ha.sub hk.out)
theorem c_env {c : Code} (l' : Env) (hk : Keeps l l') (h : WC P c Q n l' w) : WC P c Q n l w := fun a ha => h a (ha.sub hk.out)
theorem q_env {e : Exit} (l' : Env) (hk : Keeps l l') (h : WQ Q e n l' w) : WQ Q e n l w := fun a ha => h a (ha.sub hk.out)

/-- A contract's ending. -/
def Ret (T : Value → World → Prop) : Ending → World → Prop := fun e w' => ∃ v, e = .returned v ∧ T v w'

def Enters (P : Program) (n : Nat) (l : Env) (w : World) (o : Oper) (f : FuncId) (args : Array Value) : Prop := ∀ a, Fits n l a → (execOp a.eval o).run P w = .ok (.enter f args) w

theorem s_call {f : FuncId} {args : Array Value} {T : Value → World → Prop} (hg : gd ops l o = some true) (hd : dok n o.dst = true) (hr : Enters P n l w o f args)
    (hc : Calls P f args w (Ret T)) (h : ∀ v w', T v w' → WL P ops Q rest n (upO l o.dst v) w') : WL P ops Q (o :: rest) n l w := by
  intro a ha
  refine wpList_step fun K hK => ?_
  rw [if_pos (gd_wanted ha hg)]
  unfold Oper.wp
  rw [hr a ha]
  refine hc.mono ?_
  rintro e w' ⟨v, rfl, hT⟩
  exact hK _ _ (h v w' hT _ (ha.put _ _ hd))

/-! ### Code -/
theorem c_seq {x y : Code} (h : WC P x (Exit.then (y.wp P Q) Q) n l w) : WC P (.seq x y) Q n l w := fun a ha => wp_seq (h a ha)
theorem c_reg {id : Nat} {os : List Oper} (h : WL P os.toArray Q os n l w) : WC P (.region id os.toArray false) Q n l w := fun a ha => wp_region_lit (h a ha)
theorem c_skip (h : WQ Q .normal n l w) : WC P .skip Q n l w := fun a ha => wp_skip (h a ha)
theorem c_exit {id : Nat} (h : WQ Q (.exit id) n l w) : WC P (.exit id) Q n l w := fun a ha => wp_exit (h a ha)
theorem c_ret (h : WQ Q .ret n l w) : WC P .ret Q n l w := fun a ha => wp_ret (h a ha)
theorem c_block {id : Nat} {c : Code} (h : WC P c (Exit.inBlock id Q) n l w) : WC P (.block id c) Q n l w := fun a ha => wp_block (h a ha)
theorem c_cond {c : Operand} {x y : Code} {b : Bool} (hc : ev l c = some (.bool b)) (ht : b = true → WC P x Q n l w) (hf : b = false → WC P y Q n l w) : WC P (.cond c x y) Q n l w :=
  fun a ha => wp_cond_split (ha.eval hc) (fun e => ht e a ha) (fun e => hf e a ha)
theorem c_dec {c : Operand} {x y : Code} {p : Prop} {_ : Decidable p} (hc : ev l c = some (.bool (decide p))) (ht : p → WC P x Q n l w) (hf : ¬ p → WC P y Q n l w) : WC P (.cond c x y) Q n l w :=
  c_cond hc (fun e => ht (of_decide_eq_true e)) (fun e => hf (of_decide_eq_false e))
theorem c_yes {c : Operand} {x y : Code} (hc : ev l c = some (.bool true)) (h : WC P x Q n l w) : WC P (.cond c x y) Q n l w := fun a ha => wp_cond_true (ha.eval hc) (h a ha)
theorem c_no {c : Operand} {x y : Code} (hc : ev l c = some (.bool false)) (h : WC P y Q n l w) : WC P (.cond c x y) Q n l w := fun a ha => wp_cond_false (ha.eval hc) (h a ha)

/-- A value that is a test: known from here on. -/
theorem s_dec {d : Nat} {p : Prop} {_ : Decidable p} (hc : lk l d = some (.bool (decide p))) (ht : p → WL P ops Q rest n ((d, .bool true) :: l) w) (hf : ¬ p → WL P ops Q rest n ((d, .bool false) :: l) w) : WL P ops Q rest n l w := by
  intro a ha
  by_cases hp : p
  · refine ht hp a ⟨ha.defers, ha.size, fun s v hs => ?_⟩
    simp only [lk] at hs
    split at hs
    · rename_i e _
      obtain rfl : Value.bool true = v := by simpa using hs
      subst e
      have := ha.get _ _ hc
      simpa [hp] using this
    · exact ha.get _ _ hs
  · refine hf hp a ⟨ha.defers, ha.size, fun s v hs => ?_⟩
    simp only [lk] at hs
    split at hs
    · rename_i e _
      obtain rfl : Value.bool false = v := by simpa using hs
      subst e
      have := ha.get _ _ hc
      simpa [hp] using this
    · exact ha.get _ _ hs

theorem q_then {y : Code} (h : WC P y Q n l w) : WQ (Exit.then (y.wp P Q) Q) .normal n l w := h
theorem q_thenN {K : Act → World → Prop} (h : ∀ a, Fits n l a → K a w) : WQ (Exit.then K Q) .normal n l w := h
theorem q_thenR {K : Act → World → Prop} (h : WQ Q .ret n l w) : WQ (Exit.then K Q) .ret n l w := h
theorem q_thenE {K : Act → World → Prop} {id : Nat} (h : WQ Q (.exit id) n l w) : WQ (Exit.then K Q) (.exit id) n l w := h
theorem q_blockN {id : Nat} (h : WQ Q .normal n l w) : WQ (Exit.inBlock id Q) .normal n l w := h
theorem q_blockR {id : Nat} (h : WQ Q .ret n l w) : WQ (Exit.inBlock id Q) .ret n l w := h
theorem q_blockE {id : Nat} (h : WQ Q .normal n l w) : WQ (Exit.inBlock id Q) (.exit id) n l w := fun a ha => by simp only [Exit.inBlock, if_true]; exact h a ha
theorem q_blockE' {id id' : Nat} (hne : id' ≠ id) (h : WQ Q (.exit id') n l w) : WQ (Exit.inBlock id Q) (.exit id') n l w := fun a ha => by simp only [Exit.inBlock, if_neg hne]; exact h a ha

/-- A loop: σ tells where it stands: the slots, what is known, and what is left. -/
theorem c_loop {σ : Type} {c : Code} (L : σ → Env) (I : σ → World → Prop) (μ : σ → Nat) (s0 : σ) (h0 : Keeps l (L s0)) (hI : I s0 w)
    (round : ∀ s w, I s w → WC P c (Exit.then (fun a' w' => ∃ s', Fits n (L s') a' ∧ I s' w' ∧ μ s' < μ s) Q) n (L s) w) : WC P (.loop c) Q n l w := by
  intro a ha
  refine wp_loop (fun a w => ∃ s, Fits n (L s) a ∧ I s w) (fun a w => ?_) ?_ ?_ (c := c)
  · exact Classical.epsilon fun m => ∃ s, Fits n (L s) a ∧ I s w ∧ μ s = m ∧ ∀ s', Fits n (L s') a → I s' w → m ≤ μ s'
  · exact ⟨s0, ha.sub h0.out, hI⟩
  · have key : ∀ a w, (∃ s, Fits n (L s) a ∧ I s w) → ∃ m, ∃ s, Fits n (L s) a ∧ I s w ∧ μ s = m ∧ ∀ s', Fits n (L s') a → I s' w → m ≤ μ s' := by
      intro a w ⟨s, hf, hi⟩
      have : ∀ k, ∀ s, Fits n (L s) a → I s w → μ s = k → ∃ m, ∃ s, Fits n (L s) a ∧ I s w ∧ μ s = m ∧ ∀ s', Fits n (L s') a → I s' w → m ≤ μ s' := by
        intro k
        induction k using Nat.strongRecOn with
        | _ k ih =>
          intro s hf hi hk
          by_cases hall : ∀ s', Fits n (L s') a → I s' w → μ s ≤ μ s'
          · exact ⟨_, s, hf, hi, rfl, hall⟩
          · have ⟨s', h'⟩ := Classical.not_forall.1 hall
            have ⟨hf', h''⟩ := Classical.not_imp.1 h'
            have ⟨hi', hlt⟩ := Classical.not_imp.1 h''
            exact ih (μ s') (by omega) s' hf' hi' rfl
      exact this _ s hf hi rfl
    rintro a w ⟨s, hf, hi⟩
    obtain ⟨s1, hf1, hi1, hm1, hmin1⟩ := Classical.epsilon_spec (key a w ⟨s, hf, hi⟩)
    refine Code.wp_mono ?_ (round s1 w hi1 a hf1)
    intro e a' w' hq
    cases e <;> try exact hq
    obtain ⟨s', hf', hi', hlt⟩ := hq
    refine ⟨⟨s', hf', hi'⟩, ?_⟩
    obtain ⟨_, _, _, _, hmin2⟩ := Classical.epsilon_spec (key a' w' ⟨s', hf', hi'⟩)
    have := hmin2 s' hf' hi'
    show _ < Classical.epsilon _
    rw [← hm1]
    exact Nat.lt_of_le_of_lt this hlt

/-- The end of a round. -/
theorem q_round {σ : Type} {L : σ → Env} {I : σ → World → Prop} {μ : σ → Nat} {s : σ} (s' : σ) (hk : Keeps l (L s')) (hI : I s' w) (hm : μ s' < μ s) :
    WQ (Exit.then (fun a' w' => ∃ s', Fits n (L s') a' ∧ I s' w' ∧ μ s' < μ s) Q) .normal n l w := fun _ ha => ⟨s', ha.sub hk.out, hI, hm⟩

/-- Where ways meet: what is known behind a piece of code, whichever way was taken through it. -/
theorem c_cut {σ : Type} {x y : Code} (L : σ → Env) (I : σ → World → Prop) (hx : WC P x (Exit.then (fun a' w' => ∃ s, Fits n (L s) a' ∧ I s w') Q) n l w)
    (hy : ∀ s w, I s w → WC P y Q n (L s) w) : WC P (.seq x y) Q n l w := by
  intro a ha
  refine wp_seq (Code.wp_mono ?_ (hx a ha))
  intro e a' w' hq
  cases e <;> try exact hq
  obtain ⟨s, hf, hi⟩ := hq
  exact hy s w' hi a' hf
theorem q_cut {σ : Type} {L : σ → Env} {I : σ → World → Prop} (s : σ) (hk : Keeps l (L s)) (hI : I s w) : WQ (Exit.then (fun a' w' => ∃ s, Fits n (L s) a' ∧ I s w') Q) .normal n l w := fun _ ha => ⟨s, ha.sub hk.out, hI⟩

/-! ### The function's ends -/
def envOf : Nat → List Value → Env
  | _, [] => []
  | i, v :: vs => (i, v) :: envOf (i + 1) vs
theorem lk_envOf : ∀ (vs : List Value) (i s : Nat) (v : Value), lk (envOf i vs) s = some v → i ≤ s ∧ vs[s - i]? = some v
  | [], i, s, v, h => by simp [envOf, lk] at h
  | u :: vs, i, s, v, h => by
    simp only [envOf, lk] at h
    split at h
    · rename_i e _
      subst e
      exact ⟨Nat.le_refl _, by simpa using h⟩
    · rename_i e _
      obtain ⟨h1, h2⟩ := lk_envOf vs (i + 1) s v h
      refine ⟨by omega, ?_⟩
      have : s - i = (s - (i + 1)) + 1 := by omega
      rw [this]
      simpa using h2

theorem enter {f : FuncId} {fn : Func} {c : Code} {args : List Value} {R : Ending → World → Prop} (hf : P.funcs[f]? = some fn) (hb : fn.body = some c) (hn : fn.ntmps = n) (hl : args.length ≤ n)
    (h : WC P c (bodyPost P fn R) n (envOf 0 args) w) : Calls P f args.toArray w R := by
  refine calls_of_wp hf hb (h _ ⟨rfl, ?_, ?_⟩)
  · simp only [Array.size_append, List.size_toArray, Array.size_replicate, hn]
    omega
  · intro s v hs
    obtain ⟨_, h2⟩ := lk_envOf args 0 s v hs
    have hlt : s < args.length := by
      rcases Nat.lt_or_ge s args.length with h' | h'
      · exact h'
      · simp [List.getElem?_eq_none h'] at h2
    refine ⟨?_, by omega⟩
    have h3 : args[s]? = some v := by simpa using h2
    simp [Array.getD_eq_getD_getElem?, Array.getElem?_append, hlt]
    simpa [List.getElem?_eq_getElem hlt] using h3

theorem q_ret1 {fn : Func} {R : Ending → World → Prop} {t : Tmp} (hr : fn.results = #[.tmp t]) (hv : lk l t = some v) (h : R (.returned v) w) : WQ (bodyPost P fn R) .ret n l w :=
  fun a ha => bodyPost_ret (v := v) (by rw [results_tmp hr]; rw [(ha.get t v hv).1]) ha.defers h
theorem q_ret2 {fn : Func} {R : Ending → World → Prop} {t u : Tmp} {v' : Value} (hr : fn.results = #[.tmp t, .tmp u]) (hv : lk l t = some v) (hu : lk l u = some v') (h : R (.returned (.tuple #[v, v'])) w) : WQ (bodyPost P fn R) .ret n l w :=
  fun a ha => bodyPost_ret (v := .tuple #[v, v']) (by rw [results_tmp2 hr]; rw [(ha.get t v hv).1, (ha.get u v' hu).1]) ha.defers h
theorem q_ret3 {fn : Func} {R : Ending → World → Prop} {t u s : Tmp} {v' v'' : Value} (hr : fn.results = #[.tmp t, .tmp u, .tmp s]) (hv : lk l t = some v) (hu : lk l u = some v') (hs : lk l s = some v'')
    (h : R (.returned (.tuple #[v, v', v''])) w) : WQ (bodyPost P fn R) .ret n l w :=
  fun a ha => bodyPost_ret (v := .tuple #[v, v', v'']) (by simp [results, hr]; simp [(ha.get t v hv).1, (ha.get u v' hu).1, (ha.get s v'' hs).1, ← Array.getD_eq_getD_getElem?]) ha.defers h
theorem q_ret4 {fn : Func} {R : Ending → World → Prop} {t u s r : Tmp} {v' v'' v3 : Value} (hr : fn.results = #[.tmp t, .tmp u, .tmp s, .tmp r]) (hv : lk l t = some v) (hu : lk l u = some v') (hs : lk l s = some v'') (h3 : lk l r = some v3)
    (h : R (.returned (.tuple #[v, v', v'', v3])) w) : WQ (bodyPost P fn R) .ret n l w :=
  fun a ha => bodyPost_ret (v := .tuple #[v, v', v'', v3]) (by simp [results, hr]; simp [(ha.get t v hv).1, (ha.get u v' hu).1, (ha.get s v'' hs).1, (ha.get r v3 h3).1, ← Array.getD_eq_getD_getElem?]) ha.defers h
theorem q_end {fn : Func} {R : Ending → World → Prop} (hr : fn.results = #[]) (h : R (.returned (.tuple #[])) w) : WQ (bodyPost P fn R) .normal n l w :=
  fun a ha => bodyPost_end (v := .tuple #[]) (by rw [results_none hr]) ha.defers h
theorem q_ret0 {fn : Func} {R : Ending → World → Prop} (hr : fn.results = #[]) (h : R (.returned (.tuple #[])) w) : WQ (bodyPost P fn R) .ret n l w :=
  fun a ha => bodyPost_ret (v := .tuple #[]) (by rw [results_none hr]) ha.defers h
end

/-! ### Contracts -/
/-- Of whatever world in which As are held and Rs lent: the call hands back a value, and what is held then. -/
def Cn (P : Program) (f : FuncId) (args : List Value) (As Rs : List SP) (T : Value → List SP → Prop) : Prop :=
  ∀ w F, Hd w F w As Rs → Calls P f args.toArray w (Ret fun v w' => ∃ Bs, T v Bs ∧ Hd w F w' Bs Rs)

section
variable {P : Program} {ops : Array Oper} {Q : Exit → Act → World → Prop} {rest : List Oper} {n : Nat} {l : Env} {w0 w w' : World} {F0 : Foot} {o : Oper} {v : Value} {As Rs Cs Ss : List SP}

/-- What is lent to a callee. -/
def Lends (w : World) (As Rs Ss : List SP) : Prop := ∀ S ∈ Ss, ∀ F, (∀ A ∈ As, A.P w F) → (∀ R ∈ Rs, R.P w F) → S.P w F
theorem l0 : Lends w As Rs [] := fun _ h => by cases h
theorem lR {S : SP} (i : Nat) (hm : Rs[i]? = some S) (h : Lends w As Rs Ss) : Lends w As Rs (S :: Ss) := by
  intro S' hS F hA hR
  cases hS with
  | head => exact hR _ (List.mem_of_getElem? hm)
  | tail _ h' => exact h S' h' F hA hR
theorem lA {A S : SP} (i : Nat) (hm : As[i]? = some A) (hs : ∀ F, A.P w F → S.P w F) (h : Lends w As Rs Ss) : Lends w As Rs (S :: Ss) := by
  intro S' hS F hA hR
  cases hS with
  | head => exact hs F (hA _ (List.mem_of_getElem? hm))
  | tail _ h' => exact h S' h' F hA hR
theorem lX {S : SP} (hs : ∀ F, (∀ A ∈ As, A.P w F) → (∀ R ∈ Rs, R.P w F) → S.P w F) (h : Lends w As Rs Ss) : Lends w As Rs (S :: Ss) := by
  intro S' hS F hA hR
  cases hS with
  | head => exact hs F hA hR
  | tail _ h' => exact h S' h' F hA hR
theorem lAll : Lends w As Rs Rs := fun _ hS _ _ hR => hR _ hS

theorem call_frame {f : FuncId} {args : List Value} {T : Value → List SP → Prop} (hc : Cn P f args Cs Ss T) (H : Hd w0 F0 w (Cs ++ As) Rs) (hl : Lends w As Rs Ss) :
    Calls P f args.toArray w (Ret fun v w' => ∃ Bs, T v Bs ∧ Hd w0 F0 w' (Bs ++ As) Rs) := by
  obtain ⟨Fc, h1, h2⟩ := H.frame hl
  refine (hc w Fc h1).mono ?_
  rintro e w' ⟨v, rfl, Bs, hT, hB⟩
  exact ⟨v, rfl, Bs, hT, h2 w' Bs hB⟩

theorem s_cn {f : FuncId} {args : List Value} {T : Value → List SP → Prop} (hg : gd ops l o = some true) (hd : dok n o.dst = true) (hr : Enters P n l w o f args.toArray)
    (hc : Cn P f args Cs Ss T) (H : Hd w0 F0 w (Cs ++ As) Rs) (hl : Lends w As Rs Ss)
    (h : ∀ v Bs w', T v Bs → Hd w0 F0 w' (Bs ++ As) Rs → WL P ops Q rest n (upO l o.dst v) w') : WL P ops Q (o :: rest) n l w :=
  s_call hg hd hr (call_frame hc H hl) fun v w' ⟨Bs, hT, hB⟩ => h v Bs w' hT hB

theorem Cn.mono {f : FuncId} {args : List Value} {T T' : Value → List SP → Prop} (h : Cn P f args Cs Ss T) (hT : ∀ v Bs, T v Bs → T' v Bs) : Cn P f args Cs Ss T' :=
  fun w F H => (h w F H).mono fun e w' ⟨v, he, Bs, t, hb⟩ => ⟨v, he, Bs, hT v Bs t, hb⟩

theorem perm_pick {A : SP} : ∀ (As : List SP) (i : Nat), As[i]? = some A → As.Perm (A :: As.eraseIdx i)
  | [], _, h => by simp at h
  | B :: As, 0, h => by
    obtain rfl : B = A := by simpa using h
    exact List.Perm.refl _
  | B :: As, i + 1, h => by
    have := perm_pick As i (by simpa using h)
    exact (this.cons B).trans (List.Perm.swap _ _ _)
theorem Hd.pick {A : SP} (i : Nat) (hi : As[i]? = some A) (h : Hd w0 F0 w As Rs) : Hd w0 F0 w (A :: As.eraseIdx i) Rs := by
  exact h.perm (perm_pick _ i hi)
end

/-! ### A region that draws its order, and only reads -/
section
variable {P : Program} {ops : Array Oper} {C : World → Prop} {Q : Act → Prop} {rest : List Oper} {n : Nat} {l : Env} {o : Oper} {v : Value}

def WU (P : Program) (ops : Array Oper) (C : World → Prop) (Q : Act → Prop) (rest : List Oper) (n : Nat) (l : Env) : Prop := ∀ a, Fits n l a → wpQuiet P ops C Q rest a

theorem u_val (hg : gd ops l o = some true) (hd : dok n o.dst = true) (hr : ∀ w, C w → Run P n l w o v w) (h : WU P ops C Q rest n (upO l o.dst v)) : WU P ops C Q (o :: rest) n l := by
  intro a ha
  refine wpQuiet_step fun K hK => ?_
  rw [if_pos (gd_wanted ha hg)]
  refine ⟨v, fun w hw => ?_, hK _ (h _ (ha.put _ _ hd))⟩
  unfold Oper.quietAt
  rw [hr w hw a ha]
  exact ⟨rfl, rfl⟩
theorem u_no (hg : gd ops l o = some false) (hd : dok n o.dst = true) (h : WU P ops C Q rest n (upO l o.dst undef)) : WU P ops C Q (o :: rest) n l := by
  intro a ha
  refine wpQuiet_step fun K hK => ?_
  rw [if_neg (by rw [gd_wanted ha hg]; simp)]
  exact hK _ (h _ (ha.put _ _ hd))
theorem u_call {f : FuncId} {args : Array Value} (hg : gd ops l o = some true) (hd : dok n o.dst = true) (hr : ∀ w, C w → Enters P n l w o f args)
    (hc : ∀ w, C w → Calls P f args w (Ret fun v' w' => v' = v ∧ C w')) (h : WU P ops C Q rest n (upO l o.dst v)) : WU P ops C Q (o :: rest) n l := by
  intro a ha
  refine wpQuiet_step fun K hK => ?_
  rw [if_pos (gd_wanted ha hg)]
  refine ⟨v, fun w hw => ?_, hK _ (h _ (ha.put _ _ hd))⟩
  unfold Oper.quietAt
  rw [hr w hw a ha]
  refine ⟨rfl, (hc w hw).mono ?_⟩
  rintro e w' ⟨v', rfl, rfl, hC⟩
  exact ⟨rfl, hC⟩
theorem u_nil (h : ∀ a, Fits n l a → Q a) : WU P ops C Q [] n l := h
theorem u_env (l' : Env) (hk : Keeps l l') (h : WU P ops C Q rest n l') : WU P ops C Q rest n l := fun a ha => h a (ha.sub hk.out)
theorem u_dec {d : Nat} {p : Prop} {_ : Decidable p} (hc : lk l d = some (.bool (decide p))) (ht : p → WU P ops C Q rest n ((d, .bool true) :: l)) (hf : ¬ p → WU P ops C Q rest n ((d, .bool false) :: l)) : WU P ops C Q rest n l := by
  intro a ha
  by_cases hp : p
  · refine ht hp a ⟨ha.defers, ha.size, fun s v hs => ?_⟩
    simp only [lk] at hs
    split at hs
    · rename_i e _
      obtain rfl : Value.bool true = v := by simpa using hs
      subst e
      have := ha.get _ _ hc
      simpa [hp] using this
    · exact ha.get _ _ hs
  · refine hf hp a ⟨ha.defers, ha.size, fun s v hs => ?_⟩
    simp only [lk] at hs
    split at hs
    · rename_i e _
      obtain rfl : Value.bool false = v := by simpa using hs
      subst e
      have := ha.get _ _ hc
      simpa [hp] using this
    · exact ha.get _ _ hs
end
section
variable {P : Program} {Q : Exit → Act → World → Prop} {n : Nat} {l : Env} {w0 w : World} {F0 : Foot} {As Rs : List SP}

theorem c_draw {id : Nat} {os : List Oper} (hm : P.follows .mixedOrders = true) (hB : Region.lexB .any os.toArray = true) (H : Hd w0 F0 w As Rs)
    (h : WU P os.toArray (fun w => Hd w0 F0 w As Rs) (fun a => ∀ w', Hd w0 F0 w' As Rs → Q .normal a w') os n l) : WC P (.region id os.toArray true) Q n l w := by
  intro a ha
  exact wp_region_quiet hm hB (H.drewN 1) (by simpa using h a ha)
theorem u_end {ops : Array Oper} (h : ∀ w, Hd w0 F0 w As Rs → WQ Q .normal n l w) : WU P ops (fun w => Hd w0 F0 w As Rs) (fun a => ∀ w', Hd w0 F0 w' As Rs → Q .normal a w') [] n l :=
  u_nil fun a ha w' H => h w' H a ha
/-- A callee in such a region: what it is lent is all; it answers one value. -/
theorem u_cn {ops : Array Oper} {K : Act → Prop} {rest : List Oper} {o : Oper} {v : Value} {f : FuncId} {args : List Value} {T : Value → List SP → Prop} {Ss : List SP} (hg : gd ops l o = some true) (hd : dok n o.dst = true)
    (hr : ∀ w, Hd w0 F0 w As Rs → Enters P n l w o f args.toArray) (hc : Cn P f args [] Ss T) (hl : ∀ w, Hd w0 F0 w As Rs → Lends w As Rs Ss) (hT : ∀ u Bs, T u Bs → u = v)
    (h : WU P ops (fun w => Hd w0 F0 w As Rs) K rest n (upO l o.dst v)) : WU P ops (fun w => Hd w0 F0 w As Rs) K (o :: rest) n l := by
  refine u_call hg hd hr (fun w H => ?_) h
  refine (call_frame (Cs := []) hc H (hl w H)).mono ?_
  rintro e w' ⟨u, rfl, Bs, t, H'⟩
  refine ⟨u, rfl, hT u Bs t, ?_⟩
  clear hT t hc
  induction Bs with
  | nil => exact H'
  | cons B Bs ih => exact ih H'.drop
end
end Go.Proofs.YtlpgdkbokakniaaGreatDoor.X
