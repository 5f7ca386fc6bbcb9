/- Each operation's step: what it asks, what it hands back. No program in sight. -/
import Derived.Test.YtlpgdkbokakniaaGreatDoorXW
set_option linter.unusedVariables false
set_option linter.unusedSimpArgs false
namespace Go.Proofs.YtlpgdkbokakniaaGreatDoor.X
open Go

/-! ### What is asked of the types' table -/
def slOf (P : Program) (t : TypeId) : Option (TypeId × Nat × Nat) :=
  match P.underlying t with
  | some (.slice e) => (P.info? e).map fun i => (e, i.size, i.bytes)
  | _ => none
/-- Is it an aggregate; how many cells. -/
def tyOf (P : Program) (t : TypeId) : Option (Bool × Nat) :=
  match P.underlying t, P.info? t with
  | some d, some i => some ((match d with | .struct _ | .array _ _ => true | _ => false), i.size)
  | _, _ => none
def foOf (P : Program) (s : TypeId) (k : Nat) : Option Nat :=
  match P.underlying s with
  | some (.struct fs) => match fs[k]? with
    | some f => match P.info? f.type with
      | some i => if i.size = 0 then none else some f.offset
      | none => none
    | none => none
  | _ => none
/-- A field: is it an aggregate; its place; its cells. -/
def fdOf (P : Program) (s : TypeId) (k : Nat) : Option (Bool × Nat × Nat) :=
  match P.underlying s with
  | some (.struct fs) => match fs[k]? with
    | some f => match tyOf P f.type with
      | some (b, n) => some (b, f.offset, n)
      | none => none
    | none => none
  | _ => none
def zrOf (P : Program) (t : TypeId) : Option Value := (P.info? t).bind (·.zero)

section
variable {P : Program} {n : Nat} {l : Env} {w w' : World} {o : Oper} {v u : Value} {x y : Operand} {t : TypeId}

theorem slOf_spec {e size bytes : Nat} (h : slOf P t = some (e, size, bytes)) : P.underlying t = some (.slice e) ∧ ∃ i, P.info? e = some i ∧ i.size = size ∧ i.bytes = bytes := by
  unfold slOf at h
  split at h
  · rename_i e' he
    cases hi : P.info? e' with
    | none => simp [hi] at h
    | some i =>
      simp [hi] at h
      obtain ⟨rfl, h1, h2⟩ := h
      exact ⟨he, i, hi, h1, h2⟩
  · simp at h
theorem tyOf_spec {b : Bool} {size : Nat} (h : tyOf P t = some (b, size)) : ∃ d i, P.underlying t = some d ∧ P.info? t = some i ∧ (match d with | .struct _ | .array _ _ => true | _ => false) = b ∧ i.size = size := by
  unfold tyOf at h
  split at h
  · rename_i d i hd hi
    simp only [Option.some.injEq, Prod.mk.injEq] at h
    exact ⟨d, i, hd, hi, h.1, h.2⟩
  · simp at h
theorem run_isAgg {b : Bool} {size : Nat} (h : tyOf P t = some (b, size)) : (isAgg t).run P w = .ok b w := by
  obtain ⟨d, i, hd, hi, hb, hs⟩ := tyOf_spec h
  unfold isAgg
  rw [Sem.run_bind, run_underlying hd w]
  subst hb
  cases d <;> simp
theorem run_sizeOf {b : Bool} {size : Nat} (h : tyOf P t = some (b, size)) : (sizeOf t).run P w = .ok size w := by
  obtain ⟨d, i, hd, hi, hb, hs⟩ := tyOf_spec h
  simp [sizeOf, typeInfo, hi, hs]

/-! ### Operations that touch no memory -/
theorem r_mv (ho : o.op = .move x) (hx : ev l x = some v) : Run P n l w o v w := by
  intro a ha; simp [execOp, ho, ha.eval hx]
theorem r_as (ho : o.op = .assign x) (hx : ev l x = some v) : Run P n l w o v w := by
  intro a ha; simp [execOp, ho, ha.eval hx]
theorem r_pickT {c : Operand} (ho : o.op = .pick c x y) (hc : ev l c = some (.bool true)) (hx : ev l x = some v) : Run P n l w o v w := by
  intro a ha; simp [execOp, ho, ha.eval hx, ha.eval hc, asBool]
theorem r_pickF {c : Operand} (ho : o.op = .pick c x y) (hc : ev l c = some (.bool false)) (hy : ev l y = some v) : Run P n l w o v w := by
  intro a ha; simp [execOp, ho, ha.eval hy, ha.eval hc, asBool]
theorem r_nilP {a : Addr} (ho : o.op = .nilCheck x) (hx : ev l x = some (.pointer (some a))) : Run P n l w o (.pointer (some a)) w := by
  intro a' ha; simp [execOp, ho, ha.eval hx]
theorem r_nilF {f : FuncId} {fs cs : Array Value} (ho : o.op = .nilCheck x) (hx : ev l x = some (.func (.func f) fs cs)) : Run P n l w o (.func (.func f) fs cs) w := by
  intro a' ha; simp [execOp, ho, ha.eval hx]
theorem r_not {b c : Bool} (ho : o.op = .unOp .not t x) (hx : ev l x = some (.bool b)) (hc : (!b) = c) : Run P n l w o (.bool c) w := by
  intro a ha; simp [execOp, ho, ha.eval hx, Op.unary, hc]
theorem r_notP {p : Prop} {_ : Decidable p} (ho : o.op = .unOp .not t x) (hx : ev l x = some (.bool (decide p))) : Run P n l w o (.bool (decide ¬ p)) w := by
  refine r_not ho hx ?_
  simp
theorem r_neg {k : IntKind} {i z : Int} (ho : o.op = .unOp .neg t x) (hx : ev l x = some (.int k i)) (hz : k.wrap (0 - i) = z) : Run P n l w o (.int k z) w := by
  intro a ha; simp [execOp, ho, ha.eval hx, Op.unary, Op.intArith, ← hz]
theorem r_add {k : IntKind} {i j z : Int} {t' : TypeId} (ho : o.op = .binOp .add t x y t') (hx : ev l x = some (.int k i)) (hy : ev l y = some (.int k j)) (hz : k.wrap (i + j) = z) : Run P n l w o (.int k z) w := by
  intro a ha; simp [execOp, ho, ha.eval hx, ha.eval hy, eqGuard, binOp, Op.intArith, hz]
theorem r_sub {k : IntKind} {i j z : Int} {t' : TypeId} (ho : o.op = .binOp .sub t x y t') (hx : ev l x = some (.int k i)) (hy : ev l y = some (.int k j)) (hz : k.wrap (i - j) = z) : Run P n l w o (.int k z) w := by
  intro a ha; simp [execOp, ho, ha.eval hx, ha.eval hy, eqGuard, binOp, Op.intArith, hz]
theorem r_mul {k : IntKind} {i j z : Int} {t' : TypeId} (ho : o.op = .binOp .mul t x y t') (hx : ev l x = some (.int k i)) (hy : ev l y = some (.int k j)) (hz : k.wrap (i * j) = z) : Run P n l w o (.int k z) w := by
  intro a ha; simp [execOp, ho, ha.eval hx, ha.eval hy, eqGuard, binOp, Op.intArith, hz]
theorem r_rem {k : IntKind} {i j z : Int} {t' : TypeId} (ho : o.op = .binOp .rem t x y t') (hx : ev l x = some (.int k i)) (hy : ev l y = some (.int k j)) (h0 : j ≠ 0) (hz : i.tmod j = z) : Run P n l w o (.int k z) w := by
  intro a ha; simp [execOp, ho, ha.eval hx, ha.eval hy, eqGuard, binOp, Op.intDiv, h0, hz]
theorem r_quo {k : IntKind} {i j z : Int} {t' : TypeId} (ho : o.op = .binOp .quo t x y t') (hx : ev l x = some (.int k i)) (hy : ev l y = some (.int k j)) (h0 : j ≠ 0) (hz : k.wrap (i.tdiv j) = z) : Run P n l w o (.int k z) w := by
  intro a ha; simp [execOp, ho, ha.eval hx, ha.eval hy, eqGuard, binOp, Op.intDiv, h0, hz]
theorem r_shl {k k' : IntKind} {i j z : Int} {t' : TypeId} (ho : o.op = .binOp .shl t x y t') (hx : ev l x = some (.int k i)) (hy : ev l y = some (.int k' j)) (h0 : 0 ≤ j) (hz : k.wrap (i * 2 ^ (min j.toNat k.bits)) = z) : Run P n l w o (.int k z) w := by
  intro a ha; simp [execOp, ho, ha.eval hx, ha.eval hy, eqGuard, binOp, Op.shift, Int.not_lt.2 h0, hz]
theorem r_shr {k k' : IntKind} {i j z : Int} {t' : TypeId} (ho : o.op = .binOp .shr t x y t') (hx : ev l x = some (.int k i)) (hy : ev l y = some (.int k' j)) (h0 : 0 ≤ j) (hz : i.fdiv (2 ^ (min j.toNat k.bits)) = z) : Run P n l w o (.int k z) w := by
  intro a ha; simp [execOp, ho, ha.eval hx, ha.eval hy, eqGuard, binOp, Op.shift, Int.not_lt.2 h0, hz]
theorem r_bits {k : IntKind} {i j z : Int} {t' : TypeId} {op : BinOp} (ho : o.op = .binOp op t x y t') (hop : op = .and ∨ op = .or ∨ op = .xor ∨ op = .andNot) (hx : ev l x = some (.int k i)) (hy : ev l y = some (.int k j))
    (hz : (Op.intBits op k i j).run P w = .ok (.int k z) w) : Run P n l w o (.int k z) w := by
  intro a ha
  rcases hop with rfl | rfl | rfl | rfl <;> simp [execOp, ho, ha.eval hx, ha.eval hy, eqGuard, binOp, hz]
theorem r_lt {k : IntKind} {i j : Int} {t' : TypeId} (ho : o.op = .binOp .lss t x y t') (hx : ev l x = some (.int k i)) (hy : ev l y = some (.int k j)) : Run P n l w o (.bool (decide (i < j))) w := by
  intro a ha; simp [execOp, ho, ha.eval hx, ha.eval hy, eqGuard, binOp, Op.intCmp]
theorem r_le {k : IntKind} {i j : Int} {t' : TypeId} (ho : o.op = .binOp .leq t x y t') (hx : ev l x = some (.int k i)) (hy : ev l y = some (.int k j)) : Run P n l w o (.bool (decide (i ≤ j))) w := by
  intro a ha; simp [execOp, ho, ha.eval hx, ha.eval hy, eqGuard, binOp, Op.intCmp]
theorem r_gt {k : IntKind} {i j : Int} {t' : TypeId} (ho : o.op = .binOp .gtr t x y t') (hx : ev l x = some (.int k i)) (hy : ev l y = some (.int k j)) : Run P n l w o (.bool (decide (j < i))) w := by
  intro a ha; simp [execOp, ho, ha.eval hx, ha.eval hy, eqGuard, binOp, Op.intCmp]
theorem r_ge {k : IntKind} {i j : Int} {t' : TypeId} (ho : o.op = .binOp .geq t x y t') (hx : ev l x = some (.int k i)) (hy : ev l y = some (.int k j)) : Run P n l w o (.bool (decide (j ≤ i))) w := by
  intro a ha; simp [execOp, ho, ha.eval hx, ha.eval hy, eqGuard, binOp, Op.intCmp]
theorem beqI (i j : Int) : (i == j) = decide (i = j) := by rw [Bool.eq_iff_iff]; simp
theorem r_eq {k : IntKind} {i j : Int} {t' : TypeId} (ho : o.op = .binOp .eql t x y t') (hx : ev l x = some (.int k i)) (hy : ev l y = some (.int k j)) : Run P n l w o (.bool (decide (i = j))) w := by
  intro a ha; simp [execOp, ho, ha.eval hx, ha.eval hy, eqGuard, binOp, Op.intCmp, beqI]
theorem r_ne {k : IntKind} {i j : Int} {t' : TypeId} (ho : o.op = .binOp .neq t x y t') (hx : ev l x = some (.int k i)) (hy : ev l y = some (.int k j)) : Run P n l w o (.bool (decide (i ≠ j))) w := by
  intro a ha; simp [execOp, ho, ha.eval hx, ha.eval hy, eqGuard, binOp, Op.intCmp, bne, beqI]
theorem r_i2i {k : IntKind} {src dst : TypeId} {i z : Int} {k' : IntKind} {d : TypeDesc} (ho : o.op = .convert src dst x) (hx : ev l x = some (.int k i)) (hs : P.underlying src = some d) (hd : P.underlying dst = some (.int k')) (hz : k'.wrap i = z) : Run P n l w o (.int k' z) w := by
  intro a ha; simp [execOp, ho, ha.eval hx, convert, run_underlying hs, run_underlying hd, Conv.intToInt, hz]
theorem r_ex {vs : Array Value} {i : Nat} (ho : o.op = .extract x i) (hx : ev l x = some (.tuple vs)) (hi : vs[i]? = some v) : Run P n l w o v w := by
  intro a ha; simp [execOp, ho, ha.eval hx, Instr.extract, hi]
theorem r_fn {f : FuncId} {first captured : Array Operand} {fs cs : Array Value} (ho : o.op = .makeFunc (.func f) first captured) (hf : first.toList.map (ev l) = fs.toList.map some) (hc : captured.toList.map (ev l) = cs.toList.map some) : Run P n l w o (.func (.func f) fs cs) w := by
  have key : ∀ (a : Act), Fits n l a → ∀ (xs : List Operand) (vs : List Value), xs.map (ev l) = vs.map some → xs.map a.eval = vs := by
    intro a ha xs
    induction xs with
    | nil => intro vs h; cases vs <;> simp_all
    | cons x xs ih =>
      intro vs h
      cases vs with
      | nil => simp at h
      | cons v vs =>
        simp only [List.map_cons, List.cons.injEq] at h ⊢
        exact ⟨ha.eval h.1, ih vs h.2⟩
  intro a ha
  have h1 := key a ha _ _ hf
  have h2 := key a ha _ _ hc
  have e1 : first.map a.eval = fs := by rw [← Array.toList_inj]; simpa using h1
  have e2 : captured.map a.eval = cs := by rw [← Array.toList_inj]; simpa using h2
  simp [execOp, ho, Instr.makeFunc, e1, e2]
theorem r_min {k : IntKind} {i j z : Int} {ts : Array TypeId} (ho : o.op = .call { callee := .builtin .min, args := #[x, y], argTypes := ts }) (hx : ev l x = some (.int k i)) (hy : ev l y = some (.int k j)) (hz : min i j = z) : Run P n l w o (.int k z) w := by
  intro a ha
  subst hz
  simp [execOp, ho, resolve, ha.eval hx, ha.eval hy, invoke, builtin, Builtin.min_, Builtin.min2]
  omega
theorem r_max {k : IntKind} {i j z : Int} {ts : Array TypeId} (ho : o.op = .call { callee := .builtin .max, args := #[x, y], argTypes := ts }) (hx : ev l x = some (.int k i)) (hy : ev l y = some (.int k j)) (hz : max i j = z) : Run P n l w o (.int k z) w := by
  intro a ha
  subst hz
  simp [execOp, ho, resolve, ha.eval hx, ha.eval hy, invoke, builtin, Builtin.max_, Builtin.max2]
  omega
theorem r_lenL {tt : TypeId} {A : Option Addr} {m c : Nat} {e : TypeId} (ho : o.op = .call { callee := .builtin .len, args := #[x], argTypes := #[tt] }) (ht : P.underlying tt = some (.slice e)) (hx : ev l x = some (.slice A m c)) : Run P n l w o (.int .i64 (m : Int)) w := by
  intro a ha
  simp [execOp, ho, resolve, ha.eval hx, invoke, builtin, Builtin.len_, run_underlying ht, goInt]
theorem r_capL {tt : TypeId} {A : Option Addr} {m c : Nat} {e : TypeId} (ho : o.op = .call { callee := .builtin .cap, args := #[x], argTypes := #[tt] }) (ht : P.underlying tt = some (.slice e)) (hx : ev l x = some (.slice A m c)) : Run P n l w o (.int .i64 (c : Int)) w := by
  intro a ha
  simp [execOp, ho, resolve, ha.eval hx, invoke, builtin, Builtin.cap_, run_underlying ht, goInt]
theorem r_lenS {tt : TypeId} {s : ByteArray} (ho : o.op = .call { callee := .builtin .len, args := #[x], argTypes := #[tt] }) (ht : P.underlying tt = some .string) (hx : ev l x = some (.string s)) : Run P n l w o (.int .i64 (s.size : Int)) w := by
  intro a ha
  simp [execOp, ho, resolve, ha.eval hx, invoke, builtin, Builtin.len_, run_underlying ht, goInt]
theorem r_lenA {tt : TypeId} {m : Nat} {e : TypeId} (ho : o.op = .call { callee := .builtin .len, args := #[x], argTypes := #[tt] }) (ht : P.underlying tt = some (.array m e)) (hx : ev l x = some v) : Run P n l w o (.int .i64 (m : Int)) w := by
  intro a ha
  simp [execOp, ho, resolve, ha.eval hx, invoke, builtin, Builtin.len_, run_underlying ht, goInt]

/-! ### Nil or not -/
theorem eqIn_ptr (d : Nat) {q : Option Addr} {e : TypeId} (ht : P.underlying t = some (.pointer e)) : (Op.equalIn (d + 1) t (.pointer q) (.pointer none)).run P w = .ok q.isNone w := by
  cases q <;> simp [Op.equalIn, run_underlying ht]
theorem eqIn_fn (d : Nat) {f : Fn} {fs cs : Array Value} {ps rs : Array TypeId} {b : Bool} (ht : P.underlying t = some (.func ps rs b)) : (Op.equalIn (d + 1) t (.func f fs cs) .nilFunc).run P w = .ok false w := by
  simp [Op.equalIn, run_underlying ht]
theorem eqIn_fn0 (d : Nat) {ps rs : Array TypeId} {b : Bool} (ht : P.underlying t = some (.func ps rs b)) : (Op.equalIn (d + 1) t .nilFunc .nilFunc).run P w = .ok true w := by
  simp [Op.equalIn, run_underlying ht]
theorem eqIn_sl (d : Nat) {A : Option Addr} {m c : Nat} {e : TypeId} (ht : P.underlying t = some (.slice e)) : (Op.equalIn (d + 1) t (.slice A m c) (.slice none 0 0)).run P w = .ok A.isNone w := by
  cases A <;> simp [Op.equalIn, run_underlying ht]
/-- '==' of two values that are no numbers, floats, texts. -/
theorem r_eqX {t' : TypeId} {u v : Value} {b : Bool} (ho : o.op = .binOp .eql t x y t') (hx : ev l x = some u) (hy : ev l y = some v) (h1 : binOp .eql t u v = (do pure (.bool (← Op.equal t u v)))) (h2 : eqGuard .eql t x y u v = pure ())
    (hb : (Op.equalIn (9999 + 1) t u v).run P w = .ok b w) : Run P n l w o (.bool b) w := by
  intro a ha
  have hb' : (Op.equal t u v).run P w = .ok b w := hb
  unfold execOp
  simp only [ho, ha.eval hx, ha.eval hy, h1, h2, Sem.run_bind, Sem.run_pure, Result.andThen_ok, hb']
theorem r_neX {t' : TypeId} {u v : Value} {b : Bool} (ho : o.op = .binOp .neq t x y t') (hx : ev l x = some u) (hy : ev l y = some v) (h1 : binOp .neq t u v = (do pure (.bool (!(← Op.equal t u v))))) (h2 : eqGuard .neq t x y u v = pure ())
    (hb : (Op.equalIn (9999 + 1) t u v).run P w = .ok b w) : Run P n l w o (.bool !b) w := by
  intro a ha
  have hb' : (Op.equal t u v).run P w = .ok b w := hb
  unfold execOp
  simp only [ho, ha.eval hx, ha.eval hy, h1, h2, Sem.run_bind, Sem.run_pure, Result.andThen_ok, hb']
theorem r_peq {q : Option Addr} {e t' : TypeId} (ho : o.op = .binOp .eql t x y t') (ht : P.underlying t = some (.pointer e)) (hx : ev l x = some (.pointer q)) (hy : ev l y = some (.pointer none)) : Run P n l w o (.bool q.isNone) w :=
  r_eqX ho hx hy rfl rfl (eqIn_ptr _ ht)
theorem r_pne {q : Option Addr} {e t' : TypeId} (ho : o.op = .binOp .neq t x y t') (ht : P.underlying t = some (.pointer e)) (hx : ev l x = some (.pointer q)) (hy : ev l y = some (.pointer none)) : Run P n l w o (.bool !q.isNone) w :=
  r_neX ho hx hy rfl rfl (eqIn_ptr _ ht)
theorem r_feq {f : Fn} {fs cs : Array Value} {t' : TypeId} {ps rs : Array TypeId} {b : Bool} (ho : o.op = .binOp .eql t x y t') (ht : P.underlying t = some (.func ps rs b)) (hx : ev l x = some (.func f fs cs)) (hy : ev l y = some .nilFunc) : Run P n l w o (.bool false) w :=
  r_eqX ho hx hy rfl rfl (eqIn_fn _ ht)
theorem r_fne {f : Fn} {fs cs : Array Value} {t' : TypeId} {ps rs : Array TypeId} {b : Bool} (ho : o.op = .binOp .neq t x y t') (ht : P.underlying t = some (.func ps rs b)) (hx : ev l x = some (.func f fs cs)) (hy : ev l y = some .nilFunc) : Run P n l w o (.bool true) w :=
  r_neX (b := false) ho hx hy rfl rfl (eqIn_fn _ ht)
theorem r_seq0 {A : Option Addr} {m c : Nat} {e t' : TypeId} (ho : o.op = .binOp .eql t x y t') (ht : P.underlying t = some (.slice e)) (hx : ev l x = some (.slice A m c)) (hy : ev l y = some (.slice none 0 0)) : Run P n l w o (.bool A.isNone) w :=
  r_eqX ho hx hy rfl rfl (eqIn_sl _ ht)
theorem r_sne0 {A : Option Addr} {m c : Nat} {e t' : TypeId} (ho : o.op = .binOp .neq t x y t') (ht : P.underlying t = some (.slice e)) (hx : ev l x = some (.slice A m c)) (hy : ev l y = some (.slice none 0 0)) : Run P n l w o (.bool !A.isNone) w :=
  r_neX ho hx hy rfl rfl (eqIn_sl _ ht)
theorem eqIn_bool (d : Nat) {p q : Bool} (ht : P.underlying t = some .bool) : (Op.equalIn (d + 1) t (.bool p) (.bool q)).run P w = .ok (decide (p = q)) w := by
  have : (p == q) = decide (p = q) := by cases p <;> cases q <;> rfl
  simp [Op.equalIn, run_underlying ht, this]
theorem r_beq {p q : Bool} {t' : TypeId} (ho : o.op = .binOp .eql t x y t') (ht : P.underlying t = some .bool) (hx : ev l x = some (.bool p)) (hy : ev l y = some (.bool q)) : Run P n l w o (.bool (decide (p = q))) w :=
  r_eqX ho hx hy rfl rfl (eqIn_bool _ ht)
theorem r_bne {p q : Bool} {t' : TypeId} (ho : o.op = .binOp .neq t x y t') (ht : P.underlying t = some .bool) (hx : ev l x = some (.bool p)) (hy : ev l y = some (.bool q)) : Run P n l w o (.bool (decide (p ≠ q))) w := by
  have := r_neX (w := w) (n := n) ho hx hy rfl rfl (eqIn_bool _ ht)
  simpa using this

/-! ### Addresses -/
theorem add_of (b off k : Nat) : (⟨b, off, none⟩ : Addr).add k = ⟨b, off + k, none⟩ := by unfold Addr.add; split <;> simp_all
theorem r_fa {s : TypeId} {b off k fo : Nat} (ho : o.op = .fieldAddr s x k) (hf : foOf P s k = some fo) (hx : ev l x = some (.pointer (some ⟨b, off, none⟩))) : Run P n l w o (.pointer (some ⟨b, off + fo, none⟩)) w := by
  intro a ha
  unfold foOf at hf
  split at hf
  · rename_i fs hu
    split at hf
    · rename_i f hk
      split at hf
      · rename_i i hi
        split at hf
        · simp at hf
        · rename_i hn
          obtain rfl : f.offset = fo := by simpa using hf
          simp [execOp, ho, ha.eval hx, Instr.fieldAt, run_underlying hu, hk, Instr.sureAddr, fieldPlace, sizeOf, typeInfo, hi, hn, add_of]
      · simp at hf
    · simp at hf
  · simp at hf
theorem r_ia {tt e size bytes : TypeId} {b off m c : Nat} {k : IntKind} {i : Int} {p : Nat} (ho : o.op = .indexAddr tt x y) (hs : slOf P tt = some (e, size, bytes)) (hx : ev l x = some (.slice (some ⟨b, off, none⟩) m c)) (hy : ev l y = some (.int k i))
    (h0 : 0 ≤ i) (h1 : i < (m : Int)) (hp : off + i.toNat * size = p) : Run P n l w o (.pointer (some ⟨b, p, none⟩)) w := by
  intro a ha
  obtain ⟨hu, inf, hi, hz, _⟩ := slOf_spec hs
  subst hp
  simp [execOp, ho, ha.eval hx, ha.eval hy, Instr.indexAt, run_underlying hu, asIntOf, sizeOf, typeInfo, hi, hz, add_of, h0, h1]
theorem r_iaA {tt e : TypeId} {size len : Nat} {b off : Nat} {k : IntKind} {i : Int} {p : Nat} {inf : TypeInfo} (ho : o.op = .indexAddr tt x y) (hu : P.underlying tt = some (.array len e)) (hi : P.info? e = some inf) (hz : inf.size = size)
    (hx : ev l x = some (.pointer (some ⟨b, off, none⟩))) (hy : ev l y = some (.int k i)) (h0 : 0 ≤ i) (h1 : i < (len : Int)) (hp : off + i.toNat * size = p) : Run P n l w o (.pointer (some ⟨b, p, none⟩)) w := by
  intro a ha
  subst hp
  simp [execOp, ho, ha.eval hx, ha.eval hy, Instr.indexAt, run_underlying hu, asIntOf, Instr.sureAddr, sizeOf, typeInfo, hi, hz, add_of, h0, h1]

/-! ### Loads -/
theorem r_ld {sz : Nat} {p : Addr} (ho : o.op = .load t x) (ht : tyOf P t = some (false, sz)) (hx : ev l x = some (.pointer (some p))) (hc : w.cell? p = some v) : Run P n l w o v w := by
  intro a ha
  simp [execOp, ho, ha.eval hx, Instr.loadAt, Instr.sureAddr, loadVar, run_isAgg ht, hc]
theorem r_ldA {sz : Nat} {p : Addr} {cs : List Value} (ho : o.op = .load t x) (ht : tyOf P t = some (true, sz)) (hx : ev l x = some (.pointer (some p))) (hz : cs.length = sz) (hc : ∀ j v, cs[j]? = some v → w.cell? (p.add j) = some v) : Run P n l w o (.agg cs.toArray) w := by
  intro a ha
  have hl := run_loadCells_list (P := P) w p cs hc
  simp [execOp, ho, ha.eval hx, Instr.loadAt, Instr.sureAddr, loadVar, run_isAgg ht, run_sizeOf ht, ← hz, hl]

/-! ### Aggregates as values -/
theorem r_fdS {s : TypeId} {cs : Array Value} {k off sz : Nat} (ho : o.op = .field s x k) (hf : fdOf P s k = some (false, off, sz)) (hx : ev l x = some (.agg cs)) (hc : cs[off]? = some v) : Run P n l w o v w := by
  intro a ha
  unfold fdOf at hf
  split at hf
  · rename_i fs hu
    split at hf
    · rename_i f hk
      split at hf
      · rename_i b m ht
        simp only [Option.some.injEq, Prod.mk.injEq] at hf
        obtain ⟨rfl, rfl, rfl⟩ := hf
        simp [execOp, ho, ha.eval hx, Instr.field, run_underlying hu, hk, asAgg, part, run_isAgg ht, hc]
      · simp at hf
    · simp at hf
  · simp at hf
theorem r_fdA {s : TypeId} {cs ds : Array Value} {k off sz : Nat} (ho : o.op = .field s x k) (hf : fdOf P s k = some (true, off, sz)) (hx : ev l x = some (.agg cs)) (hc : cs.extract off (off + sz) = ds) : Run P n l w o (.agg ds) w := by
  intro a ha
  unfold fdOf at hf
  split at hf
  · rename_i fs hu
    split at hf
    · rename_i f hk
      split at hf
      · rename_i b m ht
        simp only [Option.some.injEq, Prod.mk.injEq] at hf
        obtain ⟨rfl, rfl, rfl⟩ := hf
        simp [execOp, ho, ha.eval hx, Instr.field, run_underlying hu, hk, asAgg, part, run_isAgg ht, run_sizeOf ht, hc]
      · simp at hf
    · simp at hf
  · simp at hf
theorem r_idxS {tt : TypeId} {s : ByteArray} {k : IntKind} {i : Int} {b : UInt8} (ho : o.op = .index tt x y) (ht : P.underlying tt = some .string) (hx : ev l x = some (.string s)) (hy : ev l y = some (.int k i)) (h0 : 0 ≤ i) (hb : s[i.toNat]? = some b) : Run P n l w o (.int .u8 (b.toNat : Int)) w := by
  intro a ha
  simp [execOp, ho, ha.eval hx, ha.eval hy, Instr.index, run_underlying ht, asIntOf, h0, hb]

/-! ### Cuts -/
theorem r_cutLo {tt e size bytes : TypeId} {b off m c : Nat} {k : IntKind} {i : Int} {p : Nat} (ho : o.op = .slice tt x (some y) none none) (hs : slOf P tt = some (e, size, bytes)) (hx : ev l x = some (.slice (some ⟨b, off, none⟩) m c)) (hy : ev l y = some (.int k i))
    (h0 : 0 ≤ i) (h1 : i ≤ (m : Int)) (hmc : m ≤ c) (hp : (if c = i.toNat then off else off + i.toNat * size) = p) : Run P n l w o (.slice (some ⟨b, p, none⟩) (m - i.toNat) (c - i.toNat)) w := by
  intro a ha
  obtain ⟨hu, inf, hi, hz, _⟩ := slOf_spec hs
  subst hp
  by_cases e1 : c = i.toNat <;> simp [execOp, ho, ha.eval hx, ha.eval hy, Instr.sliceAt, Instr.slice, Instr.sliceBounds, Instr.sliceBound, run_underlying hu, asIntOf, sizeOf, typeInfo, hi, hz, add_of, h0, h1, e1]
theorem r_cutHi {tt e size bytes : TypeId} {A : Option Addr} {m c : Nat} {k : IntKind} {i : Int} (ho : o.op = .slice tt x none (some y) none) (hs : slOf P tt = some (e, size, bytes)) (hx : ev l x = some (.slice A m c)) (hy : ev l y = some (.int k i))
    (h0 : 0 ≤ i) (h1 : i ≤ (c : Int)) : Run P n l w o (.slice A i.toNat c) w := by
  intro a ha
  obtain ⟨hu, inf, hi, hz, _⟩ := slOf_spec hs
  cases A with
  | none => simp [execOp, ho, ha.eval hx, ha.eval hy, Instr.sliceAt, Instr.slice, Instr.sliceBounds, Instr.sliceBound, run_underlying hu, asIntOf, sizeOf, typeInfo, hi, hz, h0, h1]
  | some p =>
    by_cases e1 : c = 0
    · subst e1
      obtain rfl : i = 0 := by omega
      simp [execOp, ho, ha.eval hx, ha.eval hy, Instr.sliceAt, Instr.slice, Instr.sliceBounds, Instr.sliceBound, run_underlying hu, asIntOf, sizeOf, typeInfo, hi, hz]
    · simp [execOp, ho, ha.eval hx, ha.eval hy, Instr.sliceAt, Instr.slice, Instr.sliceBounds, Instr.sliceBound, run_underlying hu, asIntOf, sizeOf, typeInfo, hi, hz, h0, h1, e1, Addr.add]

/-! ### Calls -/
def Known (P : Program) (f : FuncId) : Prop := ∀ args w, (callFunc f args).run P w = .ok (.enter f args) w
theorem known {f : FuncId} {fn : Func} (hf : P.funcs[f]? = some fn) (hn : (fn.name == "runtime.NumGoroutine") = false) (hb : fn.body.isNone = false) : Known P f := by
  intro args w
  unfold callFunc
  simp only [Sem.run_bind, run_program, Result.andThen_ok, hf, hn, hb]
  simp

theorem evals {a : Act} (ha : Fits n l a) : ∀ (xs : List Operand) (vs : List Value), xs.map (ev l) = vs.map some → xs.map a.eval = vs := by
  intro xs
  induction xs with
  | nil => intro vs h; cases vs <;> simp_all
  | cons x xs ih =>
    intro vs h
    cases vs with
    | nil => simp at h
    | cons v vs =>
      simp only [List.map_cons, List.cons.injEq] at h ⊢
      exact ⟨ha.eval h.1, ih vs h.2⟩

theorem e_fn {f : FuncId} {xs : List Operand} {vs : List Value} {ts : Array TypeId} (hk : Known P f) (ho : o.op = .call { callee := .value (.func f), args := xs.toArray, argTypes := ts }) (hx : xs.map (ev l) = vs.map some) : Enters P n l w o f vs.toArray := by
  intro a ha
  have := evals ha xs vs hx
  simp [execOp, ho, resolve, Act.eval, Deferred.ofValue, invoke, this, hk _ w]
/-- A function value: what it was made with stands ahead of the arguments, or behind. -/
theorem e_val {f : FuncId} {xs : List Operand} {vs : List Value} {fs cs : Array Value} {ts : Array TypeId} (hk : Known P f) (ho : o.op = .call { callee := .value x, args := xs.toArray, argTypes := ts }) (hf : ev l x = some (.func (.func f) fs cs)) (hx : xs.map (ev l) = vs.map some) : Enters P n l w o f (fs.toList ++ vs ++ cs.toList).toArray := by
  intro a ha
  have := evals ha xs vs hx
  have e : (fs.toList ++ vs ++ cs.toList).toArray = fs ++ vs.toArray ++ cs := by apply Array.toList_inj.1; simp
  rw [e]
  simp [execOp, ho, resolve, ha.eval hf, Deferred.ofValue, invoke, this, hk _ w]
end
end Go.Proofs.YtlpgdkbokakniaaGreatDoor.X
