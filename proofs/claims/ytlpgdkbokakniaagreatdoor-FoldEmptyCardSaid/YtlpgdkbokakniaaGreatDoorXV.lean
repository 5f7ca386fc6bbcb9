/- The machine that runs a program, in plain lists: values, what an instruction does, a run. No program in sight. -/
import Derived.Test.YtlpgdkbokakniaaGreatDoorXProg
import Derived.Test.YtlpgdkbokakniaaGreatDoorXC
set_option linter.unusedVariables false
namespace Go.Proofs.YtlpgdkbokakniaaGreatDoor.X
open Go

/-- A value: bytes if t, else a number. -/
structure Val where
  t : Bool
  n : Int
  b : ByteArray
def encVal (v : Val) : List Value := [.bool v.t, .int .i64 v.n, .string v.b]
def kVal : Kd Val := flat encVal 3 (by omega) (fun _ => rfl) (fun _ c h => by
  simp only [encVal, List.mem_cons, List.not_mem_nil, or_false] at h
  rcases h with rfl | rfl | rfl <;> rfl)
def nilB : ByteArray := ⟨#[]⟩
def vint (n : Int) : Val := ⟨false, n, ⟨#[]⟩⟩
def vtxt (s : ByteArray) : Val := ⟨true, 0, s⟩
def val0 : Val := ⟨false, 0, ⟨#[]⟩⟩
def OkV (v : Val) : Prop := In64 v.n ∧ v.b.size ≤ 64

def kindsS (op : Int) : ByteArray :=
  if op = 3 ∨ op = 4 ∨ op = 22 then ⟨#[101]⟩ else if op = 5 ∨ op = 12 then ⟨#[101, 101]⟩ else if op = 8 ∨ op = 9 ∨ op = 10 ∨ op = 11 then ⟨#[110, 110]⟩
  else if op = 13 ∨ op = 23 then ⟨#[98, 98]⟩ else if op = 14 ∨ op = 18 then ⟨#[98]⟩ else if op = 15 then ⟨#[98, 110]⟩ else if op = 16 then ⟨#[98, 110, 110]⟩ else if op = 17 ∨ op = 20 then ⟨#[110]⟩ else ⟨#[]⟩
def fitB (c : UInt8) (v : Val) : Bool := !((c == 110 && v.t) || (c == 98 && !v.t))
def fitsB : List UInt8 → List Val → Bool
  | c :: cs, v :: vs => fitB c v && fitsB cs vs
  | _, _ => true
/-- What an instruction needs: why not; what is left; what was taken. -/
def needsM (op : Int) (stk : List Val) : Int × List Val × List Val :=
  if stk.length < (kindsS op).size then (1, stk, [])
  else if fitsB (kindsS op).data.toList (stk.drop (stk.length - (kindsS op).size)) then (0, stk.take (stk.length - (kindsS op).size), stk.drop (stk.length - (kindsS op).size)) else (2, stk, [])
def bigV (v : Val) : Bool := v.t && decide (64 < v.b.size)
def pushM (stk vs : List Val) : Int × List Val :=
  if vs.any bigV then (4, stk) else if 16 < stk.length + vs.length then (1, stk) else (0, stk ++ vs)
def emitM (told : List Pair) (k v : ByteArray) : Int × List Pair :=
  if 16 < k.size then (4, told) else if 40 ≤ told.length then (5, told) else (0, told ++ [⟨k, v⟩])
def numM (op a b : Int) : Val := if op = 8 then vint (IntKind.i64.wrap (a + b)) else if op = 9 then vint (IntKind.i64.wrap (a - b)) else if op = 10 then vint (IntKind.i64.wrap (a * b)) else vint (if a < b then 1 else 0)
def oneV (b : Bool) : Val := vint (if b then 1 else 0)
def sameV (a b : Val) : Bool := if a.t then b.t && decide (a.b = b.b) else !b.t && decide (a.n = b.n)
def atS (s : ByteArray) (i : Int) : Int := if i < 0 ∨ (s.size : Int) ≤ i then -1 else ((s[i.toNat]?.getD 0).toNat : Int)
def cutS (s : ByteArray) (f t : Int) : ByteArray :=
  if min (max t 0) (s.size : Int) ≤ min (max f 0) (s.size : Int) then ⟨#[]⟩ else s.extract (min (max f 0) (s.size : Int)).toNat (min (max t 0) (s.size : Int)).toNat

/-- A run: where it is; is it halted; the stack; the registers; what was told; the values to come. -/
structure VM where
  pos : Int
  halted : Bool
  stk : List Val
  g : Nat → Val
  told : List Pair
  vals : List ByteArray
/-- What is told of numbers and their digits: by the library. -/
structure Dig where
  dig : Int → ByteArray
  num : ByteArray → Int

def setG (g : Nat → Val) (k : Nat) (v : Val) : Nat → Val := fun j => if j = k then v else g j
def pushV (m : VM) (vs : List Val) : VM × Int := ({m with stk := (pushM m.stk vs).2}, (pushM m.stk vs).1)
def nextM (m : VM) : VM × Int :=
  match m.vals with
  | [] => pushV m [vint 0]
  | v :: vs => pushV {m with vals := vs} [vtxt v, vint 1]
/-- An instruction, what it needs being taken. -/
def actM (D : Dig) (key : ByteArray) (m : VM) (i : Ins) (v : List Val) : VM × Int :=
  let v0 := v.getD 0 val0; let v1 := v.getD 1 val0; let v2 := v.getD 2 val0
  if i.op = 0 then ({m with halted := true}, 0)
  else if i.op = 1 then pushV m [vint i.a]
  else if i.op = 2 then pushV m [vtxt i.s]
  else if i.op = 3 then pushV m [v0, v0]
  else if i.op = 5 then pushV m [v1, v0]
  else if i.op = 6 then pushV m [vtxt key]
  else if i.op = 7 then nextM m
  else if i.op = 8 ∨ i.op = 9 ∨ i.op = 10 ∨ i.op = 11 then pushV m [numM i.op v0.n v1.n]
  else if i.op = 12 then pushV m [oneV (sameV v0 v1)]
  else if i.op = 13 then pushV m [vtxt (v0.b ++ v1.b)]
  else if i.op = 14 then pushV m [vint v0.b.size]
  else if i.op = 15 then pushV m [vint (atS v0.b v1.n)]
  else if i.op = 16 then pushV m [vtxt (cutS v0.b v1.n v2.n)]
  else if i.op = 17 then pushV m [vtxt (D.dig v0.n)]
  else if i.op = 18 then pushV m [vint (D.num v0.b)]
  else if i.op = 19 then ({m with pos := i.a}, 0)
  else if i.op = 20 then (if v0.n ≠ 0 then {m with pos := i.a} else m, 0)
  else if i.op = 21 then pushV m [m.g i.a.toNat]
  else if i.op = 22 then ({m with g := setG m.g i.a.toNat v0}, 0)
  else if i.op = 23 then ({m with told := (emitM m.told v0.b v1.b).2}, (emitM m.told v0.b v1.b).1)
  else (m, 0)
def doesM (D : Dig) (key : ByteArray) (m : VM) (i : Ins) : VM × Int :=
  if (needsM i.op m.stk).1 ≠ 0 then (m, (needsM i.op m.stk).1) else actM D key {m with stk := (needsM i.op m.stk).2.1} i (needsM i.op m.stk).2.2
def playM (D : Dig) (p : List Ins) (key : ByteArray) : Nat → VM → VM × Int
  | 0, m => if m.pos < p.length ∧ m.halted = false then (m, 3) else (m, 0)
  | n + 1, m =>
    if m.pos < p.length ∧ m.halted = false then
      match p[m.pos.toNat]? with
      | some i => if (doesM D key {m with pos := m.pos + 1} i).2 ≠ 0 then doesM D key {m with pos := m.pos + 1} i else playM D p key n (doesM D key {m with pos := m.pos + 1} i).1
      | none => (m, 0)
    else (m, 0)
def vm0 (vals : List ByteArray) : VM := ⟨0, false, [], fun _ => val0, [], vals⟩
def runM (D : Dig) (p : List Ins) (key : ByteArray) (vals : List ByteArray) (fuel : Int) : List Pair × Int :=
  if ¬ badI p < 0 ∨ fuel < 0 then ([], 2)
  else if (playM D p key (min fuel 2000).toNat (vm0 vals)).2 ≠ 0 then ([], (playM D p key (min fuel 2000).toNat (vm0 vals)).2) else ((playM D p key (min fuel 2000).toNat (vm0 vals)).1.told, 0)

/-! ### Facts -/
theorem wrap64 (x : Int) : In64 (IntKind.i64.wrap x) := by
  unfold In64
  simp only [IntKind.wrap, IntKind.bits, IntKind.signed]
  simp
  omega
theorem ok_num (op a b : Int) : OkV (numM op a b) := by
  unfold numM
  split
  · exact ⟨wrap64 _, (by decide : (⟨#[]⟩ : ByteArray).size ≤ 64)⟩
  · split
    · exact ⟨wrap64 _, (by decide : (⟨#[]⟩ : ByteArray).size ≤ 64)⟩
    · split
      · exact ⟨wrap64 _, (by decide : (⟨#[]⟩ : ByteArray).size ≤ 64)⟩
      · refine ⟨?_, (by decide : (⟨#[]⟩ : ByteArray).size ≤ 64)⟩
        show In64 (if a < b then 1 else 0)
        split <;> (unfold In64; omega)
def OkM (m : VM) : Prop := (∀ v ∈ m.stk, OkV v) ∧ (∀ k, OkV (m.g k)) ∧ m.stk.length ≤ 16 ∧ m.told.length ≤ 40 ∧ (∀ s ∈ m.vals, s.size ≤ 9223372036854775807)
def runC (pv : Value) (key : ByteArray) (vv : Value) (fuel pos steps : Int) (halted : Bool) (sv : Value) (g : Nat → Val) (tv mv : Value) : List Value :=
  [pv, .string key, vv, .int .i64 fuel, .int .i64 pos, .int .i64 steps, .bool halted, sv,
   .bool (g 0).t, .int .i64 (g 0).n, .string (g 0).b, .bool (g 1).t, .int .i64 (g 1).n, .string (g 1).b, .bool (g 2).t, .int .i64 (g 2).n, .string (g 2).b, .bool (g 3).t, .int .i64 (g 3).n, .string (g 3).b,
   .bool (g 4).t, .int .i64 (g 4).n, .string (g 4).b, .bool (g 5).t, .int .i64 (g 5).n, .string (g 5).b, .bool (g 6).t, .int .i64 (g 6).n, .string (g 6).b, .bool (g 7).t, .int .i64 (g 7).n, .string (g 7).b, tv, mv]
end Go.Proofs.YtlpgdkbokakniaaGreatDoor.X
