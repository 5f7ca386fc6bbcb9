/- MapperPushes: texts XV, XV2, XH, XT, XT2, XT3, XT4, XPair, XMer, XMer2, XProg2, XRec, XV3, XV4, XV5, XG, XE, XJob, XJob2, XCfg, XWin, XCode, XMpr, XByte, XOb, XMprI, F1, V1, V2, V3, V4, joined by a program of ours; what nothing names is left out. -/
import Derived.Test.YthgehekecfpikaaGreatDoorMapperPushesQ1
import Derived.WideLaws
import Derived.Sort.Walk0
import Derived.Defers
import Derived.Lib.LaidTab
import Derived.Lib.ItoaNum
import Derived.Lib.AppendIntMem
import Derived.KernelRfl
import Derived.Test.YthgehekecfpikaaGreatDoorShelf
set_option linter.unusedVariables false
set_option linter.unusedSimpArgs false
namespace Go.Proofs.YthgehekecfpikaaGreatDoor.X
open Go

structure Val where
 t : Bool
 n : Int
 b : ByteArray
def encVal (v : Val) : List Value := [.bool v.t, .int .i64 v.n, .string v.b]
def kVal : Kd Val := flat encVal 3 (by omega) (fun _ => rfl) (fun _ c h => by
 simp only [encVal, List.mem_cons, List.not_mem_nil, or_false] at h
 rcases h with rfl | rfl | rfl <;> rfl)
def vint (n : Int) : Val := ⟨false, n, ⟨#[]⟩⟩
def vtxt (s : ByteArray) : Val := ⟨true, 0, s⟩
def val0 : Val := ⟨false, 0, ⟨#[]⟩⟩
def OkV (v : Val) : Prop := In64 v.n ∧ v.b.size ≤ 64

def kindsS (op : Int) : ByteArray :=
 if op = 3 ∨ op = 4 ∨ op = 22 then ⟨#[101]⟩ else if op = 5 ∨ op = 12 then ⟨#[101, 101]⟩ else if op = 8 ∨ op = 9 ∨ op = 10 ∨ op = 11 then ⟨#[110, 110]⟩
 else if op = 13 ∨ op = 23 then ⟨#[98, 98]⟩ else if op = 14 ∨ op = 18 then ⟨#[98]⟩ else if op = 15 then ⟨#[98, 110]⟩ else if op = 16 then ⟨#[98, 110, 110]⟩ else if op = 17 ∨ op = 20 then ⟨#[110]⟩ else ⟨#[]⟩
def fitB (c : UInt8) (v : Val) : Bool := !((c == 110 && v.t) || (c == 98 && !v.t))
def fitsB : List UInt8 → List Val → Bool
 | c :: cs, v :: vs => fitB c v && fitsB cs vs
 | _, _ => true
def needsM (op : Int) (stk : List Val) : Int × List Val × List Val :=
 if stk.length < (kindsS op).size then (1, stk, [])
 else if fitsB (kindsS op).data.toList (stk.drop (stk.length - (kindsS op).size)) then (0, stk.take (stk.length - (kindsS op).size), stk.drop (stk.length - (kindsS op).size)) else (2, stk, [])
def bigV (v : Val) : Bool := v.t && decide (64 < v.b.size)
def pushM (stk vs : List Val) : Int × List Val :=
 if vs.any bigV then (4, stk) else if 16 < stk.length + vs.length then (1, stk) else (0, stk ++ vs)
def emitM (told : List Pair) (k v : ByteArray) : Int × List Pair :=
 if 16 < k.size then (4, told) else if 40 ≤ told.length then (5, told) else (0, told ++ [⟨k, v⟩])
def numM (op a b : Int) : Val := if op = 8 then vint (IntKind.i64.wrap (a + b)) else if op = 9 then vint (IntKind.i64.wrap (a - b)) else if op = 10 then vint (IntKind.i64.wrap (a * b)) else vint (if a < b then 1 else 0)
def oneV (b : Bool) : Val := vint (if b then 1 else 0)
def sameV (a b : Val) : Bool := if a.t then b.t && decide (a.b = b.b) else !b.t && decide (a.n = b.n)
def atS (s : ByteArray) (i : Int) : Int := if i < 0 ∨ (s.size : Int) ≤ i then -1 else ((s[i.toNat]?.getD 0).toNat : Int)
def cutS (s : ByteArray) (f t : Int) : ByteArray :=
 if min (max t 0) (s.size : Int) ≤ min (max f 0) (s.size : Int) then ⟨#[]⟩ else s.extract (min (max f 0) (s.size : Int)).toNat (min (max t 0) (s.size : Int)).toNat

structure VM where
 pos : Int
 halted : Bool
 stk : List Val
 g : Nat → Val
 told : List Pair
 vals : List ByteArray
structure Dig where
 dig : Int → ByteArray
 num : ByteArray → Int

def setG (g : Nat → Val) (k : Nat) (v : Val) : Nat → Val := fun j => if j = k then v else g j
def pushV (m : VM) (vs : List Val) : VM × Int := ({m with stk := (pushM m.stk vs).2}, (pushM m.stk vs).1)
def nextM (m : VM) : VM × Int :=
 match m.vals with
 | [] => pushV m [vint 0]
 | v :: vs => pushV {m with vals := vs} [vtxt v, vint 1]
def actM (D : Dig) (key : ByteArray) (m : VM) (i : Ins) (v : List Val) : VM × Int :=
 let v0 := v.getD 0 val0; let v1 := v.getD 1 val0; let v2 := v.getD 2 val0
 if i.op = 0 then ({m with halted := true}, 0)
 else if i.op = 1 then pushV m [vint i.a]
 else if i.op = 2 then pushV m [vtxt i.s]
 else if i.op = 3 then pushV m [v0, v0]
 else if i.op = 5 then pushV m [v1, v0]
 else if i.op = 6 then pushV m [vtxt key]
 else if i.op = 7 then nextM m
 else if i.op = 8 ∨ i.op = 9 ∨ i.op = 10 ∨ i.op = 11 then pushV m [numM i.op v0.n v1.n]
 else if i.op = 12 then pushV m [oneV (sameV v0 v1)]
 else if i.op = 13 then pushV m [vtxt (v0.b ++ v1.b)]
 else if i.op = 14 then pushV m [vint v0.b.size]
 else if i.op = 15 then pushV m [vint (atS v0.b v1.n)]
 else if i.op = 16 then pushV m [vtxt (cutS v0.b v1.n v2.n)]
 else if i.op = 17 then pushV m [vtxt (D.dig v0.n)]
 else if i.op = 18 then pushV m [vint (D.num v0.b)]
 else if i.op = 19 then ({m with pos := i.a}, 0)
 else if i.op = 20 then (if v0.n ≠ 0 then {m with pos := i.a} else m, 0)
 else if i.op = 21 then pushV m [m.g i.a.toNat]
 else if i.op = 22 then ({m with g := setG m.g i.a.toNat v0}, 0)
 else if i.op = 23 then ({m with told := (emitM m.told v0.b v1.b).2}, (emitM m.told v0.b v1.b).1)
 else (m, 0)
def doesM (D : Dig) (key : ByteArray) (m : VM) (i : Ins) : VM × Int :=
 if (needsM i.op m.stk).1 ≠ 0 then (m, (needsM i.op m.stk).1) else actM D key {m with stk := (needsM i.op m.stk).2.1} i (needsM i.op m.stk).2.2
def playM (D : Dig) (p : List Ins) (key : ByteArray) : Nat → VM → VM × Int
 | 0, m => if m.pos < p.length ∧ m.halted = false then (m, 3) else (m, 0)
 | n + 1, m =>
  if m.pos < p.length ∧ m.halted = false then
   match p[m.pos.toNat]? with
   | some i => if (doesM D key {m with pos := m.pos + 1} i).2 ≠ 0 then doesM D key {m with pos := m.pos + 1} i else playM D p key n (doesM D key {m with pos := m.pos + 1} i).1
   | none => (m, 0)
  else (m, 0)
def vm0 (vals : List ByteArray) : VM := ⟨0, false, [], fun _ => val0, [], vals⟩
def runM (D : Dig) (p : List Ins) (key : ByteArray) (vals : List ByteArray) (fuel : Int) : List Pair × Int :=
 if ¬ badI p < 0 ∨ fuel < 0 then ([], 2)
 else if (playM D p key (min fuel 2000).toNat (vm0 vals)).2 ≠ 0 then ([], (playM D p key (min fuel 2000).toNat (vm0 vals)).2) else ((playM D p key (min fuel 2000).toNat (vm0 vals)).1.told, 0)

/-! ### Facts -/
theorem wrap64 (x : Int) : In64 (IntKind.i64.wrap x) := by
 unfold In64
 simp only [IntKind.wrap, IntKind.bits, IntKind.signed]
 simp
 omega
theorem ok_num (op a b : Int) : OkV (numM op a b) := by
 unfold numM
 split
 ·exact ⟨wrap64 _, (by decide : (⟨#[]⟩ : ByteArray).size ≤ 64)⟩
 ·split
  ·exact ⟨wrap64 _, (by decide : (⟨#[]⟩ : ByteArray).size ≤ 64)⟩
  ·split
   ·exact ⟨wrap64 _, (by decide : (⟨#[]⟩ : ByteArray).size ≤ 64)⟩
   ·refine ⟨?_, (by decide : (⟨#[]⟩ : ByteArray).size ≤ 64)⟩
    show In64 (if a < b then 1 else 0)
    split <;> (unfold In64; omega)
def runC (pv : Value) (key : ByteArray) (vv : Value) (fuel pos steps : Int) (halted : Bool) (sv : Value) (g : Nat → Val) (tv mv : Value) : List Value :=
 [pv, .string key, vv, .int .i64 fuel, .int .i64 pos, .int .i64 steps, .bool halted, sv,
  .bool (g 0).t, .int .i64 (g 0).n, .string (g 0).b, .bool (g 1).t, .int .i64 (g 1).n, .string (g 1).b, .bool (g 2).t, .int .i64 (g 2).n, .string (g 2).b, .bool (g 3).t, .int .i64 (g 3).n, .string (g 3).b,
  .bool (g 4).t, .int .i64 (g 4).n, .string (g 4).b, .bool (g 5).t, .int .i64 (g 5).n, .string (g 5).b, .bool (g 6).t, .int .i64 (g 6).n, .string (g 6).b, .bool (g 7).t, .int .i64 (g 7).n, .string (g 7).b, tv, mv]

section
variable {P : Program} {fn : Func} {R : Ending → World → Prop} {n : Nat} {l : Env} {w w' : World} {v : Value} {t : TypeId}
theorem results_cell {s : Tmp} {sz : Nat} {p : Addr} {cs : List Value} {a : Act} (hr : fn.results = #[.cell s t]) (ha : Fits n l a) (hs : lk l s = some (.pointer (some p))) (ht : tyOf P t = some (true, sz)) (hz : cs.length = sz) (hc : ∀ j v, cs[j]? = some v → w.cell? (p.add j) = some v) : (results fn a.tmps).run P w = .ok (.agg cs.toArray) w := by
 have hl := run_loadCells_list (P := P) w p cs hc
 have hg := (ha.get s _ hs).1
 simp [results, hr]
 rw [← Array.getD_eq_getD_getElem?, hg]
 simp [asAddr, loadVar, run_isAgg ht, run_sizeOf ht, ← hz, hl]
theorem q_retC {s : Tmp} {sz : Nat} {p : Addr} {cs : List Value} (hr : fn.results = #[.cell s t]) (hs : lk l s = some (.pointer (some p))) (ht : tyOf P t = some (true, sz)) (hz : cs.length = sz) (hc : ∀ j v, cs[j]? = some v → w.cell? (p.add j) = some v) (h : R (.returned (.agg cs.toArray)) w) : WQ (bodyPost P fn R) .ret n l w :=
 fun a ha => bodyPost_ret (results_cell hr ha hs ht hz hc) ha.defers h
end
section
variable {P : Program} {n : Nat} {l : Env} {w w0 : World} {F0 : Foot} {o : Oper} {x y z : Operand} {t : TypeId} {As Rs : List SP}
theorem r_cutStr {tt : TypeId} {s : ByteArray} {k k' : IntKind} {i j : Int} {r : ByteArray} (ho : o.op = .slice tt x (some y) (some z) none) (ht : P.underlying tt = some .string) (hx : ev l x = some (.string s)) (hy : ev l y = some (.int k i)) (hz : ev l z = some (.int k' j))
  (h0 : 0 ≤ i) (h1 : i ≤ j) (h2 : j ≤ (s.size : Int)) (hr : s.extract i.toNat j.toNat = r) : Run P n l w o (.string r) w := by
 intro a ha
 have hb : (Instr.sliceBounds false s.size s.size (some (.int k i)) (some (.int k' j)) none).run P w = .ok (i.toNat, j.toNat, s.size) w := by
  have g0 : 0 ≤ j := by omega
  simp [Instr.sliceBounds, Instr.sliceBound, asIntOf, h0, h2, g0]
  intro hh
  omega
 simp [execOp, ho, ha.eval hx, ha.eval hy, ha.eval hz, Instr.sliceAt, Instr.slice, hb, run_underlying ht, ← hr]
theorem r_iaB {tt e : TypeId} {size len : Nat} {b off : Nat} {k : IntKind} {i : Int} {p : Nat} (ho : o.op = .indexAddr tt x y) (hu : P.underlying tt = some (.array len e)) (hi : (P.info? e).map (·.size) = some size)
  (hx : ev l x = some (.pointer (some ⟨b, off, none⟩))) (hy : ev l y = some (.int k i)) (h0 : 0 ≤ i) (h1 : i < (len : Int)) (hp : off + i.toNat * size = p) : Run P n l w o (.pointer (some ⟨b, p, none⟩)) w := by
 obtain ⟨inf, h2, h3⟩ := Option.map_eq_some_iff.1 hi
 exact r_iaA ho hu h2 h3 hx hy h0 h1 hp
theorem r_ine {t' : TypeId} {u : Value} {b : Bool} (ho : o.op = .binOp .neq t x (.const .nilIface) t') (ht : P.underlying t = some (.interface (P.methodsAt t))) (hx : ev l x = some u) (hu : (u = .nilIface ∧ b = false) ∨ (∃ te pe, u = .iface te pe ∧ b = true)) : Run P n l w o (.bool b) w := by
 intro a ha
 have hc : a.eval (.const .nilIface) = .nilIface := rfl
 rcases hu with ⟨rfl, rfl⟩ | ⟨te, pe, rfl, rfl⟩
 ·have h := run_equal_nil_nil (P := P) w t ht
  simp [execOp, ho, ha.eval hx, hc, eqGuard, binOp, h]
 ·have h := run_equal_held_nil (P := P) w t te pe ht
  simp [execOp, ho, ha.eval hx, hc, eqGuard, binOp, h]
theorem r_unsafe {src dst e : TypeId} {p : Addr} {v : Value} (ho : o.op = .convert src dst x) (hs : P.underlying src = some (.pointer e)) (hd : P.underlying dst = some .unsafePointer) (hz : (P.info? e).map (fun i => decide (i.size = 0)) = some false) (hx : ev l x = some (.pointer (some p))) (hc : w.cell? p = some v) : Run P n l w o (.pointer (some p)) w := by
 intro a ha
 simp [execOp, ho, ha.eval hx, run_convert_to_unsafe hs hd hz hc]
theorem osl_pre {α : Type} {d : Kd α} {F : Foot} {A : Option Addr} {m c : Nat} {xs : List α} (h : (osl d (.slice A m c) xs).P w F) {i : Nat} (hi : i ≤ m) : (osl d (.slice A i c) (xs.take i)).P w F := by
 obtain ⟨A', m', c', e, hl, cs, F1, F2, s1, s2, dj, ⟨r1, r2, r3, r4⟩, hrep⟩ := h
 simp only [List.cons.injEq, Value.slice.injEq, and_true] at e
 obtain ⟨rfl, rfl, rfl⟩ := e
 refine ⟨A, i, c, rfl, by rw [List.length_take]; omega, cs.take (i * d.sz), F1, F2, s1, s2, dj, ⟨by omega, r2, ?_, ?_⟩, hrep.take i⟩
 ·rw [List.length_take, r3]
  exact Nat.min_eq_left (Nat.mul_le_mul_right _ hi)
 ·rcases r4 with h0 | ⟨b, C, t, e, hb, hh, hs, ht⟩
  ·exact .inl h0
  ·refine .inr ⟨b, C, t, e, hb, hh, hs, ?_⟩
   rw [← ht, List.take_take, Nat.min_eq_left (Nat.mul_le_mul_right _ hi)]
theorem Hd.preO {α : Type} {d : Kd α} {A : Option Addr} {m c : Nat} {xs : List α} (H : Hd w0 F0 w (osl d (.slice A m c) xs :: As) Rs) (i : Nat) (hi : i ≤ m) : Hd w0 F0 w (osl d (.slice A i c) (xs.take i) :: As) Rs := H.turn fun _ h => osl_pre h hi
end
section
variable {w w0 : World} {F0 : Foot} {As Rs : List SP} {α : Type} {enc : α → List Value} {sz : Nat} {hp : 0 < sz} {hl : ∀ x, (enc x).length = sz} {h1 : ∀ x, ∀ c ∈ enc x, c.oneCell' = true} {xs : List α} {A : Option Addr} {m c : Nat}
theorem Hd.thX (H : Hd w0 F0 w As Rs) (hS : ∀ F, (∀ A ∈ As, A.P w F) → (∀ R ∈ Rs, R.P w F) → (rsl (flat enc sz hp hl h1) (.slice A m c) xs).P w F) {i : Nat} {x : α} (hx : xs[i]? = some x) : There A := H.read fun F hA hR => flat_there (hS F hA hR) hx
theorem Hd.elX (H : Hd w0 F0 w As Rs) (hS : ∀ F, (∀ A ∈ As, A.P w F) → (∀ R ∈ Rs, R.P w F) → (rsl (flat enc sz hp hl h1) (.slice A m c) xs).P w F) {i : Nat} {x : α} (hx : xs[i]? = some x) {q p : Nat} {u : Value} (hu : (enc x)[q]? = some u) (hpj : oOf A + i * sz + q = p) : w.cell? ⟨bOf A, p, none⟩ = some u :=
 H.read fun F hA hR => flat_cell (hS F hA hR) hx hu hpj
theorem Hd.elsX (H : Hd w0 F0 w As Rs) (hS : ∀ F, (∀ A ∈ As, A.P w F) → (∀ R ∈ Rs, R.P w F) → (rsl (flat enc sz hp hl h1) (.slice A m c) xs).P w F) {i : Nat} {x : α} (hx : xs[i]? = some x) {p : Nat} (hpj : oOf A + i * sz = p) : ∀ q v, (enc x)[q]? = some v → w.cell? ((⟨bOf A, p, none⟩ : Addr).add q) = some v := by
 intro q v hq
 rw [add_of]
 exact H.elX hS hx hq (by rw [hpj])
end
section
variable {pv : Value} {key : ByteArray} {vv : Value} {fuel pos steps : Int} {halted : Bool} {sv : Value} {g : Nat → Val} {tv mv : Value}
theorem lt8 {k : Nat} (h : k < 8) : k = 0 ∨ k = 1 ∨ k = 2 ∨ k = 3 ∨ k = 4 ∨ k = 5 ∨ k = 6 ∨ k = 7 := by omega
theorem runC_reg {k : Nat} (h : k < 8) : (((runC pv key vv fuel pos steps halted sv g tv mv).drop (8 + k * 3)).take 3) = encVal (g k) := by
 rcases lt8 h with rfl | rfl | rfl | rfl | rfl | rfl | rfl | rfl <;> rfl
theorem runC_set {k : Nat} (h : k < 8) (v : Val) : puts (runC pv key vv fuel pos steps halted sv g tv mv) (8 + k * 3) (encVal v) = runC pv key vv fuel pos steps halted sv (setG g k v) tv mv := by
 rcases lt8 h with rfl | rfl | rfl | rfl | rfl | rfl | rfl | rfl <;> rfl
end

def kHd {α : Type} (d : Kd α) : Kd (Value × List α) where
 sz := 1
 O w F x cs := cs = [x.1] ∧ (kSl d).O w F x.2 [x.1]
 R w F x cs := cs = [x.1] ∧ (kSl d).R w F x.2 [x.1]
 O_loc h hk := ⟨h.1, (kSl d).O_loc h.2 hk⟩
 O_mono h hk := ⟨h.1, (kSl d).O_mono h.2 hk⟩
 R_loc h hk := ⟨h.1, (kSl d).R_loc h.2 hk⟩
 R_mono h hk := ⟨h.1, (kSl d).R_mono h.2 hk⟩
 O_R h := ⟨h.1, (kSl d).O_R h.2⟩
 len h := by rw [h.1]; rfl
 one h := fun c hc => (kSl d).one h.2 c (h.1 ▸ hc)
 pos := Nat.one_pos

section
variable {w w0 : World} {F F0 : Foot} {As Rs : List SP} {α : Type} {d : Kd α} {A : Option Addr} {m c : Nat} {us : List (Value × List α)}

theorem hd_at (h : (rsl (kHd d) (.slice A m c) us).P w F) {i : Nat} {x : Value × List α} (hx : us[i]? = some x) :
  There A ∧ w.cell? ⟨bOf A, oOf A + i * 1, none⟩ = some x.1 ∧ (rsl d x.1 x.2).P w F := by
 obtain ⟨b, off, cs, e, hl, hc, h1, h2⟩ := rsl_at h hx
 subst h1 e
 exact ⟨rfl, hc 0 x.1 rfl, h2⟩
theorem nest_rsl (h : (rsl (kHd d) (.slice A m c) us).P w F) {i : Nat} {u : Value} {x : List α} (hx : us[i]? = some (u, x)) : (rsl d u x).P w F := (hd_at h hx).2.2
theorem Hd.thRd (H : Hd w0 F0 w As Rs) (j : Nat) (hj : Rs[j]? = some (rsl (kHd d) (.slice A m c) us)) {i : Nat} {x : Value × List α} (hx : us[i]? = some x) : There A := H.factR (List.mem_of_getElem? hj) fun _ h => (hd_at h hx).1
theorem Hd.elRd (H : Hd w0 F0 w As Rs) (j : Nat) (hj : Rs[j]? = some (rsl (kHd d) (.slice A m c) us)) {i : Nat} {u : Value} {x : List α} (hx : us[i]? = some (u, x)) {p : Nat} (hp : oOf A + i * 1 = p) : w.cell? ⟨bOf A, p, none⟩ = some u := by
 subst hp
 exact H.factR (List.mem_of_getElem? hj) fun _ h => (hd_at h hx).2.1
theorem Hd.nestR (H : Hd w0 F0 w As Rs) (j : Nat) (hj : Rs[j]? = some (rsl (kHd d) (.slice A m c) us)) {i : Nat} {u : Value} {x : List α} (hx : us[i]? = some (u, x)) : ∃ A' c', u = .slice A' x.length c' ∧ x.length ≤ c' ∧ c' ≤ 9223372036854775807 := by
 refine H.factR (List.mem_of_getElem? hj) fun _ h => ?_
 obtain ⟨A', c', e, h1, h2, _⟩ := rsl_form (nest_rsl h hx)
 exact ⟨A', c', e, h1, h2⟩
theorem Hd.pickR (is : List Nat) (H : Hd w0 F0 w As Rs) : Hd w0 F0 w As (is.filterMap fun i => Rs[i]?) := H.subR fun R hR => by
 obtain ⟨i, _, hi⟩ := List.mem_filterMap.1 hR
 exact List.mem_of_getElem? hi
theorem Hd.dropR {R : SP} (H : Hd w0 F0 w As (R :: Rs)) : Hd w0 F0 w As Rs := H.subR fun _ hR => List.mem_cons_of_mem _ hR
theorem Hd.dupR {R : SP} (H : Hd w0 F0 w As Rs) (j : Nat) (hj : Rs[j]? = some R) : Hd w0 F0 w As (R :: Rs) := H.addR fun _ h => h _ (List.mem_of_getElem? hj)
theorem reps_heads : ∀ {xs : List (List α)} {cs : List Value}, RepsR (kSl d) w F xs cs → ∃ us : List (Value × List α), us.map (·.2) = xs ∧ RepsR (kHd d) w F us cs
 | [], _, h => ⟨[], rfl, h⟩
 | x :: xs, _, ⟨c, cs', e, h1, h2⟩ => by
  obtain ⟨us, rfl, hu⟩ := reps_heads h2
  obtain ⟨A', n', c', rfl, h3⟩ := h1
  exact ⟨(.slice A' n' c', x) :: us, rfl, _, _, e, ⟨rfl, _, _, _, rfl, h3⟩, hu⟩
theorem Hd.heads {v : Value} {xs : List (List α)} (H : Hd w0 F0 w As Rs) (j : Nat) (hj : Rs[j]? = some (rsl (kSl d) v xs)) : ∃ us : List (Value × List α), us.map (·.2) = xs ∧ Hd w0 F0 w As (rsl (kHd d) v us :: Rs) := by
 obtain ⟨F, G, s, r, dj, f, g, u⟩ := H
 obtain ⟨A', n', c', e, h1, h2, h3, cs, h4, h5⟩ := r _ (List.mem_of_getElem? hj)
 obtain ⟨us, rfl, hu⟩ := reps_heads h5
 refine ⟨us, rfl, F, G, s, ?_, dj, f, g, u⟩
 intro R hR
 cases hR with
 | head => exact ⟨A', n', c', e, by rw [← h1, List.length_map], h2, h3, cs, h4, hu⟩
 | tail _ hm => exact r R hm
end

section
variable {P : Program} {ops : Array Oper} {Q : Exit → Act → World → Prop} {rest : List Oper} {n : Nat} {l : Env} {w0 w : World} {F0 : Foot} {o : Oper} {As Rs : List SP} {x y : Operand} {t : TypeId}

end

theorem ltS_lt (a b : ByteArray) : ltS a b = decide (a.data.toList < b.data.toList) := Proofs.bytesLess_eq _ _
theorem ltS_irrefl (a : ByteArray) : ltS a a = false := by
 rw [ltS_lt]
 exact decide_eq_false (List.lt_irrefl _)
theorem ltS_trans {a b c : ByteArray} (h1 : ltS a b = true) (h2 : ltS b c = true) : ltS a c = true := by
 rw [ltS_lt] at *
 exact decide_eq_true (List.lt_trans (of_decide_eq_true h1) (of_decide_eq_true h2))
theorem ltS_asymm {a b : ByteArray} (h1 : ltS a b = true) : ltS b a = false := by
 cases h : ltS b a with
 | false => rfl
 | true => have := ltS_trans h1 h; rw [ltS_irrefl] at this; cases this
theorem ltS_eq {a b : ByteArray} (h1 : ltS a b = false) (h2 : ltS b a = false) : a = b := by
 rw [ltS_lt] at *
 have h1 := of_decide_eq_false h1
 have h2 := of_decide_eq_false h2
 exact toList_inj (List.le_antisymm h2 h1)
theorem leS_trans {a b c : ByteArray} (h1 : ltS b a = false) (h2 : ltS c b = false) : ltS c a = false := by
 cases h : ltS c a with
 | false => rfl
 | true =>
  cases h3 : ltS a b with
  | true => have := ltS_trans h h3; rw [this] at h2; cases h2
  | false =>
   have := ltS_eq h3 h1
   subst this
   rw [h] at h2
   cases h2
theorem ltS_le {a b c : ByteArray} (h1 : ltS a b = true) (h2 : ltS c b = false) : ltS a c = true := by
 cases h : ltS a c with
 | true => rfl
 | false => have := leS_trans h2 h; rw [this] at h1; cases h1
theorem le_ltS {a b c : ByteArray} (h1 : ltS b a = false) (h2 : ltS b c = true) : ltS a c = true := by
 cases h : ltS a c with
 | true => rfl
 | false => have := leS_trans h h1; rw [this] at h2; cases h2

def Stab (xs ys : List Pair) : Prop := xs.length = ys.length ∧ ∀ k : ByteArray, xs.filter (fun p => decide (p.key = k)) = ys.filter (fun p => decide (p.key = k))
theorem Stab.refl (xs : List Pair) : Stab xs xs := ⟨rfl, fun _ => rfl⟩
theorem Stab.trans {xs ys zs : List Pair} (h1 : Stab xs ys) (h2 : Stab ys zs) : Stab xs zs := ⟨h1.1.trans h2.1, fun k => (h1.2 k).trans (h2.2 k)⟩
theorem Stab.symm {xs ys : List Pair} (h1 : Stab xs ys) : Stab ys xs := ⟨h1.1.symm, fun k => (h1.2 k).symm⟩
theorem Stab.append {a b c d : List Pair} (h1 : Stab a b) (h2 : Stab c d) : Stab (a ++ c) (b ++ d) :=
 ⟨by rw [List.length_append, List.length_append, h1.1, h2.1], fun k => by rw [List.filter_append, List.filter_append, h1.2, h2.2]⟩
theorem Stab.mem {xs ys : List Pair} (h : Stab xs ys) {p : Pair} (hp : p ∈ xs) : p ∈ ys := by
 have : p ∈ xs.filter (fun q => decide (q.key = p.key)) := List.mem_filter.2 ⟨hp, by simp⟩
 rw [h.2] at this
 exact (List.mem_filter.1 this).1
def Ord (xs : List Pair) : Prop := xs.Pairwise fun p q => ltS q.key p.key = false
instance (xs : List Pair) : Decidable (Ord xs) := by unfold Ord; infer_instance

def ins (p : Pair) : List Pair → List Pair
 | [] => [p]
 | q :: l => if ltS q.key p.key = true then q :: ins p l else p :: q :: l
def srt : List Pair → List Pair
 | [] => []
 | p :: l => ins p (srt l)
theorem ins_mem {p q : Pair} : ∀ {l : List Pair}, q ∈ ins p l ↔ q = p ∨ q ∈ l
 | [] => by simp [ins]
 | r :: l => by
  unfold ins
  split
  ·rw [List.mem_cons, ins_mem, List.mem_cons]
   constructor <;> (rintro (h | h | h) <;> simp [h])
  ·simp
theorem ins_ord {p : Pair} : ∀ {l : List Pair}, Ord l → Ord (ins p l)
 | [], _ => by simp [ins, Ord]
 | q :: l, h => by
  have h' := List.pairwise_cons.1 h
  unfold ins
  split
  ·rename_i hlt
   refine List.pairwise_cons.2 ⟨fun r hr => ?_, ins_ord h'.2⟩
   rcases ins_mem.1 hr with rfl | hr
   ·exact ltS_asymm hlt
   ·exact h'.1 r hr
  ·rename_i hlt
   have hlt : ltS q.key p.key = false := by simpa using hlt
   refine List.pairwise_cons.2 ⟨fun r hr => ?_, h⟩
   rcases List.mem_cons.1 hr with rfl | hr
   ·exact hlt
   ·exact leS_trans hlt (h'.1 r hr)
theorem ins_stab {p : Pair} : ∀ {l : List Pair}, Stab (p :: l) (ins p l)
 | [] => Stab.refl _
 | q :: l => by
  unfold ins
  split
  ·rename_i hlt
   have hne : p.key ≠ q.key := fun e => by rw [e, ltS_irrefl] at hlt; cases hlt
   have h1 : Stab (p :: q :: l) (q :: p :: l) := by
    refine ⟨by simp, fun k => ?_⟩
    by_cases hp : p.key = k
    ·have : ¬ q.key = k := fun e => hne (hp.trans e.symm)
     simp [hp, this]
    ·simp [List.filter_cons, hp]
   exact h1.trans (Stab.append (Stab.refl [q]) (ins_stab (p := p) (l := l)))
  ·exact Stab.refl _
theorem srt_ord : ∀ l : List Pair, Ord (srt l)
 | [] => List.Pairwise.nil
 | _ :: l => ins_ord (srt_ord l)
theorem srt_stab : ∀ l : List Pair, Stab l (srt l)
 | [] => Stab.refl _
 | p :: l => (Stab.append (Stab.refl [p]) (srt_stab l)).trans ins_stab
theorem ord_one : ∀ {xs ys : List Pair}, Ord xs → Ord ys → Stab xs ys → xs = ys
 | [], ys, _, _, h => (List.eq_nil_of_length_eq_zero h.1.symm).symm
 | x :: xs, [], _, _, h => by cases h.1
 | x :: xs, y :: ys, hx, hy, h => by
  have hx' := List.pairwise_cons.1 hx
  have hy' := List.pairwise_cons.1 hy
  have hk : x.key = y.key := by
   refine ltS_eq ?_ ?_
   ·rcases List.mem_cons.1 (h.mem (List.mem_cons_self ..) : x ∈ y :: ys) with e | hm
    ·rw [e, ltS_irrefl]
    ·exact hy'.1 x hm
   ·rcases List.mem_cons.1 (h.symm.mem (List.mem_cons_self ..) : y ∈ x :: xs) with e | hm
    ·rw [e, ltS_irrefl]
    ·exact hx'.1 y hm
  have he := h.2 x.key
  rw [List.filter_cons_of_pos (by simp), List.filter_cons_of_pos (by simp [hk])] at he
  obtain ⟨rfl, _⟩ := List.cons.inj he
  rw [ord_one hx'.2 hy'.2 ⟨by simpa using h.1, fun k => ?_⟩]
  have hk2 := h.2 k
  by_cases hxk : x.key = k
  ·rw [List.filter_cons_of_pos (by simp [hxk]), List.filter_cons_of_pos (by simp [hxk])] at hk2
   exact (List.cons.inj hk2).2
  ·rw [List.filter_cons_of_neg (by simp [hxk]), List.filter_cons_of_neg (by simp [hxk])] at hk2
   exact hk2
theorem srt_of {xs ys : List Pair} (h : Stab xs ys) (ho : Ord ys) : ys = srt xs := ord_one ho (srt_ord xs) (h.symm.trans (srt_stab xs))
theorem srt_len (xs : List Pair) : (srt xs).length = xs.length := (srt_stab xs).1.symm

def Via (xs ys : List Pair) (f : Nat → Nat) : Prop := ys.length = xs.length ∧ ∀ t, ys[t]? = xs[f t]?
def swapI (a b n t : Nat) : Nat := if a ≤ t ∧ t < a + n then t + (b - a) else if b ≤ t ∧ t < b + n then t - (b - a) else t
def rotI (a m b t : Nat) : Nat := if a ≤ t ∧ t < a + (b - m) then t + (m - a) else if a + (b - m) ≤ t ∧ t < b then t - (b - m) else t

theorem via_refl (xs : List Pair) {f : Nat → Nat} (h : ∀ t, f t = t) : Via xs xs f := ⟨rfl, fun t => by rw [h]⟩
theorem via_set2 {xs ys : List Pair} {a b k : Nat} {x y : Pair} (hab : a + k < b) (h : Via xs ys (swapI a b k)) (hx : ys[a + k]? = some x) (hy : ys[b + k]? = some y) :
  Via xs ((ys.set (a + k) y).set (b + k) x) (swapI a b (k + 1)) := by
 have l1 : a + k < ys.length := (List.getElem?_eq_some_iff.1 hx).1
 have l2 : b + k < ys.length := (List.getElem?_eq_some_iff.1 hy).1
 refine ⟨by simpa using h.1, fun t => ?_⟩
 rw [List.getElem?_set, List.getElem?_set]
 have hx' := h.2 (a + k)
 have hy' := h.2 (b + k)
 rw [hx] at hx'
 rw [hy] at hy'
 by_cases h1 : b + k = t
 ·subst h1
  rw [if_pos rfl, if_pos (by simpa using l2), hx']
  congr 1
  unfold swapI
  rw [if_neg (by omega), if_neg (by omega), if_neg (by omega), if_pos (by omega)]
  omega
 ·rw [if_neg h1]
  by_cases h2 : a + k = t
  ·subst h2
   rw [if_pos rfl, if_pos l1, hy']
   congr 1
   unfold swapI
   rw [if_neg (by omega), if_neg (by omega), if_pos (by omega)]
   omega
  ·rw [if_neg h2, h.2]
   congr 1
   unfold swapI
   repeat' split
   all_goals omega
theorem rot_gt {xs ys : List Pair} {m i j : Nat} (him : i ≤ m) (hj : j < i) (h : Via xs ys (swapI (m - i) m j)) : ∀ t, xs[rotI (m - i) m (m + j) t]? = ys[rotI (m - (i - j)) m (m + j) t]? := by
 intro t
 rw [h.2]
 congr 1
 unfold rotI swapI
 repeat' split
 all_goals omega
theorem rot_lt {xs ys : List Pair} {m i j : Nat} (him : i ≤ m) (hj : i < j) (h : Via xs ys (swapI (m - i) (m + j - i) i)) : ∀ t, xs[rotI (m - i) m (m + j) t]? = ys[rotI (m - i) m (m + (j - i)) t]? := by
 intro t
 rw [h.2]
 congr 1
 unfold rotI swapI
 repeat' split
 all_goals omega
theorem rot_eq {m i t : Nat} (him : i ≤ m) : rotI (m - i) m (m + i) t = swapI (m - i) m i t := by
 unfold rotI swapI
 repeat' split
 all_goals omega

theorem via_list {xs ys : List Pair} {a m b : Nat} (h : Via xs ys (rotI a m b)) (h1 : a ≤ m) (h2 : m ≤ b) (h3 : b ≤ xs.length) :
  ys = xs.take a ++ ((xs.drop m).take (b - m) ++ ((xs.drop a).take (m - a) ++ xs.drop b)) := by
 apply List.ext_getElem?
 intro t
 rw [h.2]
 unfold rotI
 by_cases c1 : t < a
 ·rw [if_neg (by omega), if_neg (by omega), List.getElem?_append_left (by simp; omega), List.getElem?_take, if_pos c1]
 rw [List.getElem?_append_right (by simp; omega)]
 have e1 : (xs.take a).length = a := by simp; omega
 rw [e1]
 by_cases c2 : t < a + (b - m)
 ·rw [if_pos (by omega), List.getElem?_append_left (by simp; omega), List.getElem?_take, if_pos (by omega), List.getElem?_drop]
  congr 1
  omega
 rw [List.getElem?_append_right (by simp; omega), if_neg (by omega)]
 have e2 : ((xs.drop m).take (b - m)).length = b - m := by simp; omega
 rw [e2]
 by_cases c3 : t < b
 ·rw [if_pos (by omega), List.getElem?_append_left (by simp; omega), List.getElem?_take, if_pos (by omega), List.getElem?_drop]
  congr 1
  omega
 rw [List.getElem?_append_right (by simp; omega), if_neg (by omega)]
 have e3 : ((xs.drop a).take (m - a)).length = m - a := by simp; omega
 rw [e3, List.getElem?_drop]
 congr 1
 omega
theorem cut4 {xs : List Pair} {a m b : Nat} (h1 : a ≤ m) (h2 : m ≤ b) : xs = xs.take a ++ ((xs.drop a).take (m - a) ++ ((xs.drop m).take (b - m) ++ xs.drop b)) := by
 have e1 : (xs.drop m).take (b - m) ++ xs.drop b = xs.drop m := by
  have := List.take_append_drop (b - m) (xs.drop m)
  rwa [List.drop_drop, show m + (b - m) = b by omega] at this
 have e2 : (xs.drop a).take (m - a) ++ xs.drop m = xs.drop a := by
  have := List.take_append_drop (m - a) (xs.drop a)
  rwa [List.drop_drop, show a + (m - a) = m by omega] at this
 rw [e1, e2, List.take_append_drop]
theorem rot_stab {xs ys : List Pair} {a m b : Nat} (h : Via xs ys (rotI a m b)) (h1 : a ≤ m) (h2 : m ≤ b) (h3 : b ≤ xs.length)
  (hne : ∀ p q x y, a ≤ p → p < m → m ≤ q → q < b → xs[p]? = some x → xs[q]? = some y → x.key ≠ y.key) : Stab xs ys := by
 refine ⟨h.1.symm, fun k => ?_⟩
 rw [via_list h h1 h2 h3]
 conv => lhs; rw [cut4 (xs := xs) h1 h2]
 simp only [List.filter_append]
 congr 1
 rw [← List.append_assoc, ← List.append_assoc]
 congr 1
 by_cases hk : ∃ x ∈ (xs.drop a).take (m - a), x.key = k
 ·obtain ⟨x, hx, hxk⟩ := hk
  obtain ⟨p, hp⟩ := List.getElem?_of_mem hx
  have hpl : p < m - a := by
   have := (List.getElem?_eq_some_iff.1 hp).1
   simp at this
   omega
  rw [List.getElem?_take, if_pos hpl, List.getElem?_drop] at hp
  have : (((xs.drop m).take (b - m)).filter fun p => decide (p.key = k)) = [] := by
   rw [List.filter_eq_nil_iff]
   intro y hy
   obtain ⟨q, hq⟩ := List.getElem?_of_mem hy
   have hql : q < b - m := by
    have := (List.getElem?_eq_some_iff.1 hq).1
    simp at this
    omega
   rw [List.getElem?_take, if_pos hql, List.getElem?_drop] at hq
   have := hne (a + p) (m + q) x y (by omega) (by omega) (by omega) (by omega) hp hq
   simp only [decide_eq_true_eq]
   exact fun e => this (hxk.trans e.symm)
  rw [this, List.append_nil, List.nil_append]
 ·have : (((xs.drop a).take (m - a)).filter fun p => decide (p.key = k)) = [] := by
   rw [List.filter_eq_nil_iff]
   intro x hx
   simp only [decide_eq_true_eq]
   exact fun e => hk ⟨x, hx, e⟩
  rw [this, List.append_nil, List.nil_append]

def SrtI (xs : List Pair) (a b : Nat) : Prop := ∀ p q x y, a ≤ p → p < q → q < b → xs[p]? = some x → xs[q]? = some y → ltS y.key x.key = false
def InI (xs ys : List Pair) (a b : Nat) : Prop := ys.length = xs.length ∧ (∀ t, t < a ∨ b ≤ t → ys[t]? = xs[t]?) ∧ ∀ t, a ≤ t → t < b → ∃ u, a ≤ u ∧ u < b ∧ ys[t]? = xs[u]?
theorem InI.refl (xs : List Pair) (a b : Nat) : InI xs xs a b := ⟨rfl, fun _ _ => rfl, fun t h1 h2 => ⟨t, h1, h2, rfl⟩⟩
theorem InI.trans {xs ys zs : List Pair} {a b : Nat} (h1 : InI xs ys a b) (h2 : InI ys zs a b) : InI xs zs a b := by
 refine ⟨h2.1.trans h1.1, fun t ht => (h2.2.1 t ht).trans (h1.2.1 t ht), fun t ha hb => ?_⟩
 obtain ⟨u, u1, u2, e⟩ := h2.2.2 t ha hb
 obtain ⟨u', u1', u2', e'⟩ := h1.2.2 u u1 u2
 exact ⟨u', u1', u2', e.trans e'⟩
theorem InI.wider {xs ys : List Pair} {a b a' b' : Nat} (h : InI xs ys a b) (ha : a' ≤ a) (hb : b ≤ b') : InI xs ys a' b' := by
 refine ⟨h.1, fun t ht => h.2.1 t (by omega), fun t h1 h2 => ?_⟩
 by_cases c : a ≤ t ∧ t < b
 ·obtain ⟨u, u1, u2, e⟩ := h.2.2 t c.1 c.2
  exact ⟨u, by omega, by omega, e⟩
 ·exact ⟨t, h1, h2, h.2.1 t (by omega)⟩
theorem rot_in {xs ys : List Pair} {a m b : Nat} (h : Via xs ys (rotI a m b)) (h1 : a ≤ m) (h2 : m ≤ b) : InI xs ys a b := by
 refine ⟨h.1, fun t ht => ?_, fun t ha hb => ⟨rotI a m b t, ?_, ?_, h.2 t⟩⟩
 ·rw [h.2, show rotI a m b t = t by unfold rotI; rw [if_neg (by omega), if_neg (by omega)]]
 ·unfold rotI; split <;> (try split) <;> omega
 ·unfold rotI; split <;> (try split) <;> omega
theorem SrtI.same {xs ys : List Pair} {a b : Nat} (h : SrtI xs a b) (he : ∀ t, a ≤ t → t < b → ys[t]? = xs[t]?) : SrtI ys a b :=
 fun p q x y h1 h2 h3 hx hy => h p q x y h1 h2 h3 ((he p h1 (by omega)).symm.trans hx) ((he q (by omega) h3).symm.trans hy)
theorem SrtI.sub {xs : List Pair} {a b a' b' : Nat} (h : SrtI xs a b) (ha : a ≤ a') (hb : b' ≤ b) : SrtI xs a' b' :=
 fun p q x y h1 h2 h3 => h p q x y (by omega) h2 (by omega)
theorem SrtI.one (xs : List Pair) {a b : Nat} (h : b ≤ a + 1) : SrtI xs a b := fun p q x y h1 h2 h3 => by omega
theorem SrtI.ord {xs : List Pair} (h : SrtI xs 0 xs.length) : Ord xs := by
 unfold Ord
 rw [List.pairwise_iff_getElem]
 intro i j hi hj hij
 exact h i j _ _ (by omega) hij hj (List.getElem?_eq_getElem hi) (List.getElem?_eq_getElem hj)

structure Sorts (xs ys : List Pair) (a b : Nat) : Prop where
 stab : Stab xs ys
 ins : InI xs ys a b
 srt : SrtI ys a b

theorem swap_stab {xs : List Pair} {j : Nat} {x y : Pair} (hx : xs[j]? = some x) (hy : xs[j + 1]? = some y) (hlt : ltS y.key x.key = true) : Stab xs ((xs.set (j + 1) x).set j y) ∧ InI xs ((xs.set (j + 1) x).set j y) j (j + 2) := by
 have l1 : j + 1 < xs.length := (List.getElem?_eq_some_iff.1 hy).1
 have hv : Via xs ((xs.set (j + 1) x).set j y) (rotI j (j + 1) (j + 2)) := by
  refine ⟨by simp, fun t => ?_⟩
  rw [List.getElem?_set, List.getElem?_set]
  unfold rotI
  by_cases c1 : j = t
  ·subst c1
   rw [if_pos rfl, if_pos (by simp; omega), if_pos (by omega), show j + (j + 1 - j) = j + 1 by omega, hy]
  ·rw [if_neg c1]
   by_cases c2 : j + 1 = t
   ·subst c2
    rw [if_pos rfl, if_pos l1, if_neg (by omega), if_pos (by omega), show j + 1 - (j + 2 - (j + 1)) = j by omega, hx]
   ·rw [if_neg c2, if_neg (by omega), if_neg (by omega)]
 refine ⟨rot_stab hv (by omega) (by omega) (by omega) fun p q u v h1 h2 h3 h4 hu hw => ?_, rot_in hv (by omega) (by omega)⟩
 obtain rfl : p = j := by omega
 obtain rfl : q = p + 1 := by omega
 rw [hx] at hu
 rw [hy] at hw
 obtain rfl := Option.some.inj hu
 obtain rfl := Option.some.inj hw
 intro e
 rw [e, ltS_irrefl] at hlt
 cases hlt

def ButI (xs : List Pair) (a b j : Nat) : Prop := ∀ p q x y, a ≤ p → p < q → q < b → q ≠ j → xs[p]? = some x → xs[q]? = some y → ltS y.key x.key = false
theorem but_start {xs : List Pair} {a i : Nat} (h : SrtI xs a i) : ButI xs a (i + 1) i := fun p q x y h1 h2 h3 h4 => h p q x y h1 h2 (by omega)
theorem but_low {xs : List Pair} {a b : Nat} (h : ButI xs a b a) : SrtI xs a b := fun p q x y h1 h2 h3 => h p q x y h1 h2 h3 (by omega)
theorem but_stop {xs : List Pair} {a b j : Nat} {x y : Pair} (h : ButI xs a b (j + 1)) (ha : a ≤ j) (hx : xs[j]? = some x) (hy : xs[j + 1]? = some y) (hlt : ltS y.key x.key = false) : SrtI xs a b := by
 intro p q u v h1 h2 h3 hu hv
 by_cases c : q = j + 1
 ·subst c
  rw [hy] at hv
  obtain rfl := Option.some.inj hv
  by_cases c2 : p = j
  ·subst c2
   rw [hx] at hu
   obtain rfl := Option.some.inj hu
   exact hlt
  ·exact leS_trans (h p j u x h1 (by omega) (by omega) (by omega) hu hx) hlt
 ·exact h p q u v h1 h2 h3 c hu hv
theorem but_step {xs : List Pair} {a b j : Nat} {x y : Pair} (h : ButI xs a b (j + 1)) (ha : a ≤ j) (hx : xs[j]? = some x) (hy : xs[j + 1]? = some y) (hlt : ltS y.key x.key = true) (hb : j + 1 < b) : ButI ((xs.set (j + 1) x).set j y) a b j := by
 have l1 : j + 1 < xs.length := (List.getElem?_eq_some_iff.1 hy).1
 have g : ∀ t u, ((xs.set (j + 1) x).set j y)[t]? = some u → (t = j ∧ u = y) ∨ (t = j + 1 ∧ u = x) ∨ (t ≠ j ∧ t ≠ j + 1 ∧ xs[t]? = some u) := by
  intro t u ht
  rw [List.getElem?_set, List.getElem?_set] at ht
  by_cases c1 : j = t
  ·rw [if_pos c1, if_pos (by simp; omega)] at ht
   exact .inl ⟨c1.symm, (Option.some.inj ht).symm⟩
  ·rw [if_neg c1] at ht
   by_cases c2 : j + 1 = t
   ·rw [if_pos c2, if_pos l1] at ht
    exact .inr (.inl ⟨c2.symm, (Option.some.inj ht).symm⟩)
   ·rw [if_neg c2] at ht
    exact .inr (.inr ⟨Ne.symm c1, Ne.symm c2, ht⟩)
 intro p q u v h1 h2 h3 h4 hu hv
 rcases g q v hv with ⟨rfl, _⟩ | ⟨rfl, rfl⟩ | ⟨q1, q2, hq⟩
 ·exact absurd rfl h4
 ·rcases g p u hu with ⟨rfl, rfl⟩ | ⟨rfl, _⟩ | ⟨p1, p2, hp⟩
  ·exact ltS_asymm hlt
  ·omega
  ·exact h p j u v h1 (by omega) (by omega) (by omega) hp hx
 ·rcases g p u hu with ⟨rfl, rfl⟩ | ⟨rfl, rfl⟩ | ⟨p1, p2, hp⟩
  ·exact h (p + 1) q u v (by omega) (by omega) h3 q2 hy hq
  ·exact h j q u v (by omega) (by omega) h3 q2 hx hq
  ·exact h p q u v h1 h2 h3 q2 hp hq

theorem SrtI.le {xs : List Pair} {a b p q : Nat} {x y : Pair} (h : SrtI xs a b) (h1 : a ≤ p) (h2 : p ≤ q) (h3 : q < b) (hx : xs[p]? = some x) (hy : xs[q]? = some y) : ltS y.key x.key = false := by
 rcases Nat.lt_or_ge p q with h' | h'
 ·exact h p q x y h1 h' h3 hx hy
 ·obtain rfl : p = q := by omega
  rw [hx] at hy
  obtain rfl := Option.some.inj hy
  exact ltS_irrefl _

theorem rot_runs {xs ys : List Pair} {a m b s mid e : Nat} (hv : Via xs ys (rotI s m e)) (h1 : a ≤ s) (h2 : s ≤ m) (h3 : m ≤ e) (h4 : e ≤ b) (hmid : mid = s + (e - m)) (hl : SrtI xs a m) (hr : SrtI xs m b) :
  SrtI ys a s ∧ SrtI ys s mid ∧ SrtI ys mid e ∧ SrtI ys e b := by
 subst hmid
 refine ⟨?_, ?_, ?_, ?_⟩
 ·refine (hl.sub (Nat.le_refl _) h2).same fun t ht1 ht2 => ?_
  rw [hv.2, show rotI s m e t = t by unfold rotI; rw [if_neg (by omega), if_neg (by omega)]]
 ·intro p q x y p1 p2 p3 hx hy
  rw [hv.2, show rotI s m e p = p + (m - s) by unfold rotI; rw [if_pos (by omega)]] at hx
  rw [hv.2, show rotI s m e q = q + (m - s) by unfold rotI; rw [if_pos (by omega)]] at hy
  exact hr _ _ x y (by omega) (by omega) (by omega) hx hy
 ·intro p q x y p1 p2 p3 hx hy
  rw [hv.2, show rotI s m e p = p - (e - m) by unfold rotI; rw [if_neg (by omega), if_pos (by omega)]] at hx
  rw [hv.2, show rotI s m e q = q - (e - m) by unfold rotI; rw [if_neg (by omega), if_pos (by omega)]] at hy
  exact hl _ _ x y (by omega) (by omega) (by omega) hx hy
 ·refine (hr.sub h3 (Nat.le_refl _)).same fun t ht1 ht2 => ?_
  rw [hv.2, show rotI s m e t = t by unfold rotI; rw [if_neg (by omega), if_neg (by omega)]]

theorem Sorts.refl {xs : List Pair} {a b : Nat} (h : SrtI xs a b) : Sorts xs xs a b := ⟨Stab.refl _, InI.refl _ _ _, h⟩
theorem runs_skip {xs : List Pair} {a s mid : Nat} (h1 : SrtI xs a s) (h2 : SrtI xs s mid) (h : ¬ (a < s ∧ s < mid)) (hs : a ≤ s) : SrtI xs a mid := by
 rcases Nat.lt_or_ge a s with c | c
 ·exact h1.sub (Nat.le_refl _) (by omega)
 ·exact h2.sub (by omega) (Nat.le_refl _)

theorem merge_parts {xs ys zs ws : List Pair} {a m b s mid e : Nat} (hv : Via xs ys (rotI s m e)) (h1 : a ≤ s) (h2 : s ≤ m) (h3 : m ≤ e) (h4 : e ≤ b) (hb : b ≤ xs.length) (hmid : mid = s + (e - m)) (hl : SrtI xs a m) (hr : SrtI xs m b)
  (hlow : s = a ∨ e = b ∨ ∃ u v, xs[s - 1]? = some u ∧ xs[e]? = some v ∧ ltS v.key u.key = false)
  (hup : s = m ∨ e = m ∨ ∃ u v, xs[e - 1]? = some u ∧ xs[s]? = some v ∧ ltS u.key v.key = true)
  (hz : Sorts ys zs a mid) (hw : Sorts zs ws mid b) : Sorts xs ws a b := by
 have hkey : ∀ p q x y, s ≤ p → p < m → m ≤ q → q < e → xs[p]? = some x → xs[q]? = some y → ltS y.key x.key = true := by
  intro p q x y p1 p2 q1 q2 hx hy
  rcases hup with c | c | ⟨u, v, hu, hv', hlt⟩
  ·omega
  ·omega
  ·exact ltS_le (le_ltS (hr.le (p := q) (q := e - 1) q1 (by omega) (by omega) hy hu) hlt) (hl.le (p := s) (q := p) h1 p1 p2 hv' hx)
 have s1 : Stab xs ys := rot_stab hv h2 h3 (by omega) fun p q x y p1 p2 q1 q2 hx hy e => by
  have := hkey p q x y p1 p2 q1 q2 hx hy
  rw [e, ltS_irrefl] at this
  cases this
 have i1 : InI xs ys a b := (rot_in hv h2 h3).wider h1 h4
 have hm1 : s ≤ mid := by omega
 have hm2 : mid ≤ e := by omega
 refine ⟨s1.trans (hz.stab.trans hw.stab), i1.trans ((hz.ins.wider (Nat.le_refl _) (by omega)).trans (hw.ins.wider (by omega) (Nat.le_refl _))), fun p q x y p1 p2 p3 hx hy => ?_⟩
 rcases Nat.lt_or_ge q mid with c | c
 ·rw [hw.ins.2.1 p (by omega)] at hx
  rw [hw.ins.2.1 q (by omega)] at hy
  exact hz.srt p q x y p1 p2 c hx hy
 rcases Nat.lt_or_ge p mid with c' | c'
 ·rw [hw.ins.2.1 p (by omega)] at hx
  obtain ⟨u, u1, u2, hu⟩ := hz.ins.2.2 p p1 c'
  rw [hx] at hu
  obtain ⟨t, t1, t2, ht⟩ := hw.ins.2.2 q c p3
  rw [hy, hz.ins.2.1 t (by omega)] at ht
  -- the pair at u of ys is x, the pair at t of ys is y
  have hxu := hv.2 u
  have hyt := hv.2 t
  rw [← hu] at hxu
  rw [← ht] at hyt
  rcases Nat.lt_or_ge u s with cu | cu
  ·rw [show rotI s m e u = u by unfold rotI; rw [if_neg (by omega), if_neg (by omega)]] at hxu
   rcases Nat.lt_or_ge t e with ct | ct
   ·rw [show rotI s m e t = t - (e - m) by unfold rotI; rw [if_neg (by omega), if_pos (by omega)]] at hyt
    exact hl u _ x y u1 (by omega) (by omega) hxu.symm hyt.symm
   ·rw [show rotI s m e t = t by unfold rotI; rw [if_neg (by omega), if_neg (by omega)]] at hyt
    rcases hlow with d | d | ⟨u', v', hu', hv', hlt⟩
    ·omega
    ·omega
    ·exact leS_trans (hl.le (p := u) (q := s - 1) u1 (by omega) (by omega) hxu.symm hu') (leS_trans hlt (hr.le (p := e) (q := t) h3 ct t2 hv' hyt.symm))
  ·rw [show rotI s m e u = u + (m - s) by unfold rotI; rw [if_pos (by omega)]] at hxu
   rcases Nat.lt_or_ge t e with ct | ct
   ·rw [show rotI s m e t = t - (e - m) by unfold rotI; rw [if_neg (by omega), if_pos (by omega)]] at hyt
    exact ltS_asymm (hkey _ _ y x (by omega) (by omega) (by omega) (by omega) hyt.symm hxu.symm)
   ·rw [show rotI s m e t = t by unfold rotI; rw [if_neg (by omega), if_neg (by omega)]] at hyt
    exact hr _ t x y (by omega) (by omega) t2 hxu.symm hyt.symm
 ·exact hw.srt p q x y c' p2 p3 hx hy

theorem merge_left {xs ys : List Pair} {a b i : Nat} {x : Pair} (hv : Via xs ys (rotI a (a + 1) i)) (h1 : a + 1 ≤ i) (h2 : i ≤ b) (hb : b ≤ xs.length) (hr : SrtI xs (a + 1) b) (hx : xs[a]? = some x)
  (hlow : i = a + 1 ∨ ∃ u, xs[i - 1]? = some u ∧ ltS u.key x.key = true) (hup : i = b ∨ ∃ u, xs[i]? = some u ∧ ltS u.key x.key = false) : Sorts xs ys a b := by
 have hruns := rot_runs hv (Nat.le_refl a) (by omega) h1 h2 rfl (SrtI.one xs (Nat.le_refl _)) hr
 have e1 : a + (i - (a + 1)) = i - 1 := by omega
 rw [e1] at hruns
 -- low: nothing stands below a; up: what stands below i is below x
 have hs : Sorts ys ys a (i - 1) := Sorts.refl hruns.2.1
 have hyx : ys[i - 1]? = some x := by rw [hv.2, show rotI a (a + 1) i (i - 1) = a by unfold rotI; rw [if_neg (by omega), if_pos (by omega)]; omega, hx]
 have hw : Sorts ys ys (i - 1) b := by
  refine Sorts.refl fun p q u v p1 p2 p3 hu hw => ?_
  rcases Nat.lt_or_ge p i with c | c
  ·obtain rfl : p = i - 1 := by omega
   rw [hyx] at hu
   obtain rfl := Option.some.inj hu
   rw [hv.2, show rotI a (a + 1) i q = q by unfold rotI; rw [if_neg (by omega), if_neg (by omega)]] at hw
   rcases hup with d | ⟨u', hu', hlt⟩
   ·omega
   ·exact leS_trans hlt (hr.le (p := i) (q := q) h1 (by omega) p3 hu' hw)
  ·exact hruns.2.2.2 p q u v c p2 p3 hu hw
 refine merge_parts hv (Nat.le_refl _) (by omega) h1 h2 hb e1.symm (SrtI.one xs (Nat.le_refl _)) hr (.inl rfl) ?_ hs hw
 rcases hlow with d | ⟨u, hu, hlt⟩
 ·exact .inr (.inl d)
 ·exact .inr (.inr ⟨u, x, hu, hx, hlt⟩)

theorem merge_right {xs ys : List Pair} {a m i : Nat} {x : Pair} (hv : Via xs ys (rotI i m (m + 1))) (h1 : a ≤ i) (h2 : i ≤ m) (hb : m + 1 ≤ xs.length) (hl : SrtI xs a m) (hx : xs[m]? = some x)
  (hlow : i = a ∨ ∃ u, xs[i - 1]? = some u ∧ ltS x.key u.key = false) (hup : i = m ∨ ∃ u, xs[i]? = some u ∧ ltS x.key u.key = true) : Sorts xs ys a (m + 1) := by
 have hruns := rot_runs hv h1 h2 (by omega) (Nat.le_refl _) rfl hl (SrtI.one xs (by omega))
 have e1 : i + (m + 1 - m) = i + 1 := by omega
 rw [e1] at hruns
 have hyx : ys[i]? = some x := by rw [hv.2, show rotI i m (m + 1) i = m by unfold rotI; rw [if_pos (by omega)]; omega, hx]
 have hs : Sorts ys ys a (i + 1) := by
  refine Sorts.refl fun p q u v p1 p2 p3 hu hw => ?_
  rcases Nat.lt_or_ge q i with c | c
  ·exact hruns.1 p q u v p1 p2 c hu hw
  ·obtain rfl : q = i := by omega
   rw [hyx] at hw
   obtain rfl := Option.some.inj hw
   rw [hv.2, show rotI q m (m + 1) p = p by unfold rotI; rw [if_neg (by omega), if_neg (by omega)]] at hu
   rcases hlow with d | ⟨u', hu', hlt⟩
   ·omega
   ·exact leS_trans (hl.le (p := p) (q := q - 1) p1 (by omega) (by omega) hu hu') hlt
 have hw : Sorts ys ys (i + 1) (m + 1) := Sorts.refl hruns.2.2.1
 refine merge_parts hv h1 h2 (by omega) (Nat.le_refl _) hb e1.symm hl (SrtI.one xs (by omega)) (.inr (.inl rfl)) ?_ hs hw
 rcases hup with d | ⟨u, hu, hlt⟩
 ·exact .inl d
 ·exact .inr (.inr ⟨x, u, by rw [show m + 1 - 1 = m by omega]; exact hx, hu, hlt⟩)

theorem half_u64 (n : Nat) : ((n : Nat) : Int).fdiv (2 ^ (min (1 : Int).toNat IntKind.u64.bits)) = ((n / 2 : Nat) : Int) := by
 have : (2 : Int) ^ (min (1 : Int).toNat IntKind.u64.bits) = 2 := by decide
 rw [this, Int.fdiv_eq_ediv_of_nonneg _ (by omega)]
 omega
def cmpK (a b : ByteArray) : Int := if ltS a b = true then -1 else if ltS b a = true then 1 else 0
theorem cmpK_lt {a b : ByteArray} (h : ltS a b = true) : cmpK a b = -1 := if_pos h
theorem cmpK_gt {a b : ByteArray} (h : ¬ ltS a b = true) (h2 : (!(ltS a b || decide (a = b))) = true) : cmpK a b = 1 := by
 unfold cmpK
 rw [if_neg h, if_pos]
 cases h3 : ltS b a with
 | true => rfl
 | false =>
  have := ltS_eq (by simpa using h) h3
  subst this
  simp at h2
theorem cmpK_eq {a b : ByteArray} (h : ¬ ltS a b = true) (h2 : (!(ltS a b || decide (a = b))) = false) : cmpK a b = 0 := by
 have h' : ltS a b = false := by simpa using h
 have : a = b := by simpa [h'] using h2
 subst this
 unfold cmpK
 rw [if_neg h, if_neg h]
theorem cmpK_neg {a b : ByteArray} : cmpK a b < 0 ↔ ltS a b = true := by
 unfold cmpK
 by_cases h : ltS a b = true
 ·simp [h]
 ·rw [if_neg h]
  by_cases h2 : ltS b a = true
  ·rw [if_pos h2]; simp [h]
  ·rw [if_neg h2]; simp [h]
theorem cmpK_nneg {a b : ByteArray} (h : ¬ cmpK a b < 0) : ltS a b = false := by
 cases h2 : ltS a b with
 | false => rfl
 | true => exact absurd (cmpK_neg.2 h2) h

theorem swap_stab' {xs : List Pair} {j : Nat} {x y : Pair} (hj : 0 < j) (hx : xs[j - 1]? = some x) (hy : xs[j]? = some y) (hlt : ltS y.key x.key = true) : Stab xs ((xs.set j x).set (j - 1) y) ∧ InI xs ((xs.set j x).set (j - 1) y) (j - 1) (j + 1) := by
 obtain ⟨i, rfl⟩ : ∃ i, j = i + 1 := ⟨j - 1, by omega⟩
 exact swap_stab hx hy hlt
theorem but_stop' {xs : List Pair} {a b j : Nat} {x y : Pair} (h : ButI xs a b j) (hj : a < j) (hx : xs[j - 1]? = some x) (hy : xs[j]? = some y) (hlt : ltS y.key x.key = false) : SrtI xs a b := by
 obtain ⟨i, rfl⟩ : ∃ i, j = i + 1 := ⟨j - 1, by omega⟩
 exact but_stop h (by omega) hx hy hlt
theorem but_step' {xs : List Pair} {a b j : Nat} {x y : Pair} (h : ButI xs a b j) (hj : a < j) (hx : xs[j - 1]? = some x) (hy : xs[j]? = some y) (hlt : ltS y.key x.key = true) (hb : j < b) : ButI ((xs.set j x).set (j - 1) y) a b (j - 1) := by
 obtain ⟨i, rfl⟩ : ∃ i, j = i + 1 := ⟨j - 1, by omega⟩
 exact but_step h (by omega) hx hy hlt (by omega)

theorem via_up {xs ys : List Pair} {a k : Nat} {x y : Pair} (hk : a ≤ k) (h : Via xs ys (rotI a (a + 1) (k + 1))) (hx : ys[k]? = some x) (hy : ys[k + 1]? = some y) : Via xs ((ys.set k y).set (k + 1) x) (rotI a (a + 1) (k + 1 + 1)) := by
 have l1 : k < ys.length := (List.getElem?_eq_some_iff.1 hx).1
 have l2 : k + 1 < ys.length := (List.getElem?_eq_some_iff.1 hy).1
 refine ⟨by simpa using h.1, fun t => ?_⟩
 rw [List.getElem?_set, List.getElem?_set]
 have hx' := h.2 k
 have hy' := h.2 (k + 1)
 rw [hx] at hx'
 rw [hy] at hy'
 by_cases c1 : k + 1 = t
 ·subst c1
  rw [if_pos rfl, if_pos (by simpa using l2), hx']
  congr 1
  unfold rotI
  repeat' split
  all_goals omega
 ·rw [if_neg c1]
  by_cases c2 : k = t
  ·subst c2
   rw [if_pos rfl, if_pos l1, hy']
   congr 1
   unfold rotI
   repeat' split
   all_goals omega
  ·rw [if_neg c2, h.2]
   congr 1
   unfold rotI
   repeat' split
   all_goals omega
theorem via_down {xs ys : List Pair} {m k : Nat} {x y : Pair} (hk : k ≤ m) (h0 : 0 < k) (h : Via xs ys (rotI k m (m + 1))) (hx : ys[k]? = some x) (hy : ys[k - 1]? = some y) : Via xs ((ys.set k y).set (k - 1) x) (rotI (k - 1) m (m + 1)) := by
 have l1 : k < ys.length := (List.getElem?_eq_some_iff.1 hx).1
 have l2 : k - 1 < ys.length := (List.getElem?_eq_some_iff.1 hy).1
 refine ⟨by simpa using h.1, fun t => ?_⟩
 rw [List.getElem?_set, List.getElem?_set]
 have hx' := h.2 k
 have hy' := h.2 (k - 1)
 rw [hx] at hx'
 rw [hy] at hy'
 by_cases c1 : k - 1 = t
 ·subst c1
  rw [if_pos rfl, if_pos (by simpa using l2), hx']
  congr 1
  unfold rotI
  repeat' split
  all_goals omega
 ·rw [if_neg c1]
  by_cases c2 : k = t
  ·subst c2
   rw [if_pos rfl, if_pos l1, hy']
   congr 1
   unfold rotI
   repeat' split
   all_goals omega
  ·rw [if_neg c2, h.2]
   congr 1
   unfold rotI
   repeat' split
   all_goals omega
theorem via_one (xs : List Pair) (a : Nat) : Via xs xs (rotI a (a + 1) (a + 1)) := via_refl xs fun t => by
 unfold rotI
 repeat' split
 all_goals omega
theorem via_one' (xs : List Pair) (m : Nat) : Via xs xs (rotI m m (m + 1)) := via_refl xs fun t => by
 unfold rotI
 repeat' split
 all_goals omega
theorem via_none (xs : List Pair) {s m e : Nat} (h : ¬ (s < m ∧ m < e)) (h1 : s ≤ m) (h2 : m ≤ e) : Via xs xs (rotI s m e) := via_refl xs fun t => by
 unfold rotI
 repeat' split
 all_goals omega

theorem via_up' {xs ys : List Pair} {a m k : Nat} {x y : Pair} (hm : m = a + 1) (hk : a ≤ k) (h : Via xs ys (rotI a m (k + 1))) (hx : ys[k]? = some x) (hy : ys[k + 1]? = some y) : Via xs ((ys.set k y).set (k + 1) x) (rotI a m (k + 1 + 1)) := by
 subst hm
 exact via_up hk h hx hy
theorem via_down' {xs ys : List Pair} {m b k : Nat} {x y : Pair} (hb : b = m + 1) (hk : k ≤ m) (h0 : 0 < k) (h : Via xs ys (rotI k m b)) (hx : ys[k]? = some x) (hy : ys[k - 1]? = some y) : Via xs ((ys.set k y).set (k - 1) x) (rotI (k - 1) m b) := by
 subst hb
 exact via_down hk h0 h hx hy
theorem merge_left' {xs ys : List Pair} {a m b i : Nat} {x : Pair} (hm : m = a + 1) (hv : Via xs ys (rotI a m i)) (h1 : m ≤ i) (h2 : i ≤ b) (hb : b ≤ xs.length) (hr : SrtI xs m b) (hx : xs[a]? = some x)
  (hlow : i = m ∨ ∃ u, xs[i - 1]? = some u ∧ ltS u.key x.key = true) (hup : i = b ∨ ∃ u, xs[i]? = some u ∧ ltS u.key x.key = false) : Sorts xs ys a b := by
 subst hm
 exact merge_left hv h1 h2 hb hr hx hlow hup
theorem merge_right' {xs ys : List Pair} {a m b i : Nat} {x : Pair} (hm : b = m + 1) (hv : Via xs ys (rotI i m b)) (h1 : a ≤ i) (h2 : i ≤ m) (hb : b ≤ xs.length) (hl : SrtI xs a m) (hx : xs[m]? = some x)
  (hlow : i = a ∨ ∃ u, xs[i - 1]? = some u ∧ ltS x.key u.key = false) (hup : i = m ∨ ∃ u, xs[i]? = some u ∧ ltS x.key u.key = true) : Sorts xs ys a b := by
 subst hm
 exact merge_right hv h1 h2 hb hl hx hlow hup

def BlkS (xs : List Pair) (lo hi bs : Nat) : Prop := ∀ p q x y, lo ≤ p → p < q → q < hi → p / bs = q / bs → xs[p]? = some x → xs[q]? = some y → ltS y.key x.key = false
theorem div_at {c bs p : Nat} (h1 : c * bs ≤ p) (h2 : p < (c + 1) * bs) : p / bs = c := Nat.div_eq_of_lt_le h1 h2
theorem BlkS.at {xs : List Pair} {lo hi bs c a b : Nat} (h : BlkS xs lo hi bs) (ha : a = c * bs) (hlo : lo ≤ a) (hb : b ≤ a + bs) (hh : b ≤ hi) : SrtI xs a b := by
 intro p q x y p1 p2 p3 hx hy
 refine h p q x y (by omega) p2 (by omega) ?_ hx hy
 have : (c + 1) * bs = c * bs + bs := Nat.succ_mul c bs
 rw [div_at (c := c) (by omega) (by omega), div_at (c := c) (by omega) (by omega)]
theorem BlkS.more {xs ys : List Pair} {bs c a b : Nat} (h : BlkS xs 0 a bs) (ha : a = c * bs) (hb : b ≤ a + bs) (hi : InI xs ys a b) (hs : SrtI ys a b) : BlkS ys 0 b bs := by
 intro p q x y p1 p2 p3 hd hx hy
 have e1 : (c + 1) * bs = c * bs + bs := Nat.succ_mul c bs
 rcases Nat.lt_or_ge p a with c1 | c1
 ·rcases Nat.lt_or_ge q a with c2 | c2
  ·rw [hi.2.1 p (by omega)] at hx
   rw [hi.2.1 q (by omega)] at hy
   exact h p q x y p1 p2 c2 hd hx hy
  ·exfalso
   have hq : q / bs = c := div_at (by omega) (by omega)
   have hbs : 0 < bs := by omega
   have : p / bs < c := (Nat.div_lt_iff_lt_mul hbs).2 (by omega)
   omega
 ·exact hs p q x y c1 p2 p3 hx hy
theorem BlkS.same {xs ys : List Pair} {lo hi bs lo' : Nat} (h : BlkS xs lo hi bs) (hl : lo ≤ lo') (he : ∀ t, lo' ≤ t → ys[t]? = xs[t]?) : BlkS ys lo' hi bs := by
 intro p q x y p1 p2 p3 hd hx hy
 rw [he p (by omega)] at hx
 rw [he q (by omega)] at hy
 exact h p q x y (by omega) p2 p3 hd hx hy
theorem BlkS.nil (xs : List Pair) (bs : Nat) : BlkS xs 0 0 bs := fun p q x y p1 p2 p3 => by omega
theorem BlkS.all {xs : List Pair} {n bs : Nat} (h : BlkS xs 0 n bs) (hn : n ≤ bs) : SrtI xs 0 n := by
 intro p q x y p1 p2 p3 hx hy
 refine h p q x y p1 p2 p3 ?_ hx hy
 rw [Nat.div_eq_of_lt (by omega), Nat.div_eq_of_lt (by omega)]
theorem blk_two {zs : List Pair} {a n bs : Nat} (h : BlkS zs a n bs) (hc : ∃ c, a = c * (2 * bs)) (hn : a + bs ≤ n) : SrtI zs a (a + bs) ∧ ∀ b, b ≤ a + 2 * bs → b ≤ n → SrtI zs (a + bs) b := by
 obtain ⟨c, rfl⟩ := hc
 have e : c * (2 * bs) = (2 * c) * bs := by rw [← Nat.mul_assoc, Nat.mul_comm c 2]
 have e2 : (2 * c + 1) * bs = (2 * c) * bs + bs := Nat.succ_mul _ _
 refine ⟨h.at (c := 2 * c) e (Nat.le_refl _) (Nat.le_refl _) hn, fun b h1 h2 => h.at (c := 2 * c + 1) (by omega) (by omega) (by omega) h2⟩
theorem blk_rest {zs : List Pair} {a n bs : Nat} (h : BlkS zs a n bs) (hc : ∃ c, a = c * (2 * bs)) (hn : n ≤ a + bs) : SrtI zs a n := by
 obtain ⟨c, rfl⟩ := hc
 exact h.at (c := 2 * c) (by rw [← Nat.mul_assoc, Nat.mul_comm c 2]) (Nat.le_refl _) hn (Nat.le_refl _)
theorem blk_next {zs ws : List Pair} {a b bs : Nat} (h : BlkS zs 0 a (2 * bs)) (hc : ∃ c, a = c * (2 * bs)) (hb : b ≤ a + 2 * bs) (hs : Sorts zs ws a b) : BlkS ws 0 b (2 * bs) := by
 obtain ⟨c, hc⟩ := hc
 exact h.more hc hb hs.ins hs.srt
theorem mul_next {a bs : Nat} (hc : ∃ c, a = c * (2 * bs)) : ∃ c, a + 2 * bs = c * (2 * bs) := by
 obtain ⟨c, rfl⟩ := hc
 exact ⟨c + 1, (Nat.succ_mul c (2 * bs)).symm⟩

def ofL (ps : List Pair) (k : ByteArray) : List ByteArray := (ps.filter fun p => decide (p.key = k)).map (·.val)
def keysL (ps : List Pair) : List ByteArray := compS (sortS (ps.map (·.key)))
def greatP (xs : List Pair) (n : Int) : Bool := decide (¬ ((xs.length : Int) ≤ n ∧ ∀ p ∈ xs, p.key.size ≤ 100 ∧ p.val.size ≤ 100))
theorem greatP_hit {xs : List Pair} {n : Int} {k : Nat} {x : Pair} (hx : xs[k]? = some x) (h : 100 < x.key.size ∨ 100 < x.val.size) : true = greatP xs n := by
 have h3 : ¬ ((xs.length : Int) ≤ n ∧ ∀ p ∈ xs, p.key.size ≤ 100 ∧ p.val.size ≤ 100) := fun h2 => absurd (h2.2 x (List.mem_of_getElem? hx)) (by omega)
 exact (decide_eq_true h3).symm
theorem greatP_end {xs : List Pair} {n : Int} {k : Nat} (hn : ∀ y ∈ xs.take k, y.key.size ≤ 100 ∧ y.val.size ≤ 100) (h : xs.length ≤ k ∨ n < (xs.length : Int)) : decide (n < (xs.length : Int)) = greatP xs n := by
 refine decide_eq_decide.2 ⟨fun h1 h2 => by omega, fun h1 => ?_⟩
 apply Classical.byContradiction
 intro h2
 refine h1 ⟨by omega, ?_⟩
 rwa [List.take_of_length_le (by omega)] at hn
theorem ofL_len (ps : List Pair) (k : ByteArray) : (ofL ps k).length ≤ ps.length := by
 unfold ofL
 rw [List.length_map]
 exact List.length_filter_le _ _
theorem ofk_yes {xs : List Pair} {key : ByteArray} {k : Nat} {x : Pair} (hx : xs[k]? = some x) (h : x.key = key) : ofL (xs.take (k + 1)) key = ofL (xs.take k) key ++ [x.val] := by
 unfold ofL
 rw [List.take_add_one, hx]
 simp [h]
theorem ofk_no {xs : List Pair} {key : ByteArray} {k : Nat} {x : Pair} (hx : xs[k]? = some x) (h : ¬ x.key = key) : ofL (xs.take (k + 1)) key = ofL (xs.take k) key := by
 unfold ofL
 rw [List.take_add_one, hx]
 simp [h]
theorem keyk {xs : List Pair} {k : Nat} {x : Pair} (hx : xs[k]? = some x) : (xs.take (k + 1)).map (·.key) = (xs.take k).map (·.key) ++ [x.key] := by
 rw [List.take_add_one, hx]
 simp
theorem sortS_len (xs : List ByteArray) : (sortS xs).length = xs.length := by simp [sortS]
theorem compS_len (xs : List ByteArray) : (compS xs).length ≤ xs.length := by
 have := compact_le (xs.map ofS)
 simpa [compS] using this
theorem keysL_len (ps : List Pair) : (keysL ps).length ≤ ps.length := by
 unfold keysL
 have := compS_len (sortS (ps.map (·.key)))
 rw [sortS_len, List.length_map] at this
 exact this
def mayP (p : Pair) : Prop := p.key.size ≤ 16 ∧ p.val.size ≤ 64
instance (p : Pair) : Decidable (mayP p) := by unfold mayP; infer_instance
def mayL (xs : List Pair) : Prop := ∀ p ∈ xs, mayP p
instance (xs : List Pair) : Decidable (mayL xs) := by unfold mayL; infer_instance
theorem may_any (xs : List Pair) : (!(xs.any fun p => !decide (mayP p))) = decide (mayL xs) := by
 rw [Bool.eq_iff_iff, decide_eq_true_iff]
 unfold mayL
 simp

theorem at_mem {α : Type} {xs : List α} {k : Nat} {x : α} (h : xs[k]? = some x) : x ∈ xs := List.mem_of_getElem? h

structure Hdr where
 A : Option Addr
 n : Nat
 c : Nat
def encHdr (h : Hdr) : List Value := [.slice h.A h.n h.c]
def kHdr : Kd Hdr := flat encHdr 1 (by omega) (fun _ => rfl) (fun _ c h => by simp [encHdr] at h; subst h; rfl)
def hdrOf : Value → Hdr
 | .slice A n c => ⟨A, n, c⟩
 | _ => ⟨none, 0, 0⟩
section
variable {w w0 : World} {F F0 : Foot} {As Rs : List SP} {α : Type} {d : Kd α}
theorem hd_all : ∀ {us : List (Value × List α)} {cs : List Value}, RepsR (kHd d) w F us cs → ∀ p ∈ us, (rsl d p.1 p.2).P w F
 | [], _, _, p, hp => by cases hp
 | q :: us, _, ⟨c, cs', e, h1, h2⟩, p, hp => by
  cases hp with
  | head => exact h1.2
  | tail _ hm => exact hd_all h2 p hm
end
/-! ### Parts -/
def numK (key : ByteArray) : Nat → Int
 | 0 => 7
 | k + 1 => IntKind.u32.wrap (IntKind.u32.wrap (31 * numK key k) + ((key[k]?.getD 0).toNat : Int))
theorem wrap32 (x : Int) : 0 ≤ IntKind.u32.wrap x ∧ IntKind.u32.wrap x < 4294967296 := by
 simp only [IntKind.wrap, IntKind.bits, IntKind.signed]
 simp
 omega
theorem numK_range (key : ByteArray) (k : Nat) : 0 ≤ numK key k ∧ numK key k < 4294967296 := by
 cases k with
 | zero => exact ⟨by simp [numK], by simp [numK]⟩
 | succ k => exact wrap32 _
def partO (key : ByteArray) (n : Int) : Int := if n < 1 then -1 else numK key key.size % n
def onlyP (xs : List Pair) (n p : Int) : List Pair := xs.filter fun x => decide (partO x.key n = p)
theorem only_yes {xs : List Pair} {n p : Int} {k : Nat} {x : Pair} (hx : xs[k]? = some x) (h : partO x.key n = p) : onlyP (xs.take (k + 1)) n p = onlyP (xs.take k) n p ++ [x] := by
 unfold onlyP
 rw [take_snoc hx, List.filter_append]
 simp [h]
theorem only_no {xs : List Pair} {n p : Int} {k : Nat} {x : Pair} (hx : xs[k]? = some x) (h : ¬ partO x.key n = p) : onlyP (xs.take (k + 1)) n p = onlyP (xs.take k) n p := by
 unfold onlyP
 rw [take_snoc hx, List.filter_append]
 simp [h]
theorem only_len (xs : List Pair) (n p : Int) : (onlyP xs n p).length ≤ xs.length := List.length_filter_le ..
theorem numK_step {key : ByteArray} {k : Nat} {b : UInt8} (hb : key[k]? = some b) : numK key (k + 1) = IntKind.u32.wrap (IntKind.u32.wrap (31 * numK key k) + (b.toNat : Int)) := by
 rw [numK, hb]
 rfl
theorem wu32b (b : UInt8) : IntKind.u32.wrap (b.toNat : Int) = (b.toNat : Int) := by
 have := UInt8.toNat_lt b
 simp only [IntKind.wrap, IntKind.bits, IntKind.signed]
 simp
 omega

theorem badI_neg {xs : List Ins} (h : xs.length ≤ 40) : badI xs < 0 ↔ ∀ p ∈ xs, goodI p xs.length := by
 have e : xs.take 40 = xs := List.take_of_length_le h
 have h2 := fidx_nonneg (badT xs.length) xs
 unfold badI
 rw [e]
 constructor
 ·intro hb p hp
  apply Classical.byContradiction
  intro hg
  have h3 : xs.any (badT xs.length) = true := List.any_eq_true.2 ⟨p, hp, by simp [badT, hg]⟩
  rw [h3] at h2
  rw [if_pos (of_decide_eq_true h2)] at hb
  have := of_decide_eq_true h2
  omega
 ·intro hg
  have h3 : xs.any (badT xs.length) = false := List.any_eq_false.2 (fun p hp => by simp [badT, hg p hp])
  rw [h3] at h2
  rw [if_neg (of_decide_eq_false h2), if_neg (by omega)]
  omega
theorem take_prop {α : Type} {Q : α → Prop} {xs : List α} {k : Nat} {x : α} (hn : ∀ y ∈ xs.take k, Q y) (hx : xs[k]? = some x) (h : Q x) : ∀ y ∈ xs.take (k + 1), Q y := by
 intro y hy
 rw [List.take_add_one, hx] at hy
 rcases List.mem_append.1 hy with hy | hy
 ·exact hn y hy
 ·obtain rfl : y = x := by simpa using hy
  exact h

structure Rec where
 kind : Int
 part : Int
 sp : Int
 att : Int
 why : Int
 sv : Value
 set : List Int
 pv : Value
 pairs : List Pair
def encRec (r : Rec) : List Value := [.int .i64 r.kind, .int .i64 r.part, .int .i64 r.sp, .int .i64 r.att, .int .i64 r.why, r.sv, r.pv]
def kRec : Kd Rec where
 sz := 7
 O w F x cs := cs = encRec x ∧ ∃ F1 F2 : Foot, (∀ k, F1 k → F k) ∧ (∀ k, F2 k → F k) ∧ (∀ k, F1 k → ¬ F2 k) ∧ (kSl (kInt .i64)).O w F1 x.set [x.sv] ∧ (kSl kPair).O w F2 x.pairs [x.pv]
 R w F x cs := cs = encRec x ∧ (kSl (kInt .i64)).R w F x.set [x.sv] ∧ (kSl kPair).R w F x.pairs [x.pv]
 O_loc := fun ⟨e, F1, F2, s1, s2, dj, h1, h2⟩ hk => ⟨e, F1, F2, s1, s2, dj, (kSl _).O_loc h1 (fun k x => hk k (s1 k x)), (kSl _).O_loc h2 (fun k x => hk k (s2 k x))⟩
 O_mono := fun ⟨e, F1, F2, s1, s2, dj, h1, h2⟩ hk => ⟨e, F1, F2, fun k x => hk k (s1 k x), fun k x => hk k (s2 k x), dj, h1, h2⟩
 R_loc := fun ⟨e, h1, h2⟩ hk => ⟨e, (kSl _).R_loc h1 hk, (kSl _).R_loc h2 hk⟩
 R_mono := fun ⟨e, h1, h2⟩ hk => ⟨e, (kSl _).R_mono h1 hk, (kSl _).R_mono h2 hk⟩
 O_R := fun ⟨e, F1, F2, s1, s2, dj, h1, h2⟩ => ⟨e, (kSl _).R_mono ((kSl _).O_R h1) s1, (kSl _).R_mono ((kSl _).O_R h2) s2⟩
 len h := by rw [h.1]; rfl
 one := fun ⟨e, h1, h2⟩ c hc => by
  have g1 := (kSl _).one h1
  have g2 := (kSl _).one h2
  subst e
  simp only [encRec, List.mem_cons, List.not_mem_nil, or_false] at hc
  rcases hc with rfl | rfl | rfl | rfl | rfl | rfl | rfl
  ·rfl
  ·rfl
  ·rfl
  ·rfl
  ·rfl
  ·exact g1 _ (List.mem_cons_self ..)
  ·exact g2 _ (List.mem_cons_self ..)
 pos := by omega

structure RecF where
 kind : Int
 part : Int
 sp : Int
 att : Int
 why : Int
 hs : Hdr
 hp : Hdr
def encRecF (r : RecF) : List Value := [.int .i64 r.kind, .int .i64 r.part, .int .i64 r.sp, .int .i64 r.att, .int .i64 r.why, .slice r.hs.A r.hs.n r.hs.c, .slice r.hp.A r.hp.n r.hp.c]
def kRecF : Kd RecF := flat encRecF 7 (by omega) (fun _ => rfl) (fun _ c h => by
 simp only [encRecF, List.mem_cons, List.not_mem_nil, or_false] at h
 rcases h with rfl | rfl | rfl | rfl | rfl | rfl | rfl <;> rfl)
def toF (r : Rec) : RecF := ⟨r.kind, r.part, r.sp, r.att, r.why, hdrOf r.sv, hdrOf r.pv⟩

section
variable {w w0 : World} {F F0 : Foot} {As Rs : List SP} {A : Option Addr} {m c : Nat}
theorem reps_recF : ∀ {us : List Rec} {cs : List Value}, RepsR kRec w F us cs → RepsR kRecF w F (us.map toF) cs
 | [], _, h => h
 | x :: us, _, ⟨c, cs', e, ⟨h1, h2, h3⟩, h4⟩ => by
  obtain ⟨A1, c1, e1, _⟩ := rsl_form (d := kInt .i64) (w := w) (F := F) h2
  obtain ⟨A2, c2, e2, _⟩ := rsl_form (d := kPair) (w := w) (F := F) h3
  exact ⟨c, cs', e, show c = encRecF (toF x) by rw [h1]; simp [encRec, encRecF, toF, hdrOf, e1, e2], reps_recF h4⟩
theorem rec_flat {v : Value} {us : List Rec} (h : (rsl kRec v us).P w F) : (rsl kRecF v (us.map toF)).P w F := by
 obtain ⟨A', n', c', e, h1, h2, h3, cs, h4, h5⟩ := h
 exact ⟨A', n', c', e, by rw [List.length_map, h1], h2, h3, cs, h4, reps_recF h5⟩
theorem Hd.recs {v : Value} {us : List Rec} (H : Hd w0 F0 w As Rs) (j : Nat) (hj : Rs[j]? = some (rsl kRec v us)) : ∃ fs : List RecF, fs.length = us.length ∧ Hd w0 F0 w As (rsl kRecF v fs :: Rs) :=
 ⟨us.map toF, List.length_map .., H.addR fun _ h => rec_flat (h _ (List.mem_of_getElem? hj))⟩
end

section
variable {P : Program} {t : TypeId}
end

/-! ### What records say -/
theorem drop_at {α : Type} {xs : List α} {k : Nat} {x : α} (hx : xs[k]? = some x) : xs.drop k = x :: xs.drop (k + 1) := by
 have hlt : k < xs.length := by
  rcases Nat.lt_or_ge k xs.length with h | h
  ·exact h
  ·simp [List.getElem?_eq_none h] at hx
 rw [List.drop_eq_getElem_cons hlt]
 rw [List.getElem?_eq_getElem hlt] at hx
 rw [Option.some.inj hx]

theorem bytes_get {s : ByteArray} {i : Nat} {c : UInt8} (h : s[i]? = some c) : s.data.toList[i]? = some c := by
 rw [getElem?_def] at h
 split at h
 ·rename_i hi
  have e : s[i] = c := Option.some.inj h
  rw [← e, Array.getElem?_toList, Array.getElem?_eq_getElem (show i < s.data.size from hi)]
  rfl
 ·cases h
theorem fitB_eq (c : UInt8) (v : Val) : fitB c v = !((decide ((c.toNat : Int) = 110) && v.t) || (decide ((c.toNat : Int) = 98) && !v.t)) := by
 have h : ∀ d : UInt8, (c == d) = decide ((c.toNat : Int) = (d.toNat : Int)) := by
  intro d
  rw [Bool.eq_iff_iff, beq_iff_eq, decide_eq_true_eq]
  constructor
  ·rintro rfl; rfl
  ·intro h
   exact UInt8.toNat_inj.1 (by omega)
 unfold fitB
 rw [h, h]
 rfl
theorem fits_go {ks : List UInt8} {xs : List Val} {i : Nat} {c : UInt8} {x : Val} (hk : ks[i]? = some c) (hx : xs[i]? = some x) (hb : fitB c x = true) : fitsB (ks.drop (i + 1)) (xs.drop (i + 1)) = fitsB (ks.drop i) (xs.drop i) := by
 rw [drop_at hk, drop_at hx]
 simp [fitsB, hb]
theorem fits_no {ks : List UInt8} {xs : List Val} {i : Nat} {c : UInt8} {x : Val} (hk : ks[i]? = some c) (hx : xs[i]? = some x) (hb : fitB c x = false) : fitsB (ks.drop i) (xs.drop i) = false := by
 rw [drop_at hk, drop_at hx]
 simp [fitsB, hb]
theorem fits_end {ks : List UInt8} {xs : List Val} {i : Nat} (h : xs.length ≤ i) : fitsB (ks.drop i) (xs.drop i) = true := by
 rw [List.drop_eq_nil_of_le h]
 cases ks.drop i <;> rfl
theorem needs_under {op : Int} {stk : List Val} (h : stk.length < (kindsS op).size) : needsM op stk = (1, stk, []) := if_pos h
theorem needs_type {op : Int} {stk : List Val} (h : ¬ stk.length < (kindsS op).size) (h2 : fitsB (kindsS op).data.toList (stk.drop (stk.length - (kindsS op).size)) = false) : needsM op stk = (2, stk, []) := by
 unfold needsM
 rw [if_neg h, if_neg (by rw [h2]; decide)]
theorem needs_fine {op : Int} {stk : List Val} (h : ¬ stk.length < (kindsS op).size) (h2 : fitsB (kindsS op).data.toList (stk.drop (stk.length - (kindsS op).size)) = true) : needsM op stk = (0, stk.take (stk.length - (kindsS op).size), stk.drop (stk.length - (kindsS op).size)) := by
 unfold needsM
 rw [if_neg h, if_pos h2]
theorem needs_len {op : Int} {stk : List Val} (h : (needsM op stk).1 = 0) : (needsM op stk).2.2.length = (kindsS op).size ∧ (needsM op stk).2.1.length ≤ stk.length ∧ (∀ v ∈ (needsM op stk).2.2, v ∈ stk) ∧ (∀ v ∈ (needsM op stk).2.1, v ∈ stk) := by
 by_cases h1 : stk.length < (kindsS op).size
 ·rw [needs_under h1] at h; cases h
 ·cases h2 : fitsB (kindsS op).data.toList (stk.drop (stk.length - (kindsS op).size)) with
  | false => rw [needs_type h1 h2] at h; cases h
  | true =>
   rw [needs_fine h1 h2]
   refine ⟨by simp only [List.length_drop]; omega, by simp only [List.length_take]; omega, fun v hv => List.mem_of_mem_drop hv, fun v hv => List.mem_of_mem_take hv⟩
theorem push_big {stk vs : List Val} {k : Nat} {x : Val} (hx : vs[k]? = some x) (h : bigV x = true) : pushM stk vs = (4, stk) := by
 unfold pushM
 rw [if_pos (List.any_eq_true.2 ⟨x, at_mem hx, h⟩)]
theorem any_no {vs : List Val} (hn : ∀ y ∈ vs, bigV y = false) : ¬ vs.any bigV = true := by
 intro h
 obtain ⟨x, h1, h2⟩ := List.any_eq_true.1 h
 rw [hn x h1] at h2
 cases h2
theorem push_full {stk vs : List Val} (hn : ∀ y ∈ vs, bigV y = false) (h : 16 < stk.length + vs.length) : pushM stk vs = (1, stk) := by
 unfold pushM
 rw [if_neg (any_no hn), if_pos h]
theorem push_fine {stk vs : List Val} (hn : ∀ y ∈ vs, bigV y = false) (h : ¬ 16 < stk.length + vs.length) : pushM stk vs = (0, stk ++ vs) := by
 unfold pushM
 rw [if_neg (any_no hn), if_neg h]
theorem push_len (stk vs : List Val) (h : stk.length ≤ 16) : (pushM stk vs).2.length ≤ 16 := by
 unfold pushM
 split
 ·exact h
 ·split
  ·exact h
  ·simp only [List.length_append]; omega
theorem big_yes {v : Val} (h1 : v.t = true) (h2 : (64 : Int) < (v.b.size : Int)) : bigV v = true := by
 unfold bigV
 rw [h1, decide_eq_true (by omega)]
 rfl
theorem big_no {v : Val} (h : v.t = false ∨ ¬ (64 : Int) < (v.b.size : Int)) : bigV v = false := by
 unfold bigV
 rcases h with h | h
 ·rw [h]; rfl
 ·rw [decide_eq_false (by omega), Bool.and_false]
theorem emit_big {told : List Pair} {k v : ByteArray} (h : (16 : Int) < (k.size : Int)) : emitM told k v = (4, told) := if_pos (by omega)
theorem emit_many {told : List Pair} {k v : ByteArray} (h : ¬ (16 : Int) < (k.size : Int)) (h2 : 40 ≤ told.length) : emitM told k v = (5, told) := by
 unfold emitM
 rw [if_neg (by omega), if_pos h2]
theorem emit_fine {told : List Pair} {k v : ByteArray} (h : ¬ (16 : Int) < (k.size : Int)) (h2 : ¬ 40 ≤ told.length) : emitM told k v = (0, told ++ [⟨k, v⟩]) := by
 unfold emitM
 rw [if_neg (by omega), if_neg h2]
def Suf {α : Type} (d : Kd α) (v : Value) (xs : List α) (v2 : Value) (ys : List α) : Prop := ∀ (w : World) (F : Foot), (rsl d v xs).P w F → (rsl d v2 ys).P w F
theorem Suf.refl {α : Type} (d : Kd α) (v : Value) (xs : List α) : Suf d v xs v xs := fun _ _ h => h
def nextS (stk : List Val) : List ByteArray → Int × List Val × List ByteArray
 | [] => ((pushM stk [vint 0]).1, (pushM stk [vint 0]).2, [])
 | v :: vs => ((pushM stk [vtxt v, vint 1]).1, (pushM stk [vtxt v, vint 1]).2, vs)
theorem next_cons {stk : List Val} {vals : List ByteArray} {x : ByteArray} (hx : vals[0]? = some x) : nextS stk vals = ((pushM stk [vtxt x, vint 1]).1, (pushM stk [vtxt x, vint 1]).2, vals.drop 1) := by
 cases vals with
 | nil => simp at hx
 | cons y vs => simp at hx; subst hx; rfl

section
variable {D : Dig} {key : ByteArray} {m : VM} {i : Ins} {v : List Val}
theorem does_fail (h : (needsM i.op m.stk).1 ≠ 0) : doesM D key m i = (m, (needsM i.op m.stk).1) := if_pos h
theorem does_act (h : ¬ (needsM i.op m.stk).1 ≠ 0) : doesM D key m i = actM D key {m with stk := (needsM i.op m.stk).2.1} i (needsM i.op m.stk).2.2 := if_neg h
theorem act_0 (h : i.op = 0) : actM D key m i v = ({m with halted := true}, 0) := by unfold actM; rw [h]; rfl
theorem act_1 (h : i.op = 1) : actM D key m i v = pushV m [vint i.a] := by unfold actM; rw [h]; rfl
theorem act_2 (h : i.op = 2) : actM D key m i v = pushV m [vtxt i.s] := by unfold actM; rw [h]; rfl
theorem act_3 (h : i.op = 3) : actM D key m i v = pushV m [v.getD 0 val0, v.getD 0 val0] := by unfold actM; rw [h]; rfl
theorem act_4 (h : i.op = 4) : actM D key m i v = (m, 0) := by unfold actM; rw [h]; rfl
theorem act_5 (h : i.op = 5) : actM D key m i v = pushV m [v.getD 1 val0, v.getD 0 val0] := by unfold actM; rw [h]; rfl
theorem act_6 (h : i.op = 6) : actM D key m i v = pushV m [vtxt key] := by unfold actM; rw [h]; rfl
theorem act_7 (h : i.op = 7) : actM D key m i v = nextM m := by unfold actM; rw [h]; rfl
theorem act_8 (h : i.op = 8 ∨ i.op = 9 ∨ i.op = 10 ∨ i.op = 11) : actM D key m i v = pushV m [numM i.op (v.getD 0 val0).n (v.getD 1 val0).n] := by
 unfold actM
 rcases h with h | h | h | h <;> (rw [h]; rfl)
theorem act_12 (h : i.op = 12) : actM D key m i v = pushV m [oneV (sameV (v.getD 0 val0) (v.getD 1 val0))] := by unfold actM; rw [h]; rfl
theorem act_13 (h : i.op = 13) : actM D key m i v = pushV m [vtxt ((v.getD 0 val0).b ++ (v.getD 1 val0).b)] := by unfold actM; rw [h]; rfl
theorem act_14 (h : i.op = 14) : actM D key m i v = pushV m [vint (v.getD 0 val0).b.size] := by unfold actM; rw [h]; rfl
theorem act_15 (h : i.op = 15) : actM D key m i v = pushV m [vint (atS (v.getD 0 val0).b (v.getD 1 val0).n)] := by unfold actM; rw [h]; rfl
theorem act_16 (h : i.op = 16) : actM D key m i v = pushV m [vtxt (cutS (v.getD 0 val0).b (v.getD 1 val0).n (v.getD 2 val0).n)] := by unfold actM; rw [h]; rfl
theorem act_17 (h : i.op = 17) : actM D key m i v = pushV m [vtxt (D.dig (v.getD 0 val0).n)] := by unfold actM; rw [h]; rfl
theorem act_18 (h : i.op = 18) : actM D key m i v = pushV m [vint (D.num (v.getD 0 val0).b)] := by unfold actM; rw [h]; rfl
theorem act_19 (h : i.op = 19) : actM D key m i v = ({m with pos := i.a}, 0) := by unfold actM; rw [h]; rfl
theorem act_20 (h : i.op = 20) : actM D key m i v = (if (v.getD 0 val0).n ≠ 0 then {m with pos := i.a} else m, 0) := by unfold actM; rw [h]; rfl
theorem act_21 (h : i.op = 21) : actM D key m i v = pushV m [m.g i.a.toNat] := by unfold actM; rw [h]; rfl
theorem act_22 (h : i.op = 22) : actM D key m i v = ({m with g := setG m.g i.a.toNat (v.getD 0 val0)}, 0) := by unfold actM; rw [h]; rfl
theorem act_23 (h : i.op = 23) : actM D key m i v = ({m with told := (emitM m.told (v.getD 0 val0).b (v.getD 1 val0).b).2}, (emitM m.told (v.getD 0 val0).b (v.getD 1 val0).b).1) := by unfold actM; rw [h]; rfl
theorem needs_same {op : Int} {stk : List Val} (h : (needsM op stk).1 ≠ 0) : (needsM op stk).2.1 = stk := by
 by_cases h1 : stk.length < (kindsS op).size
 ·rw [needs_under h1]
 ·cases h2 : fitsB (kindsS op).data.toList (stk.drop (stk.length - (kindsS op).size)) with
  | false => rw [needs_type h1 h2]
  | true => rw [needs_fine h1 h2] at h; exact absurd rfl h
theorem getD_at {k : Nat} {x : Val} (h : v[k]? = some x) : v.getD k val0 = x := by rw [List.getD_eq_getElem?_getD, h]; rfl
theorem next_S : nextM m = ({m with stk := (nextS m.stk m.vals).2.1, vals := (nextS m.stk m.vals).2.2}, (nextS m.stk m.vals).1) := by
 unfold nextM
 split
 ·rename_i h
  rw [h]
  cases m
  simp only at h
  subst h
  rfl
 ·rename_i x xs h
  rw [h]
  rfl
end

structure Inv (n : Int) (m : VM) : Prop where
 ok : (∀ v ∈ m.stk, OkV v) ∧ ∀ k, OkV (m.g k)
 len : m.stk.length ≤ 16
 told : m.told.length ≤ 40
 pos : 0 ≤ m.pos ∧ m.pos ≤ n
theorem push_ok_v {stk vs : List Val} (h : (pushM stk vs).1 = 0) : (pushM stk vs).2 = stk ++ vs ∧ ∀ v ∈ vs, bigV v = false := by
 unfold pushM at h ⊢
 split at h
 ·cases h
 ·rename_i h1
  rw [if_neg h1]
  split at h
  ·cases h
  ·rename_i h2
   rw [if_neg h2]
   refine ⟨rfl, fun v hv => ?_⟩
   cases hb : bigV v with
   | false => rfl
   | true => exact absurd (List.any_eq_true.2 ⟨v, hv, hb⟩) h1
theorem big_size {v : Val} (h : bigV v = false) (ht : v.t = true) : v.b.size ≤ 64 := by
 unfold bigV at h
 rw [ht, Bool.true_and] at h
 have := of_decide_eq_false h
 omega
theorem inv_push {n : Int} {m : VM} {vs : List Val} (hm : Inv n m) (h : (pushV m vs).2 = 0) (hv : ∀ v ∈ vs, In64 v.n ∧ (v.t = false → v.b.size ≤ 64)) : Inv n (pushV m vs).1 := by
 obtain ⟨h1, h2⟩ := push_ok_v (stk := m.stk) (vs := vs) h
 refine ⟨⟨fun v hv' => ?_, hm.ok.2⟩, ?_, hm.told, hm.pos⟩
 ·have hv2 : v ∈ (pushM m.stk vs).2 := hv'
  rw [h1] at hv2
  rcases List.mem_append.1 hv2 with h3 | h3
  ·exact hm.ok.1 v h3
  ·refine ⟨(hv v h3).1, ?_⟩
   cases ht : v.t with
   | false => exact (hv v h3).2 ht
   | true => exact big_size (h2 v h3) ht
 ·exact push_len _ _ hm.len
theorem nil64 : (⟨#[]⟩ : ByteArray).size ≤ 64 := by decide
theorem in0 : In64 0 := by unfold In64; decide
theorem okv0 : OkV val0 := ⟨in0, nil64⟩
theorem ok_int {n : Int} (h : In64 n) : ∀ v ∈ [vint n], In64 v.n ∧ (v.t = false → v.b.size ≤ 64) := by
 intro v hv
 rw [List.mem_singleton.1 hv]
 exact ⟨h, fun _ => nil64⟩
theorem ok_txt (s : ByteArray) : ∀ v ∈ [vtxt s], In64 v.n ∧ (v.t = false → v.b.size ≤ 64) := by
 intro v hv
 rw [List.mem_singleton.1 hv]
 exact ⟨in0, fun h => by cases h⟩
theorem ok_of {v : Val} (h : OkV v) : In64 v.n ∧ (v.t = false → v.b.size ≤ 64) := ⟨h.1, fun _ => h.2⟩
theorem ok_getD {v : List Val} (h : ∀ x ∈ v, OkV x) (k : Nat) : OkV (v.getD k val0) := by
 rw [List.getD_eq_getElem?_getD]
 cases hk : v[k]? with
 | none => exact okv0
 | some x => exact h x (at_mem hk)
theorem atS_range (s : ByteArray) (i : Int) : In64 (atS s i) := by
 unfold atS
 split
 ·unfold In64; omega
 ·have := UInt8.toNat_lt (s[i.toNat]?.getD 0)
  unfold In64
  omega
theorem inv_act {D : Dig} (hD : ∀ s : ByteArray, In64 (D.num s)) {key : ByteArray} {n : Int} {m : VM} {i : Ins} {v : List Val} (hm : Inv n m) (hi : goodI i n) (ha : In64 i.a) (hv : ∀ x ∈ v, OkV x) (h : (actM D key m i v).2 = 0) : Inv n (actM D key m i v).1 := by
 have h0 := ok_getD hv 0
 have h1 := ok_getD hv 1
 have g1 := hi.1
 have g2 := hi.2.1
 have two : ∀ {a b : Val}, OkV a → OkV b → ∀ x ∈ [a, b], In64 x.n ∧ (x.t = false → x.b.size ≤ 64) := by
  intro a b pa pb x hx
  rcases List.mem_cons.1 hx with rfl | hx
  ·exact ok_of pa
  ·rw [List.mem_singleton.1 hx]; exact ok_of pb
 have one : ∀ {a : Val}, OkV a → ∀ x ∈ [a], In64 x.n ∧ (x.t = false → x.b.size ≤ 64) := by
  intro a pa x hx
  rw [List.mem_singleton.1 hx]; exact ok_of pa
 have bit : ∀ b : Bool, In64 (if b then 1 else 0) := by intro b; cases b <;> (unfold In64; decide)
 rcases (show i.op = 0 ∨ i.op = 1 ∨ i.op = 2 ∨ i.op = 3 ∨ i.op = 4 ∨ i.op = 5 ∨ i.op = 6 ∨ i.op = 7 ∨ (i.op = 8 ∨ i.op = 9 ∨ i.op = 10 ∨ i.op = 11) ∨ i.op = 12 ∨ i.op = 13 ∨ i.op = 14 ∨ i.op = 15 ∨ i.op = 16 ∨ i.op = 17 ∨ i.op = 18 ∨ i.op = 19 ∨ i.op = 20 ∨ i.op = 21 ∨ i.op = 22 ∨ i.op = 23 by omega) with
  e | e | e | e | e | e | e | e | e | e | e | e | e | e | e | e | e | e | e | e | e
 ·rw [act_0 e] at h ⊢; exact ⟨hm.ok, hm.len, hm.told, hm.pos⟩
 ·rw [act_1 e] at h ⊢; exact inv_push hm h (ok_int ha)
 ·rw [act_2 e] at h ⊢; exact inv_push hm h (ok_txt _)
 ·rw [act_3 e] at h ⊢; exact inv_push hm h (two h0 h0)
 ·rw [act_4 e] at h ⊢; exact hm
 ·rw [act_5 e] at h ⊢; exact inv_push hm h (two h1 h0)
 ·rw [act_6 e] at h ⊢; exact inv_push hm h (ok_txt _)
 ·rw [act_7 e] at h ⊢
  unfold nextM at h ⊢
  split at h
  ·exact inv_push hm h (ok_int (by unfold In64; omega))
  ·rename_i x xs hx
   have hm2 : Inv n {m with vals := xs} := ⟨hm.ok, hm.len, hm.told, hm.pos⟩
   refine inv_push hm2 h fun y hy => ?_
   rcases List.mem_cons.1 hy with rfl | hy
   ·exact ok_txt x _ (List.mem_singleton.2 rfl)
   ·exact ok_int (n := 1) (by unfold In64; omega) y hy
 ·rw [act_8 e] at h ⊢; exact inv_push hm h (one (ok_num _ _ _))
 ·rw [act_12 e] at h ⊢; exact inv_push hm h (ok_int (bit _))
 ·rw [act_13 e] at h ⊢; exact inv_push hm h (ok_txt _)
 ·rw [act_14 e] at h ⊢; exact inv_push hm h (ok_int (by have := h0.2; unfold In64; omega))
 ·rw [act_15 e] at h ⊢; exact inv_push hm h (ok_int (atS_range _ _))
 ·rw [act_16 e] at h ⊢; exact inv_push hm h (ok_txt _)
 ·rw [act_17 e] at h ⊢; exact inv_push hm h (ok_txt _)
 ·rw [act_18 e] at h ⊢; exact inv_push hm h (ok_int (hD _))
 ·rw [act_19 e] at h ⊢
  have := hi.2.2.2.2.1 (.inl e)
  exact ⟨hm.ok, hm.len, hm.told, ⟨this.1, this.2.1⟩⟩
 ·rw [act_20 e] at h ⊢
  have := hi.2.2.2.2.1 (.inr e)
  split
  ·exact ⟨hm.ok, hm.len, hm.told, ⟨this.1, this.2.1⟩⟩
  ·exact hm
 ·rw [act_21 e] at h ⊢; exact inv_push hm h (one (hm.ok.2 _))
 ·rw [act_22 e] at h ⊢
  refine ⟨⟨hm.ok.1, fun k => ?_⟩, hm.len, hm.told, hm.pos⟩
  show OkV (if k = i.a.toNat then v.getD 0 val0 else m.g k)
  split
  ·exact h0
  ·exact hm.ok.2 k
 ·rw [act_23 e] at h ⊢
  refine ⟨hm.ok, hm.len, ?_, hm.pos⟩
  show (emitM m.told (v.getD 0 val0).b (v.getD 1 val0).b).2.length ≤ 40
  have := hm.told
  unfold emitM
  split
  ·exact this
  ·split
   ·exact this
   ·simp only [List.length_append, List.length_cons, List.length_nil]; omega
theorem inv_does {D : Dig} (hD : ∀ s : ByteArray, In64 (D.num s)) {key : ByteArray} {n : Int} {m : VM} {i : Ins} (hm : Inv n m) (hi : goodI i n) (ha : In64 i.a) (h : (doesM D key m i).2 = 0) : Inv n (doesM D key m i).1 := by
 by_cases hN : (needsM i.op m.stk).1 ≠ 0
 ·rw [does_fail hN] at h; exact absurd h hN
 ·rw [does_act hN] at h ⊢
  obtain ⟨l1, l2, l3, l4⟩ := needs_len (Classical.not_not.1 hN)
  exact inv_act hD ⟨⟨fun v hv => hm.ok.1 v (l4 v hv), hm.ok.2⟩, Nat.le_trans l2 hm.len, hm.told, hm.pos⟩ hi ha (fun x hx => hm.ok.1 x (l3 x hx)) h
section
variable {D : Dig} {p : List Ins} {key : ByteArray} {m : VM} {i : Ins}
theorem play_stop (k : Nat) (h : ¬ (m.pos < p.length ∧ m.halted = false)) : playM D p key k m = (m, 0) := by
 cases k <;> exact if_neg h
theorem play_dry (h : m.pos < p.length ∧ m.halted = false) : playM D p key 0 m = (m, 3) := if_pos h
theorem play_fail {k : Nat} (h : m.pos < p.length ∧ m.halted = false) (hi : p[m.pos.toNat]? = some i) (hw : (doesM D key {m with pos := m.pos + 1} i).2 ≠ 0) : playM D p key (k + 1) m = doesM D key {m with pos := m.pos + 1} i := by
 unfold playM
 rw [if_pos h, hi]
 exact if_pos hw
theorem play_go {k : Nat} (h : m.pos < p.length ∧ m.halted = false) (hi : p[m.pos.toNat]? = some i) (hw : ¬ (doesM D key {m with pos := m.pos + 1} i).2 ≠ 0) : playM D p key (k + 1) m = playM D p key k (doesM D key {m with pos := m.pos + 1} i).1 := by
 conv => lhs; unfold playM
 rw [if_pos h, hi]
 exact if_neg hw
end
theorem inv0 (n : Nat) (vals : List ByteArray) : Inv n (vm0 vals) where
 ok := ⟨fun v hv => (by cases hv), fun _ => okv0⟩
 len := Nat.zero_le _
 told := Nat.zero_le _
 pos := ⟨Int.le_refl 0, Int.natCast_nonneg n⟩
theorem may_all {xs : List Ins} (h : badI xs < 0) : ∀ x ∈ xs, goodI x xs.length := by
 by_cases hl : xs.length ≤ 40
 ·exact (badI_neg hl).1 h
 ·exfalso
  unfold badI at h
  split at h
  ·omega
  ·rw [if_pos (by omega)] at h
   omega
theorem inv_next {n : Int} {m : VM} (h : Inv n m) (hp : m.pos < n) : Inv n {m with pos := m.pos + 1} := ⟨h.ok, h.len, h.told, ⟨by have := h.pos; show 0 ≤ m.pos + 1; omega, by show m.pos + 1 ≤ n; omega⟩⟩

def glb (P : Program) (name : String) (Q : Array Value → Prop) : SP where
 P w F := ∃ g, P.globalNamed name = some g ∧ F g ∧ ∃ cs, w.var? P name = some cs ∧ Q cs
 loc := fun ⟨g, h1, h2, cs, h3, h4⟩ hk => ⟨g, h1, h2, cs, by
  unfold World.var? at h3 ⊢
  rw [h1] at h3 ⊢
  simp only [Option.bind_some] at h3 ⊢
  rw [hk g h2]
  exact h3, h4⟩
 mono := fun ⟨g, h1, h2, h3⟩ hs => ⟨g, h1, hs g h2, h3⟩
def both (A B : SP) : SP where
 P w F := A.P w F ∧ B.P w F
 loc := fun ⟨a, b⟩ hk => ⟨SP.loc _ a hk, SP.loc _ b hk⟩
 mono := fun ⟨a, b⟩ hs => ⟨SP.mono _ a hs, SP.mono _ b hs⟩
section
variable {w0 w w' : World} {F0 : Foot} {As Rs : List SP}
theorem Hd.after (H : Hd w0 F0 w As Rs) (ub : Upd none_ w w') : Hd w0 F0 w' As Rs := by
 have h : Hd w0 F0 w' (pure_ True :: As) Rs := H.new ub (F' := none_) trivial (fun _ h => h.elim)
 exact h.drop
theorem upd_below (h : Go.RowKit.Below w.heap.size w w') : Upd none_ w w' := ⟨h.os, h.tape, h.output, h.size, fun k hk _ => h.block k hk⟩
theorem upd_grow (w : World) (k : Nat) (os : Array Obj) : Upd none_ w (Sort.grow (w.drewN k) os) := ⟨rfl, rfl, rfl, by simp [Sort.grow], fun i hi _ => by
 show (w.heap ++ os)[i]? = _
 rw [Array.getElem?_append_left hi]⟩
end

/-! ### Calls that were put off -/
def CnD (P : Program) (f : FuncId) (args : List Value) (As Rs : List SP) (T : Value → List SP → Prop) : Prop :=
 ∀ w F u, Hd w F w As Rs → CallsD P f args.toArray u w fun e u' w' => u' = u ∧ Ret (fun v w' => ∃ Bs, T v Bs ∧ Hd w F w' Bs Rs) e w'
theorem enterD {P : Program} {n : Nat} {w : World} {f : FuncId} {fn : Func} {c : Code} {args : List Value} {u : FrameMode} {R : Ending → World → Prop} (hf : P.funcs[f]? = some fn) (hb : fn.body = some c) (hn : fn.ntmps = n) (hl : args.length ≤ n)
  (h : WC P c (bodyPost P fn R) n (envOf 0 args) w) : CallsD P f args.toArray u w fun e u' w' => u' = u ∧ R e w' := by
 refine callsD_of_wp hf hb (h _ ⟨rfl, ?_, ?_⟩)
 ·simp only [Array.size_append, List.size_toArray, Array.size_replicate, hn]
  omega
 ·intro s v hs
  obtain ⟨_, h2⟩ := lk_envOf args 0 s v hs
  have hlt : s < args.length := by
   rcases Nat.lt_or_ge s args.length with h' | h'
   ·exact h'
   ·simp [List.getElem?_eq_none h'] at h2
  refine ⟨?_, by omega⟩
  have h3 : args[s]? = some v := by simpa using h2
  simp [Array.getD_eq_getD_getElem?, Array.getElem?_append, hlt]
  simpa [List.getElem?_eq_getElem hlt] using h3

theorem call_frameD {P : Program} {w0 w : World} {F0 : Foot} {As Rs Cs Ss : List SP} {f : FuncId} {args : List Value} {u : FrameMode} {T : Value → List SP → Prop} (hc : CnD P f args Cs Ss T) (H : Hd w0 F0 w (Cs ++ As) Rs) (hl : Lends w As Rs Ss) :
  CallsD P f args.toArray u w fun e u' w' => u' = u ∧ Ret (fun v w' => ∃ Bs, T v Bs ∧ Hd w0 F0 w' (Bs ++ As) Rs) e w' := by
 obtain ⟨Fc, h1, h2⟩ := H.frame hl
 refine (hc w Fc u h1).mono ?_
 rintro e u' w' ⟨hu, v, rfl, Bs, hT, hB⟩
 exact ⟨hu, v, rfl, Bs, hT, h2 w' Bs hB⟩

/-! ### Digits that are made once -/
def digS (n : Int) : ByteArray := ⟨(Lib.itoa n).toArray⟩
def cellB (n : Int) (c t : Nat) : SP := ex fun f : Value => blk c [.int .u32 1, .int .i32 0, .int .u32 0, .int .u32 1, f, .string (digS n)] t
def ptrOf (p : Int × Nat) : Int × Value := (p.1, .pointer (some ⟨p.2, 0, none⟩))
def cellsS (t : Nat) (kvs : List (Int × Nat)) : SP := star (kvs.map fun p => cellB p.1 p.2 t)
def digsT (t b : Nat) : SP := ex fun kvs : List (Int × Nat) => star [mapI b (kvs.map ptrOf), cellsS t kvs]
section
variable {w0 w w' : World} {F0 : Foot} {As Rs : List SP} {t b : Nat}
theorem Hd.ex_out {α : Sort _} {A : α → SP} (H : Hd w0 F0 w (ex A :: As) Rs) : ∃ a, Hd w0 F0 w (A a :: As) Rs := by
 obtain ⟨F, G, ⟨F1, F2, h1, h2, h3, ⟨a, ha⟩, s⟩, r, d, f, g, u⟩ := H
 exact ⟨a, F, G, ⟨F1, F2, h1, h2, h3, ha, s⟩, r, d, f, g, u⟩
theorem Hd.ex_in {α : Sort _} {A : α → SP} (a : α) (H : Hd w0 F0 w (A a :: As) Rs) : Hd w0 F0 w (ex A :: As) Rs := H.turn fun _ h => ⟨a, h⟩
theorem digs_open (H : Hd w0 F0 w (digsT t b :: As) Rs) : ∃ kvs : List (Int × Nat), Hd w0 F0 w (mapI b (kvs.map ptrOf) :: cellsS t kvs :: As) Rs := by
 obtain ⟨kvs, h⟩ := H.ex_out
 exact ⟨kvs, h.open_ (Bs := [mapI b (kvs.map ptrOf), cellsS t kvs]) fun F hF => hF⟩
theorem digs_shut (kvs : List (Int × Nat)) (H : Hd w0 F0 w (mapI b (kvs.map ptrOf) :: cellsS t kvs :: As) Rs) : Hd w0 F0 w (digsT t b :: As) Rs :=
 (Hd.shut (Bs := [mapI b (kvs.map ptrOf), cellsS t kvs]) H fun F hF => hF).ex_in kvs
theorem cells_nil (H : Hd w0 F0 w As Rs) : Hd w0 F0 w (cellsS t [] :: As) Rs := Hd.shut (Bs := []) H fun F hF => hF
theorem digs_new {A : SP} (H : Hd w0 F0 w (A :: mapI b [] :: As) Rs) : Hd w0 F0 w (A :: digsT t b :: As) Rs := by
 have h1 : Hd w0 F0 w (mapI b [] :: A :: As) Rs := H.perm (List.Perm.swap _ _ _)
 have h2 := (cells_nil (t := t) h1).perm (List.Perm.swap _ _ _)
 exact (digs_shut [] h2).perm (List.Perm.swap _ _ _)
theorem start_order {A B C : SP} (H : Hd w0 F0 w (A :: B :: C :: As) Rs) : Hd w0 F0 w (C :: A :: B :: As) Rs := H.perm (((List.Perm.swap C B As).cons A).trans (List.Perm.swap C A _))
theorem alook_ptr {n : Int} : ∀ {kvs : List (Int × Nat)} {v : Value}, alook n (kvs.map ptrOf) = some v → ∃ c, v = .pointer (some ⟨c, 0, none⟩) ∧ (n, c) ∈ kvs
 | [], _, h => by simp [alook] at h
 | p :: kvs, v, h => by
  simp only [List.map_cons, alook, ptrOf] at h
  split at h
  ·rename_i e
   refine ⟨p.2, (Option.some.inj h).symm, ?_⟩
   rw [e]
   exact List.mem_cons_self ..
  ·obtain ⟨c, h1, h2⟩ := alook_ptr h
   exact ⟨c, h1, List.mem_cons_of_mem _ h2⟩
theorem alook_snoc {n : Int} {v : Value} : ∀ {kvs : List (Int × Value)}, alook n kvs = none → alook n (kvs ++ [(n, v)]) = some v
 | [], _ => by simp [alook]
 | p :: kvs, h => by
  simp only [List.cons_append, alook] at h ⊢
  split at h
  ·cases h
  ·rename_i e
   rw [if_neg e]
   exact alook_snoc h
theorem map_snoc (kvs : List (Int × Nat)) (n : Int) (b : Nat) : (kvs ++ [(n, b)]).map ptrOf = kvs.map ptrOf ++ [(n, .pointer (some ⟨b, 0, none⟩))] := by simp [ptrOf]
theorem cells_take {kvs : List (Int × Nat)} {n : Int} {c : Nat} (hm : (n, c) ∈ kvs) (H : Hd w0 F0 w (cellsS t kvs :: As) Rs) : ∃ rest : List (Int × Nat), Hd w0 F0 w (cellB n c t :: cellsS t rest :: As) Rs ∧ ∀ {w1 : World} {F1 : Foot} {w2 : World} {Bs Rs' : List SP}, Hd w1 F1 w2 (cellB n c t :: cellsS t rest :: Bs) Rs' → Hd w1 F1 w2 (cellsS t kvs :: Bs) Rs' := by
 obtain ⟨s, u, rfl⟩ := List.append_of_mem hm
 have hp : ((s ++ (n, c) :: u).map fun p => cellB p.1 p.2 t).Perm (cellB n c t :: ((s ++ u).map fun p => cellB p.1 p.2 t)) := by
  rw [List.map_append, List.map_cons, List.map_append]
  exact List.perm_middle
 refine ⟨s ++ u, ?_, ?_⟩
 ·have h1 : Hd w0 F0 w (star (cellB n c t :: ((s ++ u).map fun p => cellB p.1 p.2 t)) :: As) Rs := H.turn fun F hF => Star.perm hp hF
  refine h1.open_ (Bs := [cellB n c t, cellsS t (s ++ u)]) fun F hF => ?_
  obtain ⟨F1, F2, a1, a2, a3, a, b⟩ := hF
  exact ⟨F1, F2, a1, a2, a3, a, F2, none_, fun _ h => h, fun _ h => h.elim, fun _ _ h => h, b, trivial⟩
 ·intro w1 F1 w2 Bs Rs' H2
  refine Hd.shut (Bs := [cellB n c t, cellsS t (s ++ u)]) H2 fun F hF => ?_
  obtain ⟨F1, F2, a1, a2, a3, a, F3, F4, b1, b2, b3, b, _⟩ := hF
  exact Star.perm hp.symm ⟨F1, F2, a1, a2, a3, a, Star.mono b b1⟩
theorem cells_put {kvs : List (Int × Nat)} {n : Int} {c : Nat} (H : Hd w0 F0 w (cellB n c t :: cellsS t kvs :: As) Rs) : Hd w0 F0 w (cellsS t (kvs ++ [(n, c)]) :: As) Rs := by
 have hp : ((kvs ++ [(n, c)]).map fun p => cellB p.1 p.2 t).Perm (cellB n c t :: (kvs.map fun p => cellB p.1 p.2 t)) := by
  rw [List.map_append, List.map_cons, List.map_nil]
  exact List.perm_append_singleton ..
 refine Hd.shut (Bs := [cellB n c t, cellsS t kvs]) H fun F hF => ?_
 obtain ⟨F1, F2, a1, a2, a3, a, F3, F4, b1, b2, b3, b, _⟩ := hF
 exact Star.perm hp.symm ⟨F1, F2, a1, a2, a3, a, Star.mono b b1⟩
end
section
variable {P : Program} {n : Nat} {l : Env} {w w0 : World} {F0 : Foot} {o : Oper} {x y : Operand} {t kt et : TypeId} {As Rs : List SP} {b : Nat} {kvs : List (Int × Value)} {v : Value}
theorem r_look1 (ho : o.op = .lookup t x y false) (hm : P.underlying t = some (.map kt et)) (hk : P.underlying kt = some (.int .i64)) {z : Value} (hz : zrOf P et = some z) (hx : ev l x = some (.map (some b))) {k : Int} (hy : ev l y = some (.int .i64 k))
  (H : Hd w0 F0 w As Rs) (j : Nat) (hj : As[j]? = some (mapI b kvs)) (hv : (alook k kvs).getD z = v) : Run P n l w o v w := hv ▸ r_look ho hm hk hz hx hy H j hj
end

theorem emit_len {told : List Pair} {k v : ByteArray} (h : told.length ≤ 40) : (emitM told k v).2.length ≤ 40 := by
 unfold emitM
 split
 ·exact h
 ·split
  ·exact h
  ·simp only [List.length_append, List.length_cons, List.length_nil]; omega
theorem nextM_told (m : VM) : (nextM m).1.told = m.told := by
 rw [next_S]
def TL (r : VM × Int) : Prop := r.1.told.length ≤ 40
theorem ite_p {c : Prop} [Decidable c] {x y : VM × Int} (hx : TL x) (hy : TL y) : TL (if c then x else y) := by
 split
 ·exact hx
 ·exact hy
theorem act_told {D : Dig} {key : ByteArray} {m : VM} {i : Ins} {v : List Val} (h : m.told.length ≤ 40) : (actM D key m i v).1.told.length ≤ 40 := by
 have hn : TL (nextM m) := by unfold TL; rw [nextM_told]; exact h
 have h20 : TL (if (v.getD 0 val0).n ≠ 0 then {m with pos := i.a} else m, 0) := by
  unfold TL
  dsimp only
  split <;> exact h
 exact ite_p h (ite_p h (ite_p h (ite_p h (ite_p h (ite_p h (ite_p hn (ite_p h (ite_p h (ite_p h (ite_p h (ite_p h (ite_p h (ite_p h (ite_p h (ite_p h (ite_p h20 (ite_p h (ite_p h (ite_p (emit_len h) h)))))))))))))))))))
theorem does_told {D : Dig} {key : ByteArray} {m : VM} {i : Ins} (h : m.told.length ≤ 40) : (doesM D key m i).1.told.length ≤ 40 := by
 unfold doesM
 split
 ·exact h
 ·exact act_told h
theorem play_told {D : Dig} {p : List Ins} {key : ByteArray} : ∀ (k : Nat) {m : VM}, m.told.length ≤ 40 → (playM D p key k m).1.told.length ≤ 40
 | 0, m, h => by
  unfold playM
  split <;> exact h
 | k + 1, m, h => by
  unfold playM
  split
  ·split
   ·split
    ·exact does_told h
    ·exact play_told k (does_told h)
   ·exact h
  ·exact h
theorem run_told (D : Dig) (p : List Ins) (key : ByteArray) (vals : List ByteArray) (fuel : Int) : (runM D p key vals fuel).1.length ≤ 40 := by
 unfold runM
 split
 ·exact Nat.zero_le _
 ·split
  ·exact Nat.zero_le _
  ·exact play_told _ (Nat.zero_le _)

def otherKey (k : ByteArray) (l : List Pair) : Bool := l.any fun x => decide (x.key ≠ k)
def eachGo (D : Dig) (p : List Ins) (ps : List Pair) (fuel : Int) (own : Bool) : List ByteArray → List Pair → List Pair × Int
 | [], out => (out, 0)
 | k :: ks, out =>
  if (runM D p k (ofL ps k) fuel).2 ≠ 0 then ([], (runM D p k (ofL ps k) fuel).2)
  else if own = true ∧ otherKey k (runM D p k (ofL ps k) fuel).1 = true then ([], 6)
  else if 40 < out.length + (runM D p k (ofL ps k) fuel).1.length then ([], 5)
  else eachGo D p ps fuel own ks (out ++ (runM D p k (ofL ps k) fuel).1)
def eachM (D : Dig) (p : List Ins) (ps : List Pair) (fuel : Int) (own : Bool) : List Pair × Int := eachGo D p ps fuel own (keysL ps) []
def combM (D : Dig) (p : List Ins) (ps : List Pair) (fuel : Int) : List Pair × Int := if p.length = 0 then (srt ps, 0) else eachM D p ps fuel true
section
variable {D : Dig} {p : List Ins} {ps : List Pair} {fuel : Int} {own : Bool} {ks : List ByteArray} {k : ByteArray} {out : List Pair} {i : Nat}
theorem go_end (h : ks.length ≤ i) : eachGo D p ps fuel own (ks.drop i) out = (out, 0) := by
 rw [List.drop_eq_nil_of_le h]; rfl
theorem go_why (hk : ks[i]? = some k) (h : (runM D p k (ofL ps k) fuel).2 ≠ 0) : eachGo D p ps fuel own (ks.drop i) out = ([], (runM D p k (ofL ps k) fuel).2) := by
 rw [drop_at hk]; exact if_pos h
theorem go_key (hk : ks[i]? = some k) (h : ¬ (runM D p k (ofL ps k) fuel).2 ≠ 0) (h2 : own = true) (h3 : otherKey k (runM D p k (ofL ps k) fuel).1 = true) : eachGo D p ps fuel own (ks.drop i) out = ([], 6) := by
 rw [drop_at hk]; unfold eachGo; rw [if_neg h, if_pos ⟨h2, h3⟩]
theorem go_many (hk : ks[i]? = some k) (h : ¬ (runM D p k (ofL ps k) fuel).2 ≠ 0) (h2 : ¬ (own = true ∧ otherKey k (runM D p k (ofL ps k) fuel).1 = true)) (h3 : 40 < out.length + (runM D p k (ofL ps k) fuel).1.length) : eachGo D p ps fuel own (ks.drop i) out = ([], 5) := by
 rw [drop_at hk]; unfold eachGo; rw [if_neg h, if_neg h2, if_pos h3]
theorem go_on (hk : ks[i]? = some k) (h : ¬ (runM D p k (ofL ps k) fuel).2 ≠ 0) (h2 : ¬ (own = true ∧ otherKey k (runM D p k (ofL ps k) fuel).1 = true)) (h3 : ¬ 40 < out.length + (runM D p k (ofL ps k) fuel).1.length) :
  eachGo D p ps fuel own (ks.drop (i + 1)) (out ++ (runM D p k (ofL ps k) fuel).1) = eachGo D p ps fuel own (ks.drop i) out := by
 rw [drop_at hk]; conv => rhs; unfold eachGo
 rw [if_neg h, if_neg h2, if_neg h3]
end
theorem each_len (D : Dig) (p : List Ins) (ps : List Pair) (fuel : Int) (own : Bool) : ∀ (ks : List ByteArray) (out : List Pair), out.length ≤ 40 → (eachGo D p ps fuel own ks out).1.length ≤ 40
 | [], out, h => h
 | k :: ks, out, h => by
  unfold eachGo
  split
  ·exact Nat.zero_le _
  ·split
   ·exact Nat.zero_le _
   ·split
    ·exact Nat.zero_le _
    ·exact each_len D p ps fuel own ks _ (by simp only [List.length_append]; omega)
def firstP : List Ins := [⟨6, 0, ⟨#[]⟩⟩, ⟨7, 0, ⟨#[]⟩⟩, ⟨4, 0, ⟨#[]⟩⟩, ⟨23, 0, ⟨#[]⟩⟩]
theorem in64_first : ∀ i ∈ firstP, In64 i.a := by
 intro i hi
 simp only [firstP, List.mem_cons, List.not_mem_nil, or_false] at hi
 rcases hi with rfl | rfl | rfl | rfl <;> exact in0

/-! ### What is told is small -/
def TS (r : VM × Int) : Prop := ∀ q ∈ r.1.told, mayP q
theorem ite_s {c : Prop} [Decidable c] {x y : VM × Int} (hx : TS x) (hy : TS y) : TS (if c then x else y) := by
 split
 ·exact hx
 ·exact hy
theorem emit_small {told : List Pair} {k v : ByteArray} (h : ∀ q ∈ told, mayP q) (hv : v.size ≤ 64) : ∀ q ∈ (emitM told k v).2, mayP q := by
 unfold emitM
 split
 ·exact h
 ·split
  ·exact h
  ·intro q hq
   rcases List.mem_append.1 hq with h1 | h1
   ·exact h q h1
   ·rw [List.mem_singleton.1 h1]
    exact ⟨by (try dsimp only); omega, hv⟩
theorem act_small {D : Dig} {key : ByteArray} {m : VM} {i : Ins} {v : List Val} (h : ∀ q ∈ m.told, mayP q) (hv : (v.getD 1 val0).b.size ≤ 64) : TS (actM D key m i v) := by
 have hn : TS (nextM m) := by unfold TS; rw [nextM_told]; exact h
 have h20 : TS (if (v.getD 0 val0).n ≠ 0 then {m with pos := i.a} else m, 0) := by
  unfold TS
  dsimp only
  split <;> exact h
 exact ite_s h (ite_s h (ite_s h (ite_s h (ite_s h (ite_s h (ite_s hn (ite_s h (ite_s h (ite_s h (ite_s h (ite_s h (ite_s h (ite_s h (ite_s h (ite_s h (ite_s h20 (ite_s h (ite_s h (ite_s (emit_small h hv) h)))))))))))))))))))
theorem does_small {D : Dig} {key : ByteArray} {n : Int} {m : VM} {i : Ins} (hm : Inv n m) (h : ∀ q ∈ m.told, mayP q) : TS (doesM D key m i) := by
 by_cases hN : (needsM i.op m.stk).1 ≠ 0
 ·rw [does_fail hN]; exact h
 ·rw [does_act hN]
  obtain ⟨l1, l2, l3, l4⟩ := needs_len (Classical.not_not.1 hN)
  exact act_small h (ok_getD (fun x hx => hm.ok.1 x (l3 x hx)) 1).2
theorem badI_good {p : List Ins} (h : badI p < 0) : p.length ≤ 40 ∧ ∀ i ∈ p, goodI i p.length := by
 have hl : p.length ≤ 40 := by
  apply Classical.byContradiction
  intro hn
  unfold badI at h
  split at h
  ·omega
  ·rw [if_pos (by omega)] at h; omega
 exact ⟨hl, (badI_neg hl).1 h⟩
theorem play_small {D : Dig} (hD : ∀ s : ByteArray, In64 (D.num s)) {p : List Ins} {key : ByteArray} (hp : badI p < 0) (ha : ∀ i ∈ p, In64 i.a) : ∀ (k : Nat) {m : VM}, Inv p.length m → (∀ q ∈ m.told, mayP q) → TS (playM D p key k m)
 | 0, m, hm, h => by
  unfold playM
  split <;> exact h
 | k + 1, m, hm, h => by
  by_cases hc : m.pos < p.length ∧ m.halted = false
  ·obtain ⟨i, hi⟩ : ∃ i, p[m.pos.toNat]? = some i := ⟨_, List.getElem?_eq_getElem (by have := hm.pos; omega)⟩
   have him := at_mem hi
   have hm1 : Inv p.length {m with pos := m.pos + 1} := ⟨hm.ok, hm.len, hm.told, (by have h9 := hm.pos; constructor <;> (try dsimp only) <;> omega)⟩
   by_cases hw : (doesM D key {m with pos := m.pos + 1} i).2 ≠ 0
   ·rw [play_fail hc hi hw]
    exact does_small hm1 h
   ·rw [play_go hc hi hw]
    exact play_small hD hp ha k (inv_does hD hm1 ((badI_good hp).2 i him) (ha i him) (Classical.not_not.1 hw)) (does_small hm1 h)
  ·rw [play_stop _ hc]; exact h
theorem inv_start (n : Int) (hn : 0 ≤ n) (vals : List ByteArray) : Inv n (vm0 vals) := ⟨⟨(fun v hv => by cases hv), fun _ => okv0⟩, Nat.zero_le _, Nat.zero_le _, ⟨Int.le_refl 0, hn⟩⟩
theorem run_small {D : Dig} (hD : ∀ s : ByteArray, In64 (D.num s)) {p : List Ins} (ha : ∀ i ∈ p, In64 i.a) (key : ByteArray) (vals : List ByteArray) (fuel : Int) : ∀ q ∈ (runM D p key vals fuel).1, mayP q := by
 unfold runM
 split
 ·intro q hq; cases hq
 ·rename_i hn
  split
  ·intro q hq; cases hq
  ·exact play_small hD (by omega) ha _ (inv_start _ (by omega) _) (fun q hq => by cases hq)
theorem srt_small {xs : List Pair} (h : ∀ q ∈ xs, mayP q) : ∀ q ∈ srt xs, mayP q := fun q hq => h q ((srt_stab xs).symm.mem hq)
theorem eachGo_small {D : Dig} (hD : ∀ s : ByteArray, In64 (D.num s)) {p : List Ins} (ha : ∀ i ∈ p, In64 i.a) {ps : List Pair} {fuel : Int} {own : Bool} : ∀ (ks : List ByteArray) (out : List Pair), (∀ q ∈ out, mayP q) → ∀ q ∈ (eachGo D p ps fuel own ks out).1, mayP q
 | [], out, h => h
 | k :: ks, out, h => by
  unfold eachGo
  split
  ·intro q hq; cases hq
  ·split
   ·intro q hq; cases hq
   ·split
    ·intro q hq; cases hq
    ·refine eachGo_small hD ha ks _ fun q hq => ?_
     rcases List.mem_append.1 hq with h1 | h1
     ·exact h q h1
     ·exact run_small hD ha _ _ _ q h1
/-! ### In order -/
theorem comb_small {D : Dig} (hD : ∀ s : ByteArray, In64 (D.num s)) {p : List Ins} (ha : ∀ i ∈ p, In64 i.a) {ps : List Pair} {fuel : Int} (h : ∀ q ∈ ps, mayP q) : ∀ q ∈ (combM D p ps fuel).1, mayP q := by
 unfold combM
 split
 ·exact srt_small h
 ·exact eachGo_small hD ha _ _ fun q hq => by cases hq
theorem comb_len (D : Dig) (p : List Ins) (ps : List Pair) (fuel : Int) (h : ps.length ≤ 40) : (combM D p ps fuel).1.length ≤ 40 := by
 unfold combM
 split
 ·show (srt ps).length ≤ 40
  rw [srt_len]; exact h
 ·exact each_len D p ps fuel true _ _ (Nat.zero_le _)

/-! ### Jobs -/
structure Job where
 us : List (Value × List Pair)
 parts : Int
 map : List Ins
 comb : List Ins
 red : List Ins
 chunk : Int
 window : Int
 fuel : Int
 marks : List Int
def okSplit (x : List Pair) : Prop := x.length ≤ 8 ∧ mayL x
instance (x : List Pair) : Decidable (okSplit x) := inferInstanceAs (Decidable (_ ∧ _))
def marksUp (n : Int) : Int → List Int → Prop
 | _, [] => True
 | l, m :: ms => (l + 1 ≤ m ∧ m ≤ n) ∧ marksUp n m ms
instance marksUpD (n : Int) : ∀ (l : Int) (ms : List Int), Decidable (marksUp n l ms)
 | _, [] => isTrue trivial
 | _, m :: ms => haveI := marksUpD n m ms; inferInstanceAs (Decidable (_ ∧ _))
def mayJ (J : Job) : Prop :=
 (1 ≤ (J.us.length : Int) ∧ (J.us.length : Int) ≤ 6) ∧ (1 ≤ J.parts ∧ J.parts ≤ 4) ∧ J.marks.length ≤ 4 ∧ (∀ u ∈ J.us, okSplit u.2) ∧ marksUp J.us.length 0 J.marks ∧
 (0 < J.map.length ∧ badI J.map < 0) ∧ (0 < J.red.length ∧ badI J.red < 0) ∧ badI J.comb < 0 ∧ (1 ≤ J.chunk ∧ J.chunk ≤ 7) ∧ (1 ≤ J.window ∧ J.window ≤ 4) ∧ 1 ≤ J.fuel ∧ J.fuel ≤ 2000
instance mayJD (J : Job) : Decidable (mayJ J) := by unfold mayJ; infer_instance
structure OkJ (J : Job) : Prop where
 may : mayJ J
 map : ∀ i ∈ J.map, In64 i.a
 comb : ∀ i ∈ J.comb, In64 i.a
 red : ∀ i ∈ J.red, In64 i.a
theorem OkJ.us {J : Job} (h : OkJ J) : 1 ≤ J.us.length ∧ J.us.length ≤ 6 := by have := h.may.1; omega
theorem OkJ.parts {J : Job} (h : OkJ J) : 1 ≤ J.parts ∧ J.parts ≤ 4 := h.may.2.1
theorem OkJ.fuel {J : Job} (h : OkJ J) : 1 ≤ J.fuel ∧ J.fuel ≤ 2000 := h.may.2.2.2.2.2.2.2.2.2.2
theorem OkJ.split {J : Job} (h : OkJ J) : ∀ u ∈ J.us, okSplit u.2 := h.may.2.2.2.1
theorem OkJ.f64 {J : Job} (h : OkJ J) : In64 J.fuel := by have := h.fuel; unfold In64; omega
def mapGo (D : Dig) (p : List Ins) (fuel : Int) : List Pair → List Pair → List Pair × Int
 | [], out => (out, 0)
 | r :: rs, out =>
  if (runM D p r.key [r.val] fuel).2 ≠ 0 then ([], (runM D p r.key [r.val] fuel).2)
  else if 40 < out.length + (runM D p r.key [r.val] fuel).1.length then ([], 5)
  else mapGo D p fuel rs (out ++ (runM D p r.key [r.val] fuel).1)
section
variable {D : Dig} {p : List Ins} {fuel : Int} {rs : List Pair} {r : Pair} {out : List Pair} {i : Nat}
theorem map_end (h : rs.length ≤ i) : mapGo D p fuel (rs.drop i) out = (out, 0) := by
 rw [List.drop_eq_nil_of_le h]; rfl
theorem map_why (hr : rs[i]? = some r) (h : (runM D p r.key [r.val] fuel).2 ≠ 0) : mapGo D p fuel (rs.drop i) out = ([], (runM D p r.key [r.val] fuel).2) := by
 rw [drop_at hr]; exact if_pos h
theorem map_many (hr : rs[i]? = some r) (h : ¬ (runM D p r.key [r.val] fuel).2 ≠ 0) (h3 : 40 < out.length + (runM D p r.key [r.val] fuel).1.length) : mapGo D p fuel (rs.drop i) out = ([], 5) := by
 rw [drop_at hr]; unfold mapGo; rw [if_neg h, if_pos h3]
theorem map_on (hr : rs[i]? = some r) (h : ¬ (runM D p r.key [r.val] fuel).2 ≠ 0) (h3 : ¬ 40 < out.length + (runM D p r.key [r.val] fuel).1.length) :
  mapGo D p fuel (rs.drop (i + 1)) (out ++ (runM D p r.key [r.val] fuel).1) = mapGo D p fuel (rs.drop i) out := by
 rw [drop_at hr]; conv => rhs; unfold mapGo
 rw [if_neg h, if_neg h3]
theorem map_small (hD : ∀ s : ByteArray, In64 (D.num s)) (ha : ∀ i ∈ p, In64 i.a) : ∀ (rs out : List Pair), (∀ q ∈ out, mayP q) → ∀ q ∈ (mapGo D p fuel rs out).1, mayP q
 | [], out, h => h
 | r :: rs, out, h => by
  unfold mapGo
  split
  ·intro q hq; cases hq
  ·split
   ·intro q hq; cases hq
   ·refine map_small hD ha rs _ fun q hq => ?_
    rcases List.mem_append.1 hq with h1 | h1
    ·exact h q h1
    ·exact run_small hD ha _ _ _ q h1
theorem map_len : ∀ (rs out : List Pair), out.length ≤ 40 → (mapGo D p fuel rs out).1.length ≤ 40
 | [], out, h => h
 | r :: rs, out, h => by
  unfold mapGo
  split
  ·exact Nat.zero_le _
  ·split
   ·exact Nat.zero_le _
   ·exact map_len rs _ (by simp only [List.length_append]; omega)
end
def recs (J : Job) (s : Nat) : List Pair := match J.us[s]? with
 | some u => u.2
 | none => []
theorem recs_at {J : Job} {s : Nat} {u : Value × List Pair} (h : J.us[s]? = some u) : recs J s = u.2 := by unfold recs; rw [h]
def mapM (D : Dig) (J : Job) (s : Nat) : List Pair × Int := mapGo D J.map J.fuel (recs J s) []
def splitM (D : Dig) (J : Job) (s : Nat) : List Pair × Int := if (mapM D J s).2 ≠ 0 then ([], (mapM D J s).2) else combM D J.comb (mapM D J s).1 J.fuel
theorem mapM_len (D : Dig) (J : Job) (s : Nat) : (mapM D J s).1.length ≤ 40 := map_len _ _ (Nat.zero_le _)
theorem split_len (D : Dig) (J : Job) (s : Nat) : (splitM D J s).1.length ≤ 40 := by
 unfold splitM
 split
 ·exact Nat.zero_le _
 ·exact comb_len _ _ _ _ (mapM_len _ _ _)
theorem split_small {D : Dig} (hD : ∀ s : ByteArray, In64 (D.num s)) {J : Job} (h : OkJ J) (s : Nat) : ∀ q ∈ (splitM D J s).1, mayP q := by
 unfold splitM
 split
 ·intro q hq; cases hq
 ·exact comb_small hD h.comb (map_small hD h.map _ _ fun q hq => by cases hq)
def onlyM (D : Dig) (J : Job) (s : Nat) (p : Int) : List Pair := onlyP (splitM D J s).1 J.parts p
def allOf (D : Dig) (J : Job) (p : Int) : Nat → List Pair
 | 0 => []
 | k + 1 => allOf D J p k ++ onlyM D J k p
theorem onlyM_len (D : Dig) (J : Job) (s : Nat) (p : Int) : (onlyM D J s p).length ≤ 40 := Nat.le_trans (only_len _ _ _) (split_len _ _ _)
def partM (D : Dig) (J : Job) (p : Int) : List Pair × Int := eachM D J.red (srt (allOf D J p J.us.length)) J.fuel false
def partsGo (D : Dig) (J : Job) : Nat → Nat → List (List Pair) → List (List Pair) × Int × Int
 | 0, _, out => (out, 0, 0)
 | k + 1, p, out => if (partM D J p).2 ≠ 0 then ([], (partM D J p).2, p) else partsGo D J k (p + 1) (out ++ [(partM D J p).1])
def wholeGo (D : Dig) (J : Job) : Nat → Nat → List (List Pair) × Int × Int
 | 0, _ => partsGo D J J.parts.toNat 0 []
 | k + 1, s => if (splitM D J s).2 ≠ 0 then ([], (splitM D J s).2, s) else wholeGo D J k (s + 1)
def wholeM (D : Dig) (J : Job) : List (List Pair) × Int × Int := wholeGo D J J.us.length 0
section
variable {D : Dig} {J : Job} {s p : Nat} {out : List (List Pair)}
end
def runJ (D : Dig) (J : Job) (s : Nat) (p : Int) : List Pair × Int := if (splitM D J s).2 ≠ 0 then ([], (splitM D J s).2) else (onlyM D J s p, 0)
def greatJ (J : Job) : Bool := decide (¬ (J.us.length ≤ 8 ∧ ∀ u ∈ J.us, greatP u.2 10 = false)) || decide (10 < (J.marks.length : Int)) || greatC J.map || greatC J.comb || greatC J.red
theorem greatJ_hit {J : Job} {k : Nat} {A : Value} {x : List Pair} (hx : J.us[k]? = some (A, x)) (h : greatP x 10 = true) : true = greatJ J := by
 unfold greatJ
 rw [decide_eq_true (show ¬ (J.us.length ≤ 8 ∧ ∀ u ∈ J.us, greatP u.2 10 = false) from fun g => by have := g.2 _ (at_mem hx); rw [h] at this; cases this)]
 simp
theorem greatJ_of {J : Job} (h : 8 < J.us.length ∨ 10 < J.marks.length ∨ greatC J.map = true ∨ greatC J.comb = true) : true = greatJ J := by
 unfold greatJ
 rcases h with h | h | h | h
 ·rw [decide_eq_true (show ¬ (J.us.length ≤ 8 ∧ ∀ u ∈ J.us, greatP u.2 10 = false) from fun g => by omega)]; simp
 ·rw [decide_eq_true (show 10 < (J.marks.length : Int) by omega)]; simp
 ·rw [h]; simp
 ·rw [h]; simp
theorem greatJ_fin {J : Job} {k : Nat} (hn : ∀ u ∈ J.us.take k, greatP u.2 10 = false) (h1 : J.us.length ≤ k) (h2 : J.us.length ≤ 8) (h3 : J.marks.length ≤ 10) (h4 : greatC J.map = false) (h5 : greatC J.comb = false) : greatC J.red = greatJ J := by
 unfold greatJ
 rw [List.take_of_length_le h1] at hn
 rw [decide_eq_false (show ¬ ¬ (J.us.length ≤ 8 ∧ ∀ u ∈ J.us, greatP u.2 10 = false) from fun g => g ⟨h2, hn⟩), decide_eq_false (show ¬ 10 < (J.marks.length : Int) by omega), h4, h5]
 simp

theorem Cn.heads0 {α : Type} {d : Kd α} {P : Program} {f : FuncId} {args : List Value} {v : Value} {ss : List (List α)} {Rs : List SP} {T : Value → List SP → Prop}
  (h : ∀ us : List (Value × List α), us.map (·.2) = ss → Cn P f args [] (rsl (kHd d) v us :: rsl (kSl d) v ss :: Rs) T) : Cn P f args [] (rsl (kSl d) v ss :: Rs) T := by
 intro w F H
 obtain ⟨us, hus, H2⟩ := H.heads 0 rfl
 refine (h us hus w F H2).mono ?_
 rintro e W' ⟨v, rfl, Bs, t, H⟩
 exact ⟨v, rfl, Bs, t, H.dropR⟩
theorem opens_job {P : Program} {t s i c m : TypeId} {W1 : List (List Pair) → Prop} {W2 : List Ins → Prop} {W3 : List Int → Prop}
  (hs : stOf P t = some [(s, 0, 1), (i, 1, 1), (c, 2, 1), (c, 3, 1), (c, 4, 1), (i, 5, 1), (i, 6, 1), (i, 7, 1), (m, 8, 1)]) (hc : P.cellsOf t = 9) (hi : P.underlying i = some (.int .i64))
  (h1 : Opens P s (kSl (kSl kPair)) W1) (h2 : Opens P c (kSl kIns) W2) (h3 : Opens P m (kSl (kInt .i64)) W3)
  {H : Type} (enc : TypeId × Value → H) (w : World) (fuel : Nat) (cs : List Value) (x : DataW H × List MemPlace) (h : DataW.trod enc P w 0 (fun _ => true) true fuel t cs = some x) :
  ∃ (vS : Value) (ss : List (List Pair)) (n1 : Int) (vM : Value) (map : List Ins) (vC : Value) (comb : List Ins) (vR : Value) (red : List Ins) (n5 n6 n7 : Int) (vK : Value) (marks : List Int),
   cs = [vS, .int .i64 n1, vM, vC, vR, .int .i64 n5, .int .i64 n6, .int .i64 n7, vK] ∧ ((rsl (kSl kPair) vS ss).P w (Old w) ∧ (rsl kIns vM map).P w (Old w) ∧ (rsl kIns vC comb).P w (Old w) ∧ (rsl kIns vR red).P w (Old w) ∧ (rsl (kInt .i64) vK marks).P w (Old w)) ∧
   (W1 ss ∧ W2 map ∧ W2 comb ∧ W2 red ∧ W3 marks) ∧ (In64 n1 ∧ In64 n5 ∧ In64 n6 ∧ In64 n7) := by
 obtain ⟨hl, n, hf⟩ := open_st hs h
 rw [hc] at hl
 match cs, hl with
 | [c0, c1, c2, c3, c4, c5, c6, c7, c8], _ =>
  obtain ⟨y0, g0⟩ := hf 0 _ _ _ rfl
  obtain ⟨y1, g1⟩ := hf 1 _ _ _ rfl
  obtain ⟨y2, g2⟩ := hf 2 _ _ _ rfl
  obtain ⟨y3, g3⟩ := hf 3 _ _ _ rfl
  obtain ⟨y4, g4⟩ := hf 4 _ _ _ rfl
  obtain ⟨y5, g5⟩ := hf 5 _ _ _ rfl
  obtain ⟨y6, g6⟩ := hf 6 _ _ _ rfl
  obtain ⟨y7, g7⟩ := hf 7 _ _ _ rfl
  obtain ⟨y8, g8⟩ := hf 8 _ _ _ rfl
  obtain ⟨a0, r0, w0⟩ := h1 enc w n _ _ g0
  obtain ⟨a1, r1, w1⟩ := opens_int hi enc w n _ _ g1
  obtain ⟨a2, r2, w2⟩ := h2 enc w n _ _ g2
  obtain ⟨a3, r3, w3⟩ := h2 enc w n _ _ g3
  obtain ⟨a4, r4, w4⟩ := h2 enc w n _ _ g4
  obtain ⟨a5, r5, w5⟩ := opens_int hi enc w n _ _ g5
  obtain ⟨a6, r6, w6⟩ := opens_int hi enc w n _ _ g6
  obtain ⟨a7, r7, w7⟩ := opens_int hi enc w n _ _ g7
  obtain ⟨a8, r8, w8⟩ := h3 enc w n _ _ g8
  have q1 : [c1] = [Value.int .i64 a1] := r1
  have q5 : [c5] = [Value.int .i64 a5] := r5
  have q6 : [c6] = [Value.int .i64 a6] := r6
  have q7 : [c7] = [Value.int .i64 a7] := r7
  simp only [List.cons.injEq, and_true] at q1 q5 q6 q7
  subst q1 q5 q6 q7
  exact ⟨c0, a0, a1, c2, a2, c3, a3, c4, a4, a5, a6, a7, c8, a8, rfl, ⟨r0, r2, r3, r4, r8⟩, ⟨w0, w2, w3, w4, w8⟩, w1, w5, w6, w7⟩

structure SameJ (A B : Job) : Prop where
 us : A.us.map (·.2) = B.us.map (·.2)
 rest : A = { B with us := A.us }
theorem SameJ.refl (A : Job) : SameJ A A := ⟨rfl, rfl⟩
theorem SameJ.symm {A B : Job} (h : SameJ A B) : SameJ B A := by
 obtain ⟨h1, h2⟩ := h
 refine ⟨h1.symm, ?_⟩
 rw [h2]
theorem SameJ.trans {A B C : Job} (h : SameJ A B) (k : SameJ B C) : SameJ A C := by
 obtain ⟨h1, h2⟩ := h
 obtain ⟨k1, k2⟩ := k
 refine ⟨h1.trans k1, ?_⟩
 rw [h2, k2]
section
variable {A B : Job} (h : SameJ A B)
include h
theorem SameJ.parts : A.parts = B.parts := by rw [h.rest]
theorem SameJ.map : A.map = B.map := by rw [h.rest]
theorem SameJ.comb : A.comb = B.comb := by rw [h.rest]
theorem SameJ.red : A.red = B.red := by rw [h.rest]
theorem SameJ.chunk : A.chunk = B.chunk := by rw [h.rest]
theorem SameJ.window : A.window = B.window := by rw [h.rest]
theorem SameJ.fuel : A.fuel = B.fuel := by rw [h.rest]
theorem SameJ.marks : A.marks = B.marks := by rw [h.rest]
theorem SameJ.len : A.us.length = B.us.length := by have := congrArg List.length h.us; simpa using this
theorem SameJ.recs (s : Nat) : recs A s = recs B s := by
 have e : ∀ J : Job, X.recs J s = ((J.us.map (·.2))[s]?).getD [] := by
  intro J
  unfold X.recs
  rw [List.getElem?_map]
  cases J.us[s]? <;> rfl
 rw [e, e, h.us]
theorem SameJ.split (D : Dig) (s : Nat) : splitM D A s = splitM D B s := by
 unfold splitM mapM
 rw [h.recs, h.map, h.comb, h.fuel]
theorem SameJ.only (D : Dig) (s : Nat) (p : Int) : onlyM D A s p = onlyM D B s p := by
 unfold onlyM
 rw [h.split, h.parts]
theorem SameJ.all (D : Dig) (p : Int) : ∀ k, allOf D A p k = allOf D B p k
 | 0 => rfl
 | k + 1 => by unfold allOf; rw [SameJ.all D p k, h.only]
theorem SameJ.part (D : Dig) (p : Int) : partM D A p = partM D B p := by
 unfold partM
 rw [h.all, h.red, h.fuel, h.len]
theorem SameJ.run (D : Dig) (s : Nat) (p : Int) : runJ D A s p = runJ D B s p := by
 unfold runJ
 rw [h.split, h.only]
theorem SameJ.partsGo (D : Dig) : ∀ k p out, partsGo D A k p out = partsGo D B k p out
 | 0, _, _ => rfl
 | k + 1, p, out => by unfold X.partsGo; rw [h.part, SameJ.partsGo D k]
theorem SameJ.wholeGo (D : Dig) : ∀ k s, wholeGo D A k s = wholeGo D B k s
 | 0, _ => by unfold X.wholeGo; rw [h.partsGo, h.parts]
 | k + 1, s => by unfold X.wholeGo; rw [h.split, SameJ.wholeGo D k]
theorem SameJ.whole (D : Dig) : wholeM D A = wholeM D B := by
 unfold wholeM
 rw [h.wholeGo, h.len]
theorem SameJ.may (m : mayJ A) : mayJ B := by
 obtain ⟨m1, m2, m3, m4, m5, m6, m7, m8, m9, m10, m11⟩ := m
 have hs : ∀ u ∈ B.us, okSplit u.2 := by
  intro u hu
  have : u.2 ∈ B.us.map (·.2) := List.mem_map_of_mem hu
  rw [← h.us] at this
  obtain ⟨v, hv, e⟩ := List.mem_map.1 this
  rw [← e]; exact m4 v hv
 rw [h.len, h.marks] at m5
 rw [h.parts] at m2; rw [h.marks] at m3; rw [h.map] at m6; rw [h.red] at m7; rw [h.comb] at m8; rw [h.chunk] at m9; rw [h.window] at m10; rw [h.fuel] at m11
 exact ⟨by rw [← h.len]; exact m1, m2, m3, hs, m5, m6, m7, m8, m9, m10, m11⟩
theorem SameJ.ok (k : OkJ A) : OkJ B := ⟨h.may k.may, by have := k.map; rwa [h.map] at this, by have := k.comb; rwa [h.comb] at this, by have := k.red; rwa [h.red] at this⟩
end
theorem OkJ.chunk1 {J : Job} (h : OkJ J) : 1 ≤ J.chunk ∧ J.chunk ≤ 7 := h.may.2.2.2.2.2.2.2.2.1
theorem OkJ.window1 {J : Job} (h : OkJ J) : 1 ≤ J.window ∧ J.window ≤ 4 := h.may.2.2.2.2.2.2.2.2.2.1
structure Cf where
 J : Job
 w : Int
 t : Int
 o : Int
def mayC (C : Cf) : Prop := mayJ C.J ∧ (1 ≤ C.w ∧ C.w ≤ 4) ∧ (1 ≤ C.t ∧ C.t ≤ 3) ∧ 1 ≤ C.o ∧ C.o ≤ 50
instance mayCD (C : Cf) : Decidable (mayC C) := by unfold mayC; infer_instance
structure SameC (A B : Cf) : Prop where
 J : SameJ A.J B.J
 w : A.w = B.w
 t : A.t = B.t
 o : A.o = B.o
theorem SameC.refl (A : Cf) : SameC A A := ⟨SameJ.refl _, rfl, rfl, rfl⟩
theorem SameC.symm {A B : Cf} (h : SameC A B) : SameC B A := ⟨h.J.symm, h.w.symm, h.t.symm, h.o.symm⟩
theorem SameC.trans {A B C : Cf} (h : SameC A B) (k : SameC B C) : SameC A C := ⟨h.J.trans k.J, h.w.trans k.w, h.t.trans k.t, h.o.trans k.o⟩
structure OkC (C : Cf) : Prop where
 may : mayC C
 ok : OkJ C.J
theorem SameC.may {A B : Cf} (h : SameC A B) (m : mayC A) : mayC B := ⟨h.J.may m.1, by rw [← h.w]; exact m.2.1, by rw [← h.t]; exact m.2.2.1, by rw [← h.o]; exact m.2.2.2⟩
theorem OkC.w {C : Cf} (h : OkC C) : 1 ≤ C.w ∧ C.w ≤ 4 := h.may.2.1
theorem OkC.t {C : Cf} (h : OkC C) : 1 ≤ C.t ∧ C.t ≤ 3 := h.may.2.2.1
theorem OkC.o {C : Cf} (h : OkC C) : 1 ≤ C.o ∧ C.o ≤ 50 := h.may.2.2.2
/-! ### Records and messages in plain words -/
structure RecP where
 kind : Int
 part : Int
 sp : Int
 att : Int
 why : Int
 set : List Int
 pairs : List Pair
def Rec.p (r : Rec) : RecP := ⟨r.kind, r.part, r.sp, r.att, r.why, r.set, r.pairs⟩
structure Msg where
 kind : Int
 sp : Int
 att : Int
 part : Int
 seq : Int
 next : Int
 ep : Int
 why : Int
 set : List Int
 pairs : List Pair

def ackN (c n : Int) : Int := min (max n 0) c
def ackB (c e x ep n : Int) : Bool := decide (max e 1 ≤ ep ∧ ¬ (ep = e ∧ ackN c n ≤ x))
def ackE (c e x ep n : Int) : Int := if ackB c e x ep n = true then ep else e
def ackX (c e x ep n : Int) : Int := if ackB c e x ep n = true then ackN c n else x
theorem ack_yes {c e x ep n : Int} (h : max e 1 ≤ ep ∧ ¬ (ep = e ∧ ackN c n ≤ x)) : ackB c e x ep n = true ∧ ackE c e x ep n = ep ∧ ackX c e x ep n = ackN c n := by
 have hb : ackB c e x ep n = true := decide_eq_true h
 exact ⟨hb, if_pos hb, if_pos hb⟩
theorem ack_no {c e x ep n : Int} (h : ¬ (max e 1 ≤ ep ∧ ¬ (ep = e ∧ ackN c n ≤ x))) : ackB c e x ep n = false ∧ ackE c e x ep n = e ∧ ackX c e x ep n = x := by
 have hb : ackB c e x ep n = false := decide_eq_false h
 exact ⟨hb, if_neg (by rw [hb]; decide), if_neg (by rw [hb]; decide)⟩
theorem ack_in {c e x ep n : Int} (hc : 0 ≤ c) (hx : 0 ≤ x ∧ x ≤ c) (he : 0 ≤ e) (h1 : e ≤ 9223372036854775807) (h2 : In64 ep) :
  (0 ≤ ackX c e x ep n ∧ ackX c e x ep n ≤ c) ∧ 0 ≤ ackE c e x ep n ∧ ackE c e x ep n ≤ 9223372036854775807 := by
 unfold In64 at h2
 by_cases h : max e 1 ≤ ep ∧ ¬ (ep = e ∧ ackN c n ≤ x)
 ·obtain ⟨_, a, b⟩ := ack_yes h
  rw [a, b]
  unfold ackN at *
  omega
 ·obtain ⟨_, a, b⟩ := ack_no h
  rw [a, b]
  omega
def upL (x : Int) (k : Nat) : List Int := (List.range k).map fun (i : Nat) => x + (i : Int)
theorem upL_len (x : Int) (k : Nat) : (upL x k).length = k := by simp [upL]
theorem upL_succ (x : Int) (k : Nat) : upL x (k + 1) = upL x k ++ [x + (k : Int)] := by simp [upL, List.range_succ]
theorem upL_get {x y : Int} {k i : Nat} (h : (upL x k)[i]? = some y) : y = x + (i : Int) := by
 simp only [upL, List.getElem?_map] at h
 rcases Option.map_eq_some_iff.1 h with ⟨j, hj, rfl⟩
 have := List.getElem?_eq_some_iff.1 hj
 obtain ⟨h1, h2⟩ := this
 simp at h2
 rw [← h2]
def openL (c s x : Int) : List Int := upL x (min s (c - x)).toNat
theorem openL_len (c s x : Int) : (openL c s x).length = (min s (c - x)).toNat := upL_len _ _

def be8 (n : Nat) : List UInt8 := (List.range 8).map fun i => UInt8.ofNat (n / 256 ^ (7 - i))
def rd8 (l : List UInt8) : Nat := l.foldl (fun n x => n * 256 + x.toNat) 0
theorem be8_len (n : Nat) : (be8 n).length = 8 := by simp [be8]
theorem be8_eq (n : Nat) : be8 n = [UInt8.ofNat (n / 72057594037927936), UInt8.ofNat (n / 281474976710656), UInt8.ofNat (n / 1099511627776), UInt8.ofNat (n / 4294967296), UInt8.ofNat (n / 16777216), UInt8.ofNat (n / 65536), UInt8.ofNat (n / 256), UInt8.ofNat (n / 1)] := rfl
theorem rd8_be8 {n : Nat} (h : n < 18446744073709551616) : rd8 (be8 n) = n := by
 rw [be8_eq]
 simp only [rd8, List.foldl_cons, List.foldl_nil, UInt8.toNat_ofNat']
 omega
theorem rd8_lt : ∀ (l : List UInt8) (k : Nat), rd8 l < 256 ^ l.length := by
 intro l _
 have : ∀ (l : List UInt8) (n m : Nat), n < 256 ^ m → l.foldl (fun n x => n * 256 + x.toNat) n < 256 ^ (m + l.length) := by
  intro l
  induction l with
  | nil => intro n m h; exact h
  | cons x l ih =>
   intro n m h
   have hx := UInt8.toNat_lt x
   have := ih (n * 256 + x.toNat) (m + 1) (by rw [Nat.pow_succ]; omega)
   rw [List.foldl_cons, List.length_cons, show m + (l.length + 1) = m + 1 + l.length by omega]
   exact this
 have := this l 0 0 (by decide)
 rwa [Nat.zero_add] at this
theorem rd8_snoc (l : List UInt8) (x : UInt8) : rd8 (l ++ [x]) = rd8 l * 256 + x.toNat := by
 unfold rd8; rw [List.foldl_append]; rfl
def bytesOf (s : ByteArray) : List UInt8 := s.data.toList
def textB (s : ByteArray) : List UInt8 := be8 s.size ++ bytesOf s
theorem bytesOf_len (s : ByteArray) : (bytesOf s).length = s.size := by unfold bytesOf; exact Array.length_toList
theorem textB_len (s : ByteArray) : (textB s).length = 8 + s.size := by unfold textB; rw [List.length_append, be8_len, bytesOf_len]
def strOf (l : List UInt8) : ByteArray := ⟨l.toArray⟩
theorem strOf_bytes (s : ByteArray) : strOf (bytesOf s) = s := by cases s; simp [strOf, bytesOf]
theorem bytes_strOf (l : List UInt8) : bytesOf (strOf l) = l := by simp [strOf, bytesOf]
def rdNum (b : List UInt8) (at_ : Int) : Option (Int × Int) :=
 if at_ < 0 ∨ (b.length : Int) < at_ ∨ (b.length : Int) - at_ < 8 then none else some (IntKind.i64.wrap (rd8 ((b.drop at_.toNat).take 8) : Nat), at_ + 8)
def rdText (b : List UInt8) (at_ : Int) : Option (ByteArray × Int) :=
 match rdNum b at_ with
 | none => none
 | some (n, next) => if n < 0 ∨ (b.length : Int) - next < n then none else some (strOf ((b.drop next.toNat).take n.toNat), next + n)
theorem rdNum_at {a c : List UInt8} {n k : Nat} (hn : n < 9223372036854775808) (hk : a.length = k) : rdNum (a ++ (be8 n ++ c)) (k : Int) = some ((n : Int), ((k + 8 : Nat) : Int)) := by
 subst hk
 unfold rdNum
 rw [if_neg (by rw [List.length_append, List.length_append, be8_len]; omega)]
 have h1 : ((a ++ (be8 n ++ c)).drop ((a.length : Nat) : Int).toNat).take 8 = be8 n := by
  rw [Int.toNat_natCast, List.drop_left, ← be8_len n, List.take_left]
 rw [h1, rd8_be8 (by omega), w64 (by omega) (by omega)]
 rfl
theorem rdText_at {a c : List UInt8} {s : ByteArray} {k : Nat} (hs : s.size < 9223372036854775808) (hk : a.length = k) : rdText (a ++ (textB s ++ c)) (k : Int) = some (s, ((k + 8 + s.size : Nat) : Int)) := by
 unfold rdText
 have h : a ++ (textB s ++ c) = a ++ (be8 s.size ++ (bytesOf s ++ c)) := by unfold textB; rw [List.append_assoc]
 rw [h, rdNum_at hs hk]
 dsimp only
 rw [if_neg (by rw [List.length_append, List.length_append, List.length_append, be8_len, bytesOf_len]; omega)]
 have h2 : (a ++ (be8 s.size ++ (bytesOf s ++ c))).drop ((k + 8 : Nat) : Int).toNat = bytesOf s ++ c := by
  rw [Int.toNat_natCast, ← List.append_assoc, show k + 8 = (a ++ be8 s.size).length by rw [List.length_append, be8_len, hk], List.drop_left]
 rw [h2, Int.toNat_natCast, ← bytesOf_len s, List.take_left, strOf_bytes, bytesOf_len]
 rfl
def packP (ps : List Pair) : List UInt8 := ps.flatMap fun p => textB p.key ++ textB p.val
def packB (ps : List Pair) : List UInt8 := be8 ps.length ++ packP ps
theorem packP_snoc (ps : List Pair) (p : Pair) : packP (ps ++ [p]) = packP ps ++ (textB p.key ++ textB p.val) := by unfold packP; rw [List.flatMap_append]; simp
theorem packP_split {ps : List Pair} {k : Nat} {p : Pair} (h : ps[k]? = some p) : packP ps = packP (ps.take k) ++ (textB p.key ++ (textB p.val ++ packP (ps.drop (k + 1)))) := by
 obtain ⟨hl, e⟩ := List.getElem?_eq_some_iff.1 h
 have : ps = ps.take k ++ p :: ps.drop (k + 1) := by rw [← e, ← List.drop_eq_getElem_cons hl, List.take_append_drop]
 conv => lhs; rw [this]
 unfold packP
 rw [List.flatMap_append, List.flatMap_cons, List.append_assoc]
def encB (x : UInt8) : List Value := [.int .u8 x.toNat]
def kByte : Kd UInt8 := flat encB 1 (by omega) (fun _ => rfl) (fun _ c h => by simp [encB] at h; subst h; rfl)

structure WinD where
 c : Int
 s : Int
 e : Int
 x : Int
def okW (w : WinD) : Prop := (0 ≤ w.c ∧ w.c ≤ 40 ∧ 1 ≤ w.s ∧ w.s ≤ 4) ∧ (0 ≤ w.x ∧ w.x ≤ w.c) ∧ 0 ≤ w.e ∧ w.e ≤ 9223372036854775807
def ackW (w : WinD) (ep n : Int) : WinD := ⟨w.c, w.s, ackE w.c w.e w.x ep n, ackX w.c w.e w.x ep n⟩
theorem ackW_ok {w : WinD} {ep n : Int} (h : okW w) (he : In64 ep) : okW (ackW w ep n) := by
 obtain ⟨h1, h2, h3, h4⟩ := h
 have := ack_in (n := n) h1.1 h2 h3 h4 he
 exact ⟨h1, this.1, this.2⟩
def cutSz (chunk att : Int) : Int := if att.tmod 2 ≠ 0 then chunk + 1 else chunk
def chunksN (n size : Int) : Int := if n < 1 ∨ size < 1 then 0 else (n - 1).tdiv size + 1
def cutL (ps : List Pair) (size q : Int) : List Pair := if q < 0 ∨ chunksN ps.length size ≤ q then [] else (ps.drop (q * size).toNat).take size.toNat
def countsM (D : Dig) (J : Job) (s : Nat) (att : Int) : List Int :=
 if (splitM D J s).2 ≠ 0 then [] else (List.range J.parts.toNat).map fun (p : Nat) => chunksN ((onlyM D J s p).length : Nat) (cutSz J.chunk att)
structure Mpr where
 sp : Nat
 att : Int
 ws : List WinD
def newMpr (D : Dig) (J : Job) (s : Nat) (att : Int) : Mpr := ⟨s, att, (countsM D J s att).map fun n => ⟨n, J.window, 0, 0⟩⟩
def chunkM (D : Dig) (J : Job) (s : Nat) (att p q : Int) : List Pair := if p < 0 then [] else cutL (onlyM D J s p) (cutSz J.chunk att) q
def pushAt (D : Dig) (J : Job) (s : Nat) (att : Int) (w : WinD) (p : Nat) : List Msg :=
 (openL w.c w.s w.x).map fun q => ⟨2, s, att, p, q, 0, 0, 0, [], chunkM D J s att p q⟩
def pushGo (D : Dig) (J : Job) (s : Nat) (att : Int) : List WinD → Nat → List Msg
 | [], _ => []
 | w :: ws, p => pushAt D J s att w p ++ pushGo D J s att ws (p + 1)
def pushMpr (D : Dig) (J : Job) (m : Mpr) : List Msg := pushGo D J m.sp m.att m.ws 0
def ackMay (m : Mpr) (p : Int) : Prop := 0 ≤ p ∧ p < m.ws.length
instance (m : Mpr) (p : Int) : Decidable (ackMay m p) := by unfold ackMay; infer_instance
def ackMpr (m : Mpr) (p ep n : Int) : Mpr × Bool :=
 if ackMay m p then match m.ws[p.toNat]? with
  | some w => ({ m with ws := m.ws.set p.toNat (ackW w ep n) }, ackB w.c w.e w.x ep n)
  | none => (m, false)
 else (m, false)
def doneMpr (m : Mpr) : Bool := m.ws.all fun w => decide (w.x = w.c)
theorem chunks_pos {n size : Int} (h1 : 1 ≤ n) (h2 : 1 ≤ size) : 1 ≤ chunksN n size ∧ chunksN n size ≤ n := by
 unfold chunksN
 rw [if_neg (by omega)]
 have h3 : (n - 1).tdiv size = (n - 1) / size := Int.tdiv_eq_ediv_of_nonneg (by omega)
 rw [h3]
 have h4 : 0 ≤ (n - 1) / size := Int.ediv_nonneg (by omega) (by omega)
 have h5 : (n - 1) / size ≤ n - 1 := Int.ediv_le_self _ (by omega)
 omega
theorem chunks_in {n size : Int} (h : 0 ≤ n) : 0 ≤ chunksN n size ∧ chunksN n size ≤ n := by
 by_cases h1 : n < 1 ∨ size < 1
 ·unfold chunksN; rw [if_pos h1]; omega
 ·have := chunks_pos (n := n) (size := size) (by omega) (by omega); omega
theorem cutSz_in {chunk att : Int} (h : 1 ≤ chunk ∧ chunk ≤ 7) : 1 ≤ cutSz chunk att ∧ cutSz chunk att ≤ 8 := by
 unfold cutSz; split <;> omega
theorem counts_len (D : Dig) (J : Job) (s : Nat) (att : Int) : (countsM D J s att).length = if (splitM D J s).2 ≠ 0 then 0 else J.parts.toNat := by
 unfold countsM
 split
 ·rfl
 ·simp
theorem counts_in {D : Dig} {J : Job} {s : Nat} {att n : Int} (h : n ∈ countsM D J s att) : 0 ≤ n ∧ n ≤ 40 := by
 unfold countsM at h
 split at h
 ·cases h
 ·obtain ⟨p, _, rfl⟩ := List.mem_map.1 h
  have h1 := chunks_in (n := ((onlyM D J s p).length : Nat)) (size := cutSz J.chunk att) (by omega)
  have h2 := onlyM_len D J s p
  omega
theorem newMpr_ok {D : Dig} {J : Job} (hJ : OkJ J) (s : Nat) (att : Int) : ∀ w ∈ (newMpr D J s att).ws, okW w := by
 intro w hw
 obtain ⟨n, hn, rfl⟩ := List.mem_map.1 hw
 have := counts_in hn
 have := hJ.window1
 exact ⟨⟨by (try dsimp only); omega, by (try dsimp only); omega, by (try dsimp only); omega, by (try dsimp only); omega⟩, ⟨by (try dsimp only); omega, by (try dsimp only); omega⟩, by (try dsimp only); omega, by (try dsimp only); omega⟩

theorem encB_map : ∀ l : List UInt8, l.flatMap encB = l.map fun b => Value.int .u8 b.toNat
 | [] => rfl
 | x :: l => by rw [List.flatMap_cons, encB_map l]; rfl
section
variable {P : Program} {ops : Array Oper} {Q : Exit → Act → World → Prop} {rest : List Oper} {n : Nat} {l : Env} {w0 w : World} {F F0 : Foot} {o : Oper} {v : Value} {As Rs : List SP} {x y z : Operand} {t : TypeId}
section
variable {α : Type} {enc : α → List Value} {sz : Nat} {hp : 0 < sz} {hl : ∀ x, (enc x).length = sz} {h1 : ∀ x, ∀ c ∈ enc x, c.oneCell' = true}
theorem s_copyIn {e bytes : Nat} {b bt : Nat} {xs ys : List α} {B : Option Addr} {m c c2 : Nat} (hg : gd ops l o = some true) (hd : dok n o.dst = true) (ho : o.op = .call { callee := .builtin .copy, args := #[x, y], argTypes := #[t, t] }) (hs : slOf P t = some (e, sz, bytes))
  (hx : ev l x = some (.slice (some ⟨b, 0, none⟩) m c)) (hy : ev l y = some (.slice B m c2)) (H : Hd w0 F0 w (rowF enc b bt xs :: As) Rs) (hc : xs.length = c) (hmc : m ≤ c)
  (hn : ∀ F, (∀ A ∈ As, A.P w F) → (∀ R ∈ Rs, R.P w F) → (rsl (flat enc sz hp hl h1) (.slice B m c2) ys).P w F)
  (h : ∀ w', Hd w0 F0 w' (rowF enc b bt (ys ++ xs.drop m) :: As) Rs → WL P ops Q rest n (upO l o.dst (.int .i64 (m : Int))) w') : WL P ops Q (o :: rest) n l w := by
 obtain ⟨F, hF1, hF2⟩ : ∃ F, (∀ A ∈ As, A.P w F) ∧ (∀ R ∈ Rs, R.P w F) := H.read fun F a r => ⟨F, fun A hA => a A (List.mem_cons_of_mem _ hA), r⟩
 obtain ⟨hyl, _, _, news, hnr, hnR⟩ : slR (flat enc sz hp hl h1) w F ys B m c2 := by
  obtain ⟨A', n', c', e', h'⟩ := hn F hF1 hF2
  cases e'
  exact h'
 have hnl : news.length = m * sz := by rw [hnR.len, hyl]; rfl
 have hm0 : B = none → m = 0 := by
  intro hB
  rcases hnr.2 with rfl | ⟨b, off, C, t', fr, e', _⟩
  ·have : m * sz = 0 := by rw [← hnl]; rfl
   exact (Nat.mul_eq_zero.1 this).resolve_right (by omega)
  ·rw [hB] at e'; cases e'
 obtain ⟨hu, i, hi, hi1, hi2⟩ := slOf_spec hs
 have hfc := firstCells_row (P := P) (c := c2) hnr hnl hm0
 have hnews : news = ys.flatMap enc := RepsR.flat_eq.1 hnR
 obtain ⟨F1, hb⟩ : ∃ F, (rowF enc b bt xs).P w F := H.fact (List.mem_cons_self ..) fun F hb => ⟨F, hb⟩
 have hfit : 0 + 0 + news.length ≤ (xs.flatMap enc).length := by rw [hnl, flat_len hl, Nat.add_zero, Nat.zero_add]; exact Nat.mul_le_mul_right _ (by omega)
 obtain ⟨w', hr, _, _⟩ := run_put (P := P) news (xs.flatMap enc) 0 0 w hb hfit hnR.one
 have hnew : puts (xs.flatMap enc) (0 + 0) news = (ys ++ xs.drop m).flatMap enc := by
  rw [Nat.add_zero, puts_eq _ _ _ (by rw [Nat.zero_add] at hfit ⊢; simpa using hfit), hnews, List.take_zero, flat_len hl, hyl, Nat.zero_add, flat_drop hl]
  simp
 refine s_val hg hd (v := .int .i64 (m : Int)) (w' := w') (fun a ha => ?_) (h w' (H.write fun F' hb' => ?_))
 ·simp [execOp, ho, resolve, ha.eval hx, ha.eval hy, invoke, builtin, Builtin.copy_, run_underlying hu, sizeOf, typeInfo, hi, hi1, Builtin.lenOf, hfc w rfl, hr, goInt]
 ·obtain ⟨w'', hr', h2, h3⟩ := run_put (P := P) news (xs.flatMap enc) 0 0 w hb' hfit hnR.one
  rw [hr] at hr'
  cases hr'
  refine ⟨?_, h3⟩
  show (blk b _ bt).P w' F'
  rw [← hnew]
  exact h2
end
theorem s_appStr {e bytes : Nat} {zv u : Value} {xs : List UInt8} {s : ByteArray} {ts : TypeId}
  (hg : gd ops l o = some true) (hd : dok n o.dst = true) (ho : o.op = .call { callee := .builtin .append, args := #[x, y], argTypes := #[t, ts] }) (hs : slOf P t = some (e, 1, bytes)) (hz : zrOf P e = some zv) (hzs : zv.cells.size = 1) (hb0 : 0 < bytes) (hts : P.underlying ts = some .string)
  (hx : ev l x = some u) (hy : ev l y = some (.string s)) (H : Hd w0 F0 w (osl kByte u xs :: As) Rs) (hb : (xs.length + s.size) * bytes ≤ 140737488355328)
  (h : ∀ u' w', Hd w0 F0 w' (osl kByte u' (xs ++ bytesOf s) :: As) Rs → WL P ops Q rest n (upO l o.dst u') w') : WL P ops Q (o :: rest) n l w := by
 obtain ⟨hu, i, hi, hi1, hi2⟩ := slOf_spec hs
 have hfc : ∀ w' : World, w'.heap = w.heap → (Builtin.firstCells 1 s.size (.string s)).run P w' = .ok ((bytesOf s).flatMap encB).toArray w' := by
  intro w' _
  have e1 : s.extract 0 s.size = s := by simp
  simp only [Builtin.firstCells, e1, Sem.run_pure]
  rw [encB_map]
  congr 1
  apply Array.ext'
  simp [bytesOf]
 have hnl : ((bytesOf s).flatMap encB).length = s.size * 1 := by rw [encB_map, List.length_map, bytesOf_len, Nat.mul_one]
 have h1 : ∀ c ∈ (bytesOf s).flatMap encB, c.oneCell' = true := by
  rw [encB_map]
  intro c hc
  obtain ⟨b, _, rfl⟩ := List.mem_map.1 hc
  rfl
 have key : ∀ F1, (osl kByte u xs).P w F1 → (∀ k, F1 k → k < w.heap.size) → ∃ A c A' c' w' F', u = .slice A xs.length c ∧ (Builtin.append_ #[t, ts] o.type #[u, .string s]).run P w = .ok (.slice A' (xs.length + s.size) c') w' ∧ (osl kByte (.slice A' (xs.length + s.size) c') (xs ++ bytesOf s)).P w' F' ∧ Upd F1 w w' ∧ (∀ k, F' k → k < w'.heap.size ∧ (F1 k ∨ w.heap.size ≤ k)) := by
  rintro F1 ⟨A, n', c, e', hxl, cs, G1, G2, g1, g2, gd, hr, hR⟩ hlt
  cases e'
  subst hxl
  obtain ⟨A', c', w', F', hrun, hrow, hupd, hF'⟩ := run_append_gen (P := P) (tx := ts) (ty := o.type) (x := .string s) (m := s.size) (news := (bytesOf s).flatMap encB) hs hz hzs hts (.inr rfl) hr (fun k hk => hlt k (g1 k hk)) (by simp [Builtin.lenOf]) hfc hnl h1 hb0 hb
  refine ⟨A, c, A', c', w', F', rfl, hrun, ?_, ⟨hupd.os, hupd.tape, hupd.output, hupd.size, fun k hk hn' => hupd.block k hk (fun q => hn' (g1 k q))⟩, fun k hk => ⟨(hF' k hk).1, (hF' k hk).2.imp (g1 k) id⟩⟩
  exact ⟨A', _, c', rfl, by rw [List.length_append, bytesOf_len], cs ++ (bytesOf s).flatMap encB, F', none_, fun _ q => q, fun _ q => q.elim, fun _ _ q => q, hrow, RepsO.flatR (F := none_) (RepsR.flat_eq.2 (by rw [RepsR.flat_eq.1 hR.toR]; simp))⟩
 have hall : ∃ F1, (osl kByte u xs).P w F1 ∧ ∀ k, F1 k → k < w.heap.size := by
  obtain ⟨F, G, ⟨F1, F2, a1, a2, a3, a, s⟩, r, d, f, g, u⟩ := H
  exact ⟨F1, a, fun k hk => (f k (a1 k hk)).1⟩
 obtain ⟨F1, hO, hlt⟩ := hall
 obtain ⟨A, c, A', c', w', F', hue, hrun, _, _, _⟩ := key F1 hO hlt
 refine s_val hg hd (v := .slice A' (xs.length + s.size) c') (w' := w') (fun a ha => ?_) (h _ _ (H.grow fun F2 hO2 hlt2 => ?_))
 ·simp [execOp, ho, resolve, ha.eval hx, ha.eval hy, invoke, builtin, hrun]
 ·obtain ⟨A3, c3, A4, c4, w4, F4, _, hrun4, h4, h5, h6⟩ := key F2 hO2 hlt2
  rw [hrun] at hrun4
  cases hrun4
  exact ⟨F4, h4, h5, h6⟩
theorem s_strBytes {src dst e : TypeId} {s : ByteArray} (hg : gd ops l o = some true) (hd : dok n o.dst = true) (ho : o.op = .convert src dst x) (hs : P.underlying src = some .string) (hd' : P.underlying dst = some (.slice e)) (he : P.underlying e = some (.int .u8)) (hx : ev l x = some (.string s))
  (hb : s.size ≤ 140737488355328) (H : Hd w0 F0 w As Rs)
  (h : ∀ b c w', s.size ≤ c → c ≤ 9223372036854775807 → Hd w0 F0 w' As (rsl kByte (.slice (some ⟨b, 0, none⟩) s.size c) (bytesOf s) :: Rs) → WL P ops Q rest n (upO l o.dst (.slice (some ⟨b, 0, none⟩) s.size c)) w') : WL P ops Q (o :: rest) n l w := by
 have hr := run_bytes_of_string w src dst e s hs hd' he
 have hge := grownCap_ge w s.size 0 e
 have hle : grownCap w s.size 0 e ≤ 9223372036854775807 := by
  have := grownCap_le_maxLen w s.size 0 e (by simp only [maxLen]; omega)
  simpa [maxLen] using this
 generalize hc : grownCap w s.size 0 e = c at hr hge hle
 generalize hC : bytesRow s c = C at hr
 have hCl : C.toList.take s.size = (bytesOf s).flatMap encB := by
  rw [← hC, encB_map]
  unfold bytesRow
  rw [Array.toList_append, List.take_append_of_le_length (by simp)]
  rw [List.take_of_length_le (by simp)]
  simp [bytesOf]
 refine s_val hg hd (v := .slice (some ⟨w.heap.size, 0, none⟩) s.size c) (w' := w.drew.alloc (.cells C e (C.size, C.size + 1))) (fun a ha => ?_) (h _ c _ hge hle (Hd.lend (A := rsl kByte (.slice (some ⟨w.heap.size, 0, none⟩) s.size c) (bytesOf s)) (H.new (F' := fun k => k = w.heap.size) ?_ ?_ ?_) fun _ h => h))
 ·simp [execOp, ho, ha.eval hx, hr]
 ·exact (Upd.alloc none_ w.drew _).trans (Upd.refl none_ _) (fun _ _ x => x) |> fun u => ⟨u.os, u.tape, u.output, u.size, u.block⟩
 ·refine ⟨_, _, _, rfl, bytesOf_len s, hge, hle, (bytesOf s).flatMap encB, ⟨trivial, .inr ⟨w.heap.size, 0, C, e, (C.size, C.size + 1), rfl, rfl, ?_, ?_⟩⟩, RepsR.flat_eq.2 rfl⟩
  ·show (w.heap.push _)[w.heap.size]? = _
   simp
  ·rw [List.drop_zero, show ((bytesOf s).flatMap encB).length = s.size by rw [encB_map, List.length_map, bytesOf_len]]
   exact hCl
 ·intro k hk
  subst hk
  simp
theorem r_bytesStr {src dst e : TypeId} {A : Option Addr} {m c : Nat} {bs : List UInt8} (ho : o.op = .convert src dst x) (hs : P.underlying src = some (.slice e)) (he : P.underlying e = some (.int .u8)) (hd : P.underlying dst = some .string) (hx : ev l x = some (.slice A m c)) {r : ByteArray} (hr : strOf bs = r) (h : (rsl kByte (.slice A m c) bs).P w F) : Run P n l w o (.string r) w := by
 subst hr
 obtain ⟨A', c', e', _, _, _, cs, h4, h5⟩ := rsl_spec h
 cases e'
 have hcs : cs = bs.flatMap encB := RepsR.flat_eq.1 h5
 intro a ha
 cases A with
 | none =>
  have : bs = [] := by
   rcases h4.2 with h6 | ⟨b, off, C, t', fr, e', _⟩
   ·rw [hcs, encB_map] at h6; simpa using h6
   ·cases e'
  subst this
  have := run_convert_bytes_nil (P := P) w src e hs he 0 c dst hd
  simp [execOp, ho, ha.eval hx, this]
  rfl
 | some ad =>
  have := run_convert_bytes_back (P := P) w src dst e ad c bs hs he hd (fun j hj => by
   have hv : cs[j]? = some (.int .u8 (bs[j].toNat : Int)) := by rw [hcs, encB_map, List.getElem?_map, List.getElem?_eq_getElem hj]; rfl
   obtain ⟨b, off, e1, h6⟩ := h4.cell hv
   cases e1
   rw [add_of]
   exact h6)
  simp [execOp, ho, ha.eval hx, this, strOf]
theorem Hd.rd {p : Prop} (H : Hd w0 F0 w As Rs) {S : SP} (hS : ∀ F, (∀ A ∈ As, A.P w F) → (∀ R ∈ Rs, R.P w F) → S.P w F) (h : ∀ F, S.P w F → p) : p := H.read fun F a r => h F (hS F a r)
theorem r_cutM {tt e size bytes : TypeId} {A : Option Addr} {m c i' j' m' : Nat} {k k' : IntKind} {i j : Int} (ho : o.op = .slice tt x (some y) (some z) none) (hs : slOf P tt = some (e, size, bytes)) (hx : ev l x = some (.slice A m c)) (hy : ev l y = some (.int k i)) (hz : ev l z = some (.int k' j))
  (h0 : 0 ≤ i) (h1 : i ≤ j) (h2 : j ≤ (c : Int)) (hi' : i.toNat = i') (hj' : j.toNat = j') (hm' : j' - i' = m') : Run P n l w o (.slice (cutA A c i' size) m' (c - i')) w := by
 intro a ha
 obtain ⟨hu, inf, hi, hzz, _⟩ := slOf_spec hs
 subst hi' hj' hm'
 have h3 : 0 ≤ j := by omega
 have h4 : i ≤ max j 0 := by omega
 have hb : (Instr.sliceBounds true m c (some (.int k i)) (some (.int k' j)) none).run P w = .ok (i.toNat, j.toNat, c) w := by
  simp [Instr.sliceBounds, Instr.sliceBound, asIntOf, h0, h2, h3, h4]
 unfold cutA
 by_cases e1 : c = i.toNat
 ·rw [e1] at hb
  cases A <;> simp [execOp, ho, ha.eval hx, ha.eval hy, ha.eval hz, Instr.sliceAt, Instr.slice, hb, run_underlying hu, sizeOf, typeInfo, hi, hzz, e1]
 ·cases A <;> simp [execOp, ho, ha.eval hx, ha.eval hy, ha.eval hz, Instr.sliceAt, Instr.slice, hb, run_underlying hu, sizeOf, typeInfo, hi, hzz, e1]
end
theorem rsl_mid2 {α : Type} {d : Kd α} {w : World} {F : Foot} {A : Option Addr} {m c : Nat} {xs : List α} (h : (rsl d (.slice A m c) xs).P w F) {i m' : Nat} (hi : i + m' ≤ m) : (rsl d (.slice (cutA A c i d.sz) m' (c - i)) ((xs.drop i).take m')).P w F := rsl_pre (rsl_suf h (i := i) (by omega)) (by omega)
theorem hlB : ∀ x, (encB x).length = 1 := fun _ => rfl
/-! ### Numbers, byte by byte -/
theorem shr8 (n : Nat) {i : Nat} (h : i < 8) : ((n : Nat) : Int).fdiv (2 ^ (min ((8 : Int) * (7 - ((i : Nat) : Int))).toNat IntKind.u64.bits)) = ((n / 256 ^ (7 - i) : Nat) : Int) := by
 have e : (2 : Int) ^ (min ((8 : Int) * (7 - ((i : Nat) : Int))).toNat IntKind.u64.bits) = ((256 ^ (7 - i) : Nat) : Int) := by
  match i, h with
  | 0, _ => decide
  | 1, _ => decide
  | 2, _ => decide
  | 3, _ => decide
  | 4, _ => decide
  | 5, _ => decide
  | 6, _ => decide
  | 7, _ => decide
 rw [e, Int.fdiv_eq_ediv_of_nonneg _ (Int.natCast_nonneg _), Int.natCast_ediv]
theorem wrap8 (m : Nat) : IntKind.u8.wrap ((m : Nat) : Int) = ((UInt8.ofNat m).toNat : Int) := by
 unfold IntKind.wrap
 simp [IntKind.bits, IntKind.signed, UInt8.toNat_ofNat']
theorem shl8 {m : Nat} (h : m < 72057594037927936) : IntKind.u64.wrap (((m : Nat) : Int) * 2 ^ (min (8 : Int).toNat IntKind.u64.bits)) = ((m * 256 : Nat) : Int) := by
 have e : (2 : Int) ^ (min (8 : Int).toNat IntKind.u64.bits) = 256 := by decide
 rw [e, wu64 (by omega) (by omega)]
 omega
theorem or8 {P : Program} {w : World} {m : Nat} (h : m < 72057594037927936) (x : UInt8) : (Op.intBits .or .u64 ((m * 256 : Nat) : Int) ((x.toNat : Nat) : Int)).run P w = .ok (.int .u64 ((m * 256 + x.toNat : Nat) : Int)) w := by
 have hx := UInt8.toNat_lt x
 have h1 : m * 256 ||| x.toNat = m * 256 + x.toNat := by
  have := Nat.shiftLeft_add_eq_or_of_lt (b := x.toNat) (i := 8) (by omega) m
  rw [Nat.shiftLeft_eq] at this
  exact this.symm
 have h2 : (BitVec.ofInt 64 ((m * 256 : Nat) : Int) ||| BitVec.ofInt 64 ((x.toNat : Nat) : Int)).toNat = m * 256 + x.toNat := by
  rw [BitVec.toNat_or]
  simp only [BitVec.ofInt_natCast, BitVec.toNat_ofNat]
  rw [Nat.mod_eq_of_lt (by omega), Nat.mod_eq_of_lt (by omega), h1]
 unfold Op.intBits
 show (pure (Value.int .u64 (IntKind.u64.wrap ((BitVec.ofInt 64 ((m * 256 : Nat) : Int) ||| BitVec.ofInt 64 ((x.toNat : Nat) : Int)).toNat : Nat))) : Sem Value).run P w = _
 rw [h2, wu64 (by omega) (by omega)]
 rfl
/-! ### What the program tells of bytes -/
def rdN (b : List UInt8) (at_ : Int) : Int × Int × Bool := match rdNum b at_ with
 | some x => (x.1, x.2, true)
 | none => (0, 0, false)
def rdT (b : List UInt8) (at_ : Int) : ByteArray × Int × Bool := match rdText b at_ with
 | some x => (x.1, x.2, true)
 | none => (⟨#[]⟩, 0, false)
theorem rdN_no {b : List UInt8} {at_ : Int} (h : at_ < 0 ∨ (b.length : Int) < at_ ∨ (b.length : Int) - at_ < 8) : rdN b at_ = (0, 0, false) := by
 unfold rdN rdNum; rw [if_pos h]
theorem rdN_yes {b : List UInt8} {at_ : Int} (h : ¬ (at_ < 0 ∨ (b.length : Int) < at_ ∨ (b.length : Int) - at_ < 8)) : rdN b at_ = (IntKind.i64.wrap (rd8 ((b.drop at_.toNat).take 8) : Nat), at_ + 8, true) := by
 unfold rdN rdNum; rw [if_neg h]
theorem rdT_no1 {b : List UInt8} {at_ : Int} (h : (rdN b at_).2.2 = false) : rdT b at_ = (⟨#[]⟩, 0, false) := by
 unfold rdN at h
 unfold rdT rdText
 cases e : rdNum b at_ with
 | none => rfl
 | some x => rw [e] at h; cases h
theorem rdT_yes {b : List UInt8} {at_ : Int} (h : (rdN b at_).2.2 = true) : rdT b at_ = if (rdN b at_).1 < 0 ∨ (b.length : Int) - (rdN b at_).2.1 < (rdN b at_).1 then (⟨#[]⟩, 0, false) else (strOf ((b.drop (rdN b at_).2.1.toNat).take (rdN b at_).1.toNat), (rdN b at_).2.1 + (rdN b at_).1, true) := by
 unfold rdN at h ⊢
 unfold rdT rdText
 cases e : rdNum b at_ with
 | none => rw [e] at h; cases h
 | some x =>
  dsimp only
  by_cases g : x.1 < 0 ∨ (b.length : Int) - x.2 < x.1
  ·rw [if_pos g, if_pos g]
  ·rw [if_neg g, if_neg g]
theorem rdN_in {b : List UInt8} {at_ : Int} (h : (rdN b at_).2.2 = true) : 8 ≤ (rdN b at_).2.1 ∧ (rdN b at_).2.1 ≤ (b.length : Int) ∧ (rdN b at_).2.1 = at_ + 8 ∧ 0 ≤ at_ := by
 by_cases g : at_ < 0 ∨ (b.length : Int) < at_ ∨ (b.length : Int) - at_ < 8
 ·rw [rdN_no g] at h; cases h
 ·rw [rdN_yes g]; dsimp only; omega
theorem rdN_64 {b : List UInt8} {at_ : Int} : -9223372036854775808 ≤ (rdN b at_).1 ∧ (rdN b at_).1 ≤ 9223372036854775807 := by
 by_cases g : at_ < 0 ∨ (b.length : Int) < at_ ∨ (b.length : Int) - at_ < 8
 ·rw [rdN_no g]; decide
 ·rw [rdN_yes g]
  dsimp only
  unfold IntKind.wrap
  simp [IntKind.bits, IntKind.signed]
  omega
theorem be8_at (n : Nat) {i : Nat} (h : i < 8) : (be8 n)[i]? = some (UInt8.ofNat (n / 256 ^ (7 - i))) := by
 unfold be8; rw [List.getElem?_map, List.getElem?_range h]; rfl
theorem be8_take (n : Nat) {i : Nat} (h : i < 8) : (be8 n).take (i + 1) = (be8 n).take i ++ [UInt8.ofNat (n / 256 ^ (7 - i))] := take_snoc (be8_at n h)
theorem rd8_step {l : List UInt8} {i : Nat} {x : UInt8} (h : l[i]? = some x) : rd8 (l.take (i + 1)) = rd8 (l.take i) * 256 + x.toNat := by rw [take_snoc h, rd8_snoc]

section
variable {w0 w : World} {F0 : Foot} {As Bs Rs : List SP} {A B : SP}
theorem Hd.exA {α : Sort _} {A : α → SP} (h : Hd w0 F0 w (ex A :: As) Rs) : ∃ a, Hd w0 F0 w (A a :: As) Rs := by
 obtain ⟨F, G, ⟨F1, F2, h1, h2, h3, ⟨a, ha⟩, s⟩, r⟩ := h
 exact ⟨a, F, G, ⟨F1, F2, h1, h2, h3, ha, s⟩, r⟩
theorem Hd.exI {α : Sort _} {A : α → SP} (a : α) (h : Hd w0 F0 w (A a :: As) Rs) : Hd w0 F0 w (ex A :: As) Rs := h.turn fun _ ha => ⟨a, ha⟩
theorem Hd.stA (h : Hd w0 F0 w (star Bs :: As) Rs) : Hd w0 F0 w (Bs ++ As) Rs := h.open_ fun _ h => h
theorem Hd.stI (h : Hd w0 F0 w (Bs ++ As) Rs) : Hd w0 F0 w (star Bs :: As) Rs := h.shut fun _ h => h
theorem Hd.puA {p : Prop} (h : Hd w0 F0 w (pure_ p :: As) Rs) : p ∧ Hd w0 F0 w As Rs := ⟨h.fact (List.mem_cons_self ..) fun _ h => h, h.drop⟩
theorem Hd.puI {p : Prop} (hp : p) (h : Hd w0 F0 w As Rs) : Hd w0 F0 w (pure_ p :: As) Rs := h.shut (Bs := []) fun _ _ => hp
def bigS {α : Type} (f : α → SP) (l : List α) : SP := star (l.map f)
theorem Hd.big0 {α : Type} (f : α → SP) (h : Hd w0 F0 w As Rs) : Hd w0 F0 w (bigS f [] :: As) Rs := h.shut (Bs := []) fun _ _ => trivial
theorem erase_perm {α : Type} : ∀ (l : List α) (i : Nat) {x : α}, l[i]? = some x → l.Perm (x :: l.eraseIdx i)
 | [], _, _, h => by simp at h
 | y :: l, 0, x, h => by
  obtain rfl : y = x := by simpa using h
  exact List.Perm.refl _
 | y :: l, i + 1, x, h => ((erase_perm l i (by simpa using h)).cons y).trans (List.Perm.swap _ _ _)
theorem Hd.bigO {α : Type} {f : α → SP} {l : List α} {x : α} (i : Nat) (hx : l[i]? = some x) (h : Hd w0 F0 w (bigS f l :: As) Rs) : Hd w0 F0 w (f x :: bigS f (l.eraseIdx i) :: As) Rs := by
 have h1 := h.stA.perm (((erase_perm l i hx).map f).append_right As)
 have h2 : Hd w0 F0 w (((l.eraseIdx i).map f ++ As) ++ [f x]) Rs := h1.perm (by rw [List.map_cons, List.cons_append]; exact (List.perm_append_comm (l₁ := [f x])))
 have h3 : Hd w0 F0 w ((l.eraseIdx i).map f ++ (As ++ [f x])) Rs := by rw [← List.append_assoc]; exact h2
 exact (show Hd w0 F0 w (bigS f (l.eraseIdx i) :: (As ++ [f x])) Rs from h3.stI).perm (List.perm_append_comm (l₁ := bigS f (l.eraseIdx i) :: As) (l₂ := [f x]))
theorem Hd.bigI {α : Type} {f : α → SP} {l : List α} {x : α} (i : Nat) (hi : i < l.length) (h : Hd w0 F0 w (f x :: bigS f (l.eraseIdx i) :: As) Rs) : Hd w0 F0 w (bigS f (l.set i x) :: As) Rs := by
 have h1 : Hd w0 F0 w (bigS f (l.eraseIdx i) :: (As ++ [f x])) Rs := h.perm (List.perm_append_comm (l₁ := [f x]) (l₂ := bigS f (l.eraseIdx i) :: As))
 have h2 : Hd w0 F0 w ((l.eraseIdx i).map f ++ As ++ [f x]) Rs := by rw [List.append_assoc]; exact h1.stA
 have h3 : Hd w0 F0 w ((x :: l.eraseIdx i).map f ++ As) Rs := h2.perm (List.perm_append_comm (l₁ := (l.eraseIdx i).map f ++ As) (l₂ := [f x]))
 have hp : (l.set i x).Perm (x :: l.eraseIdx i) := by
  have := erase_perm (l.set i x) i (x := x) (by rw [List.getElem?_set_self hi])
  rwa [List.eraseIdx_set_eq] at this
 exact (h3.perm ((hp.symm.map f).append_right As)).stI
theorem Hd.bigN {α : Type} {f : α → SP} {l : List α} {x : α} (h : Hd w0 F0 w (f x :: bigS f l :: As) Rs) : Hd w0 F0 w (bigS f (l ++ [x]) :: As) Rs := by
 have h1 : Hd w0 F0 w (bigS f l :: (As ++ [f x])) Rs := h.perm (List.perm_append_comm (l₁ := [f x]) (l₂ := bigS f l :: As))
 have h2 : Hd w0 F0 w (l.map f ++ As ++ [f x]) Rs := by rw [List.append_assoc]; exact h1.stA
 have h3 : Hd w0 F0 w ((x :: l).map f ++ As) Rs := h2.perm (List.perm_append_comm (l₁ := l.map f ++ As) (l₂ := [f x]))
 exact (h3.perm (((List.perm_append_comm (l₁ := [x]) (l₂ := l)).map f).append_right As)).stI
end

def encPtr (b : Nat) : List Value := [.pointer (some ⟨b, 0, none⟩)]
def kPtr : Kd Nat := flat encPtr 1 (by omega) (fun _ => rfl) (fun _ c h => by simp [encPtr] at h; subst h; rfl)
def winI (t : Nat) (e : Nat × WinD) : SP := blk e.1 [.int .i64 e.2.c, .int .i64 e.2.s, .int .i64 e.2.e, .int .i64 e.2.x] t
def packS (ps : List Pair) : ByteArray := strOf (packB ps)
theorem strOf_size (l : List UInt8) : (strOf l).size = l.length := by simp [strOf, ByteArray.size]
theorem packP_len {ps : List Pair} (h : ∀ p ∈ ps, p.key.size ≤ 100 ∧ p.val.size ≤ 100) : (packP ps).length ≤ ps.length * 216 := by
 induction ps with
 | nil => exact Nat.zero_le _
 | cons p ps ih =>
  have h1 := h p (List.mem_cons_self ..)
  have h2 := ih fun q hq => h q (List.mem_cons_of_mem _ hq)
  have e : packP (p :: ps) = (textB p.key ++ textB p.val) ++ packP ps := by unfold packP; rw [List.flatMap_cons]
  rw [e, List.length_append, List.length_append, textB_len, textB_len, List.length_cons, Nat.succ_mul]
  omega
theorem packS_size {ps : List Pair} (h : ∀ p ∈ ps, p.key.size ≤ 100 ∧ p.val.size ≤ 100) (hl : ps.length ≤ 1000) : (packS ps).size ≤ 300000 := by
 have := packP_len h
 unfold packS
 rw [strOf_size]
 unfold packB
 rw [List.length_append, be8_len]
 omega
theorem packS_bytes (ps : List Pair) : bytesOf (packS ps) = packB ps := bytes_strOf _
def packAt (ps : List Pair) (k : Nat) : Nat := 8 + (packP (ps.take k)).length
theorem packAt_succ {ps : List Pair} {k : Nat} {p : Pair} (h : ps[k]? = some p) : packAt ps (k + 1) = packAt ps k + 8 + p.key.size + 8 + p.val.size := by
 unfold packAt
 rw [take_snoc h, packP_snoc, List.length_append, List.length_append, textB_len, textB_len]
 omega
theorem pack_num {ps : List Pair} (hl : ps.length < 9223372036854775808) : rdN (packB ps) 0 = (((ps.length : Nat) : Int), 8, true) := by
 have h := rdNum_at (a := []) (c := packP ps) (n := ps.length) (k := 0) hl rfl
 unfold rdN packB
 have h2 : rdNum (be8 ps.length ++ packP ps) 0 = some (((ps.length : Nat) : Int), ((0 + 8 : Nat) : Int)) := h
 rw [h2]
 rfl
theorem pack_key {ps : List Pair} {k : Nat} {p : Pair} (h : ps[k]? = some p) (hk : p.key.size < 9223372036854775808) : rdT (packB ps) (packAt ps k : Nat) = (p.key, ((packAt ps k + 8 + p.key.size : Nat) : Int), true) := by
 have e : packB ps = (be8 ps.length ++ packP (ps.take k)) ++ (textB p.key ++ (textB p.val ++ packP (ps.drop (k + 1)))) := by unfold packB; rw [packP_split h, List.append_assoc]
 have h1 := rdText_at (a := be8 ps.length ++ packP (ps.take k)) (c := textB p.val ++ packP (ps.drop (k + 1))) (s := p.key) (k := packAt ps k) hk (by rw [List.length_append, be8_len]; rfl)
 unfold rdT
 rw [e, h1]
theorem pack_val {ps : List Pair} {k : Nat} {p : Pair} (h : ps[k]? = some p) (hk : p.val.size < 9223372036854775808) : rdT (packB ps) ((packAt ps k + 8 + p.key.size : Nat) : Int) = (p.val, ((packAt ps (k + 1) : Nat) : Int), true) := by
 have e : packB ps = (be8 ps.length ++ packP (ps.take k) ++ textB p.key) ++ (textB p.val ++ packP (ps.drop (k + 1))) := by unfold packB; rw [packP_split h]; simp only [List.append_assoc]
 have h1 := rdText_at (a := be8 ps.length ++ packP (ps.take k) ++ textB p.key) (c := packP (ps.drop (k + 1))) (s := p.val) (k := packAt ps k + 8 + p.key.size) hk (by rw [List.length_append, List.length_append, be8_len, textB_len]; unfold packAt; omega)
 unfold rdT
 rw [e, h1, packAt_succ h]
theorem packAt_le {ps : List Pair} (h : ∀ p ∈ ps, p.key.size ≤ 100 ∧ p.val.size ≤ 100) (hl : ps.length ≤ 1000) (i : Nat) : packAt ps i ≤ 300000 := by
 have h1 := packP_len (ps := ps.take i) fun p hp => h p (List.mem_of_mem_take hp)
 have h2 : (ps.take i).length ≤ ps.length := by rw [List.length_take]; omega
 unfold packAt
 omega
def cntL (D : Dig) (J : Job) (s : Nat) (att : Int) (k : Nat) : List Int := (List.range k).map fun (p : Nat) => chunksN ((onlyM D J s p).length : Nat) (cutSz J.chunk att)
theorem cntL_succ (D : Dig) (J : Job) (s : Nat) (att : Int) (k : Nat) : cntL D J s att (k + 1) = cntL D J s att k ++ [chunksN ((onlyM D J s k).length : Nat) (cutSz J.chunk att)] := by
 unfold cntL; rw [List.range_succ, List.map_append]; rfl
theorem cntL_len (D : Dig) (J : Job) (s : Nat) (att : Int) (k : Nat) : (cntL D J s att k).length = k := by simp [cntL]
theorem counts_yes {D : Dig} {J : Job} {s : Nat} {att : Int} (h : (splitM D J s).2 = 0) : countsM D J s att = cntL D J s att J.parts.toNat := by
 unfold countsM; rw [if_neg (fun g => g h)]; rfl
theorem counts_no {D : Dig} {J : Job} {s : Nat} {att : Int} (h : (splitM D J s).2 ≠ 0) : countsM D J s att = [] := by
 unfold countsM; rw [if_pos h]
/-! ### Windows, in a row of pointers -/
def win0 (J : Job) (n : Int) : WinD := ⟨n, J.window, 0, 0⟩
theorem newMpr_ws (D : Dig) (J : Job) (s : Nat) (att : Int) : (newMpr D J s att).ws = (countsM D J s att).map (win0 J) := rfl
theorem win_fst {ws : List (Nat × WinD)} {k : Nat} {e : Nat × WinD} (h : ws[k]? = some e) : (ws.map Prod.fst)[k]? = some e.1 := by rw [List.getElem?_map, h]; rfl
theorem win_snd {ws : List (Nat × WinD)} {k : Nat} {e : Nat × WinD} (h : ws[k]? = some e) : (ws.map Prod.snd)[k]? = some e.2 := by rw [List.getElem?_map, h]; rfl
theorem win_set {ws : List (Nat × WinD)} {k : Nat} {b : Nat} {x y : WinD} (h : ws[k]? = some (b, x)) : (ws.set k (b, y)).map Prod.fst = ws.map Prod.fst ∧ (ws.set k (b, y)).map Prod.snd = (ws.map Prod.snd).set k y := by
 refine ⟨?_, by rw [List.map_set]⟩
 rw [List.map_set]
 have := win_fst h
 exact set_same this
theorem win_same {ws : List (Nat × WinD)} {k : Nat} {e : Nat × WinD} (h : ws[k]? = some e) : ws.set k e = ws := set_same h
theorem chunk_lo {n size q : Int} (h0 : 0 ≤ q) (h1 : q < chunksN n size) (hs : 1 ≤ size) : 0 ≤ q * size ∧ q * size ≤ n - 1 := by
 unfold chunksN at h1
 by_cases h : n < 1 ∨ size < 1
 ·rw [if_pos h] at h1; omega
 ·rw [if_neg h, Int.tdiv_eq_ediv_of_nonneg (by omega)] at h1
  exact ⟨Int.mul_nonneg h0 (by omega), (Int.le_ediv_iff_mul_le (by omega)).1 (by omega)⟩
theorem cutL_is {ps : List Pair} {size q : Int} {m k : Nat} (h0 : 0 ≤ q) (h1 : q < chunksN ps.length size) (hs : 1 ≤ size) (hm : q * size = (m : Int)) (hk : min size (((ps.length - m : Nat) : Int)) = (k : Int)) : cutL ps size q = (ps.drop m).take k := by
 unfold cutL
 rw [if_neg (by omega), hm, Int.toNat_natCast]
 refine (List.take_eq_take_iff).2 ?_
 rw [List.length_drop]
 omega
theorem cutL_no {ps : List Pair} {size q : Int} (h : q < 0 ∨ chunksN ps.length size ≤ q) : cutL ps size q = [] := if_pos h
theorem tdiv_in {n size : Int} (h : 0 ≤ n) (hs : 1 ≤ size) : 0 ≤ n.tdiv size ∧ n.tdiv size ≤ n := by
 rw [Int.tdiv_eq_ediv_of_nonneg h]
 exact ⟨Int.ediv_nonneg h (by omega), Int.ediv_le_self _ h⟩
/-! ### What is pushed, window by window -/
theorem pushGo_app (D : Dig) (J : Job) (s : Nat) (att : Int) : ∀ (a b : List WinD) (p : Nat), pushGo D J s att (a ++ b) p = pushGo D J s att a p ++ pushGo D J s att b (p + a.length)
 | [], b, p => rfl
 | w :: a, b, p => by
  show pushAt D J s att w p ++ pushGo D J s att (a ++ b) (p + 1) = pushAt D J s att w p ++ pushGo D J s att a (p + 1) ++ _
  rw [pushGo_app D J s att a b (p + 1), List.append_assoc, List.length_cons, show p + 1 + a.length = p + (a.length + 1) by omega]
theorem pushGo_succ {D : Dig} {J : Job} {s : Nat} {att : Int} {ws : List WinD} {k : Nat} {w : WinD} (h : ws[k]? = some w) : pushGo D J s att (ws.take (k + 1)) 0 = pushGo D J s att (ws.take k) 0 ++ pushAt D J s att w k := by
 rw [take_snoc h, pushGo_app, List.length_take, Nat.zero_add, Nat.min_eq_left (Nat.le_of_lt (lt_of_some h))]
 show _ ++ (pushAt D J s att w k ++ []) = _
 rw [List.append_nil]
theorem pushAt_len (D : Dig) (J : Job) (s : Nat) (att : Int) (w : WinD) (p : Nat) : (pushAt D J s att w p).length = (openL w.c w.s w.x).length := by unfold pushAt; rw [List.length_map]
theorem pushAt_succ {D : Dig} {J : Job} {s : Nat} {att : Int} {w : WinD} {p j : Nat} {q : Int} (h : (openL w.c w.s w.x)[j]? = some q) : (pushAt D J s att w p).take (j + 1) = (pushAt D J s att w p).take j ++ [⟨2, s, att, p, q, 0, 0, 0, [], chunkM D J s att p q⟩] :=
 take_snoc (by unfold pushAt; rw [List.getElem?_map, h]; rfl)
theorem open_le {w : WinD} (h : okW w) : (openL w.c w.s w.x).length ≤ 4 := by
 rw [openL_len]
 have := h.1
 have := h.2.1
 omega
theorem pushGo_len {D : Dig} {J : Job} {s : Nat} {att : Int} : ∀ {ws : List WinD} (p : Nat), (∀ w ∈ ws, okW w) → (pushGo D J s att ws p).length ≤ 4 * ws.length
 | [], _, _ => Nat.zero_le _
 | w :: ws, p, h => by
  have h1 := open_le (h w (List.mem_cons_self ..))
  have h2 := pushGo_len (D := D) (J := J) (s := s) (att := att) (p + 1) fun x hx => h x (List.mem_cons_of_mem _ hx)
  show (pushAt D J s att w p ++ pushGo D J s att ws (p + 1)).length ≤ _
  rw [List.length_append, pushAt_len, List.length_cons]
  omega
theorem all_takeB {α : Type} {q : α → Bool} {l : List α} {k : Nat} {x : α} (h : (l.take k).all q = true) (hx : l[k]? = some x) (hq : q x = true) : (l.take (k + 1)).all q = true := by
 rw [take_snoc hx, List.all_append, h]; simp [hq]
theorem all_not {α : Type} {q : α → Bool} {l : List α} {k : Nat} {x : α} (hx : l[k]? = some x) (hq : ¬ q x = true) : l.all q = false := by
 rw [List.all_eq_false]; exact ⟨x, at_mem hx, hq⟩
theorem counts_same {A B : Job} (h : SameJ A B) (D : Dig) (s : Nat) (att : Int) : countsM D A s att = countsM D B s att := by
 unfold countsM
 rw [h.split, h.parts, h.chunk]
 simp only [h.only]
theorem chunk_same {A B : Job} (h : SameJ A B) (D : Dig) (s : Nat) (att p q : Int) : chunkM D A s att p q = chunkM D B s att p q := by
 unfold chunkM
 rw [h.chunk, h.only]
theorem newMpr_same {A B : Job} (h : SameJ A B) (D : Dig) (s : Nat) (att : Int) : newMpr D A s att = newMpr D B s att := by
 unfold newMpr countsM
 rw [h.split, h.parts, h.chunk, h.window]
 simp only [h.only]
theorem new_ws {A B : Job} (h : SameJ A B) {D : Dig} {s : Nat} {att : Int} {ws : List (Nat × WinD)} {k : Nat} (hw : ws.map Prod.snd = ((countsM D A s att).take k).map (win0 A)) (hk : (countsM D A s att).length ≤ k) : ws.map Prod.snd = (newMpr D B s att).ws := by
 rw [hw, List.take_of_length_le hk, ← newMpr_same h]; rfl
theorem push_same {A B : Job} (h : SameJ A B) (D : Dig) (s : Nat) (att : Int) : ∀ (ws : List WinD) (p : Nat), pushGo D A s att ws p = pushGo D B s att ws p
 | [], _ => rfl
 | w :: ws, p => by
  show pushAt D A s att w p ++ pushGo D A s att ws (p + 1) = pushAt D B s att w p ++ pushGo D B s att ws (p + 1)
  rw [push_same h D s att ws]
  unfold pushAt chunkM
  rw [h.chunk]
  simp only [h.only]
theorem ackMpr_yes {m : Mpr} {p ep n : Int} {w : WinD} (h : 0 ≤ p ∧ p < m.ws.length) (hw : m.ws[p.toNat]? = some w) : ackMpr m p ep n = ({ m with ws := m.ws.set p.toNat (ackW w ep n) }, ackB w.c w.e w.x ep n) := by
 unfold ackMpr
 rw [if_pos (show ackMay m p from h), hw]
theorem ackMpr_no {m : Mpr} {p ep n : Int} (h : ¬ (0 ≤ p ∧ p < m.ws.length)) : ackMpr m p ep n = (m, false) := if_neg (show ¬ ackMay m p from h)
theorem win_at {ws : List (Nat × WinD)} {k x : Nat} (h : (ws.map Prod.fst)[k]? = some x) : ∃ wd, ws[k]? = some (x, wd) := by
 rw [List.getElem?_map] at h
 obtain ⟨e, he, rfl⟩ := Option.map_eq_some_iff.1 h
 exact ⟨e.2, he⟩
def okMp (M : Mpr) : Prop := (∀ w ∈ M.ws, okW w) ∧ M.ws.length ≤ 1000
theorem okMp_new {D : Dig} {J : Job} (hJ : OkJ J) (s : Nat) (att : Int) : okMp (newMpr D J s att) := by
 refine ⟨newMpr_ok hJ s att, ?_⟩
 have := hJ.parts
 show ((countsM D J s att).map _).length ≤ _
 rw [List.length_map, counts_len]
 split <;> omega
theorem okMp_ack {M : Mpr} (h : okMp M) {p ep n : Int} (he : In64 ep) : okMp (ackMpr M p ep n).1 := by
 by_cases hp : 0 ≤ p ∧ p < M.ws.length
 ·obtain ⟨w, hw⟩ : ∃ w, M.ws[p.toNat]? = some w := ⟨_, List.getElem?_eq_getElem (show p.toNat < M.ws.length by omega)⟩
  rw [ackMpr_yes hp hw]
  refine ⟨fun x hx => ?_, by rw [List.length_set]; exact h.2⟩
  rcases List.mem_or_eq_of_mem_set hx with hx | rfl
  ·exact h.1 x hx
  ·exact ackW_ok (h.1 _ (at_mem hw)) he
 ·rw [ackMpr_no hp]; exact h
theorem Hd.tellK {α : Type} {w0 w : World} {F0 : Foot} {K : Kd α} {v : Value} {xs ys : List α} {As Rs : List SP} (H : Hd w0 F0 w (osl K v xs :: As) Rs) (e : ys = xs) : Hd w0 F0 w (osl K v ys :: As) Rs := by rw [e]; exact H

set_option maxHeartbeats 1000000 in
theorem tallyNew_ok  :
    Cn Tryz.prog 210 [] [] [] (fun v Bs => ∃ b, v = .pointer (some ⟨b, 0, none⟩) ∧ Bs = [blk b [.int .i64 0, .int .i64 0, .int .i64 0, .int .i64 0, .int .i64 0, .int .i64 0, .int .i64 0, .int .i64 0] 322]) := by
 intro w0 F0 H
 refine enter Tryz.func210 rfl rfl (Nat.le_of_ble_eq_true rfl) (c_seq (c_reg (s_1 rfl (s_nil (q_then (c_seq (c_reg (s_val rfl rfl (r_bd (parts := []) (vs := []) (cs := [.int .i64 0, .int .i64 0, .int .i64 0, .int .i64 0, .int .i64 0, .int .i64 0, .int .i64 0, .int .i64 0]) rfl bd322 rfl rfl) (s_box rfl rfl rfl rfl H (fun b1 w H => (s_1 rfl (s_nil (q_then ?_)))))))))))))
 replace H : Hd _ _ _ [blk b1 [.int .i64 0, .int .i64 0, .int .i64 0, .int .i64 0, .int .i64 0, .int .i64 0, .int .i64 0, .int .i64 0] 322] [] := H
 exact c_ret (q_ret1 rfl rfl (fin ⟨_, rfl, rfl⟩ H))
set_option maxHeartbeats 1000000 in
theorem tallyAt0_ok (t : Nat) :
    Cn Tryz.prog 249 [.pointer (some ⟨t, 0, none⟩), .int .i64 0] [] [] (fun v Bs => v = .pointer (some ⟨t, 0, none⟩) ∧ Bs = []) := by
 intro w0 F0 H
 refine enter Tryz.func249 rfl rfl (Nat.le_of_ble_eq_true rfl) (c_seq (c_reg (s_1 rfl (s_nil (q_then (c_seq (c_seq (c_reg (s_1 rfl (s_val rfl rfl (r_peq rfl un291 rfl rfl) (s_k 2 rfl (s_val rfl rfl (r_lt rfl rfl rfl) (s_k 3 rfl (s_val rfl rfl (r_ge rfl rfl rfl) (s_1 rfl (s_nil (q_then (c_no rfl (c_skip (q_then (c_seq (c_reg (s_k 2 rfl (s_val rfl rfl (r_nilP rfl rfl) (s_val rfl rfl (r_fa rfl fo322_0 rfl) (s_val rfl rfl (r_iaB (p := 0) rfl un320 is319 rfl rfl (by omega) (by omega) rfl) (s_1 rfl (s_nil (q_then (c_ret (q_ret1 rfl rfl ?_)))))))))))))))))))))))))))))))
 replace H : Hd _ _ _ [] [] := H
 exact fin ⟨rfl, rfl⟩ H
set_option maxHeartbeats 1000000 in
theorem addF_ok (nb : Nat) (n o : Int) (hn : 0 ≤ n ∧ n ≤ 1099511627776) (ho : 0 ≤ o ∧ o ≤ 1099511627776) :
    Cn Tryz.prog 250 [.int .i64 o, .pointer (some ⟨nb, 0, none⟩)] [] [blk nb [.int .i64 n] 3] (fun v Bs => v = .int .i64 (min (o + n) 1099511627776) ∧ Bs = []) := by
 intro w0 F0 H
 refine enter Tryz.func250 rfl rfl (Nat.le_of_ble_eq_true rfl) (c_seq (c_reg (s_1 rfl (s_nil (q_then (c_seq (c_reg (s_1 rfl (s_val rfl rfl (r_ld rfl ty3 rfl (H.cellRI 0 rfl rfl)) (s_val rfl rfl (r_add (z := o + n) rfl rfl rfl (w64 (by omega) (by omega))) (s_val rfl rfl (r_min (z := min (o + n) 1099511627776) rfl rfl rfl rfl) (s_1 rfl (s_nil (q_then (c_ret (q_ret1 rfl rfl ?_))))))))))))))))
 replace H : Hd _ _ _ [] [blk nb [.int .i64 n] 3] := H
 exact fin ⟨rfl, rfl⟩ H
set_option maxHeartbeats 1000000 in
theorem load64_ok (t : Nat) (c0 c1 c2 c3 c4 c5 c6 c7 : Int) :
    Cn Tryz.prog 281 [.pointer (some ⟨t, 0, none⟩)] [] [blk t [.int .i64 c0, .int .i64 c1, .int .i64 c2, .int .i64 c3, .int .i64 c4, .int .i64 c5, .int .i64 c6, .int .i64 c7] 322] (fun v Bs => v = .int .i64 c0 ∧ Bs = []) := by
 intro w0 F0 H
 refine enter Tryz.func281 rfl rfl (Nat.le_of_ble_eq_true rfl) (c_seq (c_reg (s_1 rfl (s_nil (q_then (c_seq (c_reg (s_1 rfl (s_val rfl rfl (r_nilP rfl rfl) (s_val rfl rfl (r_fa rfl fo319_2 rfl) (s_val rfl rfl (r_aload ex316 rfl rfl (H.cellRI 0 rfl rfl)) (s_1 rfl (s_nil (q_then (c_ret (q_ret1 rfl rfl ?_))))))))))))))))
 replace H : Hd _ _ _ [] [blk t [.int .i64 c0, .int .i64 c1, .int .i64 c2, .int .i64 c3, .int .i64 c4, .int .i64 c5, .int .i64 c6, .int .i64 c7] 322] := H
 exact fin ⟨rfl, rfl⟩ H
set_option maxHeartbeats 1000000 in
theorem cas64_ok (t : Nat) (c0 c1 c2 c3 c4 c5 c6 c7 : Int) (n : Int) :
    Cn Tryz.prog 282 [.pointer (some ⟨t, 0, none⟩), .int .i64 c0, .int .i64 n] [blk t [.int .i64 c0, .int .i64 c1, .int .i64 c2, .int .i64 c3, .int .i64 c4, .int .i64 c5, .int .i64 c6, .int .i64 c7] 322] [] (fun v Bs => v = .bool true ∧ Bs = [blk t [.int .i64 n, .int .i64 c1, .int .i64 c2, .int .i64 c3, .int .i64 c4, .int .i64 c5, .int .i64 c6, .int .i64 c7] 322]) := by
 intro w0 F0 H
 refine enter Tryz.func282 rfl rfl (Nat.le_of_ble_eq_true rfl) (c_seq (c_reg (s_1 rfl (s_nil (q_then (c_seq (c_reg (s_1 rfl (s_val rfl rfl (r_nilP rfl rfl) (s_val rfl rfl (r_fa rfl fo319_2 rfl) (s_k 2 rfl (s_acas ex317 rfl rfl rfl rfl H rfl (fun w H => ?_)))))))))))))
 replace H : Hd _ _ _ [blk t [.int .i64 n, .int .i64 c1, .int .i64 c2, .int .i64 c3, .int .i64 c4, .int .i64 c5, .int .i64 c6, .int .i64 c7] 322] [] := H
 exact s_1 rfl (s_nil (q_then (c_ret (q_ret1 rfl rfl (fin ⟨rfl, rfl⟩ H)))))
set_option maxHeartbeats 1000000 in
theorem change_ok (t : Nat) (c0 c1 c2 c3 c4 c5 c6 c7 : Int) (nb : Nat) (n : Int) (hn : 0 ≤ n ∧ n ≤ 1099511627776) (ho : 0 ≤ c0 ∧ c0 ≤ 1099511627776) :
    Cn Tryz.prog 248 [.pointer (some ⟨t, 0, none⟩), .func (.func 250) #[] #[.pointer (some ⟨nb, 0, none⟩)]] [blk t [.int .i64 c0, .int .i64 c1, .int .i64 c2, .int .i64 c3, .int .i64 c4, .int .i64 c5, .int .i64 c6, .int .i64 c7] 322] [blk nb [.int .i64 n] 3] (fun v Bs => v = .int .i64 (min (c0 + n) 1099511627776) ∧ Bs = [blk t [.int .i64 (min (c0 + n) 1099511627776), .int .i64 c1, .int .i64 c2, .int .i64 c3, .int .i64 c4, .int .i64 c5, .int .i64 c6, .int .i64 c7] 322]) := by
 intro w0 F0 H
 refine enter Tryz.func248 rfl rfl (Nat.le_of_ble_eq_true rfl) (c_seq (c_reg (s_1 rfl (s_nil (q_then (c_seq (c_seq (c_reg (s_1 rfl (s_val rfl rfl (r_peq rfl un326 rfl rfl) (s_nil (q_then (c_no rfl (c_skip (q_then (c_block (c_loop (σ := Unit) (fun u => [(0, .pointer (some ⟨t, 0, none⟩)), (1, .func (.func 250) #[] #[.pointer (some ⟨nb, 0, none⟩)])]) (fun u w => (Hd w0 F0 w [blk t [.int .i64 c0, .int .i64 c1, .int .i64 c2, .int .i64 c3, .int .i64 c4, .int .i64 c5, .int .i64 c6, .int .i64 c7] 322] [blk nb [.int .i64 n] 3])) (fun u => 0) () ⟨rfl, rfl, trivial⟩ H ?_)))))))))))))))))
 rintro u w H
 refine c_block (c_seq (c_reg (s_1 rfl (sc (load64_ok t c0 c1 c2 c3 c4 c5 c6 c7) H (lA 0 rfl (fun _ h => h) l0) rfl rfl (e_fn kn281 rfl rfl) ?_))))
 rintro _ _ w ⟨rfl, rfl⟩ H
 refine s_1 rfl (s_nil (q_then (c_seq (c_reg (s_k 2 rfl (sc (addF_ok nb n c0 hn ho) H (lR 0 rfl l0) rfl rfl (e_val (vs := [.int .i64 c0]) (fs := #[]) (cs := #[.pointer (some ⟨nb, 0, none⟩)]) kn250 rfl rfl rfl) ?_))))))
 rintro _ _ w ⟨rfl, rfl⟩ H
 refine s_1 rfl (s_nil (q_then (c_seq (c_reg (s_k 2 rfl (s_val rfl rfl (r_eq rfl rfl rfl) (s_1 rfl ?_)))))))
 refine s_dec (d := 17) rfl (fun h1 => ?_) (fun h1 => ?_)
 ·refine s_k 5 rfl (s_nil (q_then (c_yes rfl (c_seq (c_reg (s_k 2 rfl (s_nil (q_then (c_ret (q_blockR (q_thenR (q_blockR (q_ret1 rfl rfl ?_)))))))))))))
  replace H : Hd w0 F0 w [blk t [.int .i64 (min (c0 + n) 1099511627776), .int .i64 c1, .int .i64 c2, .int .i64 c3, .int .i64 c4, .int .i64 c5, .int .i64 c6, .int .i64 c7] 322] [blk nb [.int .i64 n] 3] := by rw [h1]; exact H
  exact fin ⟨rfl, rfl⟩ H
 ·refine s_k 3 rfl (sc (cas64_ok t c0 c1 c2 c3 c4 c5 c6 c7 (min (c0 + n) 1099511627776)) H l0 rfl rfl (e_fn kn282 rfl rfl) ?_)
  rintro _ _ w ⟨rfl, rfl⟩ H
  refine s_1 rfl (s_nil (q_then ?_))
  replace H : Hd _ _ _ [blk t [.int .i64 (min (c0 + n) 1099511627776), .int .i64 c1, .int .i64 c2, .int .i64 c3, .int .i64 c4, .int .i64 c5, .int .i64 c6, .int .i64 c7] 322] [blk nb [.int .i64 n] 3] := H
  exact c_yes rfl (c_seq (c_reg (s_k 2 rfl (s_nil (q_then (c_ret (q_blockR (q_thenR (q_blockR (q_ret1 rfl rfl (fin ⟨rfl, rfl⟩ H)))))))))))
set_option maxHeartbeats 1000000 in
theorem tallyAdd_ok (t : Nat) (c0 c1 c2 c3 c4 c5 c6 c7 : Int) (n : Int) (hn : 0 ≤ n ∧ n ≤ 1099511627776) (ho : 0 ≤ c0 ∧ c0 ≤ 1099511627776) :
    Cn Tryz.prog 214 [.pointer (some ⟨t, 0, none⟩), .int .i64 0, .int .i64 n] [blk t [.int .i64 c0, .int .i64 c1, .int .i64 c2, .int .i64 c3, .int .i64 c4, .int .i64 c5, .int .i64 c6, .int .i64 c7] 322] [] (fun v Bs => v = .int .i64 (min (c0 + n) 1099511627776) ∧ Bs = [blk t [.int .i64 (min (c0 + n) 1099511627776), .int .i64 c1, .int .i64 c2, .int .i64 c3, .int .i64 c4, .int .i64 c5, .int .i64 c6, .int .i64 c7] 322]) := by
 intro w0 F0 H
 refine enter Tryz.func214 rfl rfl (Nat.le_of_ble_eq_true rfl) (c_seq (c_reg (s_box rfl rfl rfl rfl H (fun b1 w H => (s_1 rfl (s_nil (q_then ?_)))))))
 replace H : Hd _ _ _ [blk b1 [.int .i64 n] 3, blk t [.int .i64 c0, .int .i64 c1, .int .i64 c2, .int .i64 c3, .int .i64 c4, .int .i64 c5, .int .i64 c6, .int .i64 c7] 322] [] := H
 refine c_seq (c_seq (c_reg (s_val rfl rfl (r_ld rfl ty3 rfl (H.cellI 0 rfl rfl)) (s_val rfl rfl (r_lt rfl rfl rfl) (s_1 rfl ?_)))))
 refine s_dec (d := 9) rfl (fun h2 => ?_) (fun h2 => ?_)
 ·exfalso; omega
 ·refine s_val rfl rfl (r_ld rfl ty3 rfl (H.cellI 0 rfl rfl)) (s_val rfl rfl (r_gt rfl rfl rfl) (s_1 rfl (s_nil (q_then ?_))))
  refine c_dec rfl (fun h3 => ?_) (fun h3 => ?_)
  ·exfalso; omega
  ·refine c_skip (q_then (c_seq (c_reg (s_k 2 rfl (sc (tallyAt0_ok t) H l0 rfl rfl (e_fn kn249 rfl rfl) ?_)))))
   rintro _ _ w ⟨rfl, rfl⟩ H
   refine s_val rfl rfl (r_fn (fs := #[]) (cs := #[.pointer (some ⟨b1, 0, none⟩)]) rfl rfl rfl) ?_
   replace H := H.p1
   refine sc (change_ok t c0 c1 c2 c3 c4 c5 c6 c7 b1 n hn ho) H (lA 0 rfl (fun _ h => h) l0) rfl rfl (e_fn kn248 rfl rfl) ?_
   rintro _ _ w ⟨rfl, rfl⟩ H
   replace H := H.h1 (A := blk t [.int .i64 (min (c0 + n) 1099511627776), .int .i64 c1, .int .i64 c2, .int .i64 c3, .int .i64 c4, .int .i64 c5, .int .i64 c6, .int .i64 c7] 322)
   refine s_1 rfl (s_nil (q_then (c_ret (q_ret1 rfl rfl ?_))))
   replace H := H.k1
   exact fin ⟨rfl, rfl⟩ H

set_option maxHeartbeats 1000000 in
theorem kinds_ok (op : Int) :
    Cn Tryz.prog 302 [.int .i64 op] [] [] (fun v Bs => v = .string (kindsS op) ∧ Bs = []) := by
 intro w0 F0 H
 refine enter Tryz.func302 rfl rfl (Nat.le_of_ble_eq_true rfl) (c_seq (c_reg (s_1 rfl (s_nil (q_then (c_seq (c_seq (c_reg (s_1 rfl (s_nil (q_then (c_block (c_seq (c_seq (c_reg (s_val rfl rfl (r_eq rfl rfl rfl) (s_1 rfl (s_nil (q_then ?_)))))))))))))))))))
 refine c_dec rfl (fun h1 => ?_) (fun h1 => ?_)
 ·refine c_skip (q_then ?_)
  refine c_dec rfl (fun h2 => ?_) (fun h2 => ?_)
  ·exact c_seq (c_reg (s_1 rfl (s_nil (q_then (c_ret (q_blockR (q_thenR (q_ret1 rfl rfl (fin ⟨congrArg Value.string (by unfold kindsS; repeat (first | rw [if_pos (by omega)] | rw [if_neg (by omega)])), rfl⟩ H)))))))))
  ·exact absurd h1 h2
 ·refine c_seq (c_reg (s_val rfl rfl (r_eq rfl rfl rfl) (s_1 rfl (s_nil (q_then ?_)))))
  refine c_dec rfl (fun h3 => ?_) (fun h3 => ?_)
  ·refine c_skip (q_then ?_)
   refine c_dec rfl (fun h4 => ?_) (fun h4 => ?_)
   ·exact c_seq (c_reg (s_1 rfl (s_nil (q_then (c_ret (q_blockR (q_thenR (q_ret1 rfl rfl (fin ⟨congrArg Value.string (by unfold kindsS; repeat (first | rw [if_pos (by omega)] | rw [if_neg (by omega)])), rfl⟩ H)))))))))
   ·exact absurd h3 h4
  ·refine c_reg (s_val rfl rfl (r_eq rfl rfl rfl) (s_1 rfl (s_nil (q_then ?_))))
   refine c_dec rfl (fun h5 => ?_) (fun h5 => ?_)
   ·exact c_seq (c_reg (s_1 rfl (s_nil (q_then (c_ret (q_blockR (q_thenR (q_ret1 rfl rfl (fin ⟨congrArg Value.string (by unfold kindsS; repeat (first | rw [if_pos (by omega)] | rw [if_neg (by omega)])), rfl⟩ H)))))))))
   ·refine c_seq (c_seq (c_reg (s_val rfl rfl (r_eq rfl rfl rfl) (s_1 rfl (s_nil (q_then ?_))))))
    refine c_dec rfl (fun h6 => ?_) (fun h6 => ?_)
    ·refine c_skip (q_then ?_)
     refine c_dec rfl (fun h7 => ?_) (fun h7 => ?_)
     ·exact c_seq (c_reg (s_1 rfl (s_nil (q_then (c_ret (q_blockR (q_thenR (q_ret1 rfl rfl (fin ⟨congrArg Value.string (by unfold kindsS; repeat (first | rw [if_pos (by omega)] | rw [if_neg (by omega)])), rfl⟩ H)))))))))
     ·exact absurd h6 h7
    ·refine c_reg (s_val rfl rfl (r_eq rfl rfl rfl) (s_1 rfl (s_nil (q_then ?_))))
     refine c_dec rfl (fun h8 => ?_) (fun h8 => ?_)
     ·exact c_seq (c_reg (s_1 rfl (s_nil (q_then (c_ret (q_blockR (q_thenR (q_ret1 rfl rfl (fin ⟨congrArg Value.string (by unfold kindsS; repeat (first | rw [if_pos (by omega)] | rw [if_neg (by omega)])), rfl⟩ H)))))))))
     ·refine c_seq (c_seq (c_reg (s_val rfl rfl (r_eq rfl rfl rfl) (s_1 rfl (s_nil (q_then ?_))))))
      refine c_dec rfl (fun h9 => ?_) (fun h9 => ?_)
      ·refine c_skip (q_then ?_)
       refine c_dec rfl (fun h10 => ?_) (fun h10 => ?_)
       ·exact c_seq (c_reg (s_1 rfl (s_nil (q_then (c_ret (q_blockR (q_thenR (q_ret1 rfl rfl (fin ⟨congrArg Value.string (by unfold kindsS; repeat (first | rw [if_pos (by omega)] | rw [if_neg (by omega)])), rfl⟩ H)))))))))
       ·exact absurd h9 h10
      ·refine c_seq (c_reg (s_val rfl rfl (r_eq rfl rfl rfl) (s_1 rfl (s_nil (q_then ?_)))))
       refine c_dec rfl (fun h11 => ?_) (fun h11 => ?_)
       ·refine c_skip (q_then ?_)
        refine c_dec rfl (fun h12 => ?_) (fun h12 => ?_)
        ·exact c_seq (c_reg (s_1 rfl (s_nil (q_then (c_ret (q_blockR (q_thenR (q_ret1 rfl rfl (fin ⟨congrArg Value.string (by unfold kindsS; repeat (first | rw [if_pos (by omega)] | rw [if_neg (by omega)])), rfl⟩ H)))))))))
        ·exact absurd h11 h12
       ·refine c_seq (c_reg (s_val rfl rfl (r_eq rfl rfl rfl) (s_1 rfl (s_nil (q_then ?_)))))
        refine c_dec rfl (fun h13 => ?_) (fun h13 => ?_)
        ·refine c_skip (q_then ?_)
         refine c_dec rfl (fun h14 => ?_) (fun h14 => ?_)
         ·exact c_seq (c_reg (s_1 rfl (s_nil (q_then (c_ret (q_blockR (q_thenR (q_ret1 rfl rfl (fin ⟨congrArg Value.string (by unfold kindsS; repeat (first | rw [if_pos (by omega)] | rw [if_neg (by omega)])), rfl⟩ H)))))))))
         ·exact absurd h13 h14
        ·refine c_reg (s_val rfl rfl (r_eq rfl rfl rfl) (s_1 rfl (s_nil (q_then ?_))))
         refine c_dec rfl (fun h15 => ?_) (fun h15 => ?_)
         ·exact c_seq (c_reg (s_1 rfl (s_nil (q_then (c_ret (q_blockR (q_thenR (q_ret1 rfl rfl (fin ⟨congrArg Value.string (by unfold kindsS; repeat (first | rw [if_pos (by omega)] | rw [if_neg (by omega)])), rfl⟩ H)))))))))
         ·refine c_seq (c_seq (c_reg (s_val rfl rfl (r_eq rfl rfl rfl) (s_1 rfl (s_nil (q_then ?_))))))
          refine c_dec rfl (fun h16 => ?_) (fun h16 => ?_)
          ·refine c_skip (q_then ?_)
           refine c_dec rfl (fun h17 => ?_) (fun h17 => ?_)
           ·exact c_seq (c_reg (s_1 rfl (s_nil (q_then (c_ret (q_blockR (q_thenR (q_ret1 rfl rfl (fin ⟨congrArg Value.string (by unfold kindsS; repeat (first | rw [if_pos (by omega)] | rw [if_neg (by omega)])), rfl⟩ H)))))))))
           ·exact absurd h16 h17
          ·refine c_reg (s_val rfl rfl (r_eq rfl rfl rfl) (s_1 rfl (s_nil (q_then ?_))))
           refine c_dec rfl (fun h18 => ?_) (fun h18 => ?_)
           ·exact c_seq (c_reg (s_1 rfl (s_nil (q_then (c_ret (q_blockR (q_thenR (q_ret1 rfl rfl (fin ⟨congrArg Value.string (by unfold kindsS; repeat (first | rw [if_pos (by omega)] | rw [if_neg (by omega)])), rfl⟩ H)))))))))
           ·refine c_seq (c_seq (c_reg (s_val rfl rfl (r_eq rfl rfl rfl) (s_1 rfl (s_nil (q_then ?_))))))
            refine c_dec rfl (fun h19 => ?_) (fun h19 => ?_)
            ·refine c_skip (q_then ?_)
             refine c_dec rfl (fun h20 => ?_) (fun h20 => ?_)
             ·exact c_seq (c_reg (s_1 rfl (s_nil (q_then (c_ret (q_blockR (q_thenR (q_ret1 rfl rfl (fin ⟨congrArg Value.string (by unfold kindsS; repeat (first | rw [if_pos (by omega)] | rw [if_neg (by omega)])), rfl⟩ H)))))))))
             ·exact absurd h19 h20
            ·refine c_reg (s_val rfl rfl (r_eq rfl rfl rfl) (s_1 rfl (s_nil (q_then ?_))))
             refine c_dec rfl (fun h21 => ?_) (fun h21 => ?_)
             ·exact c_seq (c_reg (s_1 rfl (s_nil (q_then (c_ret (q_blockR (q_thenR (q_ret1 rfl rfl (fin ⟨congrArg Value.string (by unfold kindsS; repeat (first | rw [if_pos (by omega)] | rw [if_neg (by omega)])), rfl⟩ H)))))))))
             ·refine c_seq (c_reg (s_val rfl rfl (r_eq rfl rfl rfl) (s_1 rfl (s_nil (q_then ?_)))))
              refine c_dec rfl (fun h22 => ?_) (fun h22 => ?_)
              ·exact c_seq (c_reg (s_1 rfl (s_nil (q_then (c_ret (q_blockR (q_thenR (q_ret1 rfl rfl (fin ⟨congrArg Value.string (by unfold kindsS; repeat (first | rw [if_pos (by omega)] | rw [if_neg (by omega)])), rfl⟩ H)))))))))
              ·refine c_seq (c_reg (s_val rfl rfl (r_eq rfl rfl rfl) (s_1 rfl (s_nil (q_then ?_)))))
               refine c_dec rfl (fun h23 => ?_) (fun h23 => ?_)
               ·exact c_seq (c_reg (s_1 rfl (s_nil (q_then (c_ret (q_blockR (q_thenR (q_ret1 rfl rfl (fin ⟨congrArg Value.string (by unfold kindsS; repeat (first | rw [if_pos (by omega)] | rw [if_neg (by omega)])), rfl⟩ H)))))))))
               ·refine c_seq (c_seq (c_reg (s_val rfl rfl (r_eq rfl rfl rfl) (s_1 rfl (s_nil (q_then ?_))))))
                refine c_dec rfl (fun h24 => ?_) (fun h24 => ?_)
                ·refine c_skip (q_then ?_)
                 refine c_dec rfl (fun h25 => ?_) (fun h25 => ?_)
                 ·exact c_seq (c_reg (s_1 rfl (s_nil (q_then (c_ret (q_blockR (q_thenR (q_ret1 rfl rfl (fin ⟨congrArg Value.string (by unfold kindsS; repeat (first | rw [if_pos (by omega)] | rw [if_neg (by omega)])), rfl⟩ H)))))))))
                 ·exact absurd h24 h25
                ·refine c_reg (s_val rfl rfl (r_eq rfl rfl rfl) (s_1 rfl (s_nil (q_then ?_))))
                 refine c_dec rfl (fun h26 => ?_) (fun h26 => ?_)
                 ·exact c_seq (c_reg (s_1 rfl (s_nil (q_then (c_ret (q_blockR (q_thenR (q_ret1 rfl rfl (fin ⟨congrArg Value.string (by unfold kindsS; repeat (first | rw [if_pos (by omega)] | rw [if_neg (by omega)])), rfl⟩ H)))))))))
                 ·exact c_skip (q_blockN (q_then (c_seq (c_reg (s_1 rfl (s_nil (q_then (c_ret (q_ret1 rfl rfl (fin ⟨congrArg Value.string (by unfold kindsS; repeat (first | rw [if_pos (by omega)] | rw [if_neg (by omega)])), rfl⟩ H))))))))))
set_option maxHeartbeats 1000000 in
theorem vInt_ok (n : Int) :
    Cn Tryz.prog 266 [.int .i64 n] [] [] (fun v Bs => v = .agg #[.bool false, .int .i64 n, .string ⟨#[]⟩] ∧ Bs = []) := by
 intro w0 F0 H
 refine enter Tryz.func266 rfl rfl (Nat.le_of_ble_eq_true rfl) (c_seq (c_reg (s_alloc rfl rfl rfl zr284 H (fun b1 w H => (s_nil (q_then ?_))))))
 replace H : Hd _ _ _ [blk b1 [.bool false, .int .i64 0, .string ⟨#[]⟩] 284] [] := H
 refine c_seq (c_reg (s_1 rfl (s_val rfl rfl (r_bd (parts := [(1, .tmp 3)]) (vs := [.int .i64 n]) (cs := [.bool false, .int .i64 n, .string ⟨#[]⟩]) rfl bd284 rfl rfl) (s_st rfl rfl rfl ty284 rfl rfl H rfl (Nat.le_of_ble_eq_true rfl) (fun u hu => by simp [Value.cells] at hu; rcases hu with rfl | rfl | rfl <;> rfl) (fun w H => ?_)))))
 replace H := H.h1 (A := blk b1 [.bool false, .int .i64 n, .string ⟨#[]⟩] 284)
 refine s_nil (q_then (c_ret (q_retC (cs := [.bool false, .int .i64 n, .string ⟨#[]⟩]) rfl rfl ty284 rfl (H.cellsI 0 rfl rfl) ?_)))
 replace H := H.nil
 exact fin ⟨rfl, rfl⟩ H
set_option maxHeartbeats 1000000 in
theorem vBytes_ok (s : ByteArray) :
    Cn Tryz.prog 267 [.string s] [] [] (fun v Bs => v = .agg #[.bool true, .int .i64 0, .string s] ∧ Bs = []) := by
 intro w0 F0 H
 refine enter Tryz.func267 rfl rfl (Nat.le_of_ble_eq_true rfl) (c_seq (c_reg (s_alloc rfl rfl rfl zr284 H (fun b1 w H => (s_nil (q_then ?_))))))
 replace H : Hd _ _ _ [blk b1 [.bool false, .int .i64 0, .string ⟨#[]⟩] 284] [] := H
 refine c_seq (c_reg (s_1 rfl (s_val rfl rfl (r_bd (parts := [(0, .const (.bool true)), (2, .tmp 3)]) (vs := [.bool true, .string s]) (cs := [.bool true, .int .i64 0, .string s]) rfl bd284 rfl rfl) (s_st rfl rfl rfl ty284 rfl rfl H rfl (Nat.le_of_ble_eq_true rfl) (fun u hu => by simp [Value.cells] at hu; rcases hu with rfl | rfl | rfl <;> rfl) (fun w H => ?_)))))
 replace H := H.h1 (A := blk b1 [.bool true, .int .i64 0, .string s] 284)
 refine s_nil (q_then (c_ret (q_retC (cs := [.bool true, .int .i64 0, .string s]) rfl rfl ty284 rfl (H.cellsI 0 rfl rfl) ?_)))
 replace H := H.nil
 exact fin ⟨rfl, rfl⟩ H
set_option maxHeartbeats 1000000 in
theorem one_ok (b : Bool) :
    Cn Tryz.prog 270 [.bool b] [] [] (fun v Bs => v = .agg #[.bool false, .int .i64 (if b = true then 1 else 0), .string ⟨#[]⟩] ∧ Bs = []) := by
 intro w0 F0 H
 refine enter Tryz.func270 rfl rfl (Nat.le_of_ble_eq_true rfl) (c_seq (c_reg (s_alloc rfl rfl rfl zr284 H (fun b1 w H => (s_nil (q_then ?_))))))
 replace H : Hd _ _ _ [blk b1 [.bool false, .int .i64 0, .string ⟨#[]⟩] 284] [] := H
 refine c_seq (c_seq (c_reg (s_1 rfl (s_nil (q_then ?_)))))
 refine c_cond (b := b) rfl (fun h2 => ?_) (fun h2 => ?_)
 ·refine c_seq (c_reg (sc (vInt_ok 1) H l0 rfl rfl (e_fn kn266 rfl rfl) ?_))
  rintro _ _ w ⟨rfl, rfl⟩ H
  refine s_st rfl rfl rfl ty284 rfl rfl H rfl (Nat.le_of_ble_eq_true rfl) (fun u hu => by simp [Value.cells] at hu; rcases hu with rfl | rfl | rfl <;> rfl) (fun w H => ?_)
  replace H := H.h1 (A := blk b1 [.bool false, .int .i64 1, .string ⟨#[]⟩] 284)
  refine s_nil (q_then (c_ret (q_thenR (q_retC (cs := [.bool false, .int .i64 1, .string ⟨#[]⟩]) rfl rfl ty284 rfl (H.cellsI 0 rfl rfl) ?_))))
  replace H := H.nil
  exact fin ⟨by simp only [h2]; rfl, rfl⟩ H
 ·refine c_skip (q_then (c_seq (c_reg (sc (vInt_ok 0) H l0 rfl rfl (e_fn kn266 rfl rfl) ?_))))
  rintro _ _ w ⟨rfl, rfl⟩ H
  refine s_st rfl rfl rfl ty284 rfl rfl H rfl (Nat.le_of_ble_eq_true rfl) (fun u hu => by simp [Value.cells] at hu; rcases hu with rfl | rfl | rfl <;> rfl) (fun w H => (s_nil (q_then (c_ret (q_retC (cs := [.bool false, .int .i64 0, .string ⟨#[]⟩]) rfl rfl ty284 rfl (H.cellsI 0 rfl rfl) ?_)))))
  replace H := H.nil
  exact fin ⟨by simp only [h2]; rfl, rfl⟩ H
set_option maxHeartbeats 1000000 in
theorem numbers_ok (op : Int) (a : Int) (b : Int) :
    Cn Tryz.prog 269 [.int .i64 op, .int .i64 a, .int .i64 b] [] [] (fun v Bs => v = .agg #[.bool ((numM op a b).t), .int .i64 ((numM op a b).n), .string ((numM op a b).b)] ∧ Bs = []) := by
 intro w0 F0 H
 refine enter Tryz.func269 rfl rfl (Nat.le_of_ble_eq_true rfl) (c_seq (c_reg (s_alloc rfl rfl rfl zr284 H (fun b1 w H => (s_nil (q_then ?_))))))
 replace H : Hd _ _ _ [blk b1 [.bool false, .int .i64 0, .string ⟨#[]⟩] 284] [] := H
 refine c_seq (c_seq (c_reg (s_1 rfl (s_nil (q_then (c_block (c_seq (c_reg (s_val rfl rfl (r_eq rfl rfl rfl) (s_1 rfl (s_nil (q_then ?_))))))))))))
 refine c_dec rfl (fun h2 => ?_) (fun h2 => ?_)
 ·refine c_seq (c_reg (s_k 2 rfl (s_val rfl rfl (r_add (z := IntKind.i64.wrap (a + b)) rfl rfl rfl rfl) (sc (vInt_ok (IntKind.i64.wrap (a + b))) H l0 rfl rfl (e_fn kn266 rfl rfl) ?_))))
  rintro _ _ w ⟨rfl, rfl⟩ H
  refine s_st rfl rfl rfl ty284 rfl rfl H rfl (Nat.le_of_ble_eq_true rfl) (fun u hu => by simp [Value.cells] at hu; rcases hu with rfl | rfl | rfl <;> rfl) (fun w H => ?_)
  replace H := H.h1 (A := blk b1 [.bool false, .int .i64 (IntKind.i64.wrap (a + b)), .string ⟨#[]⟩] 284)
  refine s_nil (q_then (c_ret (q_blockR (q_thenR (q_retC (cs := [.bool false, .int .i64 (IntKind.i64.wrap (a + b)), .string ⟨#[]⟩]) rfl rfl ty284 rfl (H.cellsI 0 rfl rfl) ?_)))))
  have e : numM op a b = vint (IntKind.i64.wrap (a + b)) := by unfold numM; rw [if_pos h2]
  replace H := H.nil
  exact fin ⟨by rw [e]; rfl, rfl⟩ H
 ·refine c_seq (c_reg (s_val rfl rfl (r_eq rfl rfl rfl) (s_1 rfl (s_nil (q_then ?_)))))
  refine c_dec rfl (fun h3 => ?_) (fun h3 => ?_)
  ·refine c_seq (c_reg (s_k 2 rfl (s_val rfl rfl (r_sub (z := IntKind.i64.wrap (a - b)) rfl rfl rfl rfl) (sc (vInt_ok (IntKind.i64.wrap (a - b))) H l0 rfl rfl (e_fn kn266 rfl rfl) ?_))))
   rintro _ _ w ⟨rfl, rfl⟩ H
   refine s_st rfl rfl rfl ty284 rfl rfl H rfl (Nat.le_of_ble_eq_true rfl) (fun u hu => by simp [Value.cells] at hu; rcases hu with rfl | rfl | rfl <;> rfl) (fun w H => ?_)
   replace H := H.h1 (A := blk b1 [.bool false, .int .i64 (IntKind.i64.wrap (a - b)), .string ⟨#[]⟩] 284)
   refine s_nil (q_then (c_ret (q_blockR (q_thenR (q_retC (cs := [.bool false, .int .i64 (IntKind.i64.wrap (a - b)), .string ⟨#[]⟩]) rfl rfl ty284 rfl (H.cellsI 0 rfl rfl) ?_)))))
   have e : numM op a b = vint (IntKind.i64.wrap (a - b)) := by unfold numM; rw [if_neg h2, if_pos h3]
   replace H := H.nil
   exact fin ⟨by rw [e]; rfl, rfl⟩ H
  ·refine c_seq (c_reg (s_val rfl rfl (r_eq rfl rfl rfl) (s_1 rfl (s_nil (q_then ?_)))))
   refine c_dec rfl (fun h4 => ?_) (fun h4 => ?_)
   ·refine c_seq (c_reg (s_k 2 rfl (s_val rfl rfl (r_mul (z := IntKind.i64.wrap (a * b)) rfl rfl rfl rfl) (sc (vInt_ok (IntKind.i64.wrap (a * b))) H l0 rfl rfl (e_fn kn266 rfl rfl) ?_))))
    rintro _ _ w ⟨rfl, rfl⟩ H
    refine s_st rfl rfl rfl ty284 rfl rfl H rfl (Nat.le_of_ble_eq_true rfl) (fun u hu => by simp [Value.cells] at hu; rcases hu with rfl | rfl | rfl <;> rfl) (fun w H => ?_)
    replace H := H.h1 (A := blk b1 [.bool false, .int .i64 (IntKind.i64.wrap (a * b)), .string ⟨#[]⟩] 284)
    refine s_nil (q_then (c_ret (q_blockR (q_thenR (q_retC (cs := [.bool false, .int .i64 (IntKind.i64.wrap (a * b)), .string ⟨#[]⟩]) rfl rfl ty284 rfl (H.cellsI 0 rfl rfl) ?_)))))
    have e : numM op a b = vint (IntKind.i64.wrap (a * b)) := by unfold numM; rw [if_neg h2, if_neg h3, if_pos h4]
    replace H := H.nil
    exact fin ⟨by rw [e]; rfl, rfl⟩ H
   ·refine c_skip (q_blockN (q_then (c_seq (c_reg (s_k 2 rfl (s_val rfl rfl (r_lt rfl rfl rfl) (sc (one_ok (decide (a < b))) H l0 rfl rfl (e_fn kn270 rfl rfl) ?_)))))))
    rintro _ _ w ⟨rfl, rfl⟩ H
    refine s_st rfl rfl rfl ty284 rfl rfl H rfl (Nat.le_of_ble_eq_true rfl) (fun u hu => by simp [Value.cells] at hu; rcases hu with rfl | rfl | rfl <;> rfl) (fun w H => ?_)
    replace H := H.h1 (A := blk b1 [.bool false, .int .i64 (if (decide (a < b)) = true then 1 else 0), .string ⟨#[]⟩] 284)
    refine s_nil (q_then (c_ret (q_retC (cs := [.bool false, .int .i64 (if (decide (a < b)) = true then 1 else 0), .string ⟨#[]⟩]) rfl rfl ty284 rfl (H.cellsI 0 rfl rfl) ?_)))
    have e : numM op a b = vint (if a < b then 1 else 0) := by unfold numM; rw [if_neg h2, if_neg h3, if_neg h4]
    replace H := H.nil
    exact fin ⟨by rw [e]; simp [vint], rfl⟩ H
set_option maxHeartbeats 1000000 in
theorem vSame_ok (a : Val) (b : Val) :
    Cn Tryz.prog 271 [.agg #[.bool a.t, .int .i64 a.n, .string a.b], .agg #[.bool b.t, .int .i64 b.n, .string b.b]] [] [] (fun v Bs => v = .bool (sameV a b) ∧ Bs = []) := by
 intro w0 F0 H
 refine enter Tryz.func271 rfl rfl (Nat.le_of_ble_eq_true rfl) (c_seq (c_reg (s_box rfl rfl rfl rfl H (fun b1 w H => (s_box rfl rfl rfl rfl H (fun b2 w H => (s_1 rfl (s_nil (q_then ?_)))))))))
 replace H : Hd _ _ _ [blk b2 [.bool b.t, .int .i64 b.n, .string b.b] 284, blk b1 [.bool a.t, .int .i64 a.n, .string a.b] 284] [] := H
 refine c_seq (c_seq (c_reg (s_val rfl rfl (r_fa rfl fo284_0 rfl) (s_val rfl rfl (r_ld rfl ty4 rfl (H.cellI 1 rfl rfl)) (s_nil (q_then ?_))))))
 refine c_cond (b := a.t) rfl (fun h3 => ?_) (fun h3 => ?_)
 ·refine c_seq (c_reg (s_val rfl rfl (r_fa rfl fo284_0 rfl) (s_val rfl rfl (r_ld rfl ty4 rfl (H.cellI 0 rfl rfl)) (s_1 rfl ?_))))
  refine s_boo (d := 9) (b := b.t) rfl (fun h4 => ?_) (fun h4 => ?_)
  ·refine s_val rfl rfl (r_fa rfl fo284_2 rfl) (s_val rfl rfl (r_ld rfl ty9 rfl (H.cellI 1 rfl rfl)) (s_val rfl rfl (r_fa rfl fo284_2 rfl) (s_val rfl rfl (r_ld rfl ty9 rfl (H.cellI 0 rfl rfl)) (s_val rfl rfl (r_eqS rfl rfl rfl) (s_k 2 rfl (s_nil (q_then (c_ret (q_thenR (q_ret1 rfl rfl ?_))))))))))
   replace H := H.nil
   exact fin ⟨congrArg Value.bool (by unfold sameV; simp [h3, h4]), rfl⟩ H
  ·refine s_k 7 rfl (s_nil (q_then (c_ret (q_thenR (q_ret1 rfl rfl ?_)))))
   replace H := H.nil
   exact fin ⟨congrArg Value.bool (by unfold sameV; simp [h3, h4]), rfl⟩ H
 ·refine c_skip (q_then (c_seq (c_reg (s_val rfl rfl (r_fa rfl fo284_0 rfl) (s_val rfl rfl (r_ld rfl ty4 rfl (H.cellI 0 rfl rfl)) (s_val rfl rfl (r_not rfl rfl rfl) (s_1 rfl ?_)))))))
  refine s_boo (d := 19) (b := !b.t) rfl (fun h5 => ?_) (fun h5 => ?_)
  ·refine s_val rfl rfl (r_fa rfl fo284_1 rfl) (s_val rfl rfl (r_ld rfl ty2 rfl (H.cellI 1 rfl rfl)) (s_val rfl rfl (r_fa rfl fo284_1 rfl) (s_val rfl rfl (r_ld rfl ty2 rfl (H.cellI 0 rfl rfl)) (s_val rfl rfl (r_eq rfl rfl rfl) (s_k 2 rfl (s_nil (q_then (c_ret (q_ret1 rfl rfl ?_)))))))))
   replace H := H.nil
   exact fin ⟨congrArg Value.bool (by unfold sameV; simp [h3, h5]), rfl⟩ H
  ·refine s_k 7 rfl (s_nil (q_then (c_ret (q_ret1 rfl rfl ?_))))
   replace H := H.nil
   exact fin ⟨congrArg Value.bool (by unfold sameV; simp [h3, h5]), rfl⟩ H
set_option maxHeartbeats 1000000 in
theorem vAt_ok (s : ByteArray) (i : Int) :
    Cn Tryz.prog 272 [.string s, .int .i64 i] [] [] (fun v Bs => v = .int .i64 (atS s i) ∧ Bs = []) := by
 intro w0 F0 H
 refine enter Tryz.func272 rfl rfl (Nat.le_of_ble_eq_true rfl) (c_seq (c_reg (s_1 rfl (s_nil (q_then (c_seq (c_seq (c_reg (s_1 rfl (s_val rfl rfl (r_lt rfl rfl rfl) (s_1 rfl ?_)))))))))))
 refine s_dec (d := 7) rfl (fun h1 => ?_) (fun h1 => ?_)
 ·exact s_k 5 rfl (s_nil (q_then (c_yes rfl (c_seq (c_reg (s_1 rfl (s_nil (q_then (c_ret (q_thenR (q_ret1 rfl rfl (fin ⟨congrArg (Value.int .i64) (if_pos (by omega)).symm, rfl⟩ H))))))))))))
 ·refine s_k 2 rfl (s_val rfl rfl (r_lenS rfl un9 rfl) (s_val rfl rfl (r_ge rfl rfl rfl) (s_1 rfl (s_nil (q_then ?_)))))
  refine c_dec rfl (fun h2 => ?_) (fun h2 => ?_)
  ·exact c_seq (c_reg (s_1 rfl (s_nil (q_then (c_ret (q_thenR (q_ret1 rfl rfl (fin ⟨congrArg (Value.int .i64) (if_pos (by omega)).symm, rfl⟩ H))))))))
  ·refine c_skip (q_then (c_seq (c_reg (s_k 2 rfl ?_))))
   obtain ⟨c0, hc0⟩ : ∃ c0, s[i.toNat]? = some c0 := ⟨_, getElem?_pos s i.toNat (by omega)⟩
   exact s_val rfl rfl (r_idxS rfl un9 rfl rfl (by omega) hc0) (s_val rfl rfl (r_i2i (z := ((c0).toNat : Int)) rfl rfl un5 un2 (w64 (by omega) (by have := UInt8.toNat_lt c0; omega))) (s_1 rfl (s_nil (q_then (c_ret (q_ret1 rfl rfl (fin ⟨congrArg (Value.int .i64) (by unfold atS; rw [if_neg (by omega), hc0]; rfl), rfl⟩ H)))))))
set_option maxHeartbeats 1000000 in
theorem vCut_ok (s : ByteArray) (f : Int) (t : Int) :
    Cn Tryz.prog 273 [.string s, .int .i64 f, .int .i64 t] [] [] (fun v Bs => v = .string (cutS s f t) ∧ Bs = []) := by
 intro w0 F0 H
 refine enter Tryz.func273 rfl rfl (Nat.le_of_ble_eq_true rfl) (c_seq (c_reg (s_1 rfl (s_nil (q_then (c_seq (c_reg (s_1 rfl (s_val rfl rfl (r_lenS rfl un9 rfl) (s_1 rfl (s_nil (q_then (c_seq (c_reg (s_1 rfl (s_val rfl rfl (r_max (z := max f 0) rfl rfl rfl rfl) (s_1 rfl (s_val rfl rfl (r_min (z := min (max f 0) ((s.size : Nat) : Int)) rfl rfl rfl rfl) (s_1 rfl (s_val rfl rfl (r_max (z := max t 0) rfl rfl rfl rfl) (s_1 rfl (s_val rfl rfl (r_min (z := min (max t 0) ((s.size : Nat) : Int)) rfl rfl rfl rfl) (s_k 2 rfl (s_nil (q_then (c_seq (c_seq (c_reg (s_k 2 rfl (s_val rfl rfl (r_le rfl rfl rfl) (s_nil (q_then ?_))))))))))))))))))))))))))))))))
 refine c_dec rfl (fun h1 => ?_) (fun h1 => ?_)
 ·exact c_seq (c_reg (s_1 rfl (s_nil (q_then (c_ret (q_thenR (q_ret1 rfl rfl (fin ⟨congrArg Value.string (if_pos h1).symm, rfl⟩ H))))))))
 ·exact c_skip (q_then (c_seq (c_reg (s_k 3 rfl (s_val rfl rfl (r_cutStr (r := s.extract (min (max f 0) ((s.size : Nat) : Int)).toNat (min (max t 0) ((s.size : Nat) : Int)).toNat) rfl un9 rfl rfl rfl (by omega) (by omega) (by omega) rfl) (s_1 rfl (s_nil (q_then (c_ret (q_ret1 rfl rfl (fin ⟨congrArg Value.string (if_neg h1).symm, rfl⟩ H)))))))))))

set_option maxHeartbeats 1000000 in
theorem needs_ok (r : Nat) (pv : Value) (key : ByteArray) (vv : Value) (fuel pos steps : Int) (halted : Bool) (sv : Value) (g : Nat → Val) (tv mv : Value) (stk : List Val) (op : Int) (hst : stk.length ≤ 16) :
    Cn Tryz.prog 264 [.pointer (some ⟨r, 0, none⟩), .int .i64 op] [blk r (runC pv key vv fuel pos steps halted sv g tv mv) 288, osl kVal sv stk] [] (fun v Bs => ∃ u sv2, v = .tuple #[u, .int .i64 (needsM op stk).1] ∧ Bs = [blk r (runC pv key vv fuel pos steps halted sv2 g tv mv) 288, osl kVal sv2 (needsM op stk).2.1, osl kVal u (needsM op stk).2.2]) := by
 intro w0 F0 H
 obtain ⟨A1, c2, rfl, hc3, hm4, hp5⟩ := H.fA 1 rfl
 refine enter Tryz.func264 rfl rfl (Nat.le_of_ble_eq_true rfl) (c_seq (c_reg (s_k 2 rfl (s_nil (q_then ?_)))))
 replace H : Hd _ _ _ [blk r (runC pv key vv fuel pos steps halted (.slice A1 stk.length c2) g tv mv) 288, osl kVal (.slice A1 stk.length c2) stk] [] := H
 refine c_seq (c_reg (s_1 rfl (sc (kinds_ok op) H l0 rfl rfl (e_fn kn302 rfl rfl) ?_)))
 rintro _ _ w ⟨rfl, rfl⟩ H
 refine s_1 rfl (s_nil (q_then (c_seq (c_seq (c_reg (s_1 rfl (s_val rfl rfl (r_lenS rfl un9 rfl) (s_1 rfl (s_val rfl rfl (r_nilP rfl rfl) (s_val rfl rfl (r_fa rfl fo288_7 rfl) (s_val rfl rfl (r_ld rfl ty282 rfl (H.cellI 0 rfl rfl)) (s_val rfl rfl (r_lenL rfl un282 rfl) (s_val rfl rfl (r_gt rfl rfl rfl) (s_nil (q_then ?_)))))))))))))))
 refine c_dec rfl (fun h6 => ?_) (fun h6 => ?_)
 ·refine c_seq (c_reg (s_k 2 rfl (s_nil (q_then (c_ret (q_thenR (q_ret2 rfl rfl rfl ?_)))))))
  have e := needs_under (op := op) (stk := stk) (by omega)
  replace H := H.newnil kVal |>.sel 3 [1, 2, 0] [] rfl (by kernel_rfl)
  replace H : Hd _ _ _ [blk r (runC pv key vv fuel pos steps halted (.slice A1 stk.length c2) g tv mv) 288, osl kVal (.slice A1 stk.length c2) stk, osl kVal (.slice none 0 0) []] [] := H
  exact fin ⟨_, _, by rw [e] <;> rfl, by rw [e] <;> rfl⟩ H
 ·refine c_skip (q_then (c_seq (c_draw mo (by kernel_rfl) H (u_1 rfl (u_val rfl rfl (fun w H => r_nilP rfl rfl) (u_val rfl rfl (fun w H => r_fa rfl fo288_7 rfl) (u_val rfl rfl (fun w H => r_ld rfl ty282 rfl (H.cellI 0 rfl rfl)) (u_1 rfl (u_val rfl rfl (fun w H => r_nilP rfl rfl) (u_val rfl rfl (fun w H => r_fa rfl fo288_7 rfl) (u_val rfl rfl (fun w H => r_ld rfl ty282 rfl (H.cellI 0 rfl rfl)) (u_val rfl rfl (fun w H => r_lenL rfl un282 rfl) (u_1 rfl (u_val rfl rfl (fun w H => r_lenS rfl un9 rfl) (u_val rfl rfl (fun w H => r_sub (z := ((stk.length - ((kindsS op).size) : Nat) : Int)) rfl rfl rfl (by rw [w64 (by omega) (by omega)]; omega)) (u_val rfl rfl (fun w H => r_cutP rfl sl282 rfl rfl (by omega) (by omega) rfl) (u_1 rfl (u_val rfl rfl (fun w H => r_nilP rfl rfl) (u_val rfl rfl (fun w H => r_fa rfl fo288_7 rfl) (u_val rfl rfl (fun w H => r_ld rfl ty282 rfl (H.cellI 0 rfl rfl)) ?_))))))))))))))))))))
  refine u_1 rfl (u_val rfl rfl (fun w H => r_nilP rfl rfl) (u_val rfl rfl (fun w H => r_fa rfl fo288_7 rfl) (u_val rfl rfl (fun w H => r_ld rfl ty282 rfl (H.cellI 0 rfl rfl)) (u_val rfl rfl (fun w H => r_lenL rfl un282 rfl) (u_1 rfl (u_val rfl rfl (fun w H => r_lenS rfl un9 rfl) (u_val rfl rfl (fun w H => r_sub (z := ((stk.length - ((kindsS op).size) : Nat) : Int)) rfl rfl rfl (by rw [w64 (by omega) (by omega)]; omega)) (u_val rfl rfl (fun w H => r_cutS rfl sl282 rfl rfl (by omega) (by omega) rfl) (u_k 2 rfl (u_end (fun w H => (q_then (c_seq (c_seq (c_reg (s_1 rfl (s_val rfl rfl (r_lenL rfl un282 rfl) (s_1 rfl (s_nil (q_then (c_block (c_loop (σ := Nat) (fun i => [(0, .pointer (some ⟨r, 0, none⟩)), (6, .string (kindsS op)), (7, .slice A1 (stk.length - ((kindsS op).size)) c2), (8, .slice (cutA A1 c2 (stk.length - ((kindsS op).size)) 3) (stk.length - (stk.length - ((kindsS op).size))) (c2 - (stk.length - ((kindsS op).size)))), (48, .slice (cutA A1 c2 (stk.length - ((kindsS op).size)) 3) (stk.length - (stk.length - ((kindsS op).size))) (c2 - (stk.length - ((kindsS op).size)))), (49, .int .i64 ((stk.length - (stk.length - ((kindsS op).size)) : Nat) : Int)), (50, .int .i64 ((i : Nat) : Int))]) (fun i w => (Hd w0 F0 w [blk r (runC pv key vv fuel pos steps halted (.slice A1 stk.length c2) g tv mv) 288, osl kVal (.slice A1 stk.length c2) stk] []) ∧ (i ≤ (kindsS op).size) ∧ (fitsB ((kindsS op).data.toList.drop i) ((stk.drop (stk.length - (kindsS op).size)).drop i) = fitsB (kindsS op).data.toList (stk.drop (stk.length - (kindsS op).size)))) (fun i => (kindsS op).size - i) 0 ⟨rfl, rfl, rfl, rfl, rfl, rfl, rfl, trivial⟩ ⟨H, Nat.zero_le _, rfl⟩ ?_))))))))))))))))))))))
  rintro i w ⟨H, hi, hf⟩
  refine c_seq (c_reg (s_val rfl rfl (r_lt rfl rfl rfl) (s_nil (q_then (c_seq ?_)))))
  refine c_dec rfl (fun h7 => ?_) (fun h7 => ?_)
  ·refine c_skip (q_then (c_seq (c_block (c_seq (c_reg (s_1 rfl ?_))))))
   obtain ⟨x8, hx9⟩ : ∃ z9, (stk.drop (stk.length - ((kindsS op).size)))[i]? = some z9 := ⟨_, List.getElem?_eq_getElem (show i < (stk.drop (stk.length - ((kindsS op).size))).length by simp only [List.length_take, List.length_drop]; omega)⟩
   have th10 := H.thX (fun F hA hR => rsl_suf (own_rd F (hA _ (List.mem_of_getElem? (i := 1) rfl))) (i := stk.length - ((kindsS op).size)) (by omega)) hx9
   refine s_val rfl rfl (r_iaE (p := oOf (cutA A1 c2 (stk.length - ((kindsS op).size)) 3) + i * 3) rfl sl282 rfl rfl (by omega) (by omega) th10 rfl) (s_val rfl rfl (r_ldA (cs := [.bool x8.t, .int .i64 x8.n, .string x8.b]) rfl ty284 rfl rfl (H.elsX (fun F hA hR => rsl_suf (own_rd F (hA _ (List.mem_of_getElem? (i := 1) rfl))) (i := stk.length - ((kindsS op).size)) (by omega)) hx9 rfl)) (s_alloc rfl rfl rfl zr284 H (fun b11 w H => (s_1 rfl (s_st rfl rfl rfl ty284 rfl rfl H rfl (Nat.le_of_ble_eq_true rfl) (fun u hu => by simp [Value.cells] at hu; rcases hu with rfl | rfl | rfl <;> rfl) (fun w H => ?_))))))
   replace H : Hd _ _ _ [blk b11 [.bool x8.t, .int .i64 x8.n, .string x8.b] 284, blk r (runC pv key vv fuel pos steps halted (.slice A1 stk.length c2) g tv mv) 288, osl kVal (.slice A1 stk.length c2) stk] [] := H
   refine s_nil (q_then (c_seq (c_reg (s_k 2 rfl ?_))))
   obtain ⟨c12, hb13⟩ : ∃ c0, (kindsS op)[i]? = some c0 := ⟨_, getElem?_pos (kindsS op) i (by omega)⟩
   refine s_val rfl rfl (r_idxS rfl un9 rfl rfl (by omega) hb13) (s_val rfl rfl (r_eq rfl rfl rfl) (s_1 rfl ?_))
   refine s_dec (d := 59) rfl (fun h14 => ?_) (fun h14 => ?_)
   ·refine s_val rfl rfl (r_fa rfl fo284_0 rfl) (s_val rfl rfl (r_ld rfl ty4 rfl (H.cellI 0 rfl rfl)) (s_k 2 rfl ?_))
    refine s_boo (d := 63) (b := x8.t) rfl (fun h15 => ?_) (fun h15 => ?_)
    ·refine s_k 10 rfl (s_nil (q_then (c_yes rfl (c_seq (c_reg (s_k 2 rfl (s_nil (q_then (c_ret (q_blockR (q_thenR (q_thenR (q_blockR (q_thenR (q_ret2 rfl rfl rfl ?_)))))))))))))))
     have hfit : fitB c12 x8 = false := by rw [fitB_eq]; simp_all
     have e := needs_type (op := op) (stk := stk) (by omega) (hf.symm.trans (fits_no (bytes_get hb13) hx9 hfit))
     replace H := H.p2.p2.k2.newnil kVal |>.p2 |>.p2
     exact fin ⟨_, _, by rw [e] <;> rfl, by rw [e] <;> rfl⟩ H
    ·refine s_k 2 rfl (s_val rfl rfl (r_idxS rfl un9 rfl rfl (by omega) hb13) (s_val rfl rfl (r_eq rfl rfl rfl) (s_1 rfl ?_)))
     refine s_dec (d := 68) rfl (fun h16 => ?_) (fun h16 => ?_)
     ·refine s_val rfl rfl (r_fa rfl fo284_0 rfl) (s_val rfl rfl (r_ld rfl ty4 rfl (H.cellI 0 rfl rfl)) (s_val rfl rfl (r_not rfl rfl rfl) (s_k 2 rfl (s_nil (q_then ?_)))))
      refine c_cond (b := !x8.t) rfl (fun h17 => ?_) (fun h17 => ?_)
      ·refine c_seq (c_reg (s_k 2 rfl (s_nil (q_then (c_ret (q_blockR (q_thenR (q_thenR (q_blockR (q_thenR (q_ret2 rfl rfl rfl ?_)))))))))))
       have hfit : fitB c12 x8 = false := by rw [fitB_eq]; simp_all
       have e := needs_type (op := op) (stk := stk) (by omega) (hf.symm.trans (fits_no (bytes_get hb13) hx9 hfit))
       replace H := H.p2.p2.k2.newnil kVal |>.p2 |>.p2
       exact fin ⟨_, _, by rw [e] <;> rfl, by rw [e] <;> rfl⟩ H
      ·refine c_skip (q_blockN (q_then (c_reg (s_val rfl rfl (r_add (z := ((i + 1 : Nat) : Int)) rfl rfl rfl (by rw [w64 (by omega) (by omega)]; omega)) (s_1 rfl (s_nil ?_))))))
       have hfit : fitB c12 x8 = true := by rw [fitB_eq]; simp_all
       have hf2 := (fits_go (bytes_get hb13) hx9 hfit).trans hf
       replace H := H.p2.p2.k2
       exact q_round (s := i) (i + 1) ⟨rfl, rfl, rfl, rfl, rfl, rfl, rfl, trivial⟩ ⟨H, by (try dsimp only); omega, hf2⟩ (by (try dsimp only); omega)
     ·refine s_k 5 rfl (s_nil (q_then (c_no rfl (c_skip (q_blockN (q_then (c_reg (s_val rfl rfl (r_add (z := ((i + 1 : Nat) : Int)) rfl rfl rfl (by rw [w64 (by omega) (by omega)]; omega)) (s_1 rfl (s_nil ?_))))))))))
      have hfit : fitB c12 x8 = true := by rw [fitB_eq]; simp_all
      have hf2 := (fits_go (bytes_get hb13) hx9 hfit).trans hf
      replace H := H.p2.p2.k2
      exact q_round (s := i) (i + 1) ⟨rfl, rfl, rfl, rfl, rfl, rfl, rfl, trivial⟩ ⟨H, by (try dsimp only); omega, hf2⟩ (by (try dsimp only); omega)
   ·refine s_k 6 rfl (s_val rfl rfl (r_idxS rfl un9 rfl rfl (by omega) hb13) (s_val rfl rfl (r_eq rfl rfl rfl) (s_1 rfl ?_)))
    refine s_dec (d := 68) rfl (fun h18 => ?_) (fun h18 => ?_)
    ·refine s_val rfl rfl (r_fa rfl fo284_0 rfl) (s_val rfl rfl (r_ld rfl ty4 rfl (H.cellI 0 rfl rfl)) (s_val rfl rfl (r_not rfl rfl rfl) (s_k 2 rfl (s_nil (q_then ?_)))))
     refine c_cond (b := !x8.t) rfl (fun h19 => ?_) (fun h19 => ?_)
     ·refine c_seq (c_reg (s_k 2 rfl (s_nil (q_then (c_ret (q_blockR (q_thenR (q_thenR (q_blockR (q_thenR (q_ret2 rfl rfl rfl ?_)))))))))))
      have hfit : fitB c12 x8 = false := by rw [fitB_eq]; simp_all
      have e := needs_type (op := op) (stk := stk) (by omega) (hf.symm.trans (fits_no (bytes_get hb13) hx9 hfit))
      replace H := H.p2.p2.k2.newnil kVal |>.p2 |>.p2
      exact fin ⟨_, _, by rw [e] <;> rfl, by rw [e] <;> rfl⟩ H
     ·refine c_skip (q_blockN (q_then (c_reg (s_val rfl rfl (r_add (z := ((i + 1 : Nat) : Int)) rfl rfl rfl (by rw [w64 (by omega) (by omega)]; omega)) (s_1 rfl (s_nil ?_))))))
      have hfit : fitB c12 x8 = true := by rw [fitB_eq]; simp_all
      have hf2 := (fits_go (bytes_get hb13) hx9 hfit).trans hf
      replace H := H.p2.p2.k2
      exact q_round (s := i) (i + 1) ⟨rfl, rfl, rfl, rfl, rfl, rfl, rfl, trivial⟩ ⟨H, by (try dsimp only); omega, hf2⟩ (by (try dsimp only); omega)
    ·refine s_k 5 rfl (s_nil (q_then (c_no rfl (c_skip (q_blockN (q_then (c_reg (s_val rfl rfl (r_add (z := ((i + 1 : Nat) : Int)) rfl rfl rfl (by rw [w64 (by omega) (by omega)]; omega)) (s_1 rfl (s_nil ?_))))))))))
     have hfit : fitB c12 x8 = true := by rw [fitB_eq]; simp_all
     have hf2 := (fits_go (bytes_get hb13) hx9 hfit).trans hf
     replace H := H.p2.p2.k2
     exact q_round (s := i) (i + 1) ⟨rfl, rfl, rfl, rfl, rfl, rfl, rfl, trivial⟩ ⟨H, by (try dsimp only); omega, hf2⟩ (by (try dsimp only); omega)
  ·refine c_exit (q_thenE (q_thenE (q_blockE (q_then (c_seq (c_reg (s_1 rfl ?_)))))))
   replace H := H.newnil kVal
   refine s_appF (xs := []) (ys := stk.drop (stk.length - ((kindsS op).size))) rfl rfl rfl sl282 zr284 rfl (by decide) rfl rfl H (by simp only [List.length_nil]; omega) (fun F hA hR => rsl_suf (own_rd F (hA _ (List.mem_of_getElem? (i := 1) rfl))) (i := stk.length - ((kindsS op).size)) (by omega)) (fun v20 w H => (s_1 rfl (s_nil (q_then ?_))))
   replace H : Hd _ _ _ [osl kVal v20 ([] ++ (stk.drop (stk.length - ((kindsS op).size)))), blk r (runC pv key vv fuel pos steps halted (.slice A1 stk.length c2) g tv mv) 288, osl kVal (.slice A1 stk.length c2) stk] [] := H
   refine c_seq (c_reg (s_k 2 rfl (s_val rfl rfl (r_nilP rfl rfl) (s_val rfl rfl (r_fa rfl fo288_7 rfl) ?_))))
   replace H := H.p1
   refine s_st rfl rfl rfl ty282 rfl rfl H rfl (Nat.le_of_ble_eq_true rfl) (fun u hu => by simp [Value.cells] at hu; subst hu; rfl) (fun w H => ?_)
   replace H := H.h1 (A := blk r (runC pv key vv fuel pos steps halted (.slice A1 (stk.length - ((kindsS op).size)) c2) g tv mv) 288)
   refine s_nil (q_then (c_seq ?_))
   replace H := H.p2.preO (stk.length - (kindsS op).size) (by omega) |>.h1 (A := osl kVal (.slice A1 (stk.length - ((kindsS op).size)) c2) (stk.take (stk.length - (kindsS op).size)))
   refine c_reg (s_k 3 rfl (s_nil (q_then (c_ret (q_ret2 rfl rfl rfl ?_)))))
   replace H := H.p1.h3 (A := blk r (runC pv key vv fuel pos steps halted (.slice A1 (stk.length - ((kindsS op).size)) c2) g tv mv) 288) (B := osl kVal (.slice A1 (stk.length - ((kindsS op).size)) c2) (stk.take (stk.length - (kindsS op).size))) (C := osl kVal v20 (stk.drop (stk.length - (kindsS op).size)))
   have e := needs_fine (op := op) (stk := stk) (by omega) (hf.symm.trans (fits_end (by simp only [List.length_drop]; omega)))
   exact fin ⟨_, _, by rw [e] <;> rfl, by rw [e] <;> rfl⟩ H
set_option maxHeartbeats 1000000 in
theorem push_ok (r : Nat) (pv : Value) (key : ByteArray) (vv : Value) (fuel pos steps : Int) (halted : Bool) (sv : Value) (g : Nat → Val) (tv mv : Value) (stk : List Val) (vvs : Value) (vs : List Val) (hst : stk.length ≤ 16) (hvs : vs.length ≤ 16) :
    Cn Tryz.prog 265 [.pointer (some ⟨r, 0, none⟩), vvs] [blk r (runC pv key vv fuel pos steps halted sv g tv mv) 288, osl kVal sv stk] [rsl kVal vvs vs] (fun v Bs => ∃ sv2, v = .int .i64 (pushM stk vs).1 ∧ Bs = [blk r (runC pv key vv fuel pos steps halted sv2 g tv mv) 288, osl kVal sv2 (pushM stk vs).2]) := by
 intro w0 F0 H
 obtain ⟨A1, c2, rfl, hc3, hm4, hp5⟩ := H.fR 0 rfl
 refine enter Tryz.func265 rfl rfl (Nat.le_of_ble_eq_true rfl) (c_seq (c_reg (s_1 rfl (s_nil (q_then ?_)))))
 replace H : Hd _ _ _ [blk r (runC pv key vv fuel pos steps halted sv g tv mv) 288, osl kVal sv stk] [rsl kVal (.slice A1 vs.length c2) vs] := H
 refine c_seq (c_seq (c_reg (s_1 rfl (s_val rfl rfl (r_lenL rfl un282 rfl) (s_1 rfl (s_nil (q_then (c_block (c_loop (σ := Nat) (fun k => [(0, .pointer (some ⟨r, 0, none⟩)), (1, .slice A1 vs.length c2), (7, .slice A1 vs.length c2), (8, .int .i64 ((vs.length : Nat) : Int)), (9, .int .i64 ((k : Nat) : Int))]) (fun k w => (Hd w0 F0 w [blk r (runC pv key vv fuel pos steps halted sv g tv mv) 288, osl kVal sv stk] [rsl kVal (.slice A1 vs.length c2) vs]) ∧ (k ≤ vs.length) ∧ (∀ y ∈ vs.take k, bigV y = false)) (fun k => vs.length - k) 0 ⟨rfl, rfl, rfl, rfl, rfl, trivial⟩ ⟨H, Nat.zero_le _, by (try dsimp only); simp⟩ ?_)))))))))
 rintro k w ⟨H, hk, hn⟩
 refine c_seq (c_reg (s_val rfl rfl (r_lt rfl rfl rfl) (s_nil (q_then (c_seq ?_)))))
 refine c_dec rfl (fun h6 => ?_) (fun h6 => ?_)
 ·refine c_skip (q_then (c_seq (c_block (c_seq (c_reg ?_)))))
  obtain ⟨x7, hx8⟩ : ∃ z9, vs[k]? = some z9 := ⟨_, List.getElem?_eq_getElem (show k < vs.length by omega)⟩
  have th9 := H.thR 0 rfl hx8
  refine s_val rfl rfl (r_iaE (p := oOf A1 + k * 3) rfl sl282 rfl rfl (by omega) (by omega) th9 rfl) (s_val rfl rfl (r_ldA (cs := [.bool x7.t, .int .i64 x7.n, .string x7.b]) rfl ty284 rfl rfl (H.elsR 0 rfl hx8 rfl)) (s_alloc rfl rfl rfl zr284 H (fun b10 w H => (s_st rfl rfl rfl ty284 rfl rfl H rfl (Nat.le_of_ble_eq_true rfl) (fun u hu => by simp [Value.cells] at hu; rcases hu with rfl | rfl | rfl <;> rfl) (fun w H => ?_)))))
  replace H := H.h1 (A := blk b10 [.bool x7.t, .int .i64 x7.n, .string x7.b] 284)
  refine s_nil (q_then (c_seq (c_reg (s_val rfl rfl (r_fa rfl fo284_0 rfl) (s_val rfl rfl (r_ld rfl ty4 rfl (H.cellI 0 rfl rfl)) (s_1 rfl ?_))))))
  refine s_boo (d := 15) (b := x7.t) rfl (fun h11 => ?_) (fun h11 => ?_)
  ·refine s_val rfl rfl (r_fa rfl fo284_2 rfl) (s_val rfl rfl (r_ld rfl ty9 rfl (H.cellI 0 rfl rfl)) (s_val rfl rfl (r_lenS rfl un9 rfl) (s_val rfl rfl (r_gt rfl rfl rfl) (s_1 rfl (s_nil (q_then ?_))))))
   refine c_dec rfl (fun h12 => ?_) (fun h12 => ?_)
   ·refine c_seq (c_reg (s_1 rfl (s_nil (q_then (c_ret (q_blockR (q_thenR (q_thenR (q_blockR (q_thenR (q_ret1 rfl rfl ?_)))))))))))
    have e := push_big (stk := stk) hx8 (big_yes h11 h12)
    replace H := H.p2.p2.k2
    exact fin ⟨_, by rw [e] <;> rfl, by rw [e] <;> rfl⟩ H
   ·refine c_skip (q_blockN (q_then (c_reg (s_val rfl rfl (r_add (z := ((k + 1 : Nat) : Int)) rfl rfl rfl (by rw [w64 (by omega) (by omega)]; omega)) (s_1 rfl (s_nil ?_))))))
    replace H := H.p2.p2.k2
    exact q_round (s := k) (k + 1) ⟨rfl, rfl, rfl, rfl, rfl, trivial⟩ ⟨H, by (try dsimp only); omega, take_prop hn hx8 (big_no (.inr h12))⟩ (by (try dsimp only); omega)
  ·refine s_k 5 rfl (s_nil (q_then (c_no rfl (c_skip (q_blockN (q_then (c_reg (s_val rfl rfl (r_add (z := ((k + 1 : Nat) : Int)) rfl rfl rfl (by rw [w64 (by omega) (by omega)]; omega)) (s_1 rfl (s_nil ?_))))))))))
   replace H := H.p2.p2.k2
   exact q_round (s := k) (k + 1) ⟨rfl, rfl, rfl, rfl, rfl, trivial⟩ ⟨H, by (try dsimp only); omega, take_prop hn hx8 (big_no (.inl h11))⟩ (by (try dsimp only); omega)
 ·refine c_exit (q_thenE (q_thenE (q_blockE (q_then (c_seq (c_seq (c_reg (s_1 rfl (s_val rfl rfl (r_nilP rfl rfl) (s_val rfl rfl (r_fa rfl fo288_7 rfl) (s_val rfl rfl (r_ld rfl ty282 rfl (H.cellI 0 rfl rfl)) ?_)))))))))))
  obtain ⟨A13, c14, rfl, hc15, hm16, hp17⟩ := H.fA 1 rfl
  refine s_val rfl rfl (r_lenL rfl un282 rfl) (s_1 rfl (s_val rfl rfl (r_lenL rfl un282 rfl) (s_val rfl rfl (r_add (z := ((stk.length + vs.length : Nat) : Int)) rfl rfl rfl (by rw [w64 (by omega) (by omega)]; omega)) (s_val rfl rfl (r_gt rfl rfl rfl) (s_nil (q_then ?_))))))
  refine c_dec rfl (fun h18 => ?_) (fun h18 => ?_)
  ·refine c_seq (c_reg (s_1 rfl (s_nil (q_then (c_ret (q_thenR (q_ret1 rfl rfl ?_)))))))
   have e := push_full (stk := stk) (vs := vs) (by rw [List.take_of_length_le (by omega)] at hn; exact hn) (by omega)
   exact fin ⟨_, by rw [e] <;> rfl, by rw [e] <;> rfl⟩ H
  ·refine c_skip (q_then (c_seq (c_reg (s_k 2 rfl (s_val rfl rfl (r_nilP rfl rfl) (s_val rfl rfl (r_fa rfl fo288_7 rfl) (s_val rfl rfl (r_ld rfl ty282 rfl (H.cellI 0 rfl rfl)) (s_1 rfl ?_))))))))
   replace H := H.p1
   refine s_appF (xs := stk) (ys := vs) rfl rfl rfl sl282 zr284 rfl (by decide) rfl rfl H (by omega) (fun F hA hR => hR _ (List.mem_of_getElem? (i := 0) rfl)) (fun v19 w H => (s_val rfl rfl (r_nilP rfl rfl) (s_val rfl rfl (r_fa rfl fo288_7 rfl) ?_)))
   obtain ⟨A20, c21, rfl, hc22, hm23, hp24⟩ := H.fA 0 rfl
   replace H := H.p1
   refine s_st rfl rfl rfl ty282 rfl rfl H rfl (Nat.le_of_ble_eq_true rfl) (fun u hu => by simp [Value.cells] at hu; subst hu; rfl) (fun w H => ?_)
   replace H : Hd _ _ _ [blk r (runC pv key vv fuel pos steps halted (.slice A20 ((stk ++ vs).length) c21) g tv mv) 288, osl kVal (.slice A20 ((stk ++ vs).length) c21) (stk ++ vs)] [rsl kVal (.slice A1 vs.length c2) vs] := H
   refine s_nil (q_then (c_seq (c_reg (s_1 rfl (s_nil (q_then (c_ret (q_ret1 rfl rfl ?_))))))))
   have e := push_fine (stk := stk) (vs := vs) (by rw [List.take_of_length_le (by omega)] at hn; exact hn) (by omega)
   exact fin ⟨_, by rw [e] <;> rfl, by rw [e] <;> rfl⟩ H

set_option maxHeartbeats 1000000 in
theorem next_ok (r : Nat) (pv : Value) (key : ByteArray) (vv : Value) (fuel pos steps : Int) (halted : Bool) (sv : Value) (g : Nat → Val) (tv mv : Value) (stk : List Val) (vals : List ByteArray) (hst : stk.length ≤ 16) :
    Cn Tryz.prog 268 [.pointer (some ⟨r, 0, none⟩)] [blk r (runC pv key vv fuel pos steps halted sv g tv mv) 288, osl kVal sv stk] [rsl kStr vv vals] (fun v Bs => ∃ sv2 vv2, v = .int .i64 (nextS stk vals).1 ∧ Suf kStr vv vals vv2 (nextS stk vals).2.2 ∧ Bs = [blk r (runC pv key vv2 fuel pos steps halted sv2 g tv mv) 288, osl kVal sv2 (nextS stk vals).2.1]) := by
 intro w0 F0 H
 obtain ⟨A1, c2, rfl, hc3, hm4, hp5⟩ := H.fR 0 rfl
 refine enter Tryz.func268 rfl rfl (Nat.le_of_ble_eq_true rfl) (c_seq (c_reg (s_1 rfl (s_nil (q_then ?_)))))
 replace H : Hd _ _ _ [blk r (runC pv key (.slice A1 vals.length c2) fuel pos steps halted sv g tv mv) 288, osl kVal sv stk] [rsl kStr (.slice A1 vals.length c2) vals] := H
 refine c_seq (c_seq (c_reg (s_1 rfl (s_val rfl rfl (r_nilP rfl rfl) (s_val rfl rfl (r_fa rfl fo288_2 rfl) (s_val rfl rfl (r_ld rfl ty241 rfl (H.cellI 0 rfl rfl)) (s_val rfl rfl (r_lenL rfl un241 rfl) (s_val rfl rfl (r_eq rfl rfl rfl) (s_nil (q_then ?_))))))))))
 refine c_dec rfl (fun h6 => ?_) (fun h6 => ?_)
 ·refine c_seq ?_
  have hv0 : vals = [] := List.eq_nil_of_length_eq_zero (by omega)
  refine c_reg (s_1 rfl (sc (vInt_ok 0) H l0 rfl rfl (e_fn kn266 rfl rfl) ?_))
  rintro _ _ w ⟨rfl, rfl⟩ H
  refine s_bsl (parts := [(0, .tmp 11)]) (vs := [.agg #[.bool false, .int .i64 0, .string ⟨#[]⟩]]) (cs := [.bool false, .int .i64 0, .string ⟨#[]⟩]) rfl rfl rfl sl282 zr284 rfl (by decide) (by decide) rfl rfl H (fun b7 w H => ?_)
  replace H := H.h1 (A := blk b7 [.bool false, .int .i64 0, .string ⟨#[]⟩] 284) |>.p2 |>.p2
  refine sc (push_ok r pv key (.slice A1 vals.length c2) fuel pos steps halted sv g tv mv stk (.slice (some ⟨b7, 0, none⟩) 1 1) [(⟨false, 0, ⟨#[]⟩⟩ : Val)] (by omega) (Nat.le_of_ble_eq_true rfl)) H (lA 0 rfl (fun F h => blk_rsl h rfl (by decide) (RepsR.flat_eq.2 rfl)) l0) rfl rfl (e_fn kn265 rfl rfl) ?_
  rintro _ _ w ⟨s8, rfl, rfl⟩ H
  replace H := H.h2 (A := blk r (runC pv key (.slice A1 vals.length c2) fuel pos steps halted s8 g tv mv) 288) (B := osl kVal s8 ((pushM stk [(⟨false, 0, ⟨#[]⟩⟩ : Val)]).2))
  refine s_1 rfl (s_nil (q_then (c_ret (q_thenR (q_ret1 rfl rfl ?_)))))
  replace H := H.k2
  have e : nextS stk vals = ((pushM stk [vint 0]).1, (pushM stk [vint 0]).2, []) := by rw [hv0]; rfl
  exact fin ⟨s8, .slice A1 vals.length c2, by rw [e] <;> rfl, by rw [e, hv0] <;> exact Suf.refl _ _ _, by rw [e] <;> rfl⟩ H
 ·refine c_skip (q_then (c_seq (c_reg (s_1 rfl (s_val rfl rfl (r_nilP rfl rfl) (s_val rfl rfl (r_fa rfl fo288_2 rfl) (s_val rfl rfl (r_ld rfl ty241 rfl (H.cellI 0 rfl rfl)) ?_)))))))
  obtain ⟨x9, hx10⟩ : ∃ z9, vals[0]? = some z9 := ⟨_, List.getElem?_eq_getElem (show 0 < vals.length by omega)⟩
  have th11 := H.thR 0 rfl hx10
  refine s_val rfl rfl (r_iaE (p := oOf A1 + 0 * 1) rfl sl241 rfl rfl (by omega) (by omega) th11 (by omega)) (s_val rfl rfl (r_ld rfl ty9 rfl (H.elR 0 rfl hx10 (q := 0) rfl rfl)) (s_1 rfl (s_nil (q_then (c_seq (c_reg (s_k 2 rfl (s_val rfl rfl (r_nilP rfl rfl) (s_val rfl rfl (r_fa rfl fo288_2 rfl) (s_val rfl rfl (r_ld rfl ty241 rfl (H.cellI 0 rfl rfl)) (s_val rfl rfl (r_cutS rfl sl241 rfl rfl (by omega) (by omega) rfl) (s_val rfl rfl (r_nilP rfl rfl) (s_val rfl rfl (r_fa rfl fo288_2 rfl) (s_st rfl rfl rfl ty241 rfl rfl H rfl (Nat.le_of_ble_eq_true rfl) (fun u hu => by simp [Value.cells] at hu; subst hu; rfl) (fun w H => ?_)))))))))))))))
  replace H := H.h1 (A := blk r (runC pv key (.slice (cutA A1 c2 1 1) (vals.length - 1) (c2 - 1)) fuel pos steps halted sv g tv mv) 288)
  refine s_nil (q_then (c_seq (c_reg (s_k 2 rfl (sc (vBytes_ok x9) H l0 rfl rfl (e_fn kn267 rfl rfl) ?_)))))
  rintro _ _ w ⟨rfl, rfl⟩ H
  refine sc (vInt_ok 1) H l0 rfl rfl (e_fn kn266 rfl rfl) ?_
  rintro _ _ w ⟨rfl, rfl⟩ H
  refine s_bsl (parts := [(0, .tmp 30), (1, .tmp 31)]) (vs := [.agg #[.bool true, .int .i64 0, .string x9], .agg #[.bool false, .int .i64 1, .string ⟨#[]⟩]]) (cs := [.bool true, .int .i64 0, .string x9, .bool false, .int .i64 1, .string ⟨#[]⟩]) rfl rfl rfl sl282 zr284 rfl (by decide) (by decide) rfl rfl H (fun b12 w H => ?_)
  replace H := H.h1 (A := blk b12 [.bool true, .int .i64 0, .string x9, .bool false, .int .i64 1, .string ⟨#[]⟩] 284) |>.p2 |>.p2
  refine sc (push_ok r pv key (.slice (cutA A1 c2 1 1) (vals.length - 1) (c2 - 1)) fuel pos steps halted sv g tv mv stk (.slice (some ⟨b12, 0, none⟩) 2 2) [(⟨true, 0, x9⟩ : Val), (⟨false, 1, ⟨#[]⟩⟩ : Val)] (by omega) (Nat.le_of_ble_eq_true rfl)) H (lA 0 rfl (fun F h => blk_rsl h rfl (by decide) (RepsR.flat_eq.2 rfl)) l0) rfl rfl (e_fn kn265 rfl rfl) ?_
  rintro _ _ w ⟨s13, rfl, rfl⟩ H
  replace H := H.h2 (A := blk r (runC pv key (.slice (cutA A1 c2 1 1) (vals.length - 1) (c2 - 1)) fuel pos steps halted s13 g tv mv) 288) (B := osl kVal s13 ((pushM stk [(⟨true, 0, x9⟩ : Val), (⟨false, 1, ⟨#[]⟩⟩ : Val)]).2))
  refine s_1 rfl (s_nil (q_then (c_ret (q_ret1 rfl rfl ?_))))
  replace H := H.k2
  have e := next_cons (stk := stk) hx10
  exact fin ⟨s13, .slice (cutA A1 c2 1 1) (vals.length - 1) (c2 - 1), by rw [e] <;> rfl, by rw [e]; exact fun w F h => rsl_suf h (by omega), by rw [e] <;> rfl⟩ H
set_option maxHeartbeats 1000000 in
theorem emit_ok (r : Nat) (pv : Value) (key : ByteArray) (vv : Value) (fuel pos steps : Int) (halted : Bool) (sv : Value) (g : Nat → Val) (tv mv : Value) (told : List Pair) (ek ew : ByteArray) (hto : told.length ≤ 40) :
    Cn Tryz.prog 276 [.pointer (some ⟨r, 0, none⟩), .string ek, .string ew] [blk r (runC pv key vv fuel pos steps halted sv g tv mv) 288, osl kPair tv told] [] (fun v Bs => ∃ tv2, v = .int .i64 (emitM told ek ew).1 ∧ Bs = [blk r (runC pv key vv fuel pos steps halted sv g tv2 mv) 288, osl kPair tv2 (emitM told ek ew).2]) := by
 intro w0 F0 H
 obtain ⟨A1, c2, rfl, hc3, hm4, hp5⟩ := H.fA 1 rfl
 refine enter Tryz.func276 rfl rfl (Nat.le_of_ble_eq_true rfl) (c_seq (c_reg (s_1 rfl (s_nil (q_then ?_)))))
 replace H : Hd _ _ _ [blk r (runC pv key vv fuel pos steps halted sv g (.slice A1 told.length c2) mv) 288, osl kPair (.slice A1 told.length c2) told] [] := H
 refine c_seq (c_block (c_seq (c_reg (s_1 rfl (s_val rfl rfl (r_lenS rfl un9 rfl) (s_val rfl rfl (r_gt rfl rfl rfl) (s_1 rfl (s_nil (q_then ?_)))))))))
 refine c_dec rfl (fun h6 => ?_) (fun h6 => ?_)
 ·refine c_seq (c_reg (s_1 rfl (s_nil (q_then (c_ret (q_blockR (q_thenR (q_ret1 rfl rfl ?_))))))))
  have e := emit_big (told := told) (k := ek) (v := ew) h6
  exact fin ⟨_, by rw [e] <;> rfl, by rw [e] <;> rfl⟩ H
 ·refine c_seq (c_reg (s_1 rfl (s_val rfl rfl (r_nilP rfl rfl) (s_val rfl rfl (r_fa rfl fo288_9 rfl) (s_val rfl rfl (r_ld rfl ty35 rfl (H.cellI 0 rfl rfl)) (s_val rfl rfl (r_lenL rfl un35 rfl) (s_val rfl rfl (r_ge rfl rfl rfl) (s_1 rfl (s_nil (q_then ?_))))))))))
  refine c_dec rfl (fun h7 => ?_) (fun h7 => ?_)
  ·refine c_seq (c_reg (s_1 rfl (s_nil (q_then (c_ret (q_blockR (q_thenR (q_ret1 rfl rfl ?_))))))))
   have e := emit_many (told := told) (k := ek) (v := ew) h6 (by omega)
   exact fin ⟨_, by rw [e] <;> rfl, by rw [e] <;> rfl⟩ H
  ·refine c_skip (q_blockN (q_then (c_seq (c_reg (s_k 2 rfl (s_val rfl rfl (r_nilP rfl rfl) (s_val rfl rfl (r_fa rfl fo288_9 rfl) (s_val rfl rfl (r_ld rfl ty35 rfl (H.cellI 0 rfl rfl)) (s_k 2 rfl (s_val rfl rfl (r_bd (parts := [(0, .tmp 23), (1, .tmp 24)]) (vs := [.string ek, .string ew]) (cs := [.string ek, .string ew]) rfl bd106 rfl rfl) (s_bsl (parts := [(0, .tmp 25)]) (vs := [.agg #[.string ek, .string ew]]) (cs := [.string ek, .string ew]) rfl rfl rfl sl35 zr106 rfl (by decide) (by decide) rfl rfl H (fun b8 w H => ?_))))))))))))
   replace H := H.p2
   refine s_appF (xs := told) (ys := [(⟨ek, ew⟩ : Pair)]) rfl rfl rfl sl35 zr106 rfl (by decide) rfl rfl H (by first | omega | (simp only [List.length_cons, List.length_nil]; omega)) (fun F hA hR => blk_rsl (hA _ (List.mem_of_getElem? (i := 0) rfl)) rfl (by decide) (RepsR.flat_eq.2 rfl)) (fun v9 w H => (s_val rfl rfl (r_nilP rfl rfl) (s_val rfl rfl (r_fa rfl fo288_9 rfl) ?_)))
   obtain ⟨A10, c11, rfl, hc12, hm13, hp14⟩ := H.fA 0 rfl
   replace H := H.p2
   refine s_st rfl rfl rfl ty35 rfl rfl H rfl (Nat.le_of_ble_eq_true rfl) (fun u hu => by simp [Value.cells] at hu; subst hu; rfl) (fun w H => ?_)
   replace H : Hd _ _ _ [blk r (runC pv key vv fuel pos steps halted sv g (.slice A10 ((told ++ [(⟨ek, ew⟩ : Pair)]).length) c11) mv) 288, osl kPair (.slice A10 ((told ++ [(⟨ek, ew⟩ : Pair)]).length) c11) (told ++ [(⟨ek, ew⟩ : Pair)]), blk b8 [.string ek, .string ew] 106] [] := H
   refine s_nil (q_then (c_seq (c_reg (s_1 rfl (s_nil (q_then (c_ret (q_ret1 rfl rfl ?_))))))))
   replace H := H.k2
   have e := emit_fine (told := told) (k := ek) (v := ew) h6 (by omega)
   exact fin ⟨_, by rw [e] <;> rfl, by rw [e] <;> rfl⟩ H

def gl : SP := both (glb Tryz.prog "internal/strconv.uint64pow10" (fun cs => cs = (Lib.pow10Tab.map fun z => Value.int .u64 z).toArray)) (both (glb Tryz.prog "strconv.ErrSyntax" (fun cs => ∃ tp p, cs = #[.iface tp p])) (glb Tryz.prog "strconv.ErrRange" (fun cs => ∃ tp p, cs = #[.iface tp p])))
def numS (s : ByteArray) : Int := match Lib.parseIntB 64 s.data.toList with
 | .ok v => if digS v = s then v else 0
 | _ => 0
def dg : Dig := ⟨digS, numS⟩
abbrev digsP (b : Nat) : SP := digsT 234 b
theorem num_in (s : ByteArray) : In64 (dg.num s) := by
 show In64 (numS s)
 unfold numS
 split
 ·rename_i v h
  have := Lib.parseIntB_bounds h
  split
  ·unfold In64; omega
  ·exact in0
 ·exact in0
theorem formatInt_ok (n : Int) (hn : In64 n) : Cn Tryz.prog 326 [.int .i64 n, .int .i64 10] [] [gl] (fun v Bs => v = .string (dg.dig n) ∧ Bs = []) := by
 intro w F H
 have htab : Lib.TabIs Tryz.prog w "internal/strconv.uint64pow10" .u64 Lib.pow10Tab := H.factR (List.mem_cons_self ..) fun F h => by
  obtain ⟨⟨g, h1, h2, cs, h3, rfl⟩, _⟩ := h
  exact h3
 refine (Go.Proofs.Tryz.strconv_FormatInt_10 n hn.1 hn.2 w htab).mono ?_
 rintro e w' ⟨rfl, k, os, rfl⟩
 exact ⟨_, rfl, [], ⟨rfl, rfl⟩, H.after (upd_grow w k os)⟩
theorem parse_ok (s : ByteArray) (hs : s.size ≤ 64) (v : Int) (h : Lib.parseIntB 64 s.data.toList = .ok v) : Cn Tryz.prog 305 [.string s, .int .i64 10, .int .i64 64] [] [gl] (fun r Bs => r = .tuple #[.int .i64 v, .nilIface] ∧ Bs = []) := by
 intro w F H
 refine (Go.Proofs.Tryz.strconv_ParseInt_10_at64_ok s (by omega) v h w).mono ?_
 rintro e w' ⟨rfl, hw⟩
 refine ⟨_, rfl, [], ⟨rfl, rfl⟩, ?_⟩
 rcases hw with rfl | ⟨t, rfl⟩
 ·exact H
 ·exact H.after (upd_below (Lib.bytesWorld_below ..))
theorem parse_err (s : ByteArray) (hs : s.size ≤ 64) (h : ∀ v, Lib.parseIntB 64 s.data.toList ≠ .ok v) : Cn Tryz.prog 305 [.string s, .int .i64 10, .int .i64 64] [] [gl] (fun r Bs => ∃ x te pe, r = .tuple #[.int .i64 x, .iface te pe] ∧ Bs = []) := by
 intro w F H
 obtain ⟨tp, p, hS⟩ : ∃ tp p, w.var? Tryz.prog "strconv.ErrSyntax" = some #[.iface tp p] := H.factR (List.mem_cons_self ..) fun F h => by
  obtain ⟨_, ⟨g, h1, h2, cs, h3, tp, p, rfl⟩, _⟩ := h
  exact ⟨tp, p, h3⟩
 obtain ⟨tq, q, hR⟩ : ∃ tp p, w.var? Tryz.prog "strconv.ErrRange" = some #[.iface tp p] := H.factR (List.mem_cons_self ..) fun F h => by
  obtain ⟨_, _, ⟨g, h1, h2, cs, h3, tp, p, rfl⟩⟩ := h
  exact ⟨tp, p, h3⟩
 rcases hh : Lib.parseIntB 64 s.data.toList with v | _ | _
 ·exact absurd hh (h v)
 ·refine (Go.Proofs.Tryz.strconv_ParseInt_10_at64_syntax_var s (by omega) (fun e he => by rw [hh] at he; subst he; exact ⟨fun v => nofun, nofun⟩) tp p w hS).mono ?_
  rintro e w' ⟨N, rfl, _, _, hb⟩
  exact ⟨_, rfl, [], ⟨_, _, _, rfl, rfl⟩, H.after (upd_below hb)⟩
 ·refine (Go.Proofs.Tryz.strconv_ParseInt_10_at64_range_var s (by omega) hh tq q w hR).mono ?_
  rintro e w' ⟨N, rfl, _, _, hb⟩
  exact ⟨_, rfl, [], ⟨_, _, _, rfl, rfl⟩, H.after (upd_below hb)⟩

set_option maxHeartbeats 1000000 in
theorem digits_ok (n : Int) (hn : In64 n) :
    Cn Tryz.prog 304 [.int .i64 n] [] [gl] (fun v Bs => v = .string (dg.dig n) ∧ Bs = []) := by
 intro w0 F0 H
 refine enter Tryz.func304 rfl rfl (Nat.le_of_ble_eq_true rfl) (c_seq (c_reg (s_1 rfl (s_nil (q_then (c_seq (c_reg (s_1 rfl (sc (formatInt_ok n (by assumption)) H (lR 0 rfl l0) rfl rfl (e_fn kn326 rfl rfl) ?_)))))))))
 rintro _ _ w ⟨rfl, rfl⟩ H
 exact s_1 rfl (s_nil (q_then (c_ret (q_ret1 rfl rfl (fin ⟨rfl, rfl⟩ H)))))
theorem num_none {s : ByteArray} (h : ∀ v, Lib.parseIntB 64 s.data.toList ≠ .ok v) : dg.num s = 0 := by
 show numS s = 0
 unfold numS
 split
 ·rename_i v hh
  exact absurd hh (h v)
 ·rfl
set_option maxHeartbeats 1000000 in
theorem number_ok (s : ByteArray) (hs : s.size ≤ 64) :
    Cn Tryz.prog 275 [.string s] [] [gl] (fun v Bs => v = .int .i64 (dg.num s) ∧ Bs = []) := by
 intro w0 F0 H
 refine enter Tryz.func275 rfl rfl (Nat.le_of_ble_eq_true rfl) (c_seq (c_reg (s_1 rfl (s_nil (q_then (c_seq ?_))))))
 by_cases hok : ∃ v, Lib.parseIntB 64 s.data.toList = .ok v
 ·refine c_reg (s_1 rfl ?_)
  obtain ⟨x0, hx0⟩ := hok
  have hxb := Lib.parseIntB_bounds hx0
  have hx64 : In64 x0 := by unfold In64; omega
  refine sc (parse_ok s hs x0 hx0) H (lR 0 rfl l0) rfl rfl (e_fn kn305 rfl rfl) ?_
  rintro _ _ w ⟨rfl, rfl⟩ H
  refine s_k 5 rfl (s_nil (q_then (c_seq (c_seq (c_reg (s_1 rfl (s_val rfl rfl (r_ine rfl ui370 rfl (.inl ⟨rfl, rfl⟩)) (s_k 2 rfl (sc (digits_ok x0 (by assumption)) H (lR 0 rfl l0) rfl rfl (e_fn kn304 rfl rfl) ?_)))))))))
  rintro _ _ w ⟨rfl, rfl⟩ H
  refine s_1 rfl (s_val rfl rfl (r_neS rfl rfl rfl) (s_1 rfl (s_nil (q_then ?_))))
  refine c_dec rfl (fun h1 => ?_) (fun h1 => ?_)
  ·refine c_seq (c_reg (s_1 rfl (s_nil (q_then (c_ret (q_thenR (q_ret1 rfl rfl ?_)))))))
   have e : dg.num s = 0 := by show numS s = _; unfold numS; rw [hx0]; exact if_neg h1
   exact fin ⟨by rw [e] <;> rfl, rfl⟩ H
  ·refine c_skip (q_then (c_seq (c_reg (s_k 2 rfl (s_nil (q_then (c_ret (q_ret1 rfl rfl ?_))))))))
   have e : dg.num s = x0 := by show numS s = _; unfold numS; rw [hx0]; exact if_pos (Classical.not_not.1 h1)
   exact fin ⟨by rw [e] <;> rfl, rfl⟩ H
 ·refine c_reg (s_1 rfl (sc (parse_err s hs (fun v h => hok ⟨v, h⟩)) H (lR 0 rfl l0) rfl rfl (e_fn kn305 rfl rfl) ?_))
  rintro _ _ w ⟨x0, te, pe, rfl, rfl⟩ H
  refine s_k 5 rfl (s_nil (q_then (c_seq (c_seq (c_reg (s_1 rfl (s_val rfl rfl (r_ine rfl ui370 rfl (.inr ⟨_, _, rfl, rfl⟩)) (s_k 6 rfl (s_nil (q_then (c_yes rfl (c_seq (c_reg (s_1 rfl (s_nil (q_then (c_ret (q_thenR (q_ret1 rfl rfl ?_)))))))))))))))))))
  have e : dg.num s = 0 := num_none (fun v h => hok ⟨v, h⟩)
  exact fin ⟨by rw [e] <;> rfl, rfl⟩ H

end Go.Proofs.YthgehekecfpikaaGreatDoor.X
