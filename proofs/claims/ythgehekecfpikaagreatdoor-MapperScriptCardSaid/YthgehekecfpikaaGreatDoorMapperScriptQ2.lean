/- MapperScript: texts XProg, XV, XV2, F1, XH, XT, XT2, XT3, XT4, XPair, XMer, XMer2, XProg2, XRec, XV3, V1, V2, V3, XV4, XV5, XG, V4, O1, O2, joined by a program of ours; what nothing names is left out. -/
import Derived.Test.YthgehekecfpikaaGreatDoorMapperScriptQ1
import Derived.WideLaws
import Derived.Sort.Walk0
import Derived.Defers
import Derived.Lib.LaidTab
import Derived.Lib.ItoaNum
import Derived.Lib.AppendIntMem
import Derived.Test.YthgehekecfpikaaGreatDoorShelf
import Derived.Tactics2
import Derived.Laws.Pointers
import Derived.RegionTactic
import Derived.RegionCalls
import Derived.ChangeAlike
set_option linter.unusedVariables false
set_option linter.unusedSimpArgs false
set_option maxHeartbeats 8000000
namespace Go.Proofs.YthgehekecfpikaaGreatDoor.X
open Go
theorem He {s:ByteArray}:s=(⟨#[]⟩:ByteArray)↔s.size=0:=by
 constructor
 ·rintro rfl;rfl
 ·intro h
  have:s.data=#[]:=Array.eq_empty_of_size_eq_zero h
  cases s
  simp at this
  subst this
  rfl
def Bf (p:Bm) (n:Int):Prop:=0≤p.op∧p.op≤23∧(p.op=1→p.s.size=0)∧(p.op=2→p.a=0∧p.s.size≤64)∧(p.op=19∨p.op=20→0≤p.a∧p.a≤n∧p.s.size=0)∧
 (p.op=21∨p.op=22→0≤p.a∧p.a≤7∧p.s.size=0)∧(¬ (p.op=1∨p.op=2∨p.op=19∨p.op=20∨p.op=21∨p.op=22)→p.a=0∧p.s.size=0)
instance (p:Bm) (n:Int):Decidable (Bf p n):=by unfold Bf;infer_instance
def Ec (n:Int):Bm→Bool:=fun p=>!decide (Bf p n)
def C3 (xs:List Bm):Int:=if 0≤FA (Ec xs.length) (xs.take 40) then FA (Ec xs.length) (xs.take 40) else if (40:Int)<xs.length then 40 else -1
theorem NG {xs:List Bm} {k:Nat} {x:Bm} (hk:k<40) (hn:∀ y∈xs.take k,Ec xs.length y=false) (hx:xs[k]?=some x) (hb:¬ Bf x xs.length):C3 xs=(k:Int):=by
 have:FA (Ec xs.length) (xs.take 40)=(k:Int):=Ol (k:=k) (by rw [List.take_take,Nat.min_eq_left (by omega)];exact hn) (by rw [List.getElem?_take,if_pos hk];exact hx) (by simp [Ec,hb])
 unfold C3
 rw [this,if_pos (by omega)]
theorem HB {xs:List Bm} {k:Nat} (hk:k=min xs.length 40) (hn:∀ y∈xs.take k,Ec xs.length y=false):C3 xs=if (40:Int)<xs.length then 40 else -1:=by
 have:FA (Ec xs.length) (xs.take 40)= -1:=LA (by
  intro y hy
  refine hn y ?_
  rw [hk]
  rcases Nat.le_total xs.length 40 with h|h
  ·rw [Nat.min_eq_left h,List.take_of_length_le (Nat.le_refl _)]
   rwa [List.take_of_length_le h] at hy
  ·rwa [Nat.min_eq_right h])
 unfold C3
 rw [this,if_neg (by omega)]
theorem NI {xs:List Bm} {k:Nat} {x:Bm} (hn:∀ y∈xs.take k,Ec xs.length y=false) (hx:xs[k]?=some x) (hb:Bf x xs.length):∀ y∈xs.take (k+1),Ec xs.length y=false:=
 R3 hn hx (by simp [Ec,hb])
def EI (xs:List Bm):Bool:=decide (¬ (xs.length≤60∧∀ p∈xs,p.s.size≤100))
theorem Ux {xs:List Bm} {k:Nat} {x:Bm} (hx:xs[k]?=some x) (h:100<x.s.size):true=EI xs:=by
 have h3:¬ (xs.length≤60∧∀ p∈xs,p.s.size≤100):=fun h2=>absurd (h2.2 x (List.mem_of_getElem? hx)) (by omega)
 exact (decide_eq_true h3).symm
theorem OX {xs:List Bm} {k:Nat} (hn:∀ y∈xs.take k,y.s.size≤100) (h:xs.length≤k∨60<xs.length):decide ((60:Int)<(xs.length:Int))=EI xs:=by
 refine decide_eq_decide.2 ⟨fun h1 h2=>by omega,fun h1=>?_⟩
 apply Classical.byContradiction
 intro h2
 refine h1 ⟨by omega,?_⟩
 rwa [List.take_of_length_le (by omega)] at hn
theorem ZX {xs:List Bm} {k:Nat} {x:Bm} (hn:∀ y∈xs.take k,y.s.size≤100) (hx:xs[k]?=some x) (h:x.s.size≤100):∀ y∈xs.take (k+1),y.s.size≤100:=by
 intro y hy
 rw [List.take_add_one,hx] at hy
 simp at hy
 rcases hy with hy|rfl
 ·exact hn y hy
 ·exact h
structure Az where
 t:Bool
 n:Int
 b:ByteArray
def HE (v:Az):List Value:=[.bool v.t,.int .i64 v.n,.string v.b]
def A5:Kd Az:=flat HE 3 (by omega) (fun _=>rfl) (fun _ c h=>by
 simp only [HE,List.mem_cons,List.not_mem_nil,or_false] at h
 rcases h with rfl|rfl|rfl<;>rfl)
def Ch (n:Int):Az:=⟨false,n,⟨#[]⟩⟩
def C2 (s:ByteArray):Az:=⟨true,0,s⟩
def Bt:Az:=⟨false,0,⟨#[]⟩⟩
def Dr (v:Az):Prop:=AF v.n∧v.b.size≤64
def AW (op:Int):ByteArray:=
 if op=3∨op=4∨op=22 then ⟨#[101]⟩ else if op=5∨op=12 then ⟨#[101,101]⟩ else if op=8∨op=9∨op=10∨op=11 then ⟨#[110,110]⟩
 else if op=13∨op=23 then ⟨#[98,98]⟩ else if op=14∨op=18 then ⟨#[98]⟩ else if op=15 then ⟨#[98,110]⟩ else if op=16 then ⟨#[98,110,110]⟩ else if op=17∨op=20 then ⟨#[110]⟩ else ⟨#[]⟩
def DL (c:UInt8) (v:Az):Bool:=!((c==110 && v.t)||(c==98 && !v.t))
def DN:List UInt8→List Az→Bool
 |c::cs,v::vs=>DL c v && DN cs vs
 |_,_=>true
def AC (op:Int) (stk:List Az):Int×List Az×List Az:=
 if stk.length<(AW op).size then (1,stk,[])
 else if DN (AW op).data.toList (stk.drop (stk.length - (AW op).size)) then (0,stk.take (stk.length - (AW op).size),stk.drop (stk.length - (AW op).size)) else (2,stk,[])
def DI (v:Az):Bool:=v.t && decide (64<v.b.size)
def Bz (stk vs:List Az):Int×List Az:=
 if vs.any DI then (4,stk) else if 16<stk.length+vs.length then (1,stk) else (0,stk++vs)
def C_ (told:List An) (k v:ByteArray):Int×List An:=
 if 16<k.size then (4,told) else if 40≤told.length then (5,told) else (0,told++[⟨k,v⟩])
def BT (op a b:Int):Az:=if op=8 then Ch (IntKind.i64.wrap (a+b)) else if op=9 then Ch (IntKind.i64.wrap (a - b)) else if op=10 then Ch (IntKind.i64.wrap (a*b)) else Ch (if a<b then 1 else 0)
def J_ (b:Bool):Az:=Ch (if b then 1 else 0)
def Dj (a b:Az):Bool:=if a.t then b.t && decide (a.b=b.b) else !b.t && decide (a.n=b.n)
def DB (s:ByteArray) (i:Int):Int:=if i<0∨(s.size:Int)≤i then -1 else ((s[i.toNat]?.getD 0).toNat:Int)
def Ee (s:ByteArray) (f t:Int):ByteArray:=
 if min (max t 0) (s.size:Int)≤min (max f 0) (s.size:Int) then ⟨#[]⟩ else s.extract (min (max f 0) (s.size:Int)).toNat (min (max t 0) (s.size:Int)).toNat
structure VM where
 pos:Int
 halted:Bool
 stk:List Az
 g:Nat→Az
 told:List An
 vals:List ByteArray
structure Bc where
 dig:Int→ByteArray
 num:ByteArray→Int
def Ga (g:Nat→Az) (k:Nat) (v:Az):Nat→Az:=fun j=>if j=k then v else g j
def CI (m:VM) (vs:List Az):VM×Int:=({m with stk:=(Bz m.stk vs).2},(Bz m.stk vs).1)
def F7 (m:VM):VM×Int:=
 match m.vals with
 |[]=>CI m [Ch 0]
 |v::vs=>CI {m with vals:=vs} [C2 v,Ch 1]
def BS (D:Bc) (key:ByteArray) (m:VM) (i:Bm) (v:List Az):VM×Int:=
 let v0:=v.getD 0 Bt;let v1:=v.getD 1 Bt;let v2:=v.getD 2 Bt
 if i.op=0 then ({m with halted:=true},0)
 else if i.op=1 then CI m [Ch i.a]
 else if i.op=2 then CI m [C2 i.s]
 else if i.op=3 then CI m [v0,v0]
 else if i.op=5 then CI m [v1,v0]
 else if i.op=6 then CI m [C2 key]
 else if i.op=7 then F7 m
 else if i.op=8∨i.op=9∨i.op=10∨i.op=11 then CI m [BT i.op v0.n v1.n]
 else if i.op=12 then CI m [J_ (Dj v0 v1)]
 else if i.op=13 then CI m [C2 (v0.b++v1.b)]
 else if i.op=14 then CI m [Ch v0.b.size]
 else if i.op=15 then CI m [Ch (DB v0.b v1.n)]
 else if i.op=16 then CI m [C2 (Ee v0.b v1.n v2.n)]
 else if i.op=17 then CI m [C2 (D.dig v0.n)]
 else if i.op=18 then CI m [Ch (D.num v0.b)]
 else if i.op=19 then ({m with pos:=i.a},0)
 else if i.op=20 then (if v0.n≠0 then {m with pos:=i.a} else m,0)
 else if i.op=21 then CI m [m.g i.a.toNat]
 else if i.op=22 then ({m with g:=Ga m.g i.a.toNat v0},0)
 else if i.op=23 then ({m with told:=(C_ m.told v0.b v1.b).2},(C_ m.told v0.b v1.b).1)
 else (m,0)
def BC (D:Bc) (key:ByteArray) (m:VM) (i:Bm):VM×Int:=
 if (AC i.op m.stk).1≠0 then (m,(AC i.op m.stk).1) else BS D key {m with stk:=(AC i.op m.stk).2.1} i (AC i.op m.stk).2.2
def Cd (D:Bc) (p:List Bm) (key:ByteArray):Nat→VM→VM×Int
 |0,m=>if m.pos<p.length∧m.halted=false then (m,3) else (m,0)
 |n+1,m=>
  if m.pos<p.length∧m.halted=false then
   match p[m.pos.toNat]? with
   |some i=>if (BC D key {m with pos:=m.pos+1} i).2≠0 then BC D key {m with pos:=m.pos+1} i else Cd D p key n (BC D key {m with pos:=m.pos+1} i).1
   |none=>(m,0)
  else (m,0)
def C1 (vals:List ByteArray):VM:=⟨0,false,[],fun _=>Bt,[],vals⟩
def A_ (D:Bc) (p:List Bm) (key:ByteArray) (vals:List ByteArray) (fuel:Int):List An×Int:=
 if ¬ C3 p<0∨fuel<0 then ([],2)
 else if (Cd D p key (min fuel 2000).toNat (C1 vals)).2≠0 then ([],(Cd D p key (min fuel 2000).toNat (C1 vals)).2) else ((Cd D p key (min fuel 2000).toNat (C1 vals)).1.told,0)
/-! ### Facts -/
theorem GY (x:Int):AF (IntKind.i64.wrap x):=by
 unfold AF
 simp only [IntKind.wrap,IntKind.bits,IntKind.signed]
 simp
 omega
theorem Xm (op a b:Int):Dr (BT op a b):=by
 unfold BT
 split
 ·exact ⟨GY _,(by decide:(⟨#[]⟩:ByteArray).size≤64)⟩
 ·split
  ·exact ⟨GY _,(by decide:(⟨#[]⟩:ByteArray).size≤64)⟩
  ·split
   ·exact ⟨GY _,(by decide:(⟨#[]⟩:ByteArray).size≤64)⟩
   ·refine ⟨?_,(by decide:(⟨#[]⟩:ByteArray).size≤64)⟩
    show AF (if a<b then 1 else 0)
    split<;>(unfold AF;omega)
def Di (pv:Value) (key:ByteArray) (vv:Value) (fuel pos steps:Int) (halted:Bool) (sv:Value) (g:Nat→Az) (tv mv:Value):List Value:=
 [pv,.string key,vv,.int .i64 fuel,.int .i64 pos,.int .i64 steps,.bool halted,sv,
  .bool (g 0).t,.int .i64 (g 0).n,.string (g 0).b,.bool (g 1).t,.int .i64 (g 1).n,.string (g 1).b,.bool (g 2).t,.int .i64 (g 2).n,.string (g 2).b,.bool (g 3).t,.int .i64 (g 3).n,.string (g 3).b,
  .bool (g 4).t,.int .i64 (g 4).n,.string (g 4).b,.bool (g 5).t,.int .i64 (g 5).n,.string (g 5).b,.bool (g 6).t,.int .i64 (g 6).n,.string (g 6).b,.bool (g 7).t,.int .i64 (g 7).n,.string (g 7).b,tv,mv]
section
variable {P:Program} {fn:Func} {R:Ending→World→Prop} {n:Nat} {l:BA} {w w':World} {v:Value} {t:TypeId}
theorem YU {s:Tmp} {sz:Nat} {p:Addr} {cs:List Value} {a:Act} (hr:fn.results=#[.cell s t]) (ha:Cq n l a) (hs:lk l s=some (.pointer (some p))) (ht:B9 P t=some (true,sz)) (hz:cs.length=sz) (hc:∀ j v,cs[j]?=some v→w.cell? (p.add j)=some v):(results fn a.tmps).run P w=.ok (.agg cs.toArray) w:=by
 have hl:=run_loadCells_list (P:=P) w p cs hc
 have hg:=(ha.get s _ hs).1
 simp [results,hr]
 rw [←Array.getD_eq_getD_getElem?,hg]
 simp [asAddr,loadVar,Kp ht,MV ht,←hz,hl]
theorem EW {s:Tmp} {sz:Nat} {p:Addr} {cs:List Value} (hr:fn.results=#[.cell s t]) (hs:lk l s=some (.pointer (some p))) (ht:B9 P t=some (true,sz)) (hz:cs.length=sz) (hc:∀ j v,cs[j]?=some v→w.cell? (p.add j)=some v) (h:R (.returned (.agg cs.toArray)) w):WQ (bodyPost P fn R) .ret n l w:=
 fun a ha=>bodyPost_ret (YU hr ha hs ht hz hc) ha.defers h
end
section
variable {P:Program} {n:Nat} {l:BA} {w w0:World} {F0:AV} {o:Oper} {x y z:Operand} {t:TypeId} {As Rs:List SP}
theorem MK {tt:TypeId} {s:ByteArray} {k k':IntKind} {i j:Int} {r:ByteArray} (ho:o.op=.slice tt x (some y) (some z) none) (ht:P.underlying tt=some .string) (hx:ev l x=some (.string s)) (hy:ev l y=some (.int k i)) (hz:ev l z=some (.int k' j))
  (h0:0≤i) (h1:i≤j) (h2:j≤(s.size:Int)) (hr:s.extract i.toNat j.toNat=r):Bw P n l w o (.string r) w:=by
 intro a ha
 have hb:(Instr.sliceBounds false s.size s.size (some (.int k i)) (some (.int k' j)) none).run P w=.ok (i.toNat,j.toNat,s.size) w:=by
  have g0:0≤j:=by omega
  simp [Instr.sliceBounds,Instr.sliceBound,asIntOf,h0,h2,g0]
  intro hh
  omega
 simp [execOp,ho,ha.eval hx,ha.eval hy,ha.eval hz,Instr.sliceAt,Instr.slice,hb,run_underlying ht,←hr]
theorem IO {tt e:TypeId} {size len:Nat} {b off:Nat} {k:IntKind} {i:Int} {p:Nat} (ho:o.op=.indexAddr tt x y) (hu:P.underlying tt=some (.array len e)) (hi:(P.info? e).map (·.size)=some size)
  (hx:ev l x=some (.pointer (some ⟨b,off,none⟩))) (hy:ev l y=some (.int k i)) (h0:0≤i) (h1:i<(len:Int)) (hp:off+i.toNat*size=p):Bw P n l w o (.pointer (some ⟨b,p,none⟩)) w:=by
 obtain ⟨inf,h2,h3⟩:=Option.map_eq_some_iff.1 hi
 exact YB ho hu h2 h3 hx hy h0 h1 hp
theorem Q4 {t':TypeId} {u:Value} {b:Bool} (ho:o.op=.binOp .neq t x (.const .nilIface) t') (ht:P.underlying t=some (.interface (P.methodsAt t))) (hx:ev l x=some u) (hu:(u=.nilIface∧b=false)∨(∃ te pe,u=.iface te pe∧b=true)):Bw P n l w o (.bool b) w:=by
 intro a ha
 have hc:a.eval (.const .nilIface)=.nilIface:=rfl
 rcases hu with ⟨rfl,rfl⟩|⟨te,pe,rfl,rfl⟩
 ·have h:=run_equal_nil_nil (P:=P) w t ht
  simp [execOp,ho,ha.eval hx,hc,eqGuard,binOp,h]
 ·have h:=run_equal_held_nil (P:=P) w t te pe ht
  simp [execOp,ho,ha.eval hx,hc,eqGuard,binOp,h]
theorem Q7 {src dst e:TypeId} {p:Addr} {v:Value} (ho:o.op=.convert src dst x) (hs:P.underlying src=some (.pointer e)) (hd:P.underlying dst=some .unsafePointer) (hz:(P.info? e).map (fun i=>decide (i.size=0))=some false) (hx:ev l x=some (.pointer (some p))) (hc:w.cell? p=some v):Bw P n l w o (.pointer (some p)) w:=by
 intro a ha
 simp [execOp,ho,ha.eval hx,run_convert_to_unsafe hs hd hz hc]
theorem Xx {α:Type} {d:Kd α} {F:AV} {A:Option Addr} {m c:Nat} {xs:List α} (h:(Ae d (.slice A m c) xs).P w F) {i:Nat} (hi:i≤m):(Ae d (.slice A i c) (xs.take i)).P w F:=by
 obtain ⟨A',m',c',e,hl,cs,F1,F2,s1,s2,dj,⟨r1,r2,r3,r4⟩,hrep⟩:=h
 simp only [List.cons.injEq,Value.slice.injEq,and_true] at e
 obtain ⟨rfl,rfl,rfl⟩:=e
 refine ⟨A,i,c,rfl,by rw [List.length_take];omega,cs.take (i*d.sz),F1,F2,s1,s2,dj,⟨by omega,r2,?_,?_⟩,hrep.take i⟩
 ·rw [List.length_take,r3]
  exact Nat.min_eq_left (Nat.mul_le_mul_right _ hi)
 ·rcases r4 with h0|⟨b,C,t,e,hb,hh,hs,ht⟩
  ·exact .inl h0
  ·refine .inr ⟨b,C,t,e,hb,hh,hs,?_⟩
   rw [←ht,List.take_take,Nat.min_eq_left (Nat.mul_le_mul_right _ hi)]
theorem Hd.preO {α:Type} {d:Kd α} {A:Option Addr} {m c:Nat} {xs:List α} (H:Hd w0 F0 w (Ae d (.slice A m c) xs::As) Rs) (i:Nat) (hi:i≤m):Hd w0 F0 w (Ae d (.slice A i c) (xs.take i)::As) Rs:=H.turn fun _ h=>Xx h hi
end
section
variable {w w0:World} {F0:AV} {As Rs:List SP} {α:Type} {enc:α→List Value} {sz:Nat} {hp:0<sz} {hl:∀ x,(enc x).length=sz} {h1:∀ x,∀ c∈enc x,c.oneCell'=true} {xs:List α} {A:Option Addr} {m c:Nat}
theorem Hd.thX (H:Hd w0 F0 w As Rs) (hS:∀ F,(∀ A∈As,A.P w F)→(∀ R∈Rs,R.P w F)→(Af (flat enc sz hp hl h1) (.slice A m c) xs).P w F) {i:Nat} {x:α} (hx:xs[i]?=some x):FW A:=H.read fun F hA hR=>LJ (hS F hA hR) hx
theorem Hd.elX (H:Hd w0 F0 w As Rs) (hS:∀ F,(∀ A∈As,A.P w F)→(∀ R∈Rs,R.P w F)→(Af (flat enc sz hp hl h1) (.slice A m c) xs).P w F) {i:Nat} {x:α} (hx:xs[i]?=some x) {q p:Nat} {u:Value} (hu:(enc x)[q]?=some u) (hpj:AA A+i*sz+q=p):w.cell? ⟨Er A,p,none⟩=some u:=
 H.read fun F hA hR=>LG (hS F hA hR) hx hu hpj
theorem Hd.elsX (H:Hd w0 F0 w As Rs) (hS:∀ F,(∀ A∈As,A.P w F)→(∀ R∈Rs,R.P w F)→(Af (flat enc sz hp hl h1) (.slice A m c) xs).P w F) {i:Nat} {x:α} (hx:xs[i]?=some x) {p:Nat} (hpj:AA A+i*sz=p):∀ q v,(enc x)[q]?=some v→w.cell? ((⟨Er A,p,none⟩:Addr).add q)=some v:=by
 intro q v hq
 rw [Eo]
 exact H.elX hS hx hq (by rw [hpj])
end
section
variable {pv:Value} {key:ByteArray} {vv:Value} {fuel pos steps:Int} {halted:Bool} {sv:Value} {g:Nat→Az} {tv mv:Value}
theorem PW {k:Nat} (h:k<8):k=0∨k=1∨k=2∨k=3∨k=4∨k=5∨k=6∨k=7:=by omega
theorem Y1 {k:Nat} (h:k<8):(((Di pv key vv fuel pos steps halted sv g tv mv).drop (8+k*3)).take 3)=HE (g k):=by
 rcases PW h with rfl|rfl|rfl|rfl|rfl|rfl|rfl|rfl<;>rfl
theorem Y2 {k:Nat} (h:k<8) (v:Az):EL (Di pv key vv fuel pos steps halted sv g tv mv) (8+k*3) (HE v)=Di pv key vv fuel pos steps halted sv (Ga g k v) tv mv:=by
 rcases PW h with rfl|rfl|rfl|rfl|rfl|rfl|rfl|rfl<;>rfl
end
theorem ZZ  :
    Cn Tryz.prog 210 [] [] [] (fun v Bs=>∃ b,v=.pointer (some ⟨b,0,none⟩)∧Bs=[blk b [.int .i64 0,.int .i64 0,.int .i64 0,.int .i64 0,.int .i64 0,.int .i64 0,.int .i64 0,.int .i64 0] 322]):=by
 intro w0 F0 H
 exact enter Tryz.func210 U U (Nat.le_of_ble_eq_true U) (Z (Ac (Ab U (Aa (Y (Z (Ac (V U U (CV (parts:=[]) (vs:=[]) (cs:=[.int .i64 0,.int .i64 0,.int .i64 0,.int .i64 0,.int .i64 0,.int .i64 0,.int .i64 0,.int .i64 0]) U SH U U) (B4 U U U U H (fun b1 w H=>(Ab U (Aa (Y (Ai (Am U U (Ag ⟨_,rfl,rfl⟩ H))))))))))))))))
theorem ZY (t:Nat):
    Cn Tryz.prog 249 [.pointer (some ⟨t,0,none⟩),.int .i64 0] [] [] (fun v Bs=>v=.pointer (some ⟨t,0,none⟩)∧Bs=[]):=by
 intro w0 F0 H
 exact enter Tryz.func249 U U (Nat.le_of_ble_eq_true U) (Z (Ac (Ab U (Aa (Y (Z (Z (Ac (Ab U (V U U (Dh U aA U U) (Ad 2 U (V U U (AQ U U U) (Ad 3 U (V U U (BN U U U) (Ab U (Aa (Y (B0 U (Av (Y (Z (Ac (Ad 2 U (V U U (AI U U) (V U U (Ah U Uj U) (V U U (IO (p:=0) U aB UK U U (by omega) (by omega) U) (Ab U (Aa (Y (Ai (Am U U (Ag ⟨rfl,rfl⟩ H))))))))))))))))))))))))))))))))
theorem Sy (nb:Nat) (n o:Int) (hn:0≤n∧n≤1099511627776) (ho:0≤o∧o≤1099511627776):
    Cn Tryz.prog 250 [.int .i64 o,.pointer (some ⟨nb,0,none⟩)] [] [blk nb [.int .i64 n] 3] (fun v Bs=>v=.int .i64 (min (o+n) 1099511627776)∧Bs=[]):=by
 intro w0 F0 H
 exact enter Tryz.func250 U U (Nat.le_of_ble_eq_true U) (Z (Ac (Ab U (Aa (Y (Z (Ac (Ab U (V U U (Aj U Aw U (H.cellRI 0 U U)) (V U U (AP (z:=o+n) U U U (Ay (by omega) (by omega))) (V U U (Fr (z:=min (o+n) 1099511627776) U U U U) (Ab U (Aa (Y (Ai (Am U U (Ag ⟨rfl,rfl⟩ H)))))))))))))))))
theorem Wm (t:Nat) (c0 c1 c2 c3 c4 c5 c6 c7:Int):
    Cn Tryz.prog 281 [.pointer (some ⟨t,0,none⟩)] [] [blk t [.int .i64 c0,.int .i64 c1,.int .i64 c2,.int .i64 c3,.int .i64 c4,.int .i64 c5,.int .i64 c6,.int .i64 c7] 322] (fun v Bs=>v=.int .i64 c0∧Bs=[]):=by
 intro w0 F0 H
 exact enter Tryz.func281 U U (Nat.le_of_ble_eq_true U) (Z (Ac (Ab U (Aa (Y (Z (Ac (Ab U (V U U (AI U U) (V U U (Ah U OF U) (V U U (MJ T4 U U (H.cellRI 0 U U)) (Ab U (Aa (Y (Ai (Am U U (Ag ⟨rfl,rfl⟩ H)))))))))))))))))
theorem SY (t:Nat) (c0 c1 c2 c3 c4 c5 c6 c7:Int) (n:Int):
    Cn Tryz.prog 282 [.pointer (some ⟨t,0,none⟩),.int .i64 c0,.int .i64 n] [blk t [.int .i64 c0,.int .i64 c1,.int .i64 c2,.int .i64 c3,.int .i64 c4,.int .i64 c5,.int .i64 c6,.int .i64 c7] 322] [] (fun v Bs=>v=.bool true∧Bs=[blk t [.int .i64 n,.int .i64 c1,.int .i64 c2,.int .i64 c3,.int .i64 c4,.int .i64 c5,.int .i64 c6,.int .i64 c7] 322]):=by
 intro w0 F0 H
 exact enter Tryz.func282 U U (Nat.le_of_ble_eq_true U) (Z (Ac (Ab U (Aa (Y (Z (Ac (Ab U (V U U (AI U U) (V U U (Ah U OF U) (Ad 2 U (RJ T5 U U U U H U (fun w H=>(Ab U (Aa (Y (Ai (Am U U (Ag ⟨rfl,rfl⟩ H)))))))))))))))))))
theorem S_ (t:Nat) (c0 c1 c2 c3 c4 c5 c6 c7:Int) (nb:Nat) (n:Int) (hn:0≤n∧n≤1099511627776) (ho:0≤c0∧c0≤1099511627776):
    Cn Tryz.prog 248 [.pointer (some ⟨t,0,none⟩),.func (.func 250) #[] #[.pointer (some ⟨nb,0,none⟩)]] [blk t [.int .i64 c0,.int .i64 c1,.int .i64 c2,.int .i64 c3,.int .i64 c4,.int .i64 c5,.int .i64 c6,.int .i64 c7] 322] [blk nb [.int .i64 n] 3] (fun v Bs=>v=.int .i64 (min (c0+n) 1099511627776)∧Bs=[blk t [.int .i64 (min (c0+n) 1099511627776),.int .i64 c1,.int .i64 c2,.int .i64 c3,.int .i64 c4,.int .i64 c5,.int .i64 c6,.int .i64 c7] 322]):=by
 intro w0 F0 H
 refine enter Tryz.func248 U U (Nat.le_of_ble_eq_true U) (Z (Ac (Ab U (Aa (Y (Z (Z (Ac (Ab U (V U U (Dh U aC U U) (Aa (Y (B0 U (Av (Y (AK (Br (σ:=Unit) (fun u=>[(0,.pointer (some ⟨t,0,none⟩)),(1,.func (.func 250) #[] #[.pointer (some ⟨nb,0,none⟩)])]) (fun u w=>(Hd w0 F0 w [blk t [.int .i64 c0,.int .i64 c1,.int .i64 c2,.int .i64 c3,.int .i64 c4,.int .i64 c5,.int .i64 c6,.int .i64 c7] 322] [blk nb [.int .i64 n] 3])) (fun u=>0) () ⟨rfl,rfl,trivial⟩ H ?_)))))))))))))))))
 rintro u w H
 refine AK (Z (Ac (Ab U (sc (Wm t c0 c1 c2 c3 c4 c5 c6 c7) H (lA 0 U (fun _ h=>h) l0) U U (At VW U U) ?_))))
 rintro _ _ w ⟨rfl,rfl⟩ H
 refine Ab U (Aa (Y (Z (Ac (Ad 2 U (sc (Sy nb n c0 hn ho) H (lR 0 U l0) U U (Gk (vs:=[.int .i64 c0]) (fs:=#[]) (cs:=#[.pointer (some ⟨nb,0,none⟩)]) VJ U U U) ?_))))))
 rintro _ _ w ⟨rfl,rfl⟩ H
 refine Ab U (Aa (Y (Z (Ac (Ad 2 U (V U U (AT U U U) (Ab U ?_)))))))
 refine AD (d:=17) U (fun h1=>?_) (fun h1=>?_)
 ·refine Ad 5 U (Aa (Y (BM U (Z (Ac (Ad 2 U (Aa (Y (Ai (Ax (Ao (Ax (Am U U ?_)))))))))))))
  replace H:Hd w0 F0 w [blk t [.int .i64 (min (c0+n) 1099511627776),.int .i64 c1,.int .i64 c2,.int .i64 c3,.int .i64 c4,.int .i64 c5,.int .i64 c6,.int .i64 c7] 322] [blk nb [.int .i64 n] 3]:=by rw [h1];exact H
  exact Ag ⟨rfl,rfl⟩ H
 refine Ad 3 U (sc (SY t c0 c1 c2 c3 c4 c5 c6 c7 (min (c0+n) 1099511627776)) H l0 U U (At VX U U) ?_)
 rintro _ _ w ⟨rfl,rfl⟩ H
 exact Ab U (Aa (Y (BM U (Z (Ac (Ad 2 U (Aa (Y (Ai (Ax (Ao (Ax (Am U U (Ag ⟨rfl,rfl⟩ H))))))))))))))
theorem R5 (t:Nat) (c0 c1 c2 c3 c4 c5 c6 c7:Int) (n:Int) (hn:0≤n∧n≤1099511627776) (ho:0≤c0∧c0≤1099511627776):
    Cn Tryz.prog 214 [.pointer (some ⟨t,0,none⟩),.int .i64 0,.int .i64 n] [blk t [.int .i64 c0,.int .i64 c1,.int .i64 c2,.int .i64 c3,.int .i64 c4,.int .i64 c5,.int .i64 c6,.int .i64 c7] 322] [] (fun v Bs=>v=.int .i64 (min (c0+n) 1099511627776)∧Bs=[blk t [.int .i64 (min (c0+n) 1099511627776),.int .i64 c1,.int .i64 c2,.int .i64 c3,.int .i64 c4,.int .i64 c5,.int .i64 c6,.int .i64 c7] 322]):=by
 intro w0 F0 H
 refine enter Tryz.func214 U U (Nat.le_of_ble_eq_true U) (Z (Ac (B4 U U U U H (fun b1 w H=>(Ab U (Aa (Y (Z (Z (Ac (V U U (Aj U Aw U (H.cellI 0 U U)) (V U U (AQ U U U) (Ab U ?_)))))))))))))
 refine AD (d:=9) U (fun h2=>?_) (fun h2=>?_)
 ·exfalso;omega
 refine V U U (Aj U Aw U (H.cellI 0 U U)) (V U U (BP U U U) (Ab U (Aa (Y ?_))))
 refine Aq U (fun h3=>?_) (fun h3=>?_)
 ·exfalso;omega
 refine Av (Y (Z (Ac (Ad 2 U (sc (ZY t) H l0 U U (At VI U U) ?_)))))
 rintro _ _ w ⟨rfl,rfl⟩ H
 refine V U U (Hh (fs:=#[]) (cs:=#[.pointer (some ⟨b1,0,none⟩)]) U U U) ?_
 replace H:=H.p1
 refine sc (S_ t c0 c1 c2 c3 c4 c5 c6 c7 b1 n hn ho) H (lA 0 U (fun _ h=>h) l0) U U (At VH U U) ?_
 rintro _ _ w ⟨rfl,rfl⟩ H
 refine Ab U (Aa (Y (Ai (Am U U ?_))))
 replace H:=H.k1
 exact Ag ⟨rfl,rfl⟩ H
def AU {α:Type} (d:Kd α):Kd (Value×List α) where
 sz:=1
 O w F x cs:=cs=[x.1]∧(BK d).O w F x.2 [x.1]
 R w F x cs:=cs=[x.1]∧(BK d).R w F x.2 [x.1]
 O_loc h hk:=⟨h.1,(BK d).O_loc h.2 hk⟩
 O_mono h hk:=⟨h.1,(BK d).O_mono h.2 hk⟩
 R_loc h hk:=⟨h.1,(BK d).R_loc h.2 hk⟩
 R_mono h hk:=⟨h.1,(BK d).R_mono h.2 hk⟩
 O_R h:=⟨h.1,(BK d).O_R h.2⟩
 len h:=by rw [h.1];rfl
 one h:=fun c hc=>(BK d).one h.2 c (h.1▸hc)
 pos:=Nat.one_pos
section
variable {w w0:World} {F F0:AV} {As Rs:List SP} {α:Type} {d:Kd α} {A:Option Addr} {m c:Nat} {us:List (Value×List α)}
theorem L2 (h:(Af (AU d) (.slice A m c) us).P w F) {i:Nat} {x:Value×List α} (hx:us[i]?=some x):
  FW A∧w.cell? ⟨Er A,AA A+i*1,none⟩=some x.1∧(Af d x.1 x.2).P w F:=by
 obtain ⟨b,off,cs,e,hl,hc,h1,h2⟩:=Kn h hx
 subst h1 e
 exact ⟨rfl,hc 0 x.1 rfl,h2⟩
theorem GP (h:(Af (AU d) (.slice A m c) us).P w F) {i:Nat} {u:Value} {x:List α} (hx:us[i]?=some (u,x)):(Af d u x).P w F:=(L2 h hx).2.2
theorem Hd.thRd (H:Hd w0 F0 w As Rs) (j:Nat) (hj:Rs[j]?=some (Af (AU d) (.slice A m c) us)) {i:Nat} {x:Value×List α} (hx:us[i]?=some x):FW A:=H.factR (List.mem_of_getElem? hj) fun _ h=>(L2 h hx).1
theorem Hd.elRd (H:Hd w0 F0 w As Rs) (j:Nat) (hj:Rs[j]?=some (Af (AU d) (.slice A m c) us)) {i:Nat} {u:Value} {x:List α} (hx:us[i]?=some (u,x)) {p:Nat} (hp:AA A+i*1=p):w.cell? ⟨Er A,p,none⟩=some u:=by
 subst hp
 exact H.factR (List.mem_of_getElem? hj) fun _ h=>(L2 h hx).2.1
theorem Hd.nestR (H:Hd w0 F0 w As Rs) (j:Nat) (hj:Rs[j]?=some (Af (AU d) (.slice A m c) us)) {i:Nat} {u:Value} {x:List α} (hx:us[i]?=some (u,x)):∃ A' c',u=.slice A' x.length c'∧x.length≤c'∧c'≤9223372036854775807:=by
 refine H.factR (List.mem_of_getElem? hj) fun _ h=>?_
 obtain ⟨A',c',e,h1,h2,_⟩:=FM (GP h hx)
 exact ⟨A',c',e,h1,h2⟩
theorem Hd.pickR (is:List Nat) (H:Hd w0 F0 w As Rs):Hd w0 F0 w As (is.filterMap fun i=>Rs[i]?):=H.subR fun R hR=>by
 obtain ⟨i,_,hi⟩:=List.mem_filterMap.1 hR
 exact List.mem_of_getElem? hi
theorem Hd.dropR {R:SP} (H:Hd w0 F0 w As (R::Rs)):Hd w0 F0 w As Rs:=H.subR fun _ hR=>List.mem_cons_of_mem _ hR
theorem Hd.dupR {R:SP} (H:Hd w0 F0 w As Rs) (j:Nat) (hj:Rs[j]?=some R):Hd w0 F0 w As (R::Rs):=H.addR fun _ h=>h _ (List.mem_of_getElem? hj)
theorem Rg:∀ {xs:List (List α)} {cs:List Value},AX (BK d) w F xs cs→∃ us:List (Value×List α),us.map (·.2)=xs∧AX (AU d) w F us cs
 |[],_,h=>⟨[],rfl,h⟩
 |x::xs,_,⟨c,cs',e,h1,h2⟩=>by
  obtain ⟨us,rfl,hu⟩:=Rg h2
  obtain ⟨A',n',c',rfl,h3⟩:=h1
  exact ⟨(.slice A' n' c',x)::us,rfl,_,_,e,⟨rfl,_,_,_,rfl,h3⟩,hu⟩
theorem Hd.heads {v:Value} {xs:List (List α)} (H:Hd w0 F0 w As Rs) (j:Nat) (hj:Rs[j]?=some (Af (BK d) v xs)):∃ us:List (Value×List α),us.map (·.2)=xs∧Hd w0 F0 w As (Af (AU d) v us::Rs):=by
 obtain ⟨F,G,s,r,dj,f,g,u⟩:=H
 obtain ⟨A',n',c',e,h1,h2,h3,cs,h4,h5⟩:=r _ (List.mem_of_getElem? hj)
 obtain ⟨us,rfl,hu⟩:=Rg h5
 refine ⟨us,rfl,F,G,s,?_,dj,f,g,u⟩
 intro R hR
 cases hR with
 |head=>exact ⟨A',n',c',e,by rw [←h1,List.length_map],h2,h3,cs,h4,hu⟩
 |tail _ hm=>exact r R hm
end
section
variable {P:Program} {ops:Array Oper} {Q:Exit→Act→World→Prop} {rest:List Oper} {n:Nat} {l:BA} {w0 w:World} {F0:AV} {o:Oper} {As Rs:List SP} {x y:Operand} {t:TypeId}
theorem Zh {α:Type} {d:Kd α} {e bytes et b:Nat} {z u v':Value} {us:List (Value×List α)} {ys:List α}
  (hg:gd ops l o=some true) (hd:CB n o.dst=true) (ho:o.op=.call { callee:=.builtin .append,args:=#[x,y],argTypes:=#[t,t] }) (hs:C0 P t=some (e,1,bytes)) (hz:C8 P e=some z) (hzs:z.cells.size=1) (hb0:0<bytes)
  (hx:ev l x=some u) (hy:ev l y=some (.slice (some ⟨b,0,none⟩) 1 1)) (H:Hd w0 F0 w (Ae (AU d) u us::blk b [v'] et::Ae d v' ys::As) Rs) (hb:(us.length+1)*bytes≤140737488355328)
  (h:∀ u' w',Hd w0 F0 w' (Ae (AU d) u' (us++[(v',ys)])::As) Rs→WL P ops Q rest n (Cp l o.dst u') w'):WL P ops Q (o::rest) n l w:=by
 have H1:Hd w0 F0 w ([blk b [v'] et,Ae d v' ys]++(Ae (AU d) u us::As)) Rs:=H.perm ((List.Perm.swap _ _ _).trans ((List.Perm.swap _ _ _).cons _))
 have H2:=H1.shut (A:=Cz [blk b [v'] et,Ae d v' ys]) (fun F hF=>hF)
 have H3:=H2.perm (List.Perm.swap _ _ _)
 refine Zi (d:=AU d) (ys:=[(v',ys)]) hg hd ho hs hz hzs hb0 hx hy H3 hb U ?_ h
 rintro F ⟨F1,F2,h1,h2,h3,hbk,G1,G2,g1,g2,g3,hos,_⟩
 refine ⟨[v'],⟨trivial,.inr ⟨b,0,_,_,_,rfl,h1 b hbk.1,hbk.2,by simp⟩⟩,?_⟩
 exact ⟨F2,none_,[v'],[],h2,fun _ q=>q.elim,fun _ _ q=>q,rfl,⟨rfl,(BK d).O_mono hos g1⟩,rfl⟩
end
theorem J1 (a b:ByteArray):Bi a b=decide (a.data.toList<b.data.toList):=Proofs.bytesLess_eq _ _
theorem FF (a:ByteArray):Bi a a=false:=by
 rw [J1]
 exact decide_eq_false (List.lt_irrefl _)
theorem Mk {a b c:ByteArray} (h1:Bi a b=true) (h2:Bi b c=true):Bi a c=true:=by
 rw [J1] at *
 exact decide_eq_true (List.lt_trans (of_decide_eq_true h1) (of_decide_eq_true h2))
theorem ID {a b:ByteArray} (h1:Bi a b=true):Bi b a=false:=by
 cases h:Bi b a with
 |false=>rfl
 |true=>have:=Mk h1 h;rw [FF] at this;cases this
theorem J0 {a b:ByteArray} (h1:Bi a b=false) (h2:Bi b a=false):a=b:=by
 rw [J1] at *
 have h1:=of_decide_eq_false h1
 have h2:=of_decide_eq_false h2
 exact toList_inj (List.le_antisymm h2 h1)
theorem GM {a b c:ByteArray} (h1:Bi b a=false) (h2:Bi c b=false):Bi c a=false:=by
 cases h:Bi c a with
 |false=>rfl
 |true=>
  cases h3:Bi a b with
  |true=>have:=Mk h h3;rw [this] at h2;cases h2
  |false=>
   have:=J0 h3 h1
   subst this
   rw [h] at h2
   cases h2
theorem Wo {a b c:ByteArray} (h1:Bi a b=true) (h2:Bi c b=false):Bi a c=true:=by
 cases h:Bi a c with
 |true=>rfl
 |false=>have:=GM h2 h;rw [this] at h1;cases h1
theorem Wk {a b c:ByteArray} (h1:Bi b a=false) (h2:Bi b c=true):Bi a c=true:=by
 cases h:Bi a c with
 |true=>rfl
 |false=>have:=GM h h1;rw [this] at h2;cases h2
def Ci (xs ys:List An):Prop:=xs.length=ys.length∧∀ k:ByteArray,xs.filter (fun p=>decide (p.key=k))=ys.filter (fun p=>decide (p.key=k))
theorem Ci.refl (xs:List An):Ci xs xs:=⟨rfl,fun _=>rfl⟩
theorem Ci.trans {xs ys zs:List An} (h1:Ci xs ys) (h2:Ci ys zs):Ci xs zs:=⟨h1.1.trans h2.1,fun k=>(h1.2 k).trans (h2.2 k)⟩
theorem Ci.symm {xs ys:List An} (h1:Ci xs ys):Ci ys xs:=⟨h1.1.symm,fun k=>(h1.2 k).symm⟩
theorem Ci.append {a b c d:List An} (h1:Ci a b) (h2:Ci c d):Ci (a++c) (b++d):=
 ⟨by rw [List.length_append,List.length_append,h1.1,h2.1],fun k=>by rw [List.filter_append,List.filter_append,h1.2,h2.2]⟩
theorem Ci.mem {xs ys:List An} (h:Ci xs ys) {p:An} (hp:p∈xs):p∈ys:=by
 have:p∈xs.filter (fun q=>decide (q.key=p.key)):=List.mem_filter.2 ⟨hp,by simp⟩
 rw [h.2] at this
 exact (List.mem_filter.1 this).1
def E1 (xs:List An):Prop:=xs.Pairwise fun p q=>Bi q.key p.key=false
instance (xs:List An):Decidable (E1 xs):=by unfold E1;infer_instance
def ins (p:An):List An→List An
 |[]=>[p]
 |q::l=>if Bi q.key p.key=true then q::ins p l else p::q::l
def srt:List An→List An
 |[]=>[]
 |p::l=>ins p (srt l)
theorem O6 {p q:An}:∀ {l:List An},q∈ins p l↔q=p∨q∈l
 |[]=>by simp [ins]
 |r::l=>by
  unfold ins
  split
  ·rw [List.mem_cons,O6,List.mem_cons]
   constructor<;>(rintro (h|h|h)<;>simp [h])
  ·simp
theorem O7 {p:An}:∀ {l:List An},E1 l→E1 (ins p l)
 |[],_=>by simp [ins,E1]
 |q::l,h=>by
  have h':=List.pairwise_cons.1 h
  unfold ins
  split
  ·rename_i hlt
   refine List.pairwise_cons.2 ⟨fun r hr=>?_,O7 h'.2⟩
   rcases O6.1 hr with rfl|hr
   ·exact ID hlt
   ·exact h'.1 r hr
  ·rename_i hlt
   have hlt:Bi q.key p.key=false:=by simpa using hlt
   refine List.pairwise_cons.2 ⟨fun r hr=>?_,h⟩
   rcases List.mem_cons.1 hr with rfl|hr
   ·exact hlt
   ·exact GM hlt (h'.1 r hr)
theorem O8 {p:An}:∀ {l:List An},Ci (p::l) (ins p l)
 |[]=>Ci.refl _
 |q::l=>by
  unfold ins
  split
  ·rename_i hlt
   have hne:p.key≠q.key:=fun e=>by rw [e,FF] at hlt;cases hlt
   have h1:Ci (p::q::l) (q::p::l):=by
    refine ⟨by simp,fun k=>?_⟩
    by_cases hp:p.key=k
    ·have:¬ q.key=k:=fun e=>hne (hp.trans e.symm)
     simp [hp,this]
    ·simp [List.filter_cons,hp]
   exact h1.trans (Ci.append (Ci.refl [q]) (O8 (p:=p) (l:=l)))
  ·exact Ci.refl _
theorem RT:∀ l:List An,E1 (srt l)
 |[]=>List.Pairwise.nil
 |_::l=>O7 (RT l)
theorem Kz:∀ l:List An,Ci l (srt l)
 |[]=>Ci.refl _
 |p::l=>(Ci.append (Ci.refl [p]) (Kz l)).trans O8
theorem Qt:∀ {xs ys:List An},E1 xs→E1 ys→Ci xs ys→xs=ys
 |[],ys,_,_,h=>(List.eq_nil_of_length_eq_zero h.1.symm).symm
 |x::xs,[],_,_,h=>by cases h.1
 |x::xs,y::ys,hx,hy,h=>by
  have hx':=List.pairwise_cons.1 hx
  have hy':=List.pairwise_cons.1 hy
  have hk:x.key=y.key:=by
   refine J0 ?_ ?_
   ·rcases List.mem_cons.1 (h.mem (List.mem_cons_self ..):x∈y::ys) with e|hm
    ·rw [e,FF]
    ·exact hy'.1 x hm
   ·rcases List.mem_cons.1 (h.symm.mem (List.mem_cons_self ..):y∈x::xs) with e|hm
    ·rw [e,FF]
    ·exact hx'.1 y hm
  have he:=h.2 x.key
  rw [List.filter_cons_of_pos (by simp),List.filter_cons_of_pos (by simp [hk])] at he
  obtain ⟨rfl,_⟩:=List.cons.inj he
  rw [Qt hx'.2 hy'.2 ⟨by simpa using h.1,fun k=>?_⟩]
  have hk2:=h.2 k
  by_cases hxk:x.key=k
  ·rw [List.filter_cons_of_pos (by simp [hxk]),List.filter_cons_of_pos (by simp [hxk])] at hk2
   exact (List.cons.inj hk2).2
  ·rw [List.filter_cons_of_neg (by simp [hxk]),List.filter_cons_of_neg (by simp [hxk])] at hk2
   exact hk2
theorem RS {xs ys:List An} (h:Ci xs ys) (ho:E1 ys):ys=srt xs:=Qt ho (RT xs) (h.symm.trans (Kz xs))
theorem Ky (xs:List An):(srt xs).length=xs.length:=(Kz xs).1.symm
def CF (xs ys:List An) (f:Nat→Nat):Prop:=ys.length=xs.length∧∀ t,ys[t]?=xs[f t]?
def EX (a b n t:Nat):Nat:=if a≤t∧t<a+n then t+(b - a) else if b≤t∧t<b+n then t - (b - a) else t
def Bn (a m b t:Nat):Nat:=if a≤t∧t<a+(b - m) then t+(m - a) else if a+(b - m)≤t∧t<b then t - (b - m) else t
theorem KL (xs:List An) {f:Nat→Nat} (h:∀ t,f t=t):CF xs xs f:=⟨rfl,fun t=>by rw [h]⟩
theorem aS {xs ys:List An} {a b k:Nat} {x y:An} (hab:a+k<b) (h:CF xs ys (EX a b k)) (hx:ys[a+k]?=some x) (hy:ys[b+k]?=some y):
  CF xs ((ys.set (a+k) y).set (b+k) x) (EX a b (k+1)):=by
 have l1:a+k<ys.length:=(List.getElem?_eq_some_iff.1 hx).1
 have l2:b+k<ys.length:=(List.getElem?_eq_some_iff.1 hy).1
 refine ⟨by simpa using h.1,fun t=>?_⟩
 rw [List.getElem?_set,List.getElem?_set]
 have hx':=h.2 (a+k)
 have hy':=h.2 (b+k)
 rw [hx] at hx'
 rw [hy] at hy'
 by_cases h1:b+k=t
 ·subst h1
  rw [if_pos rfl,if_pos (by simpa using l2),hx']
  congr 1
  unfold EX
  rw [if_neg (by omega),if_neg (by omega),if_neg (by omega),if_pos (by omega)]
  omega
 ·rw [if_neg h1]
  by_cases h2:a+k=t
  ·subst h2
   rw [if_pos rfl,if_pos l1,hy']
   congr 1
   unfold EX
   rw [if_neg (by omega),if_neg (by omega),if_pos (by omega)]
   omega
  ·rw [if_neg h2,h.2]
   congr 1
   unfold EX
   repeat' split
   all_goals omega
theorem YW {xs ys:List An} {m i j:Nat} (him:i≤m) (hj:j<i) (h:CF xs ys (EX (m - i) m j)):∀ t,xs[Bn (m - i) m (m+j) t]?=ys[Bn (m - (i - j)) m (m+j) t]?:=by
 intro t
 rw [h.2]
 congr 1
 unfold Bn EX
 repeat' split
 all_goals omega
theorem YX {xs ys:List An} {m i j:Nat} (him:i≤m) (hj:i<j) (h:CF xs ys (EX (m - i) (m+j - i) i)):∀ t,xs[Bn (m - i) m (m+j) t]?=ys[Bn (m - i) m (m+(j - i)) t]?:=by
 intro t
 rw [h.2]
 congr 1
 unfold Bn EX
 repeat' split
 all_goals omega
theorem YV {m i t:Nat} (him:i≤m):Bn (m - i) m (m+i) t=EX (m - i) m i t:=by
 unfold Bn EX
 repeat' split
 all_goals omega
theorem aP {xs ys:List An} {a m b:Nat} (h:CF xs ys (Bn a m b)) (h1:a≤m) (h2:m≤b) (h3:b≤xs.length):
  ys=xs.take a++((xs.drop m).take (b - m)++((xs.drop a).take (m - a)++xs.drop b)):=by
 apply List.ext_getElem?
 intro t
 rw [h.2]
 unfold Bn
 by_cases c1:t<a
 ·rw [if_neg (by omega),if_neg (by omega),List.getElem?_append_left (by simp;omega),List.getElem?_take,if_pos c1]
 rw [List.getElem?_append_right (by simp;omega)]
 have e1:(xs.take a).length=a:=by simp;omega
 rw [e1]
 by_cases c2:t<a+(b - m)
 ·rw [if_pos (by omega),List.getElem?_append_left (by simp;omega),List.getElem?_take,if_pos (by omega),List.getElem?_drop]
  congr 1
  omega
 rw [List.getElem?_append_right (by simp;omega),if_neg (by omega)]
 have e2:((xs.drop m).take (b - m)).length=b - m:=by simp;omega
 rw [e2]
 by_cases c3:t<b
 ·rw [if_pos (by omega),List.getElem?_append_left (by simp;omega),List.getElem?_take,if_pos (by omega),List.getElem?_drop]
  congr 1
  omega
 rw [List.getElem?_append_right (by simp;omega),if_neg (by omega)]
 have e3:((xs.drop a).take (m - a)).length=m - a:=by simp;omega
 rw [e3,List.getElem?_drop]
 congr 1
 omega
theorem Tt {xs:List An} {a m b:Nat} (h1:a≤m) (h2:m≤b):xs=xs.take a++((xs.drop a).take (m - a)++((xs.drop m).take (b - m)++xs.drop b)):=by
 have e1:(xs.drop m).take (b - m)++xs.drop b=xs.drop m:=by
  have:=List.take_append_drop (b - m) (xs.drop m)
  rwa [List.drop_drop,show m+(b - m)=b by omega] at this
 have e2:(xs.drop a).take (m - a)++xs.drop m=xs.drop a:=by
  have:=List.take_append_drop (m - a) (xs.drop a)
  rwa [List.drop_drop,show a+(m - a)=m by omega] at this
 rw [e1,e2,List.take_append_drop]
theorem RC {xs ys:List An} {a m b:Nat} (h:CF xs ys (Bn a m b)) (h1:a≤m) (h2:m≤b) (h3:b≤xs.length)
  (hne:∀ p q x y,a≤p→p<m→m≤q→q<b→xs[p]?=some x→xs[q]?=some y→x.key≠y.key):Ci xs ys:=by
 refine ⟨h.1.symm,fun k=>?_⟩
 rw [aP h h1 h2 h3]
 conv=>lhs;rw [Tt (xs:=xs) h1 h2]
 simp only [List.filter_append]
 congr 1
 rw [←List.append_assoc,←List.append_assoc]
 congr 1
 by_cases hk:∃ x∈(xs.drop a).take (m - a),x.key=k
 ·obtain ⟨x,hx,hxk⟩:=hk
  obtain ⟨p,hp⟩:=List.getElem?_of_mem hx
  have hpl:p<m - a:=by
   have:=(List.getElem?_eq_some_iff.1 hp).1
   simp at this
   omega
  rw [List.getElem?_take,if_pos hpl,List.getElem?_drop] at hp
  have:(((xs.drop m).take (b - m)).filter fun p=>decide (p.key=k))=[]:=by
   rw [List.filter_eq_nil_iff]
   intro y hy
   obtain ⟨q,hq⟩:=List.getElem?_of_mem hy
   have hql:q<b - m:=by
    have:=(List.getElem?_eq_some_iff.1 hq).1
    simp at this
    omega
   rw [List.getElem?_take,if_pos hql,List.getElem?_drop] at hq
   have:=hne (a+p) (m+q) x y (by omega) (by omega) (by omega) (by omega) hp hq
   simp only [decide_eq_true_eq]
   exact fun e=>this (hxk.trans e.symm)
  rw [this,List.append_nil,List.nil_append]
 ·have:(((xs.drop a).take (m - a)).filter fun p=>decide (p.key=k))=[]:=by
   rw [List.filter_eq_nil_iff]
   intro x hx
   simp only [decide_eq_true_eq]
   exact fun e=>hk ⟨x,hx,e⟩
  rw [this,List.append_nil,List.nil_append]
def BR (xs:List An) (a b:Nat):Prop:=∀ p q x y,a≤p→p<q→q<b→xs[p]?=some x→xs[q]?=some y→Bi y.key x.key=false
def DY (xs ys:List An) (a b:Nat):Prop:=ys.length=xs.length∧(∀ t,t<a∨b≤t→ys[t]?=xs[t]?)∧∀ t,a≤t→t<b→∃ u,a≤u∧u<b∧ys[t]?=xs[u]?
theorem DY.refl (xs:List An) (a b:Nat):DY xs xs a b:=⟨rfl,fun _ _=>rfl,fun t h1 h2=>⟨t,h1,h2,rfl⟩⟩
theorem DY.trans {xs ys zs:List An} {a b:Nat} (h1:DY xs ys a b) (h2:DY ys zs a b):DY xs zs a b:=by
 refine ⟨h2.1.trans h1.1,fun t ht=>(h2.2.1 t ht).trans (h1.2.1 t ht),fun t ha hb=>?_⟩
 obtain ⟨u,u1,u2,e⟩:=h2.2.2 t ha hb
 obtain ⟨u',u1',u2',e'⟩:=h1.2.2 u u1 u2
 exact ⟨u',u1',u2',e.trans e'⟩
theorem DY.wider {xs ys:List An} {a b a' b':Nat} (h:DY xs ys a b) (ha:a'≤a) (hb:b≤b'):DY xs ys a' b':=by
 refine ⟨h.1,fun t ht=>h.2.1 t (by omega),fun t h1 h2=>?_⟩
 by_cases c:a≤t∧t<b
 ·obtain ⟨u,u1,u2,e⟩:=h.2.2 t c.1 c.2
  exact ⟨u,by omega,by omega,e⟩
 ·exact ⟨t,h1,h2,h.2.1 t (by omega)⟩
theorem RB {xs ys:List An} {a m b:Nat} (h:CF xs ys (Bn a m b)) (h1:a≤m) (h2:m≤b):DY xs ys a b:=by
 refine ⟨h.1,fun t ht=>?_,fun t ha hb=>⟨Bn a m b t,?_,?_,h.2 t⟩⟩
 ·rw [h.2,show Bn a m b t=t by unfold Bn;rw [if_neg (by omega),if_neg (by omega)]]
 ·unfold Bn;split<;>(try split)<;>omega
 ·unfold Bn;split<;>(try split)<;>omega
theorem BR.same {xs ys:List An} {a b:Nat} (h:BR xs a b) (he:∀ t,a≤t→t<b→ys[t]?=xs[t]?):BR ys a b:=
 fun p q x y h1 h2 h3 hx hy=>h p q x y h1 h2 h3 ((he p h1 (by omega)).symm.trans hx) ((he q (by omega) h3).symm.trans hy)
theorem BR.sub {xs:List An} {a b a' b':Nat} (h:BR xs a b) (ha:a≤a') (hb:b'≤b):BR xs a' b':=
 fun p q x y h1 h2 h3=>h p q x y (by omega) h2 (by omega)
theorem BR.one (xs:List An) {a b:Nat} (h:b≤a+1):BR xs a b:=fun p q x y h1 h2 h3=>by omega
theorem BR.ord {xs:List An} (h:BR xs 0 xs.length):E1 xs:=by
 unfold E1
 rw [List.pairwise_iff_getElem]
 intro i j hi hj hij
 exact h i j _ _ (by omega) hij hj (List.getElem?_eq_getElem hi) (List.getElem?_eq_getElem hj)
structure CE (xs ys:List An) (a b:Nat):Prop where
 stab:Ci xs ys
 ins:DY xs ys a b
 srt:BR ys a b
theorem ZU {xs:List An} {j:Nat} {x y:An} (hx:xs[j]?=some x) (hy:xs[j+1]?=some y) (hlt:Bi y.key x.key=true):Ci xs ((xs.set (j+1) x).set j y)∧DY xs ((xs.set (j+1) x).set j y) j (j+2):=by
 have l1:j+1<xs.length:=(List.getElem?_eq_some_iff.1 hy).1
 have hv:CF xs ((xs.set (j+1) x).set j y) (Bn j (j+1) (j+2)):=by
  refine ⟨by simp,fun t=>?_⟩
  rw [List.getElem?_set,List.getElem?_set]
  unfold Bn
  by_cases c1:j=t
  ·subst c1
   rw [if_pos rfl,if_pos (by simp;omega),if_pos (by omega),show j+(j+1 - j)=j+1 by omega,hy]
  ·rw [if_neg c1]
   by_cases c2:j+1=t
   ·subst c2
    rw [if_pos rfl,if_pos l1,if_neg (by omega),if_pos (by omega),show j+1 - (j+2 - (j+1))=j by omega,hx]
   ·rw [if_neg c2,if_neg (by omega),if_neg (by omega)]
 refine ⟨RC hv (by omega) (by omega) (by omega) fun p q u v h1 h2 h3 h4 hu hw=>?_,RB hv (by omega) (by omega)⟩
 obtain rfl:p=j:=by omega
 obtain rfl:q=p+1:=by omega
 rw [hx] at hu
 rw [hy] at hw
 obtain rfl:=Option.some.inj hu
 obtain rfl:=Option.some.inj hw
 intro e
 rw [e,FF] at hlt
 cases hlt
def Gh (xs:List An) (a b j:Nat):Prop:=∀ p q x y,a≤p→p<q→q<b→q≠j→xs[p]?=some x→xs[q]?=some y→Bi y.key x.key=false
theorem SR {xs:List An} {a i:Nat} (h:BR xs a i):Gh xs a (i+1) i:=fun p q x y h1 h2 h3 h4=>h p q x y h1 h2 (by omega)
theorem SQ {xs:List An} {a b:Nat} (h:Gh xs a b a):BR xs a b:=fun p q x y h1 h2 h3=>h p q x y h1 h2 h3 (by omega)
theorem SU {xs:List An} {a b j:Nat} {x y:An} (h:Gh xs a b (j+1)) (ha:a≤j) (hx:xs[j]?=some x) (hy:xs[j+1]?=some y) (hlt:Bi y.key x.key=false):BR xs a b:=by
 intro p q u v h1 h2 h3 hu hv
 by_cases c:q=j+1
 ·subst c
  rw [hy] at hv
  obtain rfl:=Option.some.inj hv
  by_cases c2:p=j
  ·subst c2
   rw [hx] at hu
   obtain rfl:=Option.some.inj hu
   exact hlt
  ·exact GM (h p j u x h1 (by omega) (by omega) (by omega) hu hx) hlt
 ·exact h p q u v h1 h2 h3 c hu hv
theorem SS {xs:List An} {a b j:Nat} {x y:An} (h:Gh xs a b (j+1)) (ha:a≤j) (hx:xs[j]?=some x) (hy:xs[j+1]?=some y) (hlt:Bi y.key x.key=true) (hb:j+1<b):Gh ((xs.set (j+1) x).set j y) a b j:=by
 have l1:j+1<xs.length:=(List.getElem?_eq_some_iff.1 hy).1
 have g:∀ t u,((xs.set (j+1) x).set j y)[t]?=some u→(t=j∧u=y)∨(t=j+1∧u=x)∨(t≠j∧t≠j+1∧xs[t]?=some u):=by
  intro t u ht
  rw [List.getElem?_set,List.getElem?_set] at ht
  by_cases c1:j=t
  ·rw [if_pos c1,if_pos (by simp;omega)] at ht
   exact .inl ⟨c1.symm,(Option.some.inj ht).symm⟩
  ·rw [if_neg c1] at ht
   by_cases c2:j+1=t
   ·rw [if_pos c2,if_pos l1] at ht
    exact .inr (.inl ⟨c2.symm,(Option.some.inj ht).symm⟩)
   ·rw [if_neg c2] at ht
    exact .inr (.inr ⟨Ne.symm c1,Ne.symm c2,ht⟩)
 intro p q u v h1 h2 h3 h4 hu hv
 rcases g q v hv with ⟨rfl,_⟩|⟨rfl,rfl⟩|⟨q1,q2,hq⟩
 ·exact absurd U h4
 ·rcases g p u hu with ⟨rfl,rfl⟩|⟨rfl,_⟩|⟨p1,p2,hp⟩
  ·exact ID hlt
  ·omega
  ·exact h p j u v h1 (by omega) (by omega) (by omega) hp hx
 ·rcases g p u hu with ⟨rfl,rfl⟩|⟨rfl,rfl⟩|⟨p1,p2,hp⟩
  ·exact h (p+1) q u v (by omega) (by omega) h3 q2 hy hq
  ·exact h j q u v (by omega) (by omega) h3 q2 hx hq
  ·exact h p q u v h1 h2 h3 q2 hp hq
theorem BR.le {xs:List An} {a b p q:Nat} {x y:An} (h:BR xs a b) (h1:a≤p) (h2:p≤q) (h3:q<b) (hx:xs[p]?=some x) (hy:xs[q]?=some y):Bi y.key x.key=false:=by
 rcases Nat.lt_or_ge p q with h'|h'
 ·exact h p q x y h1 h' h3 hx hy
 ·obtain rfl:p=q:=by omega
  rw [hx] at hy
  obtain rfl:=Option.some.inj hy
  exact FF _
theorem Km {xs ys:List An} {a m b s mid e:Nat} (hv:CF xs ys (Bn s m e)) (h1:a≤s) (h2:s≤m) (h3:m≤e) (h4:e≤b) (hmid:mid=s+(e - m)) (hl:BR xs a m) (hr:BR xs m b):
  BR ys a s∧BR ys s mid∧BR ys mid e∧BR ys e b:=by
 subst hmid
 refine ⟨?_,?_,?_,?_⟩
 ·refine (hl.sub (Nat.le_refl _) h2).same fun t ht1 ht2=>?_
  rw [hv.2,show Bn s m e t=t by unfold Bn;rw [if_neg (by omega),if_neg (by omega)]]
 ·intro p q x y p1 p2 p3 hx hy
  rw [hv.2,show Bn s m e p=p+(m - s) by unfold Bn;rw [if_pos (by omega)]] at hx
  rw [hv.2,show Bn s m e q=q+(m - s) by unfold Bn;rw [if_pos (by omega)]] at hy
  exact hr _ _ x y (by omega) (by omega) (by omega) hx hy
 ·intro p q x y p1 p2 p3 hx hy
  rw [hv.2,show Bn s m e p=p - (e - m) by unfold Bn;rw [if_neg (by omega),if_pos (by omega)]] at hx
  rw [hv.2,show Bn s m e q=q - (e - m) by unfold Bn;rw [if_neg (by omega),if_pos (by omega)]] at hy
  exact hl _ _ x y (by omega) (by omega) (by omega) hx hy
 ·refine (hr.sub h3 (Nat.le_refl _)).same fun t ht1 ht2=>?_
  rw [hv.2,show Bn s m e t=t by unfold Bn;rw [if_neg (by omega),if_neg (by omega)]]
theorem CE.refl {xs:List An} {a b:Nat} (h:BR xs a b):CE xs xs a b:=⟨Ci.refl _,DY.refl _ _ _,h⟩
theorem GT {xs:List An} {a s mid:Nat} (h1:BR xs a s) (h2:BR xs s mid) (h:¬ (a<s∧s<mid)) (hs:a≤s):BR xs a mid:=by
 rcases Nat.lt_or_ge a s with c|c
 ·exact h1.sub (Nat.le_refl _) (by omega)
 ·exact h2.sub (by omega) (Nat.le_refl _)
theorem GO {xs ys zs ws:List An} {a m b s mid e:Nat} (hv:CF xs ys (Bn s m e)) (h1:a≤s) (h2:s≤m) (h3:m≤e) (h4:e≤b) (hb:b≤xs.length) (hmid:mid=s+(e - m)) (hl:BR xs a m) (hr:BR xs m b)
  (hlow:s=a∨e=b∨∃ u v,xs[s - 1]?=some u∧xs[e]?=some v∧Bi v.key u.key=false)
  (hup:s=m∨e=m∨∃ u v,xs[e - 1]?=some u∧xs[s]?=some v∧Bi u.key v.key=true)
  (hz:CE ys zs a mid) (hw:CE zs ws mid b):CE xs ws a b:=by
 have hkey:∀ p q x y,s≤p→p<m→m≤q→q<e→xs[p]?=some x→xs[q]?=some y→Bi y.key x.key=true:=by
  intro p q x y p1 p2 q1 q2 hx hy
  rcases hup with c|c|⟨u,v,hu,hv',hlt⟩
  ·omega
  ·omega
  ·exact Wo (Wk (hr.le (p:=q) (q:=e - 1) q1 (by omega) (by omega) hy hu) hlt) (hl.le (p:=s) (q:=p) h1 p1 p2 hv' hx)
 have s1:Ci xs ys:=RC hv h2 h3 (by omega) fun p q x y p1 p2 q1 q2 hx hy e=>by
  have:=hkey p q x y p1 p2 q1 q2 hx hy
  rw [e,FF] at this
  cases this
 have i1:DY xs ys a b:=(RB hv h2 h3).wider h1 h4
 have hm1:s≤mid:=by omega
 have hm2:mid≤e:=by omega
 refine ⟨s1.trans (hz.stab.trans hw.stab),i1.trans ((hz.ins.wider (Nat.le_refl _) (by omega)).trans (hw.ins.wider (by omega) (Nat.le_refl _))),fun p q x y p1 p2 p3 hx hy=>?_⟩
 rcases Nat.lt_or_ge q mid with c|c
 ·rw [hw.ins.2.1 p (by omega)] at hx
  rw [hw.ins.2.1 q (by omega)] at hy
  exact hz.srt p q x y p1 p2 c hx hy
 rcases Nat.lt_or_ge p mid with c'|c'
 ·rw [hw.ins.2.1 p (by omega)] at hx
  obtain ⟨u,u1,u2,hu⟩:=hz.ins.2.2 p p1 c'
  rw [hx] at hu
  obtain ⟨t,t1,t2,ht⟩:=hw.ins.2.2 q c p3
  rw [hy,hz.ins.2.1 t (by omega)] at ht
  -- the pair at u of ys is x, the pair at t of ys is y
  have hxu:=hv.2 u
  have hyt:=hv.2 t
  rw [←hu] at hxu
  rw [←ht] at hyt
  rcases Nat.lt_or_ge u s with cu|cu
  ·rw [show Bn s m e u=u by unfold Bn;rw [if_neg (by omega),if_neg (by omega)]] at hxu
   rcases Nat.lt_or_ge t e with ct|ct
   ·rw [show Bn s m e t=t - (e - m) by unfold Bn;rw [if_neg (by omega),if_pos (by omega)]] at hyt
    exact hl u _ x y u1 (by omega) (by omega) hxu.symm hyt.symm
   ·rw [show Bn s m e t=t by unfold Bn;rw [if_neg (by omega),if_neg (by omega)]] at hyt
    rcases hlow with d|d|⟨u',v',hu',hv',hlt⟩
    ·omega
    ·omega
    ·exact GM (hl.le (p:=u) (q:=s - 1) u1 (by omega) (by omega) hxu.symm hu') (GM hlt (hr.le (p:=e) (q:=t) h3 ct t2 hv' hyt.symm))
  ·rw [show Bn s m e u=u+(m - s) by unfold Bn;rw [if_pos (by omega)]] at hxu
   rcases Nat.lt_or_ge t e with ct|ct
   ·rw [show Bn s m e t=t - (e - m) by unfold Bn;rw [if_neg (by omega),if_pos (by omega)]] at hyt
    exact ID (hkey _ _ y x (by omega) (by omega) (by omega) (by omega) hyt.symm hxu.symm)
   ·rw [show Bn s m e t=t by unfold Bn;rw [if_neg (by omega),if_neg (by omega)]] at hyt
    exact hr _ t x y (by omega) (by omega) t2 hxu.symm hyt.symm
 ·exact hw.srt p q x y c' p2 p3 hx hy
theorem WP {xs ys:List An} {a b i:Nat} {x:An} (hv:CF xs ys (Bn a (a+1) i)) (h1:a+1≤i) (h2:i≤b) (hb:b≤xs.length) (hr:BR xs (a+1) b) (hx:xs[a]?=some x)
  (hlow:i=a+1∨∃ u,xs[i - 1]?=some u∧Bi u.key x.key=true) (hup:i=b∨∃ u,xs[i]?=some u∧Bi u.key x.key=false):CE xs ys a b:=by
 have hruns:=Km hv (Nat.le_refl a) (by omega) h1 h2 rfl (BR.one xs (Nat.le_refl _)) hr
 have e1:a+(i - (a+1))=i - 1:=by omega
 rw [e1] at hruns
 -- low: nothing stands below a; up: what stands below i is below x
 have hs:CE ys ys a (i - 1):=CE.refl hruns.2.1
 have hyx:ys[i - 1]?=some x:=by rw [hv.2,show Bn a (a+1) i (i - 1)=a by unfold Bn;rw [if_neg (by omega),if_pos (by omega)];omega,hx]
 have hw:CE ys ys (i - 1) b:=by
  refine CE.refl fun p q u v p1 p2 p3 hu hw=>?_
  rcases Nat.lt_or_ge p i with c|c
  ·obtain rfl:p=i - 1:=by omega
   rw [hyx] at hu
   obtain rfl:=Option.some.inj hu
   rw [hv.2,show Bn a (a+1) i q=q by unfold Bn;rw [if_neg (by omega),if_neg (by omega)]] at hw
   rcases hup with d|⟨u',hu',hlt⟩
   ·omega
   ·exact GM hlt (hr.le (p:=i) (q:=q) h1 (by omega) p3 hu' hw)
  ·exact hruns.2.2.2 p q u v c p2 p3 hu hw
 refine GO hv (Nat.le_refl _) (by omega) h1 h2 hb e1.symm (BR.one xs (Nat.le_refl _)) hr (.inl U) ?_ hs hw
 rcases hlow with d|⟨u,hu,hlt⟩
 ·exact .inr (.inl d)
 ·exact .inr (.inr ⟨u,x,hu,hx,hlt⟩)
theorem WS {xs ys:List An} {a m i:Nat} {x:An} (hv:CF xs ys (Bn i m (m+1))) (h1:a≤i) (h2:i≤m) (hb:m+1≤xs.length) (hl:BR xs a m) (hx:xs[m]?=some x)
  (hlow:i=a∨∃ u,xs[i - 1]?=some u∧Bi x.key u.key=false) (hup:i=m∨∃ u,xs[i]?=some u∧Bi x.key u.key=true):CE xs ys a (m+1):=by
 have hruns:=Km hv h1 h2 (by omega) (Nat.le_refl _) rfl hl (BR.one xs (by omega))
 have e1:i+(m+1 - m)=i+1:=by omega
 rw [e1] at hruns
 have hyx:ys[i]?=some x:=by rw [hv.2,show Bn i m (m+1) i=m by unfold Bn;rw [if_pos (by omega)];omega,hx]
 have hs:CE ys ys a (i+1):=by
  refine CE.refl fun p q u v p1 p2 p3 hu hw=>?_
  rcases Nat.lt_or_ge q i with c|c
  ·exact hruns.1 p q u v p1 p2 c hu hw
  ·obtain rfl:q=i:=by omega
   rw [hyx] at hw
   obtain rfl:=Option.some.inj hw
   rw [hv.2,show Bn q m (m+1) p=p by unfold Bn;rw [if_neg (by omega),if_neg (by omega)]] at hu
   rcases hlow with d|⟨u',hu',hlt⟩
   ·omega
   ·exact GM (hl.le (p:=p) (q:=q - 1) p1 (by omega) (by omega) hu hu') hlt
 have hw:CE ys ys (i+1) (m+1):=CE.refl hruns.2.2.1
 refine GO hv h1 h2 (by omega) (Nat.le_refl _) hb e1.symm hl (BR.one xs (by omega)) (.inr (.inl U)) ?_ hs hw
 rcases hup with d|⟨u,hu,hlt⟩
 ·exact .inl d
 ·exact .inr (.inr ⟨x,u,by rw [show m+1 - 1=m by omega];exact hx,hu,hlt⟩)
theorem Iw (n:Nat):((n:Nat):Int).fdiv (2^(min (1:Int).toNat IntKind.u64.bits))=((n / 2:Nat):Int):=by
 have:(2:Int)^(min (1:Int).toNat IntKind.u64.bits)=2:=by decide
 rw [this,Int.fdiv_eq_ediv_of_nonneg _ (by omega)]
 omega
def FY (a b:ByteArray):Int:=if Bi a b=true then -1 else if Bi b a=true then 1 else 0
theorem Th {a b:ByteArray} (h:Bi a b=true):FY a b= -1:=if_pos h
theorem Tg {a b:ByteArray} (h:¬ Bi a b=true) (h2:(!(Bi a b||decide (a=b)))=true):FY a b=1:=by
 unfold FY
 rw [if_neg h,if_pos]
 cases h3:Bi b a with
 |true=>rfl
 |false=>
  have:=J0 (by simpa using h) h3
  subst this
  simp at h2
theorem Tf {a b:ByteArray} (h:¬ Bi a b=true) (h2:(!(Bi a b||decide (a=b)))=false):FY a b=0:=by
 have h':Bi a b=false:=by simpa using h
 have:a=b:=by simpa [h'] using h2
 subst this
 unfold FY
 rw [if_neg h,if_neg h]
theorem G5 {a b:ByteArray}:FY a b<0↔Bi a b=true:=by
 unfold FY
 by_cases h:Bi a b=true
 ·simp [h]
 ·rw [if_neg h]
  by_cases h2:Bi b a=true
  ·rw [if_pos h2];simp [h]
  ·rw [if_neg h2];simp [h]
theorem Iq {a b:ByteArray} (h:¬ FY a b<0):Bi a b=false:=by
 cases h2:Bi a b with
 |false=>rfl
 |true=>exact absurd (G5.2 h2) h
theorem ZV {xs:List An} {j:Nat} {x y:An} (hj:0<j) (hx:xs[j - 1]?=some x) (hy:xs[j]?=some y) (hlt:Bi y.key x.key=true):Ci xs ((xs.set j x).set (j - 1) y)∧DY xs ((xs.set j x).set (j - 1) y) (j - 1) (j+1):=by
 obtain ⟨i,rfl⟩:∃ i,j=i+1:=⟨j - 1,by omega⟩
 exact ZU hx hy hlt
theorem SV {xs:List An} {a b j:Nat} {x y:An} (h:Gh xs a b j) (hj:a<j) (hx:xs[j - 1]?=some x) (hy:xs[j]?=some y) (hlt:Bi y.key x.key=false):BR xs a b:=by
 obtain ⟨i,rfl⟩:∃ i,j=i+1:=⟨j - 1,by omega⟩
 exact SU h (by omega) hx hy hlt
theorem ST {xs:List An} {a b j:Nat} {x y:An} (h:Gh xs a b j) (hj:a<j) (hx:xs[j - 1]?=some x) (hy:xs[j]?=some y) (hlt:Bi y.key x.key=true) (hb:j<b):Gh ((xs.set j x).set (j - 1) y) a b (j - 1):=by
 obtain ⟨i,rfl⟩:∃ i,j=i+1:=⟨j - 1,by omega⟩
 exact SS h (by omega) hx hy hlt (by omega)
theorem aT {xs ys:List An} {a k:Nat} {x y:An} (hk:a≤k) (h:CF xs ys (Bn a (a+1) (k+1))) (hx:ys[k]?=some x) (hy:ys[k+1]?=some y):CF xs ((ys.set k y).set (k+1) x) (Bn a (a+1) (k+1+1)):=by
 have l1:k<ys.length:=(List.getElem?_eq_some_iff.1 hx).1
 have l2:k+1<ys.length:=(List.getElem?_eq_some_iff.1 hy).1
 refine ⟨by simpa using h.1,fun t=>?_⟩
 rw [List.getElem?_set,List.getElem?_set]
 have hx':=h.2 k
 have hy':=h.2 (k+1)
 rw [hx] at hx'
 rw [hy] at hy'
 by_cases c1:k+1=t
 ·subst c1
  rw [if_pos rfl,if_pos (by simpa using l2),hx']
  congr 1
  unfold Bn
  repeat' split
  all_goals omega
 ·rw [if_neg c1]
  by_cases c2:k=t
  ·subst c2
   rw [if_pos rfl,if_pos l1,hy']
   congr 1
   unfold Bn
   repeat' split
   all_goals omega
  ·rw [if_neg c2,h.2]
   congr 1
   unfold Bn
   repeat' split
   all_goals omega
theorem aN {xs ys:List An} {m k:Nat} {x y:An} (hk:k≤m) (h0:0<k) (h:CF xs ys (Bn k m (m+1))) (hx:ys[k]?=some x) (hy:ys[k - 1]?=some y):CF xs ((ys.set k y).set (k - 1) x) (Bn (k - 1) m (m+1)):=by
 have l1:k<ys.length:=(List.getElem?_eq_some_iff.1 hx).1
 have l2:k - 1<ys.length:=(List.getElem?_eq_some_iff.1 hy).1
 refine ⟨by simpa using h.1,fun t=>?_⟩
 rw [List.getElem?_set,List.getElem?_set]
 have hx':=h.2 k
 have hy':=h.2 (k - 1)
 rw [hx] at hx'
 rw [hy] at hy'
 by_cases c1:k - 1=t
 ·subst c1
  rw [if_pos rfl,if_pos (by simpa using l2),hx']
  congr 1
  unfold Bn
  repeat' split
  all_goals omega
 ·rw [if_neg c1]
  by_cases c2:k=t
  ·subst c2
   rw [if_pos rfl,if_pos l1,hy']
   congr 1
   unfold Bn
   repeat' split
   all_goals omega
  ·rw [if_neg c2,h.2]
   congr 1
   unfold Bn
   repeat' split
   all_goals omega
theorem aQ (xs:List An) (a:Nat):CF xs xs (Bn a (a+1) (a+1)):=KL xs fun t=>by
 unfold Bn
 repeat' split
 all_goals omega
theorem aR (xs:List An) (m:Nat):CF xs xs (Bn m m (m+1)):=KL xs fun t=>by
 unfold Bn
 repeat' split
 all_goals omega
theorem KK (xs:List An) {s m e:Nat} (h:¬ (s<m∧m<e)) (h1:s≤m) (h2:m≤e):CF xs xs (Bn s m e):=KL xs fun t=>by
 unfold Bn
 repeat' split
 all_goals omega
theorem aU {xs ys:List An} {a m k:Nat} {x y:An} (hm:m=a+1) (hk:a≤k) (h:CF xs ys (Bn a m (k+1))) (hx:ys[k]?=some x) (hy:ys[k+1]?=some y):CF xs ((ys.set k y).set (k+1) x) (Bn a m (k+1+1)):=by
 subst hm
 exact aT hk h hx hy
theorem aO {xs ys:List An} {m b k:Nat} {x y:An} (hb:b=m+1) (hk:k≤m) (h0:0<k) (h:CF xs ys (Bn k m b)) (hx:ys[k]?=some x) (hy:ys[k - 1]?=some y):CF xs ((ys.set k y).set (k - 1) x) (Bn (k - 1) m b):=by
 subst hb
 exact aN hk h0 h hx hy
theorem WR {xs ys:List An} {a m b i:Nat} {x:An} (hm:m=a+1) (hv:CF xs ys (Bn a m i)) (h1:m≤i) (h2:i≤b) (hb:b≤xs.length) (hr:BR xs m b) (hx:xs[a]?=some x)
  (hlow:i=m∨∃ u,xs[i - 1]?=some u∧Bi u.key x.key=true) (hup:i=b∨∃ u,xs[i]?=some u∧Bi u.key x.key=false):CE xs ys a b:=by
 subst hm
 exact WP hv h1 h2 hb hr hx hlow hup
theorem WT {xs ys:List An} {a m b i:Nat} {x:An} (hm:b=m+1) (hv:CF xs ys (Bn i m b)) (h1:a≤i) (h2:i≤m) (hb:b≤xs.length) (hl:BR xs a m) (hx:xs[m]?=some x)
  (hlow:i=a∨∃ u,xs[i - 1]?=some u∧Bi x.key u.key=false) (hup:i=m∨∃ u,xs[i]?=some u∧Bi x.key u.key=true):CE xs ys a b:=by
 subst hm
 exact WS hv h1 h2 hb hl hx hlow hup
def Dq (xs:List An) (lo hi bs:Nat):Prop:=∀ p q x y,lo≤p→p<q→q<hi→p / bs=q / bs→xs[p]?=some x→xs[q]?=some y→Bi y.key x.key=false
theorem Lv {c bs p:Nat} (h1:c*bs≤p) (h2:p<(c+1)*bs):p / bs=c:=Nat.div_eq_of_lt_le h1 h2
theorem Dq.at {xs:List An} {lo hi bs c a b:Nat} (h:Dq xs lo hi bs) (ha:a=c*bs) (hlo:lo≤a) (hb:b≤a+bs) (hh:b≤hi):BR xs a b:=by
 intro p q x y p1 p2 p3 hx hy
 refine h p q x y (by omega) p2 (by omega) ?_ hx hy
 have:(c+1)*bs=c*bs+bs:=Nat.succ_mul c bs
 rw [Lv (c:=c) (by omega) (by omega),Lv (c:=c) (by omega) (by omega)]
theorem Dq.more {xs ys:List An} {bs c a b:Nat} (h:Dq xs 0 a bs) (ha:a=c*bs) (hb:b≤a+bs) (hi:DY xs ys a b) (hs:BR ys a b):Dq ys 0 b bs:=by
 intro p q x y p1 p2 p3 hd hx hy
 have e1:(c+1)*bs=c*bs+bs:=Nat.succ_mul c bs
 rcases Nat.lt_or_ge p a with c1|c1
 ·rcases Nat.lt_or_ge q a with c2|c2
  ·rw [hi.2.1 p (by omega)] at hx
   rw [hi.2.1 q (by omega)] at hy
   exact h p q x y p1 p2 c2 hd hx hy
  ·exfalso
   have hq:q / bs=c:=Lv (by omega) (by omega)
   have hbs:0<bs:=by omega
   have:p / bs<c:=(Nat.div_lt_iff_lt_mul hbs).2 (by omega)
   omega
 ·exact hs p q x y c1 p2 p3 hx hy
theorem Dq.same {xs ys:List An} {lo hi bs lo':Nat} (h:Dq xs lo hi bs) (hl:lo≤lo') (he:∀ t,lo'≤t→ys[t]?=xs[t]?):Dq ys lo' hi bs:=by
 intro p q x y p1 p2 p3 hd hx hy
 rw [he p (by omega)] at hx
 rw [he q (by omega)] at hy
 exact h p q x y (by omega) p2 p3 hd hx hy
theorem Dq.nil (xs:List An) (bs:Nat):Dq xs 0 0 bs:=fun p q x y p1 p2 p3=>by omega
theorem Dq.all {xs:List An} {n bs:Nat} (h:Dq xs 0 n bs) (hn:n≤bs):BR xs 0 n:=by
 intro p q x y p1 p2 p3 hx hy
 refine h p q x y p1 p2 p3 ?_ hx hy
 rw [Nat.div_eq_of_lt (by omega),Nat.div_eq_of_lt (by omega)]
theorem Jj {zs:List An} {a n bs:Nat} (h:Dq zs a n bs) (hc:∃ c,a=c*(2*bs)) (hn:a+bs≤n):BR zs a (a+bs)∧∀ b,b≤a+2*bs→b≤n→BR zs (a+bs) b:=by
 obtain ⟨c,rfl⟩:=hc
 have e:c*(2*bs)=(2*c)*bs:=by rw [←Nat.mul_assoc,Nat.mul_comm c 2]
 have e2:(2*c+1)*bs=(2*c)*bs+bs:=Nat.succ_mul _ _
 refine ⟨h.at (c:=2*c) e (Nat.le_refl _) (Nat.le_refl _) hn,fun b h1 h2=>h.at (c:=2*c+1) (by omega) (by omega) (by omega) h2⟩
theorem SO {zs:List An} {a n bs:Nat} (h:Dq zs a n bs) (hc:∃ c,a=c*(2*bs)) (hn:n≤a+bs):BR zs a n:=by
 obtain ⟨c,rfl⟩:=hc
 exact h.at (c:=2*c) (by rw [←Nat.mul_assoc,Nat.mul_comm c 2]) (Nat.le_refl _) hn (Nat.le_refl _)
theorem Li {zs ws:List An} {a b bs:Nat} (h:Dq zs 0 a (2*bs)) (hc:∃ c,a=c*(2*bs)) (hb:b≤a+2*bs) (hs:CE zs ws a b):Dq ws 0 b (2*bs):=by
 obtain ⟨c,hc⟩:=hc
 exact h.more hc hb hs.ins hs.srt
theorem W0 {a bs:Nat} (hc:∃ c,a=c*(2*bs)):∃ c,a+2*bs=c*(2*bs):=by
 obtain ⟨c,rfl⟩:=hc
 exact ⟨c+1,(Nat.succ_mul c (2*bs)).symm⟩
def Be (ps:List An) (k:ByteArray):List ByteArray:=(ps.filter fun p=>decide (p.key=k)).map (·.val)
theorem T6 (ps:List An) (k:ByteArray):(ps.filter fun p=>decide (p.key=k))=(Be ps k).map fun v=>(⟨k,v⟩:An):=by
 unfold Be
 rw [List.map_map]
 conv=>lhs;rw [←List.map_id (ps.filter fun p=>decide (p.key=k))]
 refine List.map_congr_left fun p hp=>?_
 have:=of_decide_eq_true (List.mem_filter.1 hp).2
 subst this
 rfl
def Fw (ks:List ByteArray):Prop:=ks.Pairwise fun a b=>Bi a b=true
theorem RA:∀ {xs ys:List ByteArray},Fw xs→Fw ys→(∀ x,x∈xs↔x∈ys)→xs=ys
 |[],[],_,_,_=>rfl
 |[],y::ys,_,_,h=>by have:=(h y).2 (List.mem_cons_self ..);cases this
 |x::xs,[],_,_,h=>by have:=(h x).1 (List.mem_cons_self ..);cases this
 |x::xs,y::ys,hx,hy,h=>by
  have hx':=List.pairwise_cons.1 hx
  have hy':=List.pairwise_cons.1 hy
  have irr:∀ a b:ByteArray,Bi a b=true→Bi b a=true→False:=fun a b h1 h2=>by
   rw [ID h1] at h2
   cases h2
  have irr1:∀ a:ByteArray,Bi a a=true→False:=fun a h1=>by rw [FF] at h1;cases h1
  have e:x=y:=by
   rcases List.mem_cons.1 ((h x).1 (List.mem_cons_self ..)) with e|h1
   ·exact e
   ·rcases List.mem_cons.1 ((h y).2 (List.mem_cons_self ..)) with e|h2
    ·exact e.symm
    ·exact (irr _ _ (hx'.1 y h2) (hy'.1 x h1)).elim
  subst e
  rw [RA hx'.2 hy'.2]
  intro z
  constructor
  ·intro hz
   rcases List.mem_cons.1 ((h z).1 (List.mem_cons_of_mem _ hz)) with e|h1
   ·exact (irr1 _ (e▸hx'.1 z hz)).elim
   ·exact h1
  ·intro hz
   rcases List.mem_cons.1 ((h z).2 (List.mem_cons_of_mem _ hz)) with e|h1
   ·exact (irr1 _ (e▸hy'.1 z hz)).elim
   ·exact h1
def DP (x:ByteArray):List ByteArray→List ByteArray
 |[]=>[x]
 |k::ks=>if Bi k x=true then k::DP x ks else if k=x then k::ks else x::k::ks
def B6:List ByteArray→List ByteArray→List ByteArray
 |out,[]=>out
 |out,x::xs=>B6 (DP x out) xs
theorem L3 {x y:ByteArray}:∀ {ks:List ByteArray},y∈DP x ks↔y=x∨y∈ks
 |[]=>by simp [DP]
 |k::ks=>by
  unfold DP
  split
  ·rw [List.mem_cons,L3,List.mem_cons]
   constructor<;>(rintro (h|h|h)<;>simp [h])
  ·split
   ·rename_i h
    subst h
    simp
   ·simp
theorem O4 {x:ByteArray}:∀ {ks:List ByteArray},Fw ks→Fw (DP x ks)
 |[],_=>by simp [DP,Fw]
 |k::ks,h=>by
  have h':=List.pairwise_cons.1 h
  unfold DP
  split
  ·rename_i hlt
   refine List.pairwise_cons.2 ⟨fun y hy=>?_,O4 h'.2⟩
   rcases L3.1 hy with rfl|hy
   ·exact hlt
   ·exact h'.1 y hy
  ·rename_i hlt
   split
   ·exact h
   ·rename_i hne
    have hxk:Bi x k=true:=by
     cases hc:Bi x k with
     |true=>rfl
     |false=>exact absurd (J0 (by simpa using hlt) hc) hne
    refine List.pairwise_cons.2 ⟨fun y hy=>?_,h⟩
    rcases List.mem_cons.1 hy with rfl|hy
    ·exact hxk
    ·exact Mk hxk (h'.1 y hy)
theorem MR:∀ (xs out:List ByteArray),Fw out→Fw (B6 out xs)∧∀ y,y∈B6 out xs↔y∈out∨y∈xs
 |[],out,h=>⟨h,fun y=>by simp [B6]⟩
 |x::xs,out,h=>by
  have:=MR xs (DP x out) (O4 h)
  refine ⟨this.1,fun y=>?_⟩
  rw [B6,this.2,L3,List.mem_cons]
  constructor
  ·rintro ((h|h)|h)<;>simp [h]
  ·rintro (h|h|h)<;>simp [h]
theorem NY {α:Type} [Inhabited α] [DecidableEq α] (xs:List α) (x:α):x∈Lib.compact xs↔x∈xs:=by
 unfold Lib.compact Lib.compactUpTo
 simp only [List.mem_map,List.mem_filter,List.mem_range]
 constructor
 ·rintro ⟨i,⟨hi,_⟩,rfl⟩
  simp only [List.getElem!_toArray]
  rw [getElem!_pos xs i hi]
  exact List.getElem_mem hi
 ·intro hx
  have key:∀ (n i:Nat),i≤n→xs[i]?=some x→∃ j,(j<xs.length∧Lib.keeps xs.toArray j=true)∧xs.toArray[j]! =x:=by
   intro n
   induction n with
   |zero=>
    intro i hi he
    obtain rfl:i=0:=by omega
    have hl:=(List.getElem?_eq_some_iff.1 he).1
    refine ⟨0,⟨hl,by simp [Lib.keeps]⟩,?_⟩
    simp only [List.getElem!_toArray]
    rw [getElem!_pos xs 0 hl]
    exact (List.getElem?_eq_some_iff.1 he).2
   |succ n ih=>
    intro i hi he
    have hl:=(List.getElem?_eq_some_iff.1 he).1
    have hv:xs.toArray[i]! =x:=by
     simp only [List.getElem!_toArray]
     rw [getElem!_pos xs i hl]
     exact (List.getElem?_eq_some_iff.1 he).2
    by_cases hk:Lib.keeps xs.toArray i=true
    ·exact ⟨i,⟨hl,hk⟩,hv⟩
    ·have:¬ (i=0∨xs.toArray[i]! ≠xs.toArray[i - 1]!):=by simpa [Lib.keeps] using hk
     have h0:i≠0:=fun e=>this (.inl e)
     have he2:xs.toArray[i]! =xs.toArray[i - 1]! :=Classical.not_not.1 fun e=>this (.inr e)
     refine ih (i - 1) (by omega) ?_
     rw [List.getElem?_eq_getElem (by omega),←hv,he2]
     simp only [List.getElem!_toArray]
     rw [getElem!_pos xs (i - 1) (by omega)]
  obtain ⟨i,hi⟩:=List.getElem?_of_mem hx
  exact key i i (Nat.le_refl _) hi
theorem Tr {α:Type} [Inhabited α] [DecidableEq α] {R:α→α→Prop} {xs:List α} (anti:∀ a b,R a b→R b a→a=b) (refl:∀ a,R a a) (h:xs.Pairwise R):(Lib.compact xs).Pairwise fun a b=>R a b∧a≠b:=by
 unfold Lib.compact Lib.compactUpTo
 rw [List.pairwise_map]
 have h1:((List.range xs.length).filter (Lib.keeps xs.toArray)).Pairwise (·<·):=List.Pairwise.filter _ List.pairwise_lt_range
 refine (List.Pairwise.and_mem.1 h1).imp ?_
 rintro i j ⟨hi,hj,hij⟩
 have hj':=List.mem_filter.1 hj
 have hjl:j<xs.length:=List.mem_range.1 hj'.1
 have hk:j=0∨xs.toArray[j]! ≠xs.toArray[j - 1]! :=by simpa [Lib.keeps] using hj'.2
 simp only [List.getElem!_toArray] at hk ⊢
 rw [getElem!_pos xs i (by omega),getElem!_pos xs j hjl]
 rw [getElem!_pos xs j hjl,getElem!_pos xs (j - 1) (by omega)] at hk
 rw [List.pairwise_iff_getElem] at h
 refine ⟨h i j (by omega) hjl hij,fun e=>?_⟩
 have hne:xs[j]≠xs[j - 1]:=hk.resolve_left (by omega)
 rcases Nat.lt_or_ge i (j - 1) with c|c
 ·have a1:=h i (j - 1) (by omega) (by omega) c
  have a2:=h (j - 1) j (by omega) hjl (by omega)
  rw [e] at a1
  exact hne (anti _ _ a1 a2)
 ·have:i=j - 1:=by omega
  subst this
  exact hne e.symm
def Cy (ps:List An):List ByteArray:=Fl (Fb (ps.map (·.key)))
theorem NW (xs:List ByteArray):Fl (Fb xs)=(Lib.compact ((xs.map Eg).mergeSort fun x y=>decide (x≤y))).map EN:=by
 unfold Fl Fb
 rw [List.map_map,show Eg∘EN=id from funext Mt,List.map_id]
theorem Tp (xs:List ByteArray) (x:ByteArray):x∈Fl (Fb xs)↔x∈xs:=by
 rw [NW,List.mem_map]
 constructor
 ·rintro ⟨z,hz,rfl⟩
  rw [NY,List.mem_mergeSort,List.mem_map] at hz
  obtain ⟨y,hy,rfl⟩:=hz
  rwa [R7]
 ·intro hx
  exact ⟨Eg x,by rw [NY,List.mem_mergeSort];exact List.mem_map_of_mem hx,R7 x⟩
theorem Tq (xs:List ByteArray):Fw (Fl (Fb xs)):=by
 rw [NW]
 unfold Fw
 rw [List.pairwise_map]
 have h1:=List.pairwise_mergeSort (le:=fun x y:List UInt8=>decide (x≤y)) (fun a b c h1 h2=>by simp only [decide_eq_true_eq] at *;exact List.le_trans h1 h2) (fun a b=>by simp only [Bool.or_eq_true,decide_eq_true_eq];exact List.le_total a b) (xs.map Eg)
 have h2:=Tr (R:=fun x y:List UInt8=>x≤y) (fun a b=>List.le_antisymm) (fun a=>List.le_refl a) (h1.imp fun h=>by simpa using h)
 refine h2.imp ?_
 rintro a b ⟨hab,hne⟩
 cases hc:Bi (EN a) (EN b) with
 |true=>rfl
 |false=>
  exfalso
  rw [J1] at hc
  have hc:=of_decide_eq_false hc
  have e1:(EN a).data.toList=a:=Mt a
  have e2:(EN b).data.toList=b:=Mt b
  rw [e1,e2] at hc
  exact hne (List.le_antisymm hab hc)
theorem US (ps:List An):Cy ps=B6 [] (ps.map (·.key)):=by
 have h:=MR (ps.map (·.key)) [] List.Pairwise.nil
 refine RA (Tq _) h.1 fun x=>?_
 unfold Cy
 rw [Tp,h.2]
 simp
theorem ZP {xs ys:List An} (h:∀ k:ByteArray,xs.filter (fun p=>decide (p.key=k))=ys.filter (fun p=>decide (p.key=k))):Ci xs ys:=by
 refine ⟨List.Perm.length_eq (List.perm_iff_count.2 fun p=>?_),h⟩
 have e:∀ l:List An,l.count p=(l.filter fun q=>decide (q.key=p.key)).count p:=fun l=>(List.count_filter (by simp)).symm
 rw [e xs,e ys,h]
def Dn (ps:List An) (k:ByteArray):List An:=(Be ps k).map fun v=>⟨k,v⟩
def Dw (ps:List An) (ks:List ByteArray):List An:=ks.flatMap (Dn ps)
theorem HZ {ps:List An} {k:ByteArray} {p:An} (h:p∈Dn ps k):p.key=k:=by
 obtain ⟨v,_,rfl⟩:=List.mem_map.1 h
 rfl
theorem T8 (ps:List An) (k:ByteArray):(Dn ps k).filter (fun p=>decide (p.key=k))=Dn ps k:=
 List.filter_eq_self.2 fun p hp=>decide_eq_true (HZ hp)
theorem T7 (ps:List An) {k k0:ByteArray} (h:k≠k0):(Dn ps k).filter (fun p=>decide (p.key=k0))=[]:=
 List.filter_eq_nil_iff.2 fun p hp=>by rw [HZ hp];simpa using h
theorem LH (ps:List An) (k0:ByteArray):∀ {ks:List ByteArray},Fw ks→(k0∈ks→(Dw ps ks).filter (fun p=>decide (p.key=k0))=Dn ps k0)∧(k0∉ks→(Dw ps ks).filter (fun p=>decide (p.key=k0))=[])
 |[],_=>⟨fun h=>(by cases h),fun _=>rfl⟩
 |k::ks,h=>by
  have h':=List.pairwise_cons.1 h
  have ih:=LH ps k0 h'.2
  unfold Dw at *
  rw [List.flatMap_cons,List.filter_append]
  by_cases hk:k=k0
  ·subst hk
   have:k∉ks:=fun hm=>by have:=h'.1 k hm;rw [FF] at this;cases this
   rw [ih.2 this,T8,List.append_nil]
   exact ⟨fun _=>rfl,fun hn=>absurd (List.mem_cons_self ..) hn⟩
  ·rw [T7 ps hk,List.nil_append]
   refine ⟨fun hm=>ih.1 ?_,fun hn=>ih.2 fun hm=>hn (List.mem_cons_of_mem _ hm)⟩
   rcases List.mem_cons.1 hm with e|e
   ·exact absurd e.symm hk
   ·exact e
theorem Ov (ps:List An):∀ {ks:List ByteArray},Fw ks→E1 (Dw ps ks)
 |[],_=>List.Pairwise.nil
 |k::ks,h=>by
  have h':=List.pairwise_cons.1 h
  unfold Dw E1
  rw [List.flatMap_cons,List.pairwise_append]
  refine ⟨?_,Ov ps h'.2,fun p hp q hq=>?_⟩
  ·refine List.Pairwise.imp_of_mem (R:=fun _ _=>True) ?_ (List.pairwise_of_forall fun _ _=>trivial)
   intro p q hp hq _
   rw [HZ hp,HZ hq,FF]
  ·obtain ⟨k2,hk2,hq2⟩:=List.mem_flatMap.1 hq
   rw [HZ hp,HZ hq2]
   exact ID (h'.1 k2 hk2)
theorem Ow (ps:List An):Dw ps (B6 [] (ps.map (·.key)))=srt ps:=by
 have h:=MR (ps.map (·.key)) [] List.Pairwise.nil
 refine RS (ZP fun k=>?_) (Ov ps h.1)
 rw [T6]
 by_cases hm:k∈B6 [] (ps.map (·.key))
 ·rw [(LH ps k h.1).1 hm]
  rfl
 ·rw [(LH ps k h.1).2 hm]
  rw [h.2] at hm
  have:Be ps k=[]:=by
   unfold Be
   rw [List.map_eq_nil_iff,List.filter_eq_nil_iff]
   intro p hp hk
   exact hm (.inr (List.mem_map.2 ⟨p,hp,of_decide_eq_true hk⟩))
  rw [this]
  rfl
def E3 (xs:List An) (n:Int):Bool:=decide (¬ ((xs.length:Int)≤n∧∀ p∈xs,p.key.size≤100∧p.val.size≤100))
theorem OW {xs:List An} {n:Int} {k:Nat} {x:An} (hx:xs[k]?=some x) (h:100<x.key.size∨100<x.val.size):true=E3 xs n:=by
 have h3:¬ ((xs.length:Int)≤n∧∀ p∈xs,p.key.size≤100∧p.val.size≤100):=fun h2=>absurd (h2.2 x (List.mem_of_getElem? hx)) (by omega)
 exact (decide_eq_true h3).symm
theorem OV {xs:List An} {n:Int} {k:Nat} (hn:∀ y∈xs.take k,y.key.size≤100∧y.val.size≤100) (h:xs.length≤k∨n<(xs.length:Int)):decide (n<(xs.length:Int))=E3 xs n:=by
 refine decide_eq_decide.2 ⟨fun h1 h2=>by omega,fun h1=>?_⟩
 apply Classical.byContradiction
 intro h2
 refine h1 ⟨by omega,?_⟩
 rwa [List.take_of_length_le (by omega)] at hn
theorem Qm (ps:List An) (k:ByteArray):(Be ps k).length≤ps.length:=by
 unfold Be
 rw [List.length_map]
 exact List.length_filter_le _ _
theorem Qo {xs:List An} {key:ByteArray} {k:Nat} {x:An} (hx:xs[k]?=some x) (h:x.key=key):Be (xs.take (k+1)) key=Be (xs.take k) key++[x.val]:=by
 unfold Be
 rw [List.take_add_one,hx]
 simp [h]
theorem Qn {xs:List An} {key:ByteArray} {k:Nat} {x:An} (hx:xs[k]?=some x) (h:¬ x.key=key):Be (xs.take (k+1)) key=Be (xs.take k) key:=by
 unfold Be
 rw [List.take_add_one,hx]
 simp [h]
theorem Pc {xs:List An} {k:Nat} {x:An} (hx:xs[k]?=some x):(xs.take (k+1)).map (·.key)=(xs.take k).map (·.key)++[x.key]:=by
 rw [List.take_add_one,hx]
 simp
theorem M6 (xs:List ByteArray):(Fb xs).length=xs.length:=by simp [Fb]
theorem Tn (xs:List ByteArray):(Fl xs).length≤xs.length:=by
 have:=NX (xs.map Eg)
 simpa [Fl] using this
theorem Pd (ps:List An):(Cy ps).length≤ps.length:=by
 unfold Cy
 have:=Tn (Fb (ps.map (·.key)))
 rw [M6,List.length_map] at this
 exact this
def CG (p:An):Prop:=p.key.size≤16∧p.val.size≤64
instance (p:An):Decidable (CG p):=by unfold CG;infer_instance
def GN (xs:List An):Prop:=∀ p∈xs,CG p
instance (xs:List An):Decidable (GN xs):=by unfold GN;infer_instance
theorem WO (xs:List An):(!(xs.any fun p=>!decide (CG p)))=decide (GN xs):=by
 rw [Bool.eq_iff_iff,decide_eq_true_iff]
 unfold GN
 simp
theorem O2 {x:ByteArray}:∀ {out:List ByteArray} {k:Nat},(∀ y∈out.take k,Bi y x=true)→out[k]?=some x→DP x out=out
 |[],k,_,h=>by simp at h
 |y::out,0,_,h=>by
  obtain rfl:y=x:=by simpa using h
  unfold DP
  rw [if_neg (by rw [FF];decide),if_pos rfl]
 |y::out,k+1,hn,h=>by
  unfold DP
  rw [if_pos (hn y (by simp)),O2 (k:=k) (fun z hz=>hn z (by simp [hz])) (by simpa using h)]
theorem Ix {x:ByteArray}:∀ {out:List ByteArray} {k:Nat},k≤out.length→(∀ y∈out.take k,Bi y x=true)→(out.length=k∨∃ z,out[k]?=some z∧¬ Bi z x=true∧¬ z=x)→DP x out=out.take k++[x]++out.drop k
 |[],k,hk,_,_=>by
  obtain rfl:k=0:=by simpa using hk
  rfl
 |y::out,0,_,_,h=>by
  rcases h with h|⟨z,hz,h1,h2⟩
  ·simp at h
  ·obtain rfl:y=z:=by simpa using hz
   unfold DP
   rw [if_neg h1,if_neg h2]
   rfl
 |y::out,k+1,hk,hn,h=>by
  unfold DP
  rw [if_pos (hn y (by simp)),Ix (k:=k) (by simpa using hk) (fun z hz=>hn z (by simp [hz])) (by simpa using h)]
  simp
theorem Rc:∀ (xs out:List ByteArray) (x:ByteArray),B6 out (xs++[x])=DP x (B6 out xs)
 |[],_,_=>rfl
 |y::xs,out,x=>by rw [List.cons_append,B6,Rc xs,B6]
def B2 (xs:List An) (i:Nat):List ByteArray:=B6 [] ((xs.take i).map (·.key))
theorem HY {xs:List An} {i:Nat} {x:An} (hx:xs[i]?=some x):B2 xs (i+1)=DP x.key (B2 xs i):=by
 unfold B2
 rw [Pc hx,Rc]
theorem O3 {x:ByteArray}:∀ {out:List ByteArray},(DP x out).length≤out.length+1
 |[]=>by simp [DP]
 |y::out=>by
  have:=O3 (x:=x) (out:=out)
  unfold DP
  split
  ·simp only [List.length_cons];omega
  ·split<;>simp
theorem Qv (xs:List An):∀ i,(B2 xs i).length≤i
 |0=>by simp [B2,B6]
 |i+1=>by
  have ih:=Qv xs i
  rcases Nat.lt_or_ge i xs.length with h|h
  ·rw [HY (List.getElem?_eq_getElem h)]
   exact Nat.le_trans O3 (by omega)
  ·have:B2 xs (i+1)=B2 xs i:=by
    unfold B2
    rw [List.take_of_length_le (by omega),List.take_of_length_le (by omega)]
   rw [this]
   omega
theorem Oq (ps:List An) (a b:List ByteArray):Dw ps (a++b)=Dw ps a++Dw ps b:=List.flatMap_append
theorem Ot (ps:List An) (i:Nat):(Dw ps ((B6 [] (ps.map (·.key))).take i)).length≤ps.length:=by
 have h:=Ow ps
 rw [←List.take_append_drop i (B6 [] (ps.map (·.key))),Oq] at h
 have:=congrArg List.length h
 rw [List.length_append,Ky] at this
 omega
theorem Ou {ps:List An} {ks:List ByteArray} {i:Nat} {x:ByteArray} (hx:ks[i]?=some x):Dw ps (ks.take (i+1))=Dw ps (ks.take i)++Dn ps x:=by
 rw [List.take_add_one,hx,Oq]
 simp [Dw]
theorem XQ {ps:List An} {x v:ByteArray} {k:Nat} (hv:(Be ps x)[k]?=some v):(Dn ps x).take (k+1)=(Dn ps x).take k++[⟨x,v⟩]:=by
 unfold Dn
 rw [List.take_add_one,List.getElem?_map,hv]
 rfl
theorem XO {ps:List An} {x:ByteArray} {k:Nat} (h:(Be ps x).length≤k):(Dn ps x).take k=Dn ps x:=List.take_of_length_le (by simpa [Dn] using h)
theorem XP (ps:List An) (x:ByteArray):(Dn ps x).length=(Be ps x).length:=by simp [Dn]
theorem Bl {α:Type} {xs:List α} {k:Nat} {x:α} (h:xs[k]?=some x):x∈xs:=List.mem_of_getElem? h
structure Ff where
 A:Option Addr
 n:Nat
 c:Nat
def Lx (h:Ff):List Value:=[.slice h.A h.n h.c]
def F5:Kd Ff:=flat Lx 1 (by omega) (fun _=>rfl) (fun _ c h=>by simp [Lx] at h;subst h;rfl)
def Ha:Value→Ff
 |.slice A n c=>⟨A,n,c⟩
 |_=>⟨none,0,0⟩
section
variable {w w0:World} {F F0:AV} {As Rs:List SP} {α:Type} {d:Kd α}
theorem OY:∀ {us:List (Value×List α)} {cs:List Value},AX (AU d) w F us cs→∀ p∈us,(Af d p.1 p.2).P w F
 |[],_,_,p,hp=>by cases hp
 |q::us,_,⟨c,cs',e,h1,h2⟩,p,hp=>by
  cases hp with
  |head=>exact h1.2
  |tail _ hm=>exact OY h2 p hm
end
/-! ### Parts -/
def CU (key:ByteArray):Nat→Int
 |0=>7
 |k+1=>IntKind.u32.wrap (IntKind.u32.wrap (31*CU key k)+((key[k]?.getD 0).toNat:Int))
theorem bD (x:Int):0≤IntKind.u32.wrap x∧IntKind.u32.wrap x<4294967296:=by
 simp only [IntKind.wrap,IntKind.bits,IntKind.signed]
 simp
 omega
theorem HV (key:ByteArray) (k:Nat):0≤CU key k∧CU key k<4294967296:=by
 cases k with
 |zero=>exact ⟨by simp [CU],by simp [CU]⟩
 |succ k=>exact bD _
def H0 (key:ByteArray) (n:Int):Int:=if n<1 then -1 else CU key key.size%n
def EA (xs:List An) (n p:Int):List An:=xs.filter fun x=>decide (H0 x.key n=p)
theorem Qs {xs:List An} {n p:Int} {k:Nat} {x:An} (hx:xs[k]?=some x) (h:H0 x.key n=p):EA (xs.take (k+1)) n p=EA (xs.take k) n p++[x]:=by
 unfold EA
 rw [DV hx,List.filter_append]
 simp [h]
theorem Qr {xs:List An} {n p:Int} {k:Nat} {x:An} (hx:xs[k]?=some x) (h:¬ H0 x.key n=p):EA (xs.take (k+1)) n p=EA (xs.take k) n p:=by
 unfold EA
 rw [DV hx,List.filter_append]
 simp [h]
theorem My (xs:List An) (n p:Int):(EA xs n p).length≤xs.length:=List.length_filter_le ..
theorem Qh {key:ByteArray} {k:Nat} {b:UInt8} (hb:key[k]?=some b):CU key (k+1)=IntKind.u32.wrap (IntKind.u32.wrap (31*CU key k)+(b.toNat:Int)):=by
 rw [CU,hb]
 rfl
theorem Sn (b:UInt8):IntKind.u32.wrap (b.toNat:Int)=(b.toNat:Int):=by
 have:=UInt8.toNat_lt b
 simp only [IntKind.wrap,IntKind.bits,IntKind.signed]
 simp
 omega
theorem NH {xs:List Bm} (h:xs.length≤40):C3 xs<0↔∀ p∈xs,Bf p xs.length:=by
 have e:xs.take 40=xs:=List.take_of_length_le h
 have h2:=Om (Ec xs.length) xs
 unfold C3
 rw [e]
 constructor
 ·intro hb p hp
  apply Classical.byContradiction
  intro hg
  have h3:xs.any (Ec xs.length)=true:=List.any_eq_true.2 ⟨p,hp,by simp [Ec,hg]⟩
  rw [h3] at h2
  rw [if_pos (of_decide_eq_true h2)] at hb
  have:=of_decide_eq_true h2
  omega
 ·intro hg
  have h3:xs.any (Ec xs.length)=false:=List.any_eq_false.2 (fun p hp=>by simp [Ec,hg p hp])
  rw [h3] at h2
  rw [if_neg (of_decide_eq_false h2),if_neg (by omega)]
  omega
theorem Fd {α:Type} {Q:α→Prop} {xs:List α} {k:Nat} {x:α} (hn:∀ y∈xs.take k,Q y) (hx:xs[k]?=some x) (h:Q x):∀ y∈xs.take (k+1),Q y:=by
 intro y hy
 rw [List.take_add_one,hx] at hy
 rcases List.mem_append.1 hy with hy|hy
 ·exact hn y hy
 ·obtain rfl:y=x:=by simpa using hy
  exact h
structure FU where
 kind:Int
 part:Int
 sp:Int
 att:Int
 why:Int
 sv:Value
 set:List Int
 pv:Value
 pairs:List An
def Jr (r:FU):List Value:=[.int .i64 r.kind,.int .i64 r.part,.int .i64 r.sp,.int .i64 r.att,.int .i64 r.why,r.sv,r.pv]
def L5:Kd FU where
 sz:=7
 O w F x cs:=cs=Jr x∧∃ F1 F2:AV,(∀ k,F1 k→F k)∧(∀ k,F2 k→F k)∧(∀ k,F1 k→¬ F2 k)∧(BK (AN .i64)).O w F1 x.set [x.sv]∧(BK Al).O w F2 x.pairs [x.pv]
 R w F x cs:=cs=Jr x∧(BK (AN .i64)).R w F x.set [x.sv]∧(BK Al).R w F x.pairs [x.pv]
 O_loc:=fun ⟨e,F1,F2,s1,s2,dj,h1,h2⟩ hk=>⟨e,F1,F2,s1,s2,dj,(BK _).O_loc h1 (fun k x=>hk k (s1 k x)),(BK _).O_loc h2 (fun k x=>hk k (s2 k x))⟩
 O_mono:=fun ⟨e,F1,F2,s1,s2,dj,h1,h2⟩ hk=>⟨e,F1,F2,fun k x=>hk k (s1 k x),fun k x=>hk k (s2 k x),dj,h1,h2⟩
 R_loc:=fun ⟨e,h1,h2⟩ hk=>⟨e,(BK _).R_loc h1 hk,(BK _).R_loc h2 hk⟩
 R_mono:=fun ⟨e,h1,h2⟩ hk=>⟨e,(BK _).R_mono h1 hk,(BK _).R_mono h2 hk⟩
 O_R:=fun ⟨e,F1,F2,s1,s2,dj,h1,h2⟩=>⟨e,(BK _).R_mono ((BK _).O_R h1) s1,(BK _).R_mono ((BK _).O_R h2) s2⟩
 len h:=by rw [h.1];rfl
 one:=fun ⟨e,h1,h2⟩ c hc=>by
  have g1:=(BK _).one h1
  have g2:=(BK _).one h2
  subst e
  simp only [Jr,List.mem_cons,List.not_mem_nil,or_false] at hc
  rcases hc with rfl|rfl|rfl|rfl|rfl|rfl|rfl
  ·rfl
  ·rfl
  ·rfl
  ·rfl
  ·rfl
  ·exact g1 _ (List.mem_cons_self ..)
  ·exact g2 _ (List.mem_cons_self ..)
 pos:=by omega
structure Jb where
 kind:Int
 part:Int
 sp:Int
 att:Int
 why:Int
 hs:Ff
 hp:Ff
def Js (r:Jb):List Value:=[.int .i64 r.kind,.int .i64 r.part,.int .i64 r.sp,.int .i64 r.att,.int .i64 r.why,.slice r.hs.A r.hs.n r.hs.c,.slice r.hp.A r.hp.n r.hp.c]
def L6:Kd Jb:=flat Js 7 (by omega) (fun _=>rfl) (fun _ c h=>by
 simp only [Js,List.mem_cons,List.not_mem_nil,or_false] at h
 rcases h with rfl|rfl|rfl|rfl|rfl|rfl|rfl<;>rfl)
def I3 (r:FU):Jb:=⟨r.kind,r.part,r.sp,r.att,r.why,Ha r.sv,Ha r.pv⟩
section
variable {w w0:World} {F F0:AV} {As Rs:List SP} {A:Option Addr} {m c:Nat}
theorem Ri:∀ {us:List FU} {cs:List Value},AX L5 w F us cs→AX L6 w F (us.map I3) cs
 |[],_,h=>h
 |x::us,_,⟨c,cs',e,⟨h1,h2,h3⟩,h4⟩=>by
  obtain ⟨A1,c1,e1,_⟩:=FM (d:=AN .i64) (w:=w) (F:=F) h2
  obtain ⟨A2,c2,e2,_⟩:=FM (d:=Al) (w:=w) (F:=F) h3
  exact ⟨c,cs',e,show c=Js (I3 x) by rw [h1];simp [Jr,Js,I3,Ha,e1,e2],Ri h4⟩
theorem YR {v:Value} {us:List FU} (h:(Af L5 v us).P w F):(Af L6 v (us.map I3)).P w F:=by
 obtain ⟨A',n',c',e,h1,h2,h3,cs,h4,h5⟩:=h
 exact ⟨A',n',c',e,by rw [List.length_map,h1],h2,h3,cs,h4,Ri h5⟩
theorem Hd.recs {v:Value} {us:List FU} (H:Hd w0 F0 w As Rs) (j:Nat) (hj:Rs[j]?=some (Af L5 v us)):∃ fs:List Jb,fs.length=us.length∧Hd w0 F0 w As (Af L6 v fs::Rs):=
 ⟨us.map I3,List.length_map ..,H.addR fun _ h=>YR (h _ (List.mem_of_getElem? hj))⟩
end
section
variable {P:Program} {t:TypeId}
end
/-! ### What records say -/
theorem Dv {α:Type} {xs:List α} {k:Nat} {x:α} (hx:xs[k]?=some x):xs.drop k=x::xs.drop (k+1):=by
 have hlt:k<xs.length:=by
  rcases Nat.lt_or_ge k xs.length with h|h
  ·exact h
  ·simp [List.getElem?_eq_none h] at hx
 rw [List.drop_eq_getElem_cons hlt]
 rw [List.getElem?_eq_getElem hlt] at hx
 rw [Option.some.inj hx]
theorem Ed {s:ByteArray} {i:Nat} {c:UInt8} (h:s[i]?=some c):s.data.toList[i]?=some c:=by
 rw [getElem?_def] at h
 split at h
 ·rename_i hi
  have e:s[i]=c:=Option.some.inj h
  rw [←e,Array.getElem?_toList,Array.getElem?_eq_getElem (show i<s.data.size from hi)]
  rfl
 ·cases h
theorem G7 (c:UInt8) (v:Az):DL c v=!((decide ((c.toNat:Int)=110) && v.t)||(decide ((c.toNat:Int)=98) && !v.t)):=by
 have h:∀ d:UInt8,(c==d)=decide ((c.toNat:Int)=(d.toNat:Int)):=by
  intro d
  rw [Bool.eq_iff_iff,beq_iff_eq,decide_eq_true_eq]
  constructor
  ·rintro rfl;rfl
  ·intro h
   exact UInt8.toNat_inj.1 (by omega)
 unfold DL
 rw [h,h]
 rfl
theorem Ju {ks:List UInt8} {xs:List Az} {i:Nat} {c:UInt8} {x:Az} (hk:ks[i]?=some c) (hx:xs[i]?=some x) (hb:DL c x=true):DN (ks.drop (i+1)) (xs.drop (i+1))=DN (ks.drop i) (xs.drop i):=by
 rw [Dv hk,Dv hx]
 simp [DN,hb]
theorem LF {ks:List UInt8} {xs:List Az} {i:Nat} {c:UInt8} {x:Az} (hk:ks[i]?=some c) (hx:xs[i]?=some x) (hb:DL c x=false):DN (ks.drop i) (xs.drop i)=false:=by
 rw [Dv hk,Dv hx]
 simp [DN,hb]
theorem Ub {ks:List UInt8} {xs:List Az} {i:Nat} (h:xs.length≤i):DN (ks.drop i) (xs.drop i)=true:=by
 rw [List.drop_eq_nil_of_le h]
 cases ks.drop i<;>rfl
theorem J7 {op:Int} {stk:List Az} (h:stk.length<(AW op).size):AC op stk=(1,stk,[]):=if_pos h
theorem HT {op:Int} {stk:List Az} (h:¬ stk.length<(AW op).size) (h2:DN (AW op).data.toList (stk.drop (stk.length - (AW op).size))=false):AC op stk=(2,stk,[]):=by
 unfold AC
 rw [if_neg h,if_neg (by rw [h2];decide)]
theorem IE {op:Int} {stk:List Az} (h:¬ stk.length<(AW op).size) (h2:DN (AW op).data.toList (stk.drop (stk.length - (AW op).size))=true):AC op stk=(0,stk.take (stk.length - (AW op).size),stk.drop (stk.length - (AW op).size)):=by
 unfold AC
 rw [if_neg h,if_pos h2]
theorem Mo {op:Int} {stk:List Az} (h:(AC op stk).1=0):(AC op stk).2.2.length=(AW op).size∧(AC op stk).2.1.length≤stk.length∧(∀ v∈(AC op stk).2.2,v∈stk)∧(∀ v∈(AC op stk).2.1,v∈stk):=by
 by_cases h1:stk.length<(AW op).size
 ·rw [J7 h1] at h;cases h
 ·cases h2:DN (AW op).data.toList (stk.drop (stk.length - (AW op).size)) with
  |false=>rw [HT h1 h2] at h;cases h
  |true=>
   rw [IE h1 h2]
   refine ⟨by simp only [List.length_drop];omega,by simp only [List.length_take];omega,fun v hv=>List.mem_of_mem_drop hv,fun v hv=>List.mem_of_mem_take hv⟩
theorem QL {stk vs:List Az} {k:Nat} {x:Az} (hx:vs[k]?=some x) (h:DI x=true):Bz stk vs=(4,stk):=by
 unfold Bz
 rw [if_pos (List.any_eq_true.2 ⟨x,Bl hx,h⟩)]
theorem NE {vs:List Az} (hn:∀ y∈vs,DI y=false):¬ vs.any DI=true:=by
 intro h
 obtain ⟨x,h1,h2⟩:=List.any_eq_true.1 h
 rw [hn x h1] at h2
 cases h2
theorem QN {stk vs:List Az} (hn:∀ y∈vs,DI y=false) (h:16<stk.length+vs.length):Bz stk vs=(1,stk):=by
 unfold Bz
 rw [if_neg (NE hn),if_pos h]
theorem QM {stk vs:List Az} (hn:∀ y∈vs,DI y=false) (h:¬ 16<stk.length+vs.length):Bz stk vs=(0,stk++vs):=by
 unfold Bz
 rw [if_neg (NE hn),if_neg h]
theorem X1 (stk vs:List Az) (h:stk.length≤16):(Bz stk vs).2.length≤16:=by
 unfold Bz
 split
 ·exact h
 ·split
  ·exact h
  ·simp only [List.length_append];omega
theorem Lg {v:Az} (h1:v.t=true) (h2:(64:Int)<(v.b.size:Int)):DI v=true:=by
 unfold DI
 rw [h1,decide_eq_true (by omega)]
 rfl
theorem HC {v:Az} (h:v.t=false∨¬ (64:Int)<(v.b.size:Int)):DI v=false:=by
 unfold DI
 rcases h with h|h
 ·rw [h];rfl
 ·rw [decide_eq_false (by omega),Bool.and_false]
theorem N8 {told:List An} {k v:ByteArray} (h:(16:Int)<(k.size:Int)):C_ told k v=(4,told):=if_pos (by omega)
theorem N9 {told:List An} {k v:ByteArray} (h:¬ (16:Int)<(k.size:Int)) (h2:40≤told.length):C_ told k v=(5,told):=by
 unfold C_
 rw [if_neg (by omega),if_pos h2]
theorem Lw {told:List An} {k v:ByteArray} (h:¬ (16:Int)<(k.size:Int)) (h2:¬ 40≤told.length):C_ told k v=(0,told++[⟨k,v⟩]):=by
 unfold C_
 rw [if_neg (by omega),if_neg h2]
def CN {α:Type} (d:Kd α) (v:Value) (xs:List α) (v2:Value) (ys:List α):Prop:=∀ (w:World) (F:AV),(Af d v xs).P w F→(Af d v2 ys).P w F
theorem CN.refl {α:Type} (d:Kd α) (v:Value) (xs:List α):CN d v xs v xs:=fun _ _ h=>h
def FG (stk:List Az):List ByteArray→Int×List Az×List ByteArray
 |[]=>((Bz stk [Ch 0]).1,(Bz stk [Ch 0]).2,[])
 |v::vs=>((Bz stk [C2 v,Ch 1]).1,(Bz stk [C2 v,Ch 1]).2,vs)
theorem Xe {stk:List Az} {vals:List ByteArray} {x:ByteArray} (hx:vals[0]?=some x):FG stk vals=((Bz stk [C2 x,Ch 1]).1,(Bz stk [C2 x,Ch 1]).2,vals.drop 1):=by
 cases vals with
 |nil=>simp at hx
 |cons y vs=>simp at hx;subst hx;rfl
theorem UU (op:Int):
    Cn Tryz.prog 302 [.int .i64 op] [] [] (fun v Bs=>v=.string (AW op)∧Bs=[]):=by
 intro w0 F0 H
 refine enter Tryz.func302 U U (Nat.le_of_ble_eq_true U) (Z (Ac (Ab U (Aa (Y (Z (Z (Ac (Ab U (Aa (Y (AK (Z (Z (Ac (V U U (AT U U U) (Ab U (Aa (Y ?_)))))))))))))))))))
 refine Aq U (fun h1=>?_) (fun h1=>?_)
 ·refine Av (Y ?_)
  refine Aq U (fun h2=>?_) (fun h2=>?_)
  ·exact Z (Ac (Ab U (Aa (Y (Ai (Ax (Ao (Am U U (Ag ⟨congrArg Value.string (by unfold AW;repeat (first |rw [if_pos (by omega)]|rw [if_neg (by omega)])),rfl⟩ H)))))))))
  exact absurd h1 h2
 refine Z (Ac (V U U (AT U U U) (Ab U (Aa (Y ?_)))))
 refine Aq U (fun h3=>?_) (fun h3=>?_)
 ·refine Av (Y ?_)
  refine Aq U (fun h4=>?_) (fun h4=>?_)
  ·exact Z (Ac (Ab U (Aa (Y (Ai (Ax (Ao (Am U U (Ag ⟨congrArg Value.string (by unfold AW;repeat (first |rw [if_pos (by omega)]|rw [if_neg (by omega)])),rfl⟩ H)))))))))
  exact absurd h3 h4
 refine Ac (V U U (AT U U U) (Ab U (Aa (Y ?_))))
 refine Aq U (fun h5=>?_) (fun h5=>?_)
 ·exact Z (Ac (Ab U (Aa (Y (Ai (Ax (Ao (Am U U (Ag ⟨congrArg Value.string (by unfold AW;repeat (first |rw [if_pos (by omega)]|rw [if_neg (by omega)])),rfl⟩ H)))))))))
 refine Z (Z (Ac (V U U (AT U U U) (Ab U (Aa (Y ?_))))))
 refine Aq U (fun h6=>?_) (fun h6=>?_)
 ·refine Av (Y ?_)
  refine Aq U (fun h7=>?_) (fun h7=>?_)
  ·exact Z (Ac (Ab U (Aa (Y (Ai (Ax (Ao (Am U U (Ag ⟨congrArg Value.string (by unfold AW;repeat (first |rw [if_pos (by omega)]|rw [if_neg (by omega)])),rfl⟩ H)))))))))
  exact absurd h6 h7
 refine Ac (V U U (AT U U U) (Ab U (Aa (Y ?_))))
 refine Aq U (fun h8=>?_) (fun h8=>?_)
 ·exact Z (Ac (Ab U (Aa (Y (Ai (Ax (Ao (Am U U (Ag ⟨congrArg Value.string (by unfold AW;repeat (first |rw [if_pos (by omega)]|rw [if_neg (by omega)])),rfl⟩ H)))))))))
 refine Z (Z (Ac (V U U (AT U U U) (Ab U (Aa (Y ?_))))))
 refine Aq U (fun h9=>?_) (fun h9=>?_)
 ·refine Av (Y ?_)
  refine Aq U (fun h10=>?_) (fun h10=>?_)
  ·exact Z (Ac (Ab U (Aa (Y (Ai (Ax (Ao (Am U U (Ag ⟨congrArg Value.string (by unfold AW;repeat (first |rw [if_pos (by omega)]|rw [if_neg (by omega)])),rfl⟩ H)))))))))
  exact absurd h9 h10
 refine Z (Ac (V U U (AT U U U) (Ab U (Aa (Y ?_)))))
 refine Aq U (fun h11=>?_) (fun h11=>?_)
 ·refine Av (Y ?_)
  refine Aq U (fun h12=>?_) (fun h12=>?_)
  ·exact Z (Ac (Ab U (Aa (Y (Ai (Ax (Ao (Am U U (Ag ⟨congrArg Value.string (by unfold AW;repeat (first |rw [if_pos (by omega)]|rw [if_neg (by omega)])),rfl⟩ H)))))))))
  exact absurd h11 h12
 refine Z (Ac (V U U (AT U U U) (Ab U (Aa (Y ?_)))))
 refine Aq U (fun h13=>?_) (fun h13=>?_)
 ·refine Av (Y ?_)
  refine Aq U (fun h14=>?_) (fun h14=>?_)
  ·exact Z (Ac (Ab U (Aa (Y (Ai (Ax (Ao (Am U U (Ag ⟨congrArg Value.string (by unfold AW;repeat (first |rw [if_pos (by omega)]|rw [if_neg (by omega)])),rfl⟩ H)))))))))
  exact absurd h13 h14
 refine Ac (V U U (AT U U U) (Ab U (Aa (Y ?_))))
 refine Aq U (fun h15=>?_) (fun h15=>?_)
 ·exact Z (Ac (Ab U (Aa (Y (Ai (Ax (Ao (Am U U (Ag ⟨congrArg Value.string (by unfold AW;repeat (first |rw [if_pos (by omega)]|rw [if_neg (by omega)])),rfl⟩ H)))))))))
 refine Z (Z (Ac (V U U (AT U U U) (Ab U (Aa (Y ?_))))))
 refine Aq U (fun h16=>?_) (fun h16=>?_)
 ·refine Av (Y ?_)
  refine Aq U (fun h17=>?_) (fun h17=>?_)
  ·exact Z (Ac (Ab U (Aa (Y (Ai (Ax (Ao (Am U U (Ag ⟨congrArg Value.string (by unfold AW;repeat (first |rw [if_pos (by omega)]|rw [if_neg (by omega)])),rfl⟩ H)))))))))
  exact absurd h16 h17
 refine Ac (V U U (AT U U U) (Ab U (Aa (Y ?_))))
 refine Aq U (fun h18=>?_) (fun h18=>?_)
 ·exact Z (Ac (Ab U (Aa (Y (Ai (Ax (Ao (Am U U (Ag ⟨congrArg Value.string (by unfold AW;repeat (first |rw [if_pos (by omega)]|rw [if_neg (by omega)])),rfl⟩ H)))))))))
 refine Z (Z (Ac (V U U (AT U U U) (Ab U (Aa (Y ?_))))))
 refine Aq U (fun h19=>?_) (fun h19=>?_)
 ·refine Av (Y ?_)
  refine Aq U (fun h20=>?_) (fun h20=>?_)
  ·exact Z (Ac (Ab U (Aa (Y (Ai (Ax (Ao (Am U U (Ag ⟨congrArg Value.string (by unfold AW;repeat (first |rw [if_pos (by omega)]|rw [if_neg (by omega)])),rfl⟩ H)))))))))
  exact absurd h19 h20
 refine Ac (V U U (AT U U U) (Ab U (Aa (Y ?_))))
 refine Aq U (fun h21=>?_) (fun h21=>?_)
 ·exact Z (Ac (Ab U (Aa (Y (Ai (Ax (Ao (Am U U (Ag ⟨congrArg Value.string (by unfold AW;repeat (first |rw [if_pos (by omega)]|rw [if_neg (by omega)])),rfl⟩ H)))))))))
 refine Z (Ac (V U U (AT U U U) (Ab U (Aa (Y ?_)))))
 refine Aq U (fun h22=>?_) (fun h22=>?_)
 ·exact Z (Ac (Ab U (Aa (Y (Ai (Ax (Ao (Am U U (Ag ⟨congrArg Value.string (by unfold AW;repeat (first |rw [if_pos (by omega)]|rw [if_neg (by omega)])),rfl⟩ H)))))))))
 refine Z (Ac (V U U (AT U U U) (Ab U (Aa (Y ?_)))))
 refine Aq U (fun h23=>?_) (fun h23=>?_)
 ·exact Z (Ac (Ab U (Aa (Y (Ai (Ax (Ao (Am U U (Ag ⟨congrArg Value.string (by unfold AW;repeat (first |rw [if_pos (by omega)]|rw [if_neg (by omega)])),rfl⟩ H)))))))))
 refine Z (Z (Ac (V U U (AT U U U) (Ab U (Aa (Y ?_))))))
 refine Aq U (fun h24=>?_) (fun h24=>?_)
 ·refine Av (Y ?_)
  refine Aq U (fun h25=>?_) (fun h25=>?_)
  ·exact Z (Ac (Ab U (Aa (Y (Ai (Ax (Ao (Am U U (Ag ⟨congrArg Value.string (by unfold AW;repeat (first |rw [if_pos (by omega)]|rw [if_neg (by omega)])),rfl⟩ H)))))))))
  exact absurd h24 h25
 refine Ac (V U U (AT U U U) (Ab U (Aa (Y ?_))))
 refine Aq U (fun h26=>?_) (fun h26=>?_)
 ·exact Z (Ac (Ab U (Aa (Y (Ai (Ax (Ao (Am U U (Ag ⟨congrArg Value.string (by unfold AW;repeat (first |rw [if_pos (by omega)]|rw [if_neg (by omega)])),rfl⟩ H)))))))))
 exact Av (AS (Y (Z (Ac (Ab U (Aa (Y (Ai (Am U U (Ag ⟨congrArg Value.string (by unfold AW;repeat (first |rw [if_pos (by omega)]|rw [if_neg (by omega)])),rfl⟩ H))))))))))
theorem FS (n:Int):
    Cn Tryz.prog 266 [.int .i64 n] [] [] (fun v Bs=>v=.agg #[.bool false,.int .i64 n,.string ⟨#[]⟩]∧Bs=[]):=by
 intro w0 F0 H
 refine enter Tryz.func266 U U (Nat.le_of_ble_eq_true U) (Z (Ac (Do U U U BV H (fun b1 w H=>(Aa (Y (Z (Ac (Ab U (V U U (CV (parts:=[(1,.tmp 3)]) (vs:=[.int .i64 n]) (cs:=[.bool false,.int .i64 n,.string ⟨#[]⟩]) U Jh U U) (By U U U B5 U U H U (Nat.le_of_ble_eq_true U) (fun u hu=>by simp [Value.cells] at hu;rcases hu with rfl|rfl|rfl<;>rfl) (fun w H=>(Aa (Y (Ai (EW (cs:=[.bool false,.int .i64 n,.string ⟨#[]⟩]) U U B5 U (H.cellsI 0 U U) ?_))))))))))))))))
 replace H:=H.nil
 exact Ag ⟨rfl,rfl⟩ H
theorem Ih (s:ByteArray):
    Cn Tryz.prog 267 [.string s] [] [] (fun v Bs=>v=.agg #[.bool true,.int .i64 0,.string s]∧Bs=[]):=by
 intro w0 F0 H
 refine enter Tryz.func267 U U (Nat.le_of_ble_eq_true U) (Z (Ac (Do U U U BV H (fun b1 w H=>(Aa (Y (Z (Ac (Ab U (V U U (CV (parts:=[(0,.const (.bool true)),(2,.tmp 3)]) (vs:=[.bool true,.string s]) (cs:=[.bool true,.int .i64 0,.string s]) U Jh U U) (By U U U B5 U U H U (Nat.le_of_ble_eq_true U) (fun u hu=>by simp [Value.cells] at hu;rcases hu with rfl|rfl|rfl<;>rfl) (fun w H=>(Aa (Y (Ai (EW (cs:=[.bool true,.int .i64 0,.string s]) U U B5 U (H.cellsI 0 U U) ?_))))))))))))))))
 replace H:=H.nil
 exact Ag ⟨rfl,rfl⟩ H
theorem Qq (b:Bool):
    Cn Tryz.prog 270 [.bool b] [] [] (fun v Bs=>v=.agg #[.bool false,.int .i64 (if b=true then 1 else 0),.string ⟨#[]⟩]∧Bs=[]):=by
 intro w0 F0 H
 refine enter Tryz.func270 U U (Nat.le_of_ble_eq_true U) (Z (Ac (Do U U U BV H (fun b1 w H=>(Aa (Y (Z (Z (Ac (Ab U (Aa (Y ?_))))))))))))
 refine DJ (b:=b) U (fun h2=>?_) (fun h2=>?_)
 ·refine Z (Ac (sc (FS 1) H l0 U U (At FD U U) ?_))
  rintro _ _ w ⟨rfl,rfl⟩ H
  refine By U U U B5 U U H U (Nat.le_of_ble_eq_true U) (fun u hu=>by simp [Value.cells] at hu;rcases hu with rfl|rfl|rfl<;>rfl) (fun w H=>(Aa (Y (Ai (Ao (EW (cs:=[.bool false,.int .i64 1,.string ⟨#[]⟩]) U U B5 U (H.cellsI 0 U U) ?_))))))
  replace H:=H.nil
  exact Ag ⟨by simp only [h2];rfl,rfl⟩ H
 refine Av (Y (Z (Ac (sc (FS 0) H l0 U U (At FD U U) ?_))))
 rintro _ _ w ⟨rfl,rfl⟩ H
 refine By U U U B5 U U H U (Nat.le_of_ble_eq_true U) (fun u hu=>by simp [Value.cells] at hu;rcases hu with rfl|rfl|rfl<;>rfl) (fun w H=>(Aa (Y (Ai (EW (cs:=[.bool false,.int .i64 0,.string ⟨#[]⟩]) U U B5 U (H.cellsI 0 U U) ?_)))))
 replace H:=H.nil
 exact Ag ⟨by simp only [h2];rfl,rfl⟩ H
theorem J9 (op:Int) (a:Int) (b:Int):
    Cn Tryz.prog 269 [.int .i64 op,.int .i64 a,.int .i64 b] [] [] (fun v Bs=>v=.agg #[.bool ((BT op a b).t),.int .i64 ((BT op a b).n),.string ((BT op a b).b)]∧Bs=[]):=by
 intro w0 F0 H
 refine enter Tryz.func269 U U (Nat.le_of_ble_eq_true U) (Z (Ac (Do U U U BV H (fun b1 w H=>(Aa (Y (Z (Z (Ac (Ab U (Aa (Y (AK (Z (Ac (V U U (AT U U U) (Ab U (Aa (Y ?_)))))))))))))))))))
 refine Aq U (fun h2=>?_) (fun h2=>?_)
 ·refine Z (Ac (Ad 2 U (V U U (AP (z:=IntKind.i64.wrap (a+b)) U U U U) (sc (FS (IntKind.i64.wrap (a+b))) H l0 U U (At FD U U) ?_))))
  rintro _ _ w ⟨rfl,rfl⟩ H
  refine By U U U B5 U U H U (Nat.le_of_ble_eq_true U) (fun u hu=>by simp [Value.cells] at hu;rcases hu with rfl|rfl|rfl<;>rfl) (fun w H=>(Aa (Y (Ai (Ax (Ao (EW (cs:=[.bool false,.int .i64 (IntKind.i64.wrap (a+b)),.string ⟨#[]⟩]) U U B5 U (H.cellsI 0 U U) ?_)))))))
  have e:BT op a b=Ch (IntKind.i64.wrap (a+b)):=by unfold BT;rw [if_pos h2]
  replace H:=H.nil
  exact Ag ⟨by rw [e];rfl,rfl⟩ H
 refine Z (Ac (V U U (AT U U U) (Ab U (Aa (Y ?_)))))
 refine Aq U (fun h3=>?_) (fun h3=>?_)
 ·refine Z (Ac (Ad 2 U (V U U (Cm (z:=IntKind.i64.wrap (a - b)) U U U U) (sc (FS (IntKind.i64.wrap (a - b))) H l0 U U (At FD U U) ?_))))
  rintro _ _ w ⟨rfl,rfl⟩ H
  refine By U U U B5 U U H U (Nat.le_of_ble_eq_true U) (fun u hu=>by simp [Value.cells] at hu;rcases hu with rfl|rfl|rfl<;>rfl) (fun w H=>(Aa (Y (Ai (Ax (Ao (EW (cs:=[.bool false,.int .i64 (IntKind.i64.wrap (a - b)),.string ⟨#[]⟩]) U U B5 U (H.cellsI 0 U U) ?_)))))))
  have e:BT op a b=Ch (IntKind.i64.wrap (a - b)):=by unfold BT;rw [if_neg h2,if_pos h3]
  replace H:=H.nil
  exact Ag ⟨by rw [e];rfl,rfl⟩ H
 refine Z (Ac (V U U (AT U U U) (Ab U (Aa (Y ?_)))))
 refine Aq U (fun h4=>?_) (fun h4=>?_)
 ·refine Z (Ac (Ad 2 U (V U U (Fs (z:=IntKind.i64.wrap (a*b)) U U U U) (sc (FS (IntKind.i64.wrap (a*b))) H l0 U U (At FD U U) ?_))))
  rintro _ _ w ⟨rfl,rfl⟩ H
  refine By U U U B5 U U H U (Nat.le_of_ble_eq_true U) (fun u hu=>by simp [Value.cells] at hu;rcases hu with rfl|rfl|rfl<;>rfl) (fun w H=>(Aa (Y (Ai (Ax (Ao (EW (cs:=[.bool false,.int .i64 (IntKind.i64.wrap (a*b)),.string ⟨#[]⟩]) U U B5 U (H.cellsI 0 U U) ?_)))))))
  have e:BT op a b=Ch (IntKind.i64.wrap (a*b)):=by unfold BT;rw [if_neg h2,if_neg h3,if_pos h4]
  replace H:=H.nil
  exact Ag ⟨by rw [e];rfl,rfl⟩ H
 refine Av (AS (Y (Z (Ac (Ad 2 U (V U U (AQ U U U) (sc (Qq (decide (a<b))) H l0 U U (At Pz U U) ?_)))))))
 rintro _ _ w ⟨rfl,rfl⟩ H
 refine By U U U B5 U U H U (Nat.le_of_ble_eq_true U) (fun u hu=>by simp [Value.cells] at hu;rcases hu with rfl|rfl|rfl<;>rfl) (fun w H=>(Aa (Y (Ai (EW (cs:=[.bool false,.int .i64 (if (decide (a<b))=true then 1 else 0),.string ⟨#[]⟩]) U U B5 U (H.cellsI 0 U U) ?_)))))
 have e:BT op a b=Ch (if a<b then 1 else 0):=by unfold BT;rw [if_neg h2,if_neg h3,if_neg h4]
 replace H:=H.nil
 exact Ag ⟨by rw [e];simp [Ch],rfl⟩ H
theorem aM (a:Az) (b:Az):
    Cn Tryz.prog 271 [.agg #[.bool a.t,.int .i64 a.n,.string a.b],.agg #[.bool b.t,.int .i64 b.n,.string b.b]] [] [] (fun v Bs=>v=.bool (Dj a b)∧Bs=[]):=by
 intro w0 F0 H
 refine enter Tryz.func271 U U (Nat.le_of_ble_eq_true U) (Z (Ac (B4 U U U U H (fun b1 w H=>(B4 U U U U H (fun b2 w H=>(Ab U (Aa (Y (Z (Z (Ac (V U U (Ah U EG U) (V U U (Aj U Ek U (H.cellI 1 U U)) (Aa (Y ?_))))))))))))))))
 refine DJ (b:=a.t) U (fun h3=>?_) (fun h3=>?_)
 ·refine Z (Ac (V U U (Ah U EG U) (V U U (Aj U Ek U (H.cellI 0 U U)) (Ab U ?_))))
  refine EC (d:=9) (b:=b.t) U (fun h4=>?_) (fun h4=>?_)
  ·refine V U U (Ah U De U) (V U U (Aj U Bd U (H.cellI 1 U U)) (V U U (Ah U De U) (V U U (Aj U Bd U (H.cellI 0 U U)) (V U U (EB U U U) (Ad 2 U (Aa (Y (Ai (Ao (Am U U ?_))))))))))
   replace H:=H.nil
   exact Ag ⟨congrArg Value.bool (by unfold Dj;simp [h3,h4]),rfl⟩ H
  refine Ad 7 U (Aa (Y (Ai (Ao (Am U U ?_)))))
  replace H:=H.nil
  exact Ag ⟨congrArg Value.bool (by unfold Dj;simp [h3,h4]),rfl⟩ H
 refine Av (Y (Z (Ac (V U U (Ah U EG U) (V U U (Aj U Ek U (H.cellI 0 U U)) (V U U (E9 U U U) (Ab U ?_)))))))
 refine EC (d:=19) (b:=!b.t) U (fun h5=>?_) (fun h5=>?_)
 ·refine V U U (Ah U CO U) (V U U (Aj U Cw U (H.cellI 1 U U)) (V U U (Ah U CO U) (V U U (Aj U Cw U (H.cellI 0 U U)) (V U U (AT U U U) (Ad 2 U (Aa (Y (Ai (Am U U ?_)))))))))
  replace H:=H.nil
  exact Ag ⟨congrArg Value.bool (by unfold Dj;simp [h3,h5]),rfl⟩ H
 refine Ad 7 U (Aa (Y (Ai (Am U U ?_))))
 replace H:=H.nil
 exact Ag ⟨congrArg Value.bool (by unfold Dj;simp [h3,h5]),rfl⟩ H
theorem aH (s:ByteArray) (i:Int):
    Cn Tryz.prog 272 [.string s,.int .i64 i] [] [] (fun v Bs=>v=.int .i64 (DB s i)∧Bs=[]):=by
 intro w0 F0 H
 refine enter Tryz.func272 U U (Nat.le_of_ble_eq_true U) (Z (Ac (Ab U (Aa (Y (Z (Z (Ac (Ab U (V U U (AQ U U U) (Ab U ?_)))))))))))
 refine AD (d:=7) U (fun h1=>?_) (fun h1=>?_)
 ·exact Ad 5 U (Aa (Y (BM U (Z (Ac (Ab U (Aa (Y (Ai (Ao (Am U U (Ag ⟨congrArg (Value.int .i64) (if_pos (by omega)).symm,rfl⟩ H))))))))))))
 refine Ad 2 U (V U U (Cl U BJ U) (V U U (BN U U U) (Ab U (Aa (Y ?_)))))
 refine Aq U (fun h2=>?_) (fun h2=>?_)
 ·exact Z (Ac (Ab U (Aa (Y (Ai (Ao (Am U U (Ag ⟨congrArg (Value.int .i64) (if_pos (by omega)).symm,rfl⟩ H))))))))
 refine Av (Y (Z (Ac (Ad 2 U ?_))))
 obtain ⟨c0,hc0⟩:∃ c0,s[i.toNat]?=some c0:=⟨_,getElem?_pos s i.toNat (by omega)⟩
 exact V U U (E8 U BJ U U (by omega) hc0) (V U U (CW (z:=((c0).toNat:Int)) U U Ge Gd (Ay (by omega) (by have:=UInt8.toNat_lt c0;omega))) (Ab U (Aa (Y (Ai (Am U U (Ag ⟨congrArg (Value.int .i64) (by unfold DB;rw [if_neg (by omega),hc0];rfl),rfl⟩ H)))))))
theorem aI (s:ByteArray) (f:Int) (t:Int):
    Cn Tryz.prog 273 [.string s,.int .i64 f,.int .i64 t] [] [] (fun v Bs=>v=.string (Ee s f t)∧Bs=[]):=by
 intro w0 F0 H
 refine enter Tryz.func273 U U (Nat.le_of_ble_eq_true U) (Z (Ac (Ab U (Aa (Y (Z (Ac (Ab U (V U U (Cl U BJ U) (Ab U (Aa (Y (Z (Ac (Ab U (V U U (Hi (z:=max f 0) U U U U) (Ab U (V U U (Fr (z:=min (max f 0) ((s.size:Nat):Int)) U U U U) (Ab U (V U U (Hi (z:=max t 0) U U U U) (Ab U (V U U (Fr (z:=min (max t 0) ((s.size:Nat):Int)) U U U U) (Ad 2 U (Aa (Y (Z (Z (Ac (Ad 2 U (V U U (BX U U U) (Aa (Y ?_))))))))))))))))))))))))))))))))
 refine Aq U (fun h1=>?_) (fun h1=>?_)
 ·exact Z (Ac (Ab U (Aa (Y (Ai (Ao (Am U U (Ag ⟨congrArg Value.string (if_pos h1).symm,rfl⟩ H))))))))
 exact Av (Y (Z (Ac (Ad 3 U (V U U (MK (r:=s.extract (min (max f 0) ((s.size:Nat):Int)).toNat (min (max t 0) ((s.size:Nat):Int)).toNat) U BJ U U U (by omega) (by omega) (by omega) U) (Ab U (Aa (Y (Ai (Am U U (Ag ⟨congrArg Value.string (if_neg h1).symm,rfl⟩ H)))))))))))
theorem W4 (r:Nat) (pv:Value) (key:ByteArray) (vv:Value) (fuel pos steps:Int) (halted:Bool) (sv:Value) (g:Nat→Az) (tv mv:Value) (stk:List Az) (op:Int) (hst:stk.length≤16):
    Cn Tryz.prog 264 [.pointer (some ⟨r,0,none⟩),.int .i64 op] [blk r (Di pv key vv fuel pos steps halted sv g tv mv) 288,Ae A5 sv stk] [] (fun v Bs=>∃ u sv2,v=.tuple #[u,.int .i64 (AC op stk).1]∧Bs=[blk r (Di pv key vv fuel pos steps halted sv2 g tv mv) 288,Ae A5 sv2 (AC op stk).2.1,Ae A5 u (AC op stk).2.2]):=by
 intro w0 F0 H
 obtain ⟨A1,c2,rfl,hc3,hm4,hp5⟩:=H.fA 1 rfl
 refine enter Tryz.func264 U U (Nat.le_of_ble_eq_true U) (Z (Ac (Ad 2 U (Aa (Y (Z (Ac (Ab U (sc (UU op) H l0 U U (At V2 U U) ?_)))))))))
 rintro _ _ w ⟨rfl,rfl⟩ H
 refine Ab U (Aa (Y (Z (Z (Ac (Ab U (V U U (Cl U BJ U) (Ab U (V U U (AI U U) (V U U (Ah U Gp U) (V U U (Aj U D3 U (H.cellI 0 U U)) (V U U (AO U EP U) (V U U (BP U U U) (Aa (Y ?_)))))))))))))))
 refine Aq U (fun h6=>?_) (fun h6=>?_)
 ·refine Z (Ac (Ad 2 U (Aa (Y (Ai (Ao (Bg U U U ?_)))))))
  have e:=J7 (op:=op) (stk:=stk) (by omega)
  replace H:=H.newnil A5|>.sel 3 [1,2,0] [] rfl (by kernel_rfl)
  exact Ag ⟨_,_,by rw [e]<;>rfl,by rw [e]<;>rfl⟩ H
 refine Av (Y (Z (Et mo (by kernel_rfl) H (C7 U (Ba U U (fun w H=>AI U U) (Ba U U (fun w H=>Ah U Gp U) (Ba U U (fun w H=>Aj U D3 U (H.cellI 0 U U)) (C7 U (Ba U U (fun w H=>AI U U) (Ba U U (fun w H=>Ah U Gp U) (Ba U U (fun w H=>Aj U D3 U (H.cellI 0 U U)) (Ba U U (fun w H=>AO U EP U) (C7 U (Ba U U (fun w H=>Cl U BJ U) (Ba U U (fun w H=>Cm (z:=((stk.length - ((AW op).size):Nat):Int)) U U U (by rw [Ay (by omega) (by omega)];omega)) (Ba U U (fun w H=>H7 U A8 U U (by omega) (by omega) U) (C7 U (Ba U U (fun w H=>AI U U) (Ba U U (fun w H=>Ah U Gp U) (Ba U U (fun w H=>Aj U D3 U (H.cellI 0 U U)) (C7 U (Ba U U (fun w H=>AI U U) (Ba U U (fun w H=>Ah U Gp U) (Ba U U (fun w H=>Aj U D3 U (H.cellI 0 U U)) (Ba U U (fun w H=>AO U EP U) (C7 U (Ba U U (fun w H=>Cl U BJ U) (Ba U U (fun w H=>Cm (z:=((stk.length - ((AW op).size):Nat):Int)) U U U (by rw [Ay (by omega) (by omega)];omega)) (Ba U U (fun w H=>H8 U A8 U U (by omega) (by omega) U) (DW 2 U (El (fun w H=>(Y (Z (Z (Ac (Ab U (V U U (AO U EP U) (Ab U (Aa (Y (AK (Br (σ:=Nat) (fun i=>[(0,.pointer (some ⟨r,0,none⟩)),(6,.string (AW op)),(7,.slice A1 (stk.length - ((AW op).size)) c2),(8,.slice (EF A1 c2 (stk.length - ((AW op).size)) 3) (stk.length - (stk.length - ((AW op).size))) (c2 - (stk.length - ((AW op).size)))),(48,.slice (EF A1 c2 (stk.length - ((AW op).size)) 3) (stk.length - (stk.length - ((AW op).size))) (c2 - (stk.length - ((AW op).size)))),(49,.int .i64 ((stk.length - (stk.length - ((AW op).size)):Nat):Int)),(50,.int .i64 ((i:Nat):Int))]) (fun i w=>(Hd w0 F0 w [blk r (Di pv key vv fuel pos steps halted (.slice A1 stk.length c2) g tv mv) 288,Ae A5 (.slice A1 stk.length c2) stk] [])∧(i≤(AW op).size)∧(DN ((AW op).data.toList.drop i) ((stk.drop (stk.length - (AW op).size)).drop i)=DN (AW op).data.toList (stk.drop (stk.length - (AW op).size)))) (fun i=>(AW op).size - i) 0 ⟨rfl,rfl,rfl,rfl,rfl,rfl,rfl,trivial⟩ ⟨H,Nat.zero_le _,rfl⟩ ?_)))))))))))))))))))))))))))))))))))))))))))
 rintro i w ⟨H,hi,hf⟩
 refine Z (Ac (V U U (AQ U U U) (Aa (Y (Z ?_)))))
 refine Aq U (fun h7=>?_) (fun h7=>?_)
 ·refine Av (Y (Z (AK (Z (Ac (Ab U ?_))))))
  obtain ⟨x8,hx9⟩:∃ z9,(stk.drop (stk.length - ((AW op).size)))[i]?=some z9:=⟨_,List.getElem?_eq_getElem (show i<(stk.drop (stk.length - ((AW op).size))).length by simp only [List.length_take,List.length_drop];omega)⟩
  have th10:=H.thX (fun F hA hR=>F_ (BI F (hA _ (List.mem_of_getElem? (i:=1) rfl))) (i:=stk.length - ((AW op).size)) (by omega)) hx9
  refine V U U (AG (p:=AA (EF A1 c2 (stk.length - ((AW op).size)) 3)+i*3) U A8 U U (by omega) (by omega) th10 U) (V U U (Bp (cs:=[.bool x8.t,.int .i64 x8.n,.string x8.b]) U B5 U U (H.elsX (fun F hA hR=>F_ (BI F (hA _ (List.mem_of_getElem? (i:=1) U))) (i:=stk.length - ((AW op).size)) (by omega)) hx9 U)) (Do U U U BV H (fun b11 w H=>(Ab U (By U U U B5 U U H U (Nat.le_of_ble_eq_true U) (fun u hu=>by simp [Value.cells] at hu;rcases hu with rfl|rfl|rfl<;>rfl) (fun w H=>(Aa (Y (Z (Ac (Ad 2 U ?_)))))))))))
  obtain ⟨c12,hb13⟩:∃ c0,(AW op)[i]?=some c0:=⟨_,getElem?_pos (AW op) i (by omega)⟩
  refine V U U (E8 U BJ U U (by omega) hb13) (V U U (AT U U U) (Ab U ?_))
  refine AD (d:=59) U (fun h14=>?_) (fun h14=>?_)
  ·refine V U U (Ah U EG U) (V U U (Aj U Ek U (H.cellI 0 U U)) (Ad 2 U ?_))
   refine EC (d:=63) (b:=x8.t) U (fun h15=>?_) (fun h15=>?_)
   ·refine Ad 10 U (Aa (Y (BM U (Z (Ac (Ad 2 U (Aa (Y (Ai (Ax (Ao (Ao (Ax (Ao (Bg U U U ?_)))))))))))))))
    have hfit:DL c12 x8=false:=by rw [G7];simp_all
    have e:=HT (op:=op) (stk:=stk) (by omega) (hf.symm.trans (LF (Ed hb13) hx9 hfit))
    replace H:=H.p2.p2.k2.newnil A5|>.p2|>.p2
    exact Ag ⟨_,_,by rw [e]<;>rfl,by rw [e]<;>rfl⟩ H
   refine Ad 2 U (V U U (E8 U BJ U U (by omega) hb13) (V U U (AT U U U) (Ab U ?_)))
   refine AD (d:=68) U (fun h16=>?_) (fun h16=>?_)
   ·refine V U U (Ah U EG U) (V U U (Aj U Ek U (H.cellI 0 U U)) (V U U (E9 U U U) (Ad 2 U (Aa (Y ?_)))))
    refine DJ (b:=!x8.t) U (fun h17=>?_) (fun h17=>?_)
    ·refine Z (Ac (Ad 2 U (Aa (Y (Ai (Ax (Ao (Ao (Ax (Ao (Bg U U U ?_)))))))))))
     have hfit:DL c12 x8=false:=by rw [G7];simp_all
     have e:=HT (op:=op) (stk:=stk) (by omega) (hf.symm.trans (LF (Ed hb13) hx9 hfit))
     replace H:=H.p2.p2.k2.newnil A5|>.p2|>.p2
     exact Ag ⟨_,_,by rw [e]<;>rfl,by rw [e]<;>rfl⟩ H
    refine Av (AS (Y (Ac (V U U (AP (z:=((i+1:Nat):Int)) U U U (by rw [Ay (by omega) (by omega)];omega)) (Ab U (Aa ?_))))))
    have hfit:DL c12 x8=true:=by rw [G7];simp_all
    have hf2:=(Ju (Ed hb13) hx9 hfit).trans hf
    replace H:=H.p2.p2.k2
    exact Bb (s:=i) (i+1) ⟨rfl,rfl,rfl,rfl,rfl,rfl,rfl,trivial⟩ ⟨H,by (try dsimp only);omega,hf2⟩ (by (try dsimp only);omega)
   refine Ad 5 U (Aa (Y (B0 U (Av (AS (Y (Ac (V U U (AP (z:=((i+1:Nat):Int)) U U U (by rw [Ay (by omega) (by omega)];omega)) (Ab U (Aa ?_))))))))))
   have hfit:DL c12 x8=true:=by rw [G7];simp_all
   have hf2:=(Ju (Ed hb13) hx9 hfit).trans hf
   replace H:=H.p2.p2.k2
   exact Bb (s:=i) (i+1) ⟨rfl,rfl,rfl,rfl,rfl,rfl,rfl,trivial⟩ ⟨H,by (try dsimp only);omega,hf2⟩ (by (try dsimp only);omega)
  refine Ad 6 U (V U U (E8 U BJ U U (by omega) hb13) (V U U (AT U U U) (Ab U ?_)))
  refine AD (d:=68) U (fun h18=>?_) (fun h18=>?_)
  ·refine V U U (Ah U EG U) (V U U (Aj U Ek U (H.cellI 0 U U)) (V U U (E9 U U U) (Ad 2 U (Aa (Y ?_)))))
   refine DJ (b:=!x8.t) U (fun h19=>?_) (fun h19=>?_)
   ·refine Z (Ac (Ad 2 U (Aa (Y (Ai (Ax (Ao (Ao (Ax (Ao (Bg U U U ?_)))))))))))
    have hfit:DL c12 x8=false:=by rw [G7];simp_all
    have e:=HT (op:=op) (stk:=stk) (by omega) (hf.symm.trans (LF (Ed hb13) hx9 hfit))
    replace H:=H.p2.p2.k2.newnil A5|>.p2|>.p2
    exact Ag ⟨_,_,by rw [e]<;>rfl,by rw [e]<;>rfl⟩ H
   refine Av (AS (Y (Ac (V U U (AP (z:=((i+1:Nat):Int)) U U U (by rw [Ay (by omega) (by omega)];omega)) (Ab U (Aa ?_))))))
   have hfit:DL c12 x8=true:=by rw [G7];simp_all
   have hf2:=(Ju (Ed hb13) hx9 hfit).trans hf
   replace H:=H.p2.p2.k2
   exact Bb (s:=i) (i+1) ⟨rfl,rfl,rfl,rfl,rfl,rfl,rfl,trivial⟩ ⟨H,by (try dsimp only);omega,hf2⟩ (by (try dsimp only);omega)
  refine Ad 5 U (Aa (Y (B0 U (Av (AS (Y (Ac (V U U (AP (z:=((i+1:Nat):Int)) U U U (by rw [Ay (by omega) (by omega)];omega)) (Ab U (Aa ?_))))))))))
  have hfit:DL c12 x8=true:=by rw [G7];simp_all
  have hf2:=(Ju (Ed hb13) hx9 hfit).trans hf
  replace H:=H.p2.p2.k2
  exact Bb (s:=i) (i+1) ⟨rfl,rfl,rfl,rfl,rfl,rfl,rfl,trivial⟩ ⟨H,by (try dsimp only);omega,hf2⟩ (by (try dsimp only);omega)
 refine Bj (AE (AE (Bk (Y (Z (Ac (Ab U ?_)))))))
 replace H:=H.newnil A5
 refine BY (xs:=[]) (ys:=stk.drop (stk.length - ((AW op).size))) U U U A8 BV U (by decide) U U H (by simp only [List.length_nil];omega) (fun F hA hR=>F_ (BI F (hA _ (List.mem_of_getElem? (i:=1) U))) (i:=stk.length - ((AW op).size)) (by omega)) (fun v20 w H=>(Ab U (Aa (Y (Z (Ac (Ad 2 U (V U U (AI U U) (V U U (Ah U Gp U) ?_)))))))))
 replace H:=H.p1
 refine By U U U D3 U U H U (Nat.le_of_ble_eq_true U) (fun u hu=>by simp [Value.cells] at hu;subst hu;rfl) (fun w H=>(Aa (Y (Z ?_))))
 replace H:=H.p2.preO (stk.length - (AW op).size) (by omega)|>.h1 (A:=Ae A5 (.slice A1 (stk.length - ((AW op).size)) c2) (stk.take (stk.length - (AW op).size)))
 refine Ac (Ad 3 U (Aa (Y (Ai (Bg U U U ?_)))))
 replace H:=H.p1.h3 (C:=Ae A5 v20 (stk.drop (stk.length - (AW op).size)))
 have e:=IE (op:=op) (stk:=stk) (by omega) (hf.symm.trans (Ub (by simp only [List.length_drop];omega)))
 exact Ag ⟨_,_,by rw [e]<;>rfl,by rw [e]<;>rfl⟩ H
theorem D2 (r:Nat) (pv:Value) (key:ByteArray) (vv:Value) (fuel pos steps:Int) (halted:Bool) (sv:Value) (g:Nat→Az) (tv mv:Value) (stk:List Az) (vvs:Value) (vs:List Az) (hst:stk.length≤16) (hvs:vs.length≤16):
    Cn Tryz.prog 265 [.pointer (some ⟨r,0,none⟩),vvs] [blk r (Di pv key vv fuel pos steps halted sv g tv mv) 288,Ae A5 sv stk] [Af A5 vvs vs] (fun v Bs=>∃ sv2,v=.int .i64 (Bz stk vs).1∧Bs=[blk r (Di pv key vv fuel pos steps halted sv2 g tv mv) 288,Ae A5 sv2 (Bz stk vs).2]):=by
 intro w0 F0 H
 obtain ⟨A1,c2,rfl,hc3,hm4,hp5⟩:=H.fR 0 rfl
 refine enter Tryz.func265 U U (Nat.le_of_ble_eq_true U) (Z (Ac (Ab U (Aa (Y (Z (Z (Ac (Ab U (V U U (AO U EP U) (Ab U (Aa (Y (AK (Br (σ:=Nat) (fun k=>[(0,.pointer (some ⟨r,0,none⟩)),(1,.slice A1 vs.length c2),(7,.slice A1 vs.length c2),(8,.int .i64 ((vs.length:Nat):Int)),(9,.int .i64 ((k:Nat):Int))]) (fun k w=>(Hd w0 F0 w [blk r (Di pv key vv fuel pos steps halted sv g tv mv) 288,Ae A5 sv stk] [Af A5 (.slice A1 vs.length c2) vs])∧(k≤vs.length)∧(∀ y∈vs.take k,DI y=false)) (fun k=>vs.length - k) 0 ⟨rfl,rfl,rfl,rfl,rfl,trivial⟩ ⟨H,Nat.zero_le _,by (try dsimp only);simp⟩ ?_)))))))))))))))
 rintro k w ⟨H,hk,hn⟩
 refine Z (Ac (V U U (AQ U U U) (Aa (Y (Z ?_)))))
 refine Aq U (fun h6=>?_) (fun h6=>?_)
 ·refine Av (Y (Z (AK (Z (Ac ?_)))))
  obtain ⟨x7,hx8⟩:∃ z9,vs[k]?=some z9:=⟨_,List.getElem?_eq_getElem (show k<vs.length by omega)⟩
  have th9:=H.thR 0 rfl hx8
  refine V U U (AG (p:=AA A1+k*3) U A8 U U (by omega) (by omega) th9 U) (V U U (Bp (cs:=[.bool x7.t,.int .i64 x7.n,.string x7.b]) U B5 U U (H.elsR 0 U hx8 U)) (Do U U U BV H (fun b10 w H=>(By U U U B5 U U H U (Nat.le_of_ble_eq_true U) (fun u hu=>by simp [Value.cells] at hu;rcases hu with rfl|rfl|rfl<;>rfl) (fun w H=>(Aa (Y (Z (Ac (V U U (Ah U EG U) (V U U (Aj U Ek U (H.cellI 0 U U)) (Ab U ?_))))))))))))
  refine EC (d:=15) (b:=x7.t) U (fun h11=>?_) (fun h11=>?_)
  ·refine V U U (Ah U De U) (V U U (Aj U Bd U (H.cellI 0 U U)) (V U U (Cl U BJ U) (V U U (BP U U U) (Ab U (Aa (Y ?_))))))
   refine Aq U (fun h12=>?_) (fun h12=>?_)
   ·refine Z (Ac (Ab U (Aa (Y (Ai (Ax (Ao (Ao (Ax (Ao (Am U U ?_)))))))))))
    have e:=QL (stk:=stk) hx8 (Lg h11 h12)
    replace H:=H.p2.p2.k2
    exact Ag ⟨_,by rw [e]<;>rfl,by rw [e]<;>rfl⟩ H
   refine Av (AS (Y (Ac (V U U (AP (z:=((k+1:Nat):Int)) U U U (by rw [Ay (by omega) (by omega)];omega)) (Ab U (Aa ?_))))))
   replace H:=H.p2.p2.k2
   exact Bb (s:=k) (k+1) ⟨rfl,rfl,rfl,rfl,rfl,trivial⟩ ⟨H,by (try dsimp only);omega,Fd hn hx8 (HC (.inr h12))⟩ (by (try dsimp only);omega)
  refine Ad 5 U (Aa (Y (B0 U (Av (AS (Y (Ac (V U U (AP (z:=((k+1:Nat):Int)) U U U (by rw [Ay (by omega) (by omega)];omega)) (Ab U (Aa ?_))))))))))
  replace H:=H.p2.p2.k2
  exact Bb (s:=k) (k+1) ⟨rfl,rfl,rfl,rfl,rfl,trivial⟩ ⟨H,by (try dsimp only);omega,Fd hn hx8 (HC (.inl h11))⟩ (by (try dsimp only);omega)
 refine Bj (AE (AE (Bk (Y (Z (Z (Ac (Ab U (V U U (AI U U) (V U U (Ah U Gp U) (V U U (Aj U D3 U (H.cellI 0 U U)) ?_)))))))))))
 obtain ⟨A13,c14,rfl,hc15,hm16,hp17⟩:=H.fA 1 rfl
 refine V U U (AO U EP U) (Ab U (V U U (AO U EP U) (V U U (AP (z:=((stk.length+vs.length:Nat):Int)) U U U (by rw [Ay (by omega) (by omega)];omega)) (V U U (BP U U U) (Aa (Y ?_))))))
 refine Aq U (fun h18=>?_) (fun h18=>?_)
 ·refine Z (Ac (Ab U (Aa (Y (Ai (Ao (Am U U ?_)))))))
  have e:=QN (stk:=stk) (vs:=vs) (by rw [List.take_of_length_le (by omega)] at hn;exact hn) (by omega)
  exact Ag ⟨_,by rw [e]<;>rfl,by rw [e]<;>rfl⟩ H
 refine Av (Y (Z (Ac (Ad 2 U (V U U (AI U U) (V U U (Ah U Gp U) (V U U (Aj U D3 U (H.cellI 0 U U)) (Ab U ?_))))))))
 replace H:=H.p1
 refine BY (xs:=stk) (ys:=vs) U U U A8 BV U (by decide) U U H (by omega) (fun F hA hR=>hR _ (List.mem_of_getElem? (i:=0) U)) (fun v19 w H=>(V U U (AI U U) (V U U (Ah U Gp U) ?_)))
 obtain ⟨A20,c21,rfl,hc22,hm23,hp24⟩:=H.fA 0 rfl
 replace H:=H.p1
 refine By U U U D3 U U H U (Nat.le_of_ble_eq_true U) (fun u hu=>by simp [Value.cells] at hu;subst hu;rfl) (fun w H=>(Aa (Y (Z (Ac (Ab U (Aa (Y (Ai (Am U U ?_))))))))))
 have e:=QM (stk:=stk) (vs:=vs) (by rw [List.take_of_length_le (by omega)] at hn;exact hn) (by omega)
 exact Ag ⟨_,by rw [e]<;>rfl,by rw [e]<;>rfl⟩ H
theorem Xf (r:Nat) (pv:Value) (key:ByteArray) (vv:Value) (fuel pos steps:Int) (halted:Bool) (sv:Value) (g:Nat→Az) (tv mv:Value) (stk:List Az) (vals:List ByteArray) (hst:stk.length≤16):
    Cn Tryz.prog 268 [.pointer (some ⟨r,0,none⟩)] [blk r (Di pv key vv fuel pos steps halted sv g tv mv) 288,Ae A5 sv stk] [Af AZ vv vals] (fun v Bs=>∃ sv2 vv2,v=.int .i64 (FG stk vals).1∧CN AZ vv vals vv2 (FG stk vals).2.2∧Bs=[blk r (Di pv key vv2 fuel pos steps halted sv2 g tv mv) 288,Ae A5 sv2 (FG stk vals).2.1]):=by
 intro w0 F0 H
 obtain ⟨A1,c2,rfl,hc3,hm4,hp5⟩:=H.fR 0 rfl
 refine enter Tryz.func268 U U (Nat.le_of_ble_eq_true U) (Z (Ac (Ab U (Aa (Y (Z (Z (Ac (Ab U (V U U (AI U U) (V U U (Ah U JE U) (V U U (Aj U Ig U (H.cellI 0 U U)) (V U U (AO U GB U) (V U U (AT U U U) (Aa (Y ?_))))))))))))))))
 refine Aq U (fun h6=>?_) (fun h6=>?_)
 ·refine Z ?_
  have hv0:vals=[]:=List.eq_nil_of_length_eq_zero (by omega)
  refine Ac (Ab U (sc (FS 0) H l0 U U (At FD U U) ?_))
  rintro _ _ w ⟨rfl,rfl⟩ H
  refine Bv (parts:=[(0,.tmp 11)]) (vs:=[.agg #[.bool false,.int .i64 0,.string ⟨#[]⟩]]) (cs:=[.bool false,.int .i64 0,.string ⟨#[]⟩]) U U U A8 BV U (by decide) (by decide) U U H (fun b7 w H=>?_)
  replace H:=H.p2|>.p2
  refine sc (D2 r pv key (.slice A1 vals.length c2) fuel pos steps halted sv g tv mv stk (.slice (some ⟨b7,0,none⟩) 1 1) [(⟨false,0,⟨#[]⟩⟩:Az)] (by omega) (Nat.le_of_ble_eq_true U)) H (lA 0 U (fun F h=>BZ h rfl (by decide) (AX.flat_eq.2 U)) l0) U U (At D1 U U) ?_
  rintro _ _ w ⟨s8,rfl,rfl⟩ H
  refine Ab U (Aa (Y (Ai (Ao (Am U U ?_)))))
  replace H:=H.k2
  have e:FG stk vals=((Bz stk [Ch 0]).1,(Bz stk [Ch 0]).2,[]):=by rw [hv0];rfl
  exact Ag ⟨s8,.slice A1 vals.length c2,by rw [e]<;>rfl,by rw [e,hv0]<;>exact CN.refl _ _ _,by rw [e]<;>rfl⟩ H
 refine Av (Y (Z (Ac (Ab U (V U U (AI U U) (V U U (Ah U JE U) (V U U (Aj U Ig U (H.cellI 0 U U)) ?_)))))))
 obtain ⟨x9,hx10⟩:∃ z9,vals[0]?=some z9:=⟨_,List.getElem?_eq_getElem (show 0<vals.length by omega)⟩
 have th11:=H.thR 0 rfl hx10
 refine V U U (AG (p:=AA A1+0*1) U Ck U U (by omega) (by omega) th11 (by omega)) (V U U (Aj U Bd U (H.elR 0 U hx10 (q:=0) U U)) (Ab U (Aa (Y (Z (Ac (Ad 2 U (V U U (AI U U) (V U U (Ah U JE U) (V U U (Aj U Ig U (H.cellI 0 U U)) (V U U (H8 U Ck U U (by omega) (by omega) U) (V U U (AI U U) (V U U (Ah U JE U) (By U U U Ig U U H U (Nat.le_of_ble_eq_true U) (fun u hu=>by simp [Value.cells] at hu;subst hu;rfl) (fun w H=>(Aa (Y (Z (Ac (Ad 2 U (sc (Ih x9) H l0 U U (At HN U U) ?_)))))))))))))))))))))
 rintro _ _ w ⟨rfl,rfl⟩ H
 refine sc (FS 1) H l0 U U (At FD U U) ?_
 rintro _ _ w ⟨rfl,rfl⟩ H
 refine Bv (parts:=[(0,.tmp 30),(1,.tmp 31)]) (vs:=[.agg #[.bool true,.int .i64 0,.string x9],.agg #[.bool false,.int .i64 1,.string ⟨#[]⟩]]) (cs:=[.bool true,.int .i64 0,.string x9,.bool false,.int .i64 1,.string ⟨#[]⟩]) U U U A8 BV U (by decide) (by decide) U U H (fun b12 w H=>?_)
 replace H:=H.p2|>.p2
 refine sc (D2 r pv key (.slice (EF A1 c2 1 1) (vals.length - 1) (c2 - 1)) fuel pos steps halted sv g tv mv stk (.slice (some ⟨b12,0,none⟩) 2 2) [(⟨true,0,x9⟩:Az),(⟨false,1,⟨#[]⟩⟩:Az)] (by omega) (Nat.le_of_ble_eq_true U)) H (lA 0 U (fun F h=>BZ h rfl (by decide) (AX.flat_eq.2 U)) l0) U U (At D1 U U) ?_
 rintro _ _ w ⟨s13,rfl,rfl⟩ H
 refine Ab U (Aa (Y (Ai (Am U U ?_))))
 replace H:=H.k2
 have e:=Xe (stk:=stk) hx10
 exact Ag ⟨s13,.slice (EF A1 c2 1 1) (vals.length - 1) (c2 - 1),by rw [e]<;>rfl,by rw [e];exact fun w F h=>F_ h (by omega),by rw [e]<;>rfl⟩ H
theorem TT (r:Nat) (pv:Value) (key:ByteArray) (vv:Value) (fuel pos steps:Int) (halted:Bool) (sv:Value) (g:Nat→Az) (tv mv:Value) (told:List An) (ek ew:ByteArray) (hto:told.length≤40):
    Cn Tryz.prog 276 [.pointer (some ⟨r,0,none⟩),.string ek,.string ew] [blk r (Di pv key vv fuel pos steps halted sv g tv mv) 288,Ae Al tv told] [] (fun v Bs=>∃ tv2,v=.int .i64 (C_ told ek ew).1∧Bs=[blk r (Di pv key vv fuel pos steps halted sv g tv2 mv) 288,Ae Al tv2 (C_ told ek ew).2]):=by
 intro w0 F0 H
 obtain ⟨A1,c2,rfl,hc3,hm4,hp5⟩:=H.fA 1 rfl
 refine enter Tryz.func276 U U (Nat.le_of_ble_eq_true U) (Z (Ac (Ab U (Aa (Y (Z (AK (Z (Ac (Ab U (V U U (Cl U BJ U) (V U U (BP U U U) (Ab U (Aa (Y ?_)))))))))))))))
 refine Aq U (fun h6=>?_) (fun h6=>?_)
 ·refine Z (Ac (Ab U (Aa (Y (Ai (Ax (Ao (Am U U ?_))))))))
  have e:=N8 (told:=told) (k:=ek) (v:=ew) h6
  exact Ag ⟨_,by rw [e]<;>rfl,by rw [e]<;>rfl⟩ H
 refine Z (Ac (Ab U (V U U (AI U U) (V U U (Ah U JF U) (V U U (Aj U Db U (H.cellI 0 U U)) (V U U (AO U B_ U) (V U U (BN U U U) (Ab U (Aa (Y ?_))))))))))
 refine Aq U (fun h7=>?_) (fun h7=>?_)
 ·refine Z (Ac (Ab U (Aa (Y (Ai (Ax (Ao (Am U U ?_))))))))
  have e:=N9 (told:=told) (k:=ek) (v:=ew) h6 (by omega)
  exact Ag ⟨_,by rw [e]<;>rfl,by rw [e]<;>rfl⟩ H
 refine Av (AS (Y (Z (Ac (Ad 2 U (V U U (AI U U) (V U U (Ah U JF U) (V U U (Aj U Db U (H.cellI 0 U U)) (Ad 2 U (V U U (CV (parts:=[(0,.tmp 23),(1,.tmp 24)]) (vs:=[.string ek,.string ew]) (cs:=[.string ek,.string ew]) U G4 U U) (Bv (parts:=[(0,.tmp 25)]) (vs:=[.agg #[.string ek,.string ew]]) (cs:=[.string ek,.string ew]) U U U Bq CJ U (by decide) (by decide) U U H (fun b8 w H=>?_))))))))))))
 replace H:=H.p2
 refine BY (xs:=told) (ys:=[(⟨ek,ew⟩:An)]) U U U Bq CJ U (by decide) U U H (by first |omega|(simp only [List.length_cons,List.length_nil];omega)) (fun F hA hR=>BZ (hA _ (List.mem_of_getElem? (i:=0) U)) U (by decide) (AX.flat_eq.2 U)) (fun v9 w H=>(V U U (AI U U) (V U U (Ah U JF U) ?_)))
 obtain ⟨A10,c11,rfl,hc12,hm13,hp14⟩:=H.fA 0 rfl
 replace H:=H.p2
 refine By U U U Db U U H U (Nat.le_of_ble_eq_true U) (fun u hu=>by simp [Value.cells] at hu;subst hu;rfl) (fun w H=>(Aa (Y (Z (Ac (Ab U (Aa (Y (Ai (Am U U ?_))))))))))
 replace H:=H.k2
 have e:=Lw (told:=told) (k:=ek) (v:=ew) h6 (by omega)
 exact Ag ⟨_,by rw [e]<;>rfl,by rw [e]<;>rfl⟩ H
section
variable {D:Bc} {key:ByteArray} {m:VM} {i:Bm} {v:List Az}
theorem Is (h:(AC i.op m.stk).1≠0):BC D key m i=(m,(AC i.op m.stk).1):=if_pos h
theorem CR (h:¬ (AC i.op m.stk).1≠0):BC D key m i=BS D key {m with stk:=(AC i.op m.stk).2.1} i (AC i.op m.stk).2.2:=if_neg h
theorem KV (h:i.op=0):BS D key m i v=({m with halted:=true},0):=by unfold BS;rw [h];rfl
theorem KW (h:i.op=1):BS D key m i v=CI m [Ch i.a]:=by unfold BS;rw [h];rfl
theorem K9 (h:i.op=2):BS D key m i v=CI m [C2 i.s]:=by unfold BS;rw [h];rfl
theorem Lc (h:i.op=3):BS D key m i v=CI m [v.getD 0 Bt,v.getD 0 Bt]:=by unfold BS;rw [h];rfl
theorem Ld (h:i.op=4):BS D key m i v=(m,0):=by unfold BS;rw [h];rfl
theorem Le (h:i.op=5):BS D key m i v=CI m [v.getD 1 Bt,v.getD 0 Bt]:=by unfold BS;rw [h];rfl
theorem Lf (h:i.op=6):BS D key m i v=CI m [C2 key]:=by unfold BS;rw [h];rfl
theorem Jd (h:i.op=7):BS D key m i v=F7 m:=by unfold BS;rw [h];rfl
theorem HA (h:i.op=8∨i.op=9∨i.op=10∨i.op=11):BS D key m i v=CI m [BT i.op (v.getD 0 Bt).n (v.getD 1 Bt).n]:=by
 unfold BS
 rcases h with h|h|h|h<;>(rw [h];rfl)
theorem KX (h:i.op=12):BS D key m i v=CI m [J_ (Dj (v.getD 0 Bt) (v.getD 1 Bt))]:=by unfold BS;rw [h];rfl
theorem KY (h:i.op=13):BS D key m i v=CI m [C2 ((v.getD 0 Bt).b++(v.getD 1 Bt).b)]:=by unfold BS;rw [h];rfl
theorem KZ (h:i.op=14):BS D key m i v=CI m [Ch (v.getD 0 Bt).b.size]:=by unfold BS;rw [h];rfl
theorem K0 (h:i.op=15):BS D key m i v=CI m [Ch (DB (v.getD 0 Bt).b (v.getD 1 Bt).n)]:=by unfold BS;rw [h];rfl
theorem K5 (h:i.op=16):BS D key m i v=CI m [C2 (Ee (v.getD 0 Bt).b (v.getD 1 Bt).n (v.getD 2 Bt).n)]:=by unfold BS;rw [h];rfl
theorem K6 (h:i.op=17):BS D key m i v=CI m [C2 (D.dig (v.getD 0 Bt).n)]:=by unfold BS;rw [h];rfl
theorem K7 (h:i.op=18):BS D key m i v=CI m [Ch (D.num (v.getD 0 Bt).b)]:=by unfold BS;rw [h];rfl
theorem K8 (h:i.op=19):BS D key m i v=({m with pos:=i.a},0):=by unfold BS;rw [h];rfl
theorem Io (h:i.op=20):BS D key m i v=(if (v.getD 0 Bt).n≠0 then {m with pos:=i.a} else m,0):=by unfold BS;rw [h];rfl
theorem K_ (h:i.op=21):BS D key m i v=CI m [m.g i.a.toNat]:=by unfold BS;rw [h];rfl
theorem La (h:i.op=22):BS D key m i v=({m with g:=Ga m.g i.a.toNat (v.getD 0 Bt)},0):=by unfold BS;rw [h];rfl
theorem Lb (h:i.op=23):BS D key m i v=({m with told:=(C_ m.told (v.getD 0 Bt).b (v.getD 1 Bt).b).2},(C_ m.told (v.getD 0 Bt).b (v.getD 1 Bt).b).1):=by unfold BS;rw [h];rfl
theorem W5 {op:Int} {stk:List Az} (h:(AC op stk).1≠0):(AC op stk).2.1=stk:=by
 by_cases h1:stk.length<(AW op).size
 ·rw [J7 h1]
 ·cases h2:DN (AW op).data.toList (stk.drop (stk.length - (AW op).size)) with
  |false=>rw [HT h1 h2]
  |true=>rw [IE h1 h2] at h;exact absurd rfl h
theorem BH {k:Nat} {x:Az} (h:v[k]?=some x):v.getD k Bt=x:=by rw [List.getD_eq_getElem?_getD,h];rfl
theorem Qd:F7 m=({m with stk:=(FG m.stk m.vals).2.1,vals:=(FG m.stk m.vals).2.2},(FG m.stk m.vals).1):=by
 unfold F7
 split
 ·rename_i h
  rw [h]
  cases m
  simp only at h
  subst h
  rfl
 ·rename_i x xs h
  rw [h]
  rfl
end
structure DZ (n:Int) (m:VM):Prop where
 ok:(∀ v∈m.stk,Dr v)∧∀ k,Dr (m.g k)
 len:m.stk.length≤16
 told:m.told.length≤40
 pos:0≤m.pos∧m.pos≤n
theorem X3 {stk vs:List Az} (h:(Bz stk vs).1=0):(Bz stk vs).2=stk++vs∧∀ v∈vs,DI v=false:=by
 unfold Bz at h ⊢
 split at h
 ·cases h
 ·rename_i h1
  rw [if_neg h1]
  split at h
  ·cases h
  ·rename_i h2
   rw [if_neg h2]
   refine ⟨rfl,fun v hv=>?_⟩
   cases hb:DI v with
   |false=>rfl
   |true=>exact absurd (List.any_eq_true.2 ⟨v,hv,hb⟩) h1
theorem SN {v:Az} (h:DI v=false) (ht:v.t=true):v.b.size≤64:=by
 unfold DI at h
 rw [ht,Bool.true_and] at h
 have:=of_decide_eq_false h
 omega
theorem Ew {n:Int} {m:VM} {vs:List Az} (hm:DZ n m) (h:(CI m vs).2=0) (hv:∀ v∈vs,AF v.n∧(v.t=false→v.b.size≤64)):DZ n (CI m vs).1:=by
 obtain ⟨h1,h2⟩:=X3 (stk:=m.stk) (vs:=vs) h
 refine ⟨⟨fun v hv'=>?_,hm.ok.2⟩,?_,hm.told,hm.pos⟩
 ·have hv2:v∈(Bz m.stk vs).2:=hv'
  rw [h1] at hv2
  rcases List.mem_append.1 hv2 with h3|h3
  ·exact hm.ok.1 v h3
  ·refine ⟨(hv v h3).1,?_⟩
   cases ht:v.t with
   |false=>exact (hv v h3).2 ht
   |true=>exact SN (h2 v h3) ht
 ·exact X1 _ _ hm.len
theorem Qe:(⟨#[]⟩:ByteArray).size≤64:=by decide
theorem Hb:AF 0:=by unfold AF;decide
theorem Mx:Dr Bt:=⟨Hb,Qe⟩
theorem Hf {n:Int} (h:AF n):∀ v∈[Ch n],AF v.n∧(v.t=false→v.b.size≤64):=by
 intro v hv
 rw [List.mem_singleton.1 hv]
 exact ⟨h,fun _=>Qe⟩
theorem HX (s:ByteArray):∀ v∈[C2 s],AF v.n∧(v.t=false→v.b.size≤64):=by
 intro v hv
 rw [List.mem_singleton.1 hv]
 exact ⟨Hb,fun h=>by cases h⟩
theorem Mw {v:Az} (h:Dr v):AF v.n∧(v.t=false→v.b.size≤64):=⟨h.1,fun _=>h.2⟩
theorem Mv {v:List Az} (h:∀ x∈v,Dr x) (k:Nat):Dr (v.getD k Bt):=by
 rw [List.getD_eq_getElem?_getD]
 cases hk:v[k]? with
 |none=>exact Mx
 |some x=>exact h x (Bl hk)
theorem Sz (s:ByteArray) (i:Int):AF (DB s i):=by
 unfold DB
 split
 ·unfold AF;omega
 ·have:=UInt8.toNat_lt (s[i.toNat]?.getD 0)
  unfold AF
  omega
theorem UI {D:Bc} (hD:∀ s:ByteArray,AF (D.num s)) {key:ByteArray} {n:Int} {m:VM} {i:Bm} {v:List Az} (hm:DZ n m) (hi:Bf i n) (ha:AF i.a) (hv:∀ x∈v,Dr x) (h:(BS D key m i v).2=0):DZ n (BS D key m i v).1:=by
 have h0:=Mv hv 0
 have h1:=Mv hv 1
 have g1:=hi.1
 have g2:=hi.2.1
 have two:∀ {a b:Az},Dr a→Dr b→∀ x∈[a,b],AF x.n∧(x.t=false→x.b.size≤64):=by
  intro a b pa pb x hx
  rcases List.mem_cons.1 hx with rfl|hx
  ·exact Mw pa
  ·rw [List.mem_singleton.1 hx];exact Mw pb
 have one:∀ {a:Az},Dr a→∀ x∈[a],AF x.n∧(x.t=false→x.b.size≤64):=by
  intro a pa x hx
  rw [List.mem_singleton.1 hx];exact Mw pa
 have bit:∀ b:Bool,AF (if b then 1 else 0):=by intro b;cases b<;>(unfold AF;decide)
 rcases (show i.op=0∨i.op=1∨i.op=2∨i.op=3∨i.op=4∨i.op=5∨i.op=6∨i.op=7∨(i.op=8∨i.op=9∨i.op=10∨i.op=11)∨i.op=12∨i.op=13∨i.op=14∨i.op=15∨i.op=16∨i.op=17∨i.op=18∨i.op=19∨i.op=20∨i.op=21∨i.op=22∨i.op=23 by omega) with
  e|e|e|e|e|e|e|e|e|e|e|e|e|e|e|e|e|e|e|e|e
 ·rw [KV e] at h ⊢;exact ⟨hm.ok,hm.len,hm.told,hm.pos⟩
 ·rw [KW e] at h ⊢;exact Ew hm h (Hf ha)
 ·rw [K9 e] at h ⊢;exact Ew hm h (HX _)
 ·rw [Lc e] at h ⊢;exact Ew hm h (two h0 h0)
 ·rw [Ld e] at h ⊢;exact hm
 ·rw [Le e] at h ⊢;exact Ew hm h (two h1 h0)
 ·rw [Lf e] at h ⊢;exact Ew hm h (HX _)
 ·rw [Jd e] at h ⊢
  unfold F7 at h ⊢
  split at h
  ·exact Ew hm h (Hf (by unfold AF;omega))
  ·rename_i x xs hx
   have hm2:DZ n {m with vals:=xs}:=⟨hm.ok,hm.len,hm.told,hm.pos⟩
   refine Ew hm2 h fun y hy=>?_
   rcases List.mem_cons.1 hy with rfl|hy
   ·exact HX x _ (List.mem_singleton.2 U)
   ·exact Hf (n:=1) (by unfold AF;omega) y hy
 ·rw [HA e] at h ⊢;exact Ew hm h (one (Xm _ _ _))
 ·rw [KX e] at h ⊢;exact Ew hm h (Hf (bit _))
 ·rw [KY e] at h ⊢;exact Ew hm h (HX _)
 ·rw [KZ e] at h ⊢;exact Ew hm h (Hf (by have:=h0.2;unfold AF;omega))
 ·rw [K0 e] at h ⊢;exact Ew hm h (Hf (Sz _ _))
 ·rw [K5 e] at h ⊢;exact Ew hm h (HX _)
 ·rw [K6 e] at h ⊢;exact Ew hm h (HX _)
 ·rw [K7 e] at h ⊢;exact Ew hm h (Hf (hD _))
 ·rw [K8 e] at h ⊢
  have:=hi.2.2.2.2.1 (.inl e)
  exact ⟨hm.ok,hm.len,hm.told,⟨this.1,this.2.1⟩⟩
 ·rw [Io e] at h ⊢
  have:=hi.2.2.2.2.1 (.inr e)
  split
  ·exact ⟨hm.ok,hm.len,hm.told,⟨this.1,this.2.1⟩⟩
  ·exact hm
 ·rw [K_ e] at h ⊢;exact Ew hm h (one (hm.ok.2 _))
 ·rw [La e] at h ⊢
  refine ⟨⟨hm.ok.1,fun k=>?_⟩,hm.len,hm.told,hm.pos⟩
  show Dr (if k=i.a.toNat then v.getD 0 Bt else m.g k)
  split
  ·exact h0
  ·exact hm.ok.2 k
 ·rw [Lb e] at h ⊢
  refine ⟨hm.ok,hm.len,?_,hm.pos⟩
  show (C_ m.told (v.getD 0 Bt).b (v.getD 1 Bt).b).2.length≤40
  have:=hm.told
  unfold C_
  split
  ·exact this
  ·split
   ·exact this
   ·simp only [List.length_append,List.length_cons,List.length_nil];omega
theorem JN {D:Bc} (hD:∀ s:ByteArray,AF (D.num s)) {key:ByteArray} {n:Int} {m:VM} {i:Bm} (hm:DZ n m) (hi:Bf i n) (ha:AF i.a) (h:(BC D key m i).2=0):DZ n (BC D key m i).1:=by
 by_cases hN:(AC i.op m.stk).1≠0
 ·rw [Is hN] at h;exact absurd h hN
 ·rw [CR hN] at h ⊢
  obtain ⟨l1,l2,l3,l4⟩:=Mo (Classical.not_not.1 hN)
  exact UI hD ⟨⟨fun v hv=>hm.ok.1 v (l4 v hv),hm.ok.2⟩,Nat.le_trans l2 hm.len,hm.told,hm.pos⟩ hi ha (fun x hx=>hm.ok.1 x (l3 x hx)) h
section
variable {D:Bc} {p:List Bm} {key:ByteArray} {m:VM} {i:Bm}
theorem IJ (k:Nat) (h:¬ (m.pos<p.length∧m.halted=false)):Cd D p key k m=(m,0):=by
 cases k<;>exact if_neg h
theorem QC (h:m.pos<p.length∧m.halted=false):Cd D p key 0 m=(m,3):=if_pos h
theorem MF {k:Nat} (h:m.pos<p.length∧m.halted=false) (hi:p[m.pos.toNat]?=some i) (hw:(BC D key {m with pos:=m.pos+1} i).2≠0):Cd D p key (k+1) m=BC D key {m with pos:=m.pos+1} i:=by
 unfold Cd
 rw [if_pos h,hi]
 exact if_pos hw
theorem II {k:Nat} (h:m.pos<p.length∧m.halted=false) (hi:p[m.pos.toNat]?=some i) (hw:¬ (BC D key {m with pos:=m.pos+1} i).2≠0):Cd D p key (k+1) m=Cd D p key k (BC D key {m with pos:=m.pos+1} i).1:=by
 conv=>lhs;unfold Cd
 rw [if_pos h,hi]
 exact if_neg hw
end
theorem O9 (n:Nat) (vals:List ByteArray):DZ n (C1 vals) where
 ok:=⟨fun v hv=>(by cases hv),fun _=>Mx⟩
 len:=Nat.zero_le _
 told:=Nat.zero_le _
 pos:=⟨Int.le_refl 0,Int.natCast_nonneg n⟩
theorem Qa {xs:List Bm} (h:C3 xs<0):∀ x∈xs,Bf x xs.length:=by
 by_cases hl:xs.length≤40
 ·exact (NH hl).1 h
 ·exfalso
  unfold C3 at h
  split at h
  ·omega
  ·rw [if_pos (by omega)] at h
   omega
theorem L4 {n:Int} {m:VM} (h:DZ n m) (hp:m.pos<n):DZ n {m with pos:=m.pos+1}:=⟨h.ok,h.len,h.told,⟨by have:=h.pos;show 0≤m.pos+1;omega,by show m.pos+1≤n;omega⟩⟩
def LY (P:Program) (name:String) (Q:Array Value→Prop):SP where
 P w F:=∃ g,P.globalNamed name=some g∧F g∧∃ cs,w.var? P name=some cs∧Q cs
 loc:=fun ⟨g,h1,h2,cs,h3,h4⟩ hk=>⟨g,h1,h2,cs,by
  unfold World.var? at h3 ⊢
  rw [h1] at h3 ⊢
  simp only [Option.bind_some] at h3 ⊢
  rw [hk g h2]
  exact h3,h4⟩
 mono:=fun ⟨g,h1,h2,h3⟩ hs=>⟨g,h1,hs g h2,h3⟩
def NO (A B:SP):SP where
 P w F:=A.P w F∧B.P w F
 loc:=fun ⟨a,b⟩ hk=>⟨SP.loc _ a hk,SP.loc _ b hk⟩
 mono:=fun ⟨a,b⟩ hs=>⟨SP.mono _ a hs,SP.mono _ b hs⟩
section
variable {w0 w w':World} {F0:AV} {As Rs:List SP}
theorem Hd.after (H:Hd w0 F0 w As Rs) (ub:Cb none_ w w'):Hd w0 F0 w' As Rs:=by
 have h:Hd w0 F0 w' (CH True::As) Rs:=H.new ub (F':=none_) trivial (fun _ h=>h.elim)
 exact h.drop
theorem Nl (h:Go.RowKit.Below w.heap.size w w'):Cb none_ w w':=⟨h.os,h.tape,h.output,h.size,fun k hk _=>h.block k hk⟩
theorem aF (w:World) (k:Nat) (os:Array Obj):Cb none_ w (Sort.grow (w.drewN k) os):=⟨rfl,rfl,rfl,by simp [Sort.grow],fun i hi _=>by
 show (w.heap++os)[i]?=_
 rw [Array.getElem?_append_left hi]⟩
end
/-! ### Calls that were put off -/
def KT (P:Program) (f:FuncId) (args:List Value) (As Rs:List SP) (T:Value→List SP→Prop):Prop:=
 ∀ w F u,Hd w F w As Rs→CallsD P f args.toArray u w fun e u' w'=>u'=u∧Hv (fun v w'=>∃ Bs,T v Bs∧Hd w F w' Bs Rs) e w'
theorem Oc {P:Program} {n:Nat} {w:World} {f:FuncId} {fn:Func} {c:Code} {args:List Value} {u:FrameMode} {R:Ending→World→Prop} (hf:P.funcs[f]?=some fn) (hb:fn.body=some c) (hn:fn.ntmps=n) (hl:args.length≤n)
  (h:WC P c (bodyPost P fn R) n (HF 0 args) w):CallsD P f args.toArray u w fun e u' w'=>u'=u∧R e w':=by
 refine callsD_of_wp hf hb (h _ ⟨rfl,?_,?_⟩)
 ·simp only [Array.size_append,List.size_toArray,Array.size_replicate,hn]
  omega
 ·intro s v hs
  obtain ⟨_,h2⟩:=Mj args 0 s v hs
  have hlt:s<args.length:=by
   rcases Nat.lt_or_ge s args.length with h'|h'
   ·exact h'
   ·simp [List.getElem?_eq_none h'] at h2
  refine ⟨?_,by omega⟩
  have h3:args[s]?=some v:=by simpa using h2
  simp [Array.getD_eq_getD_getElem?,Array.getElem?_append,hlt]
  simpa [List.getElem?_eq_getElem hlt] using h3
theorem Jl {P:Program} {w0 w:World} {F0:AV} {As Rs Cs Ss:List SP} {f:FuncId} {args:List Value} {u:FrameMode} {T:Value→List SP→Prop} (hc:KT P f args Cs Ss T) (H:Hd w0 F0 w (Cs++As) Rs) (hl:Fg w As Rs Ss):
  CallsD P f args.toArray u w fun e u' w'=>u'=u∧Hv (fun v w'=>∃ Bs,T v Bs∧Hd w0 F0 w' (Bs++As) Rs) e w':=by
 obtain ⟨Fc,h1,h2⟩:=H.frame hl
 refine (hc w Fc u h1).mono ?_
 rintro e u' w' ⟨hu,v,rfl,Bs,hT,hB⟩
 exact ⟨hu,v,rfl,Bs,hT,h2 w' Bs hB⟩
/-! ### Digits that are made once -/
def Dt (n:Int):ByteArray:=⟨(Lib.itoa n).toArray⟩
def EE (n:Int) (c t:Nat):SP:=ex fun f:Value=>blk c [.int .u32 1,.int .i32 0,.int .u32 0,.int .u32 1,f,.string (Dt n)] t
def E7 (p:Int×Nat):Int×Value:=(p.1,.pointer (some ⟨p.2,0,none⟩))
def D8 (t:Nat) (kvs:List (Int×Nat)):SP:=Cz (kvs.map fun p=>EE p.1 p.2 t)
def Jq (t b:Nat):SP:=ex fun kvs:List (Int×Nat)=>Cz [EJ b (kvs.map E7),D8 t kvs]
section
variable {w0 w w':World} {F0:AV} {As Rs:List SP} {t b:Nat}
theorem Hd.ex_out {α:Sort _} {A:α→SP} (H:Hd w0 F0 w (ex A::As) Rs):∃ a,Hd w0 F0 w (A a::As) Rs:=by
 obtain ⟨F,G,⟨F1,F2,h1,h2,h3,⟨a,ha⟩,s⟩,r,d,f,g,u⟩:=H
 exact ⟨a,F,G,⟨F1,F2,h1,h2,h3,ha,s⟩,r,d,f,g,u⟩
theorem Hd.ex_in {α:Sort _} {A:α→SP} (a:α) (H:Hd w0 F0 w (A a::As) Rs):Hd w0 F0 w (ex A::As) Rs:=H.turn fun _ h=>⟨a,h⟩
theorem TI (H:Hd w0 F0 w (Jq t b::As) Rs):∃ kvs:List (Int×Nat),Hd w0 F0 w (EJ b (kvs.map E7)::D8 t kvs::As) Rs:=by
 obtain ⟨kvs,h⟩:=H.ex_out
 exact ⟨kvs,h.open_ (Bs:=[EJ b (kvs.map E7),D8 t kvs]) fun F hF=>hF⟩
theorem Lu (kvs:List (Int×Nat)) (H:Hd w0 F0 w (EJ b (kvs.map E7)::D8 t kvs::As) Rs):Hd w0 F0 w (Jq t b::As) Rs:=
 (Hd.shut (Bs:=[EJ b (kvs.map E7),D8 t kvs]) H fun F hF=>hF).ex_in kvs
theorem S7 (H:Hd w0 F0 w As Rs):Hd w0 F0 w (D8 t []::As) Rs:=Hd.shut (Bs:=[]) H fun F hF=>hF
theorem TH {A:SP} (H:Hd w0 F0 w (A::EJ b []::As) Rs):Hd w0 F0 w (A::Jq t b::As) Rs:=by
 have h1:Hd w0 F0 w (EJ b []::A::As) Rs:=H.perm (List.Perm.swap _ _ _)
 have h2:=(S7 (t:=t) h1).perm (List.Perm.swap _ _ _)
 exact (Lu [] h2).perm (List.Perm.swap _ _ _)
theorem ZR {A B C:SP} (H:Hd w0 F0 w (A::B::C::As) Rs):Hd w0 F0 w (C::A::B::As) Rs:=H.perm (((List.Perm.swap C B As).cons A).trans (List.Perm.swap C A _))
theorem NC {n:Int}:∀ {kvs:List (Int×Nat)} {v:Value},Ep n (kvs.map E7)=some v→∃ c,v=.pointer (some ⟨c,0,none⟩)∧(n,c)∈kvs
 |[],_,h=>by simp [Ep] at h
 |p::kvs,v,h=>by
  simp only [List.map_cons,Ep,E7] at h
  split at h
  ·rename_i e
   refine ⟨p.2,(Option.some.inj h).symm,?_⟩
   rw [e]
   exact List.mem_cons_self ..
  ·obtain ⟨c,h1,h2⟩:=NC h
   exact ⟨c,h1,List.mem_cons_of_mem _ h2⟩
theorem ND {n:Int} {v:Value}:∀ {kvs:List (Int×Value)},Ep n kvs=none→Ep n (kvs++[(n,v)])=some v
 |[],_=>by simp [Ep]
 |p::kvs,h=>by
  simp only [List.cons_append,Ep] at h ⊢
  split at h
  ·cases h
  ·rename_i e
   rw [if_neg e]
   exact ND h
theorem WI (kvs:List (Int×Nat)) (n:Int) (b:Nat):(kvs++[(n,b)]).map E7=kvs.map E7++[(n,.pointer (some ⟨b,0,none⟩))]:=by simp [E7]
theorem S9 {kvs:List (Int×Nat)} {n:Int} {c:Nat} (hm:(n,c)∈kvs) (H:Hd w0 F0 w (D8 t kvs::As) Rs):∃ rest:List (Int×Nat),Hd w0 F0 w (EE n c t::D8 t rest::As) Rs∧∀ {w1:World} {F1:AV} {w2:World} {Bs Rs':List SP},Hd w1 F1 w2 (EE n c t::D8 t rest::Bs) Rs'→Hd w1 F1 w2 (D8 t kvs::Bs) Rs':=by
 obtain ⟨s,u,rfl⟩:=List.append_of_mem hm
 have hp:((s++(n,c)::u).map fun p=>EE p.1 p.2 t).Perm (EE n c t::((s++u).map fun p=>EE p.1 p.2 t)):=by
  rw [List.map_append,List.map_cons,List.map_append]
  exact List.perm_middle
 refine ⟨s++u,?_,?_⟩
 ·have h1:Hd w0 F0 w (Cz (EE n c t::((s++u).map fun p=>EE p.1 p.2 t))::As) Rs:=H.turn fun F hF=>Cj.perm hp hF
  refine h1.open_ (Bs:=[EE n c t,D8 t (s++u)]) fun F hF=>?_
  obtain ⟨F1,F2,a1,a2,a3,a,b⟩:=hF
  exact ⟨F1,F2,a1,a2,a3,a,F2,none_,fun _ h=>h,fun _ h=>h.elim,fun _ _ h=>h,b,trivial⟩
 ·intro w1 F1 w2 Bs Rs' H2
  refine Hd.shut (Bs:=[EE n c t,D8 t (s++u)]) H2 fun F hF=>?_
  obtain ⟨F1,F2,a1,a2,a3,a,F3,F4,b1,b2,b3,b,_⟩:=hF
  exact Cj.perm hp.symm ⟨F1,F2,a1,a2,a3,a,Cj.mono b b1⟩
theorem S8 {kvs:List (Int×Nat)} {n:Int} {c:Nat} (H:Hd w0 F0 w (EE n c t::D8 t kvs::As) Rs):Hd w0 F0 w (D8 t (kvs++[(n,c)])::As) Rs:=by
 have hp:((kvs++[(n,c)]).map fun p=>EE p.1 p.2 t).Perm (EE n c t::(kvs.map fun p=>EE p.1 p.2 t)):=by
  rw [List.map_append,List.map_cons,List.map_nil]
  exact List.perm_append_singleton ..
 refine Hd.shut (Bs:=[EE n c t,D8 t kvs]) H fun F hF=>?_
 obtain ⟨F1,F2,a1,a2,a3,a,F3,F4,b1,b2,b3,b,_⟩:=hF
 exact Cj.perm hp.symm ⟨F1,F2,a1,a2,a3,a,Cj.mono b b1⟩
end
section
variable {P:Program} {n:Nat} {l:BA} {w w0:World} {F0:AV} {o:Oper} {x y:Operand} {t kt et:TypeId} {As Rs:List SP} {b:Nat} {kvs:List (Int×Value)} {v:Value}
theorem Kf (ho:o.op=.lookup t x y false) (hm:P.underlying t=some (.map kt et)) (hk:P.underlying kt=some (.int .i64)) {z:Value} (hz:C8 P et=some z) (hx:ev l x=some (.map (some b))) {k:Int} (hy:ev l y=some (.int .i64 k))
  (H:Hd w0 F0 w As Rs) (j:Nat) (hj:As[j]?=some (EJ b kvs)) (hv:(Ep k kvs).getD z=v):Bw P n l w o v w:=hv▸YC ho hm hk hz hx hy H j hj
end
def gl:SP:=NO (LY Tryz.prog "internal/strconv.uint64pow10" (fun cs=>cs=(Lib.pow10Tab.map fun z=>Value.int .u64 z).toArray)) (NO (LY Tryz.prog "strconv.ErrSyntax" (fun cs=>∃ tp p,cs=#[.iface tp p])) (LY Tryz.prog "strconv.ErrRange" (fun cs=>∃ tp p,cs=#[.iface tp p])))
def FH (s:ByteArray):Int:=match Lib.parseIntB 64 s.data.toList with
 |.ok v=>if Dt v=s then v else 0
 |_=>0
def dg:Bc:=⟨Dt,FH⟩
abbrev Du (b:Nat):SP:=Jq 234 b
theorem Gu (s:ByteArray):AF (dg.num s):=by
 show AF (FH s)
 unfold FH
 split
 ·rename_i v h
  have:=Lib.parseIntB_bounds h
  split
  ·unfold AF;omega
  ·exact Hb
 ·exact Hb
theorem Un (n:Int) (hn:AF n):Cn Tryz.prog 326 [.int .i64 n,.int .i64 10] [] [gl] (fun v Bs=>v=.string (dg.dig n)∧Bs=[]):=by
 intro w F H
 have htab:Lib.TabIs Tryz.prog w "internal/strconv.uint64pow10" .u64 Lib.pow10Tab:=H.factR (List.mem_cons_self ..) fun F h=>by
  obtain ⟨⟨g,h1,h2,cs,h3,rfl⟩,_⟩:=h
  exact h3
 refine (Go.Proofs.Tryz.strconv_FormatInt_10 n hn.1 hn.2 w htab).mono ?_
 rintro e w' ⟨rfl,k,os,rfl⟩
 exact ⟨_,rfl,[],⟨rfl,rfl⟩,H.after (aF w k os)⟩
theorem XT (s:ByteArray) (hs:s.size≤64) (v:Int) (h:Lib.parseIntB 64 s.data.toList=.ok v):Cn Tryz.prog 305 [.string s,.int .i64 10,.int .i64 64] [] [gl] (fun r Bs=>r=.tuple #[.int .i64 v,.nilIface]∧Bs=[]):=by
 intro w F H
 refine (Go.Proofs.Tryz.strconv_ParseInt_10_at64_ok s (by omega) v h w).mono ?_
 rintro e w' ⟨rfl,hw⟩
 refine ⟨_,rfl,[],⟨rfl,rfl⟩,?_⟩
 rcases hw with rfl|⟨t,rfl⟩
 ·exact H
 ·exact H.after (Nl (Lib.bytesWorld_below ..))
theorem XS (s:ByteArray) (hs:s.size≤64) (h:∀ v,Lib.parseIntB 64 s.data.toList≠.ok v):Cn Tryz.prog 305 [.string s,.int .i64 10,.int .i64 64] [] [gl] (fun r Bs=>∃ x te pe,r=.tuple #[.int .i64 x,.iface te pe]∧Bs=[]):=by
 intro w F H
 obtain ⟨tp,p,hS⟩:∃ tp p,w.var? Tryz.prog "strconv.ErrSyntax" =some #[.iface tp p]:=H.factR (List.mem_cons_self ..) fun F h=>by
  obtain ⟨_,⟨g,h1,h2,cs,h3,tp,p,rfl⟩,_⟩:=h
  exact ⟨tp,p,h3⟩
 obtain ⟨tq,q,hR⟩:∃ tp p,w.var? Tryz.prog "strconv.ErrRange" =some #[.iface tp p]:=H.factR (List.mem_cons_self ..) fun F h=>by
  obtain ⟨_,_,⟨g,h1,h2,cs,h3,tp,p,rfl⟩⟩:=h
  exact ⟨tp,p,h3⟩
 rcases hh:Lib.parseIntB 64 s.data.toList with v|_|_
 ·exact absurd hh (h v)
 ·refine (Go.Proofs.Tryz.strconv_ParseInt_10_at64_syntax_var s (by omega) (fun e he=>by rw [hh] at he;subst he;exact ⟨fun v=>nofun,nofun⟩) tp p w hS).mono ?_
  rintro e w' ⟨N,rfl,_,_,hb⟩
  exact ⟨_,rfl,[],⟨_,_,_,rfl,rfl⟩,H.after (Nl hb)⟩
 ·refine (Go.Proofs.Tryz.strconv_ParseInt_10_at64_range_var s (by omega) hh tq q w hR).mono ?_
  rintro e w' ⟨N,rfl,_,_,hb⟩
  exact ⟨_,rfl,[],⟨_,_,_,rfl,rfl⟩,H.after (Nl hb)⟩
theorem N2 (n:Int) (hn:AF n):
    Cn Tryz.prog 304 [.int .i64 n] [] [gl] (fun v Bs=>v=.string (dg.dig n)∧Bs=[]):=by
 intro w0 F0 H
 refine enter Tryz.func304 U U (Nat.le_of_ble_eq_true U) (Z (Ac (Ab U (Aa (Y (Z (Ac (Ab U (sc (Un n (by assumption)) H (lR 0 U l0) U U (At V4 U U) ?_)))))))))
 rintro _ _ w ⟨rfl,rfl⟩ H
 exact Ab U (Aa (Y (Ai (Am U U (Ag ⟨rfl,rfl⟩ H)))))
theorem Xi {s:ByteArray} (h:∀ v,Lib.parseIntB 64 s.data.toList≠.ok v):dg.num s=0:=by
 show FH s=0
 unfold FH
 split
 ·rename_i v hh
  exact absurd hh (h v)
 ·rfl
theorem Xj (s:ByteArray) (hs:s.size≤64):
    Cn Tryz.prog 275 [.string s] [] [gl] (fun v Bs=>v=.int .i64 (dg.num s)∧Bs=[]):=by
 intro w0 F0 H
 refine enter Tryz.func275 U U (Nat.le_of_ble_eq_true U) (Z (Ac (Ab U (Aa (Y (Z ?_))))))
 by_cases hok:∃ v,Lib.parseIntB 64 s.data.toList=.ok v
 ·refine Ac (Ab U ?_)
  obtain ⟨x0,hx0⟩:=hok
  have hxb:=Lib.parseIntB_bounds hx0
  have hx64:AF x0:=by unfold AF;omega
  refine sc (XT s hs x0 hx0) H (lR 0 U l0) U U (At PG U U) ?_
  rintro _ _ w ⟨rfl,rfl⟩ H
  refine Ad 5 U (Aa (Y (Z (Z (Ac (Ab U (V U U (Q4 U Sa U (.inl ⟨rfl,rfl⟩)) (Ad 2 U (sc (N2 x0 (by assumption)) H (lR 0 U l0) U U (At PF U U) ?_)))))))))
  rintro _ _ w ⟨rfl,rfl⟩ H
  refine Ab U (V U U (Kh U U U) (Ab U (Aa (Y ?_))))
  refine Aq U (fun h1=>?_) (fun h1=>?_)
  ·refine Z (Ac (Ab U (Aa (Y (Ai (Ao (Am U U ?_)))))))
   have e:dg.num s=0:=by show FH s=_;unfold FH;rw [hx0];exact if_neg h1
   exact Ag ⟨by rw [e]<;>rfl,rfl⟩ H
  refine Av (Y (Z (Ac (Ad 2 U (Aa (Y (Ai (Am U U ?_))))))))
  have e:dg.num s=x0:=by show FH s=_;unfold FH;rw [hx0];exact if_pos (Classical.not_not.1 h1)
  exact Ag ⟨by rw [e]<;>rfl,rfl⟩ H
 refine Ac (Ab U (sc (XS s hs (fun v h=>hok ⟨v,h⟩)) H (lR 0 U l0) U U (At PG U U) ?_))
 rintro _ _ w ⟨x0,te,pe,rfl,rfl⟩ H
 refine Ad 5 U (Aa (Y (Z (Z (Ac (Ab U (V U U (Q4 U Sa U (.inr ⟨_,_,rfl,rfl⟩)) (Ad 6 U (Aa (Y (BM U (Z (Ac (Ab U (Aa (Y (Ai (Ao (Am U U ?_)))))))))))))))))))
 have e:dg.num s=0:=Xi (fun v h=>hok ⟨v,h⟩)
 exact Ag ⟨by rw [e]<;>rfl,rfl⟩ H
theorem NF (b:Bool):
    Cn Tryz.prog 187 [.bool b] [] [] (fun v Bs=>v=.int .u32 (if b=true then 1 else 0)∧Bs=[]):=by
 intro w0 F0 H
 refine enter Tryz.func187 U U (Nat.le_of_ble_eq_true U) (Z (Ac (Ab U (Aa (Y (Z (Z (Ac (Ab U (Aa (Y ?_)))))))))))
 refine DJ (b:=b) U (fun h1=>?_) (fun h1=>?_)
 ·exact Z (Ac (Ab U (Aa (Y (Ai (Ao (Am U U (Ag ⟨by simp [h1],rfl⟩ H))))))))
 exact Av (Y (Z (Ac (Ab U (Aa (Y (Ai (Am U U (Ag ⟨by simp [h1],rfl⟩ H)))))))))
theorem M_ (c:Nat) (d m:Int) (sm:Value) (md:Int) (fv:Value) (tx:ByteArray):
    Cn Tryz.prog 142 [.pointer (some ⟨c,3,none⟩),.bool true] [blk c [.int .u32 d,.int .i32 m,sm,.int .u32 md,fv,.string tx] 234] [] (fun v Bs=>v=.tuple #[]∧Bs=[blk c [.int .u32 d,.int .i32 m,sm,.int .u32 1,fv,.string tx] 234]):=by
 intro w0 F0 H
 refine enter Tryz.func142 U U (Nat.le_of_ble_eq_true U) (BD (.e 0 (.e 1 (.e 2 (.e 3 (.m 4 (.m 5 .z)))))) (fun w=>∃ Ar,Hd w0 F0 w (Ar) []) mo (by kernel_rfl) (fun w H=>⟨_,H⟩) H (fun w H=>(Ap U (Ak U U U (fun w ⟨Ar,H⟩=>AI U U) (Ak U U U (fun w ⟨Ar,H⟩=>Ah U Jz U) (Ap U (AL U (sc (NF true) H l0 U U (At Po U U) ?_))))))))
 rintro _ _ w ⟨rfl,rfl⟩ H
 exact AH ⟨_,H⟩ (AL U (RK Oh U U U U H U (fun w H=>(AH ⟨_,H⟩ (Bx (Dg U (Ag ⟨rfl,rfl⟩ H)))))))
theorem R2 (c:Nat) (d m:Int) (sm:Value) (md:Int) (fv:Value) (tx:ByteArray):
    KT Tryz.prog 142 [.pointer (some ⟨c,0,none⟩),.bool true] [blk c [.int .u32 d,.int .i32 m,sm,.int .u32 md,fv,.string tx] 234] [] (fun v Bs=>v=.tuple #[]∧Bs=[blk c [.int .u32 1,.int .i32 m,sm,.int .u32 md,fv,.string tx] 234]):=by
 intro w0 F0 ufm H
 refine Oc Tryz.func142 U U (Nat.le_of_ble_eq_true U) (BD (.e 0 (.e 1 (.e 2 (.e 3 (.m 4 (.m 5 .z)))))) (fun w=>∃ Ar,Hd w0 F0 w (Ar) []) mo (by kernel_rfl) (fun w H=>⟨_,H⟩) H (fun w H=>(Ap U (Ak U U U (fun w ⟨Ar,H⟩=>AI U U) (Ak U U U (fun w ⟨Ar,H⟩=>Ah U Jz U) (Ap U (AL U (sc (NF true) H l0 U U (At Po U U) ?_))))))))
 rintro _ _ w ⟨rfl,rfl⟩ H
 exact AH ⟨_,H⟩ (AL U (RK Oh U U U U H U (fun w H=>(AH ⟨_,H⟩ (Bx (Dg U (Ag ⟨rfl,rfl⟩ H)))))))
theorem JY (c:Nat) (m:Int) (sm:Value) (md:Int) (fv:Value) (tx:ByteArray):
    Cn Tryz.prog 144 [.pointer (some ⟨c,0,none⟩)] [] [blk c [.int .u32 0,.int .i32 m,sm,.int .u32 md,fv,.string tx] 234] (fun v Bs=>v=.bool false∧Bs=[]):=by
 intro w0 F0 H
 exact enter Tryz.func144 U U (Nat.le_of_ble_eq_true U) (Z (Ac (Ab U (Aa (Y (Z (Ac (Ab U (V U U (AI U U) (V U U (Ah U Jz U) (V U U (MJ Oi U U (H.cellRI 0 U U)) (V U U (CL U U U) (Ab U (Aa (Y (Ai (Am U U (Ag ⟨rfl,rfl⟩ H))))))))))))))))))
theorem Wn (c:Nat) (m:Int) (sm:Value) (md:Int) (fv:Value) (tx:ByteArray):
    Cn Tryz.prog 144 [.pointer (some ⟨c,0,none⟩)] [] [blk c [.int .u32 1,.int .i32 m,sm,.int .u32 md,fv,.string tx] 234] (fun v Bs=>v=.bool true∧Bs=[]):=by
 intro w0 F0 H
 exact enter Tryz.func144 U U (Nat.le_of_ble_eq_true U) (Z (Ac (Ab U (Aa (Y (Z (Ac (Ab U (V U U (AI U U) (V U U (Ah U Jz U) (V U U (MJ Oi U U (H.cellRI 0 U U)) (V U U (CL U U U) (Ab U (Aa (Y (Ai (Am U U (Ag ⟨rfl,rfl⟩ H))))))))))))))))))
theorem UF (c:Nat) (d:Int) (sm:Value) (md:Int) (fv:Value) (tx:ByteArray):
    Cn Tryz.prog 262 [.pointer (some ⟨c,1,none⟩)] [blk c [.int .u32 d,.int .i32 0,sm,.int .u32 md,fv,.string tx] 234] [] (fun v Bs=>v=.tuple #[]∧Bs=[blk c [.int .u32 d,.int .i32 1,sm,.int .u32 md,fv,.string tx] 234]):=by
 intro w0 F0 H
 exact enter Tryz.func262 U U (Nat.le_of_ble_eq_true U) (Z (Ac (V U U (Kg Oj U U) (Aa (Y (Z (Z (Ac (Ab U (V U U (AI U U) (V U U (Ah U LM U) (RJ T0 U U U U H U (fun w H=>(Aa (Y (BM U (Z (BM U (Z (Ac (V U U (Kg Ok U U) (Aa (Y (Ac (Ab U (V U U (Q7 U Sc Se Qj U (H.cellI 0 U U)) (V U U (Q6 T1 U U) (Aa (Y (Ai (Ao (MI U (Ag ⟨rfl,rfl⟩ H)))))))))))))))))))))))))))))))))
theorem PV (c:Nat) (d:Int) (sm:Value) (md:Int) (fv:Value) (tx:ByteArray):
    Cn Tryz.prog 241 [.pointer (some ⟨c,1,none⟩)] [blk c [.int .u32 d,.int .i32 0,sm,.int .u32 md,fv,.string tx] 234] [] (fun v Bs=>v=.tuple #[]∧Bs=[blk c [.int .u32 d,.int .i32 1,sm,.int .u32 md,fv,.string tx] 234]):=by
 intro w0 F0 H
 refine enter Tryz.func241 U U (Nat.le_of_ble_eq_true U) (Ac (Ab U (V U U (AI U U) (V U U (Ah U Oy U) (sc (UF c d sm md fv tx) H l0 U U (At VL U U) ?_)))))
 rintro _ _ w ⟨rfl,rfl⟩ H
 exact Aa (Dg U (Ag ⟨rfl,rfl⟩ H))
theorem UP (c:Nat) (d:Int) (sm:Value) (md:Int) (fv:Value) (tx:ByteArray):
    Cn Tryz.prog 263 [.pointer (some ⟨c,1,none⟩)] [blk c [.int .u32 d,.int .i32 1,sm,.int .u32 md,fv,.string tx] 234] [] (fun v Bs=>v=.tuple #[]∧Bs=[blk c [.int .u32 d,.int .i32 0,sm,.int .u32 md,fv,.string tx] 234]):=by
 intro w0 F0 H
 exact enter Tryz.func263 U U (Nat.le_of_ble_eq_true U) (Z (BM U (Z (Ac (Ab U (V U U (AI U U) (V U U (Ah U LM U) (V U U (Aj U Z6 U (H.cellI 0 U U)) (Aa (Y (Z (Ac (Ab U (V U U (Q7 U Sc Se Qj U (H.cellI 0 U U)) (V U U (Q6 T2 U U) (Aa (Y (Ac (V U U (Kg Oj U U) (Aa (Y (Z (Ac (Ab U (V U U (AI U U) (V U U (Ah U LM U) (Zg T3 U U U U H U U (fun w H=>(Ab U (Aa (Y (Z (Z (Ac (Ab U (V U U (CL U U U) (Aa (Y (B0 U (Av (Y (Ac (V U U (Kg Ok U U) (Aa (Dg U (Ag ⟨rfl,rfl⟩ H))))))))))))))))))))))))))))))))))))))))))))))
theorem Sd (c:Nat) (d:Int) (sm:Value) (md:Int) (fv:Value) (tx:ByteArray):
    KT Tryz.prog 242 [.pointer (some ⟨c,1,none⟩)] [blk c [.int .u32 d,.int .i32 1,sm,.int .u32 md,fv,.string tx] 234] [] (fun v Bs=>v=.tuple #[]∧Bs=[blk c [.int .u32 d,.int .i32 0,sm,.int .u32 md,fv,.string tx] 234]):=by
 intro w0 F0 ufm H
 refine Oc Tryz.func242 U U (Nat.le_of_ble_eq_true U) (Ac (Ab U (V U U (AI U U) (V U U (Ah U Oy U) (sc (UP c d sm md fv tx) H l0 U U (At VN U U) ?_)))))
 rintro _ _ w ⟨rfl,rfl⟩ H
 exact Aa (Dg U (Ag ⟨rfl,rfl⟩ H))
set_option maxRecDepth 100000 in
theorem TN (c pl:Nat) (sm:Value) (md:Int) (fv:Value) (tx tx2:ByteArray) (Rs:List SP)
  (hcl:Cn Tryz.prog 170 [.pointer (some ⟨pl,0,none⟩)] [blk c [.int .u32 0,.int .i32 1,sm,.int .u32 md,fv,.string tx] 234] Rs (fun v Bs=>v=.tuple #[]∧Bs=[blk c [.int .u32 0,.int .i32 1,sm,.int .u32 md,fv,.string tx2] 234])):
  Cn Tryz.prog 205 [.pointer (some ⟨c,0,none⟩),.func (.func 170) #[] #[.pointer (some ⟨pl,0,none⟩)]] [blk c [.int .u32 0,.int .i32 0,sm,.int .u32 md,fv,.string tx] 234] Rs (fun v Bs=>v=.tuple #[]∧Bs=[blk c [.int .u32 1,.int .i32 0,sm,.int .u32 md,fv,.string tx2] 234]):=by
 intro w F H
 have hnot:∀ (x:Bool) (w:World),(Op.unary .not (.bool x)).run Tryz.prog w=.ok (.bool (!x)) w:=fun _ _=>rfl
 go_enter_defers Tryz.func205,Tryz.ntmps205
 go_wp2_with (first
  |(go_at_call 241;refine (Fz (As:=[]) (PV c 0 sm md fv tx) H l0).mono ?_;rintro e w1 ⟨v,rfl,Bs,⟨rfl,rfl⟩,H1⟩)
  |(go_at_call 144;refine (Fz (Cs:=[]) (JY c 1 sm md fv tx) H1 (lA 0 rfl (fun _ h=>h) l0)).mono ?_;rintro e w2 ⟨v,rfl,Bs,⟨rfl,rfl⟩,H2⟩)
  |(go_at_call 170;refine (Fz (As:=[]) hcl H2 Mi).mono ?_;rintro e w3 ⟨v,rfl,Bs,⟨rfl,rfl⟩,H3⟩))
 refine leaves_cons (f:=142) (args:=#[.pointer (some ⟨c,0,none⟩),.bool true]) (by simp) (by simp [go_sem]) ((Jl (As:=[]) (R2 c 0 1 sm md fv tx2) H3 l0).mono ?_)
 rintro e u' w4 ⟨rfl,v,rfl,Bs,⟨rfl,rfl⟩,H4⟩
 refine leaves_cons (f:=242) (args:=#[.pointer (some ⟨c,1,none⟩)]) (by simp [settle]) (by simp [go_sem]) ((Jl (As:=[]) (Sd c 1 sm md fv tx2) H4 l0).mono ?_)
 rintro e u' w5 ⟨rfl,v,rfl,Bs,⟨rfl,rfl⟩,H5⟩
 exact ⟨.tuple #[],by simp [results,Tryz.results205],.tuple #[],rfl,_,⟨rfl,rfl⟩,H5⟩
theorem Z0 (nb:Nat) (n:Int) (hn:AF n):
    Cn Tryz.prog 303 [.pointer (some ⟨nb,0,none⟩)] [] [blk nb [.int .i64 n] 2,gl] (fun v Bs=>v=.string (dg.dig n)∧Bs=[]):=by
 intro w0 F0 H
 refine enter Tryz.func303 U U (Nat.le_of_ble_eq_true U) (Z (Ac (Ab U (Aa (Y (Z (Ac (V U U (Aj U Cw U (H.cellRI 0 U U)) (sc (N2 n (by assumption)) H (lR 1 U l0) U U (At PF U U) ?_)))))))))
 rintro _ _ w ⟨rfl,rfl⟩ H
 exact Ab U (Aa (Y (Ai (Am U U (Ag ⟨rfl,rfl⟩ H)))))
theorem Us (c pl nb:Nat) (n:Int) (hn:AF n) (sm:Value) (md:Int) (tx:ByteArray):
    Cn Tryz.prog 170 [.pointer (some ⟨pl,0,none⟩)] [blk c [.int .u32 0,.int .i32 1,sm,.int .u32 md,.func (.func 303) #[] #[.pointer (some ⟨nb,0,none⟩)],.string tx] 234] [blk pl [.pointer (some ⟨c,0,none⟩)] 161,blk nb [.int .i64 n] 2,gl] (fun v Bs=>v=.tuple #[]∧Bs=[blk c [.int .u32 0,.int .i32 1,sm,.int .u32 md,.func (.func 303) #[] #[.pointer (some ⟨nb,0,none⟩)],.string (dg.dig n)] 234]):=by
 intro w0 F0 H
 refine enter Tryz.func170 U U (Nat.le_of_ble_eq_true U) (Z (Ac (V U U (Aj U DA U (H.cellRI 0 U U)) (V U U (AI U U) (V U U (Ah U JA U) (V U U (Aj U KD U (H.cellI 0 U U)) (V U U (Q3 U Sb U U) (Aa (Y (BM U (BD (.e 0 (.e 1 (.e 2 (.e 3 (.m 4 (.m 5 (.e 6 (.e 7 (.m 8 .z))))))))) (fun w=>∃ Ar,Hd w0 F0 w (Ar) [blk pl [.pointer (some ⟨c,0,none⟩)] 161,blk nb [.int .i64 n] 2,gl]) mo (by kernel_rfl) (fun w H=>⟨_,H⟩) H (fun w H=>(Ak U U U (fun w ⟨Ar,H⟩=>Aj U DA U (H.cellRI 0 U U)) (Ak U U U (fun w ⟨Ar,H⟩=>Aj U DA U (H.cellRI 0 U U)) (Ak U U U (fun w ⟨Ar,H⟩=>AI U U) (Ak U U U (fun w ⟨Ar,H⟩=>Ah U JA U) (AL U (V U U (Aj U KD U (H.cellI 0 U U)) (AH ⟨_,H⟩ (AL U (sc (Z0 nb n hn) H (lR 1 U (lR 2 U l0)) U U (Gk (vs:=[]) (fs:=#[]) (cs:=#[.pointer (some ⟨nb,0,none⟩)]) V3 U U U) ?_)))))))))))))))))))))
 rintro _ _ w ⟨rfl,rfl⟩ H
 exact AH ⟨_,H⟩ (Ak U U U (fun w ⟨Ar,H⟩=>AI U U) (Ak U U U (fun w ⟨Ar,H⟩=>Ah U Iu U) (AL U (By U U U Bd U U H U (Nat.le_of_ble_eq_true U) (fun u hu=>by simp [Value.cells] at hu;subst hu;rfl) (fun w H=>(AH ⟨_,H⟩ (Bx (Dg U (Ag ⟨rfl,rfl⟩ H)))))))))
theorem TJ (c pl nb:Nat) (n:Int) (hn:AF n) (sm:Value) (md:Int) (tx:ByteArray):
    Cn Tryz.prog 169 [.pointer (some ⟨c,0,none⟩),.func (.func 170) #[] #[.pointer (some ⟨pl,0,none⟩)]] [blk c [.int .u32 0,.int .i32 0,sm,.int .u32 md,.func (.func 303) #[] #[.pointer (some ⟨nb,0,none⟩)],.string tx] 234] [blk pl [.pointer (some ⟨c,0,none⟩)] 161,blk nb [.int .i64 n] 2,gl] (fun v Bs=>v=.tuple #[]∧Bs=[blk c [.int .u32 1,.int .i32 0,sm,.int .u32 md,.func (.func 303) #[] #[.pointer (some ⟨nb,0,none⟩)],.string (dg.dig n)] 234]):=by
 intro w0 F0 H
 refine enter Tryz.func169 U U (Nat.le_of_ble_eq_true U) (Z (Ac (Ab U (V U U (AI U U) (V U U (Ah U LN U) (sc (JY c 0 sm md (.func (.func 303) #[] #[.pointer (some ⟨nb,0,none⟩)]) tx) H (lA 0 U (fun _ h=>h) l0) U U (At Mb U U) ?_))))))
 rintro _ _ w ⟨rfl,rfl⟩ H
 refine V U U (E9 U U U) (Aa (Y (BM U (Ac (Ad 2 U (sc (TN c pl sm md (.func (.func 303) #[] #[.pointer (some ⟨nb,0,none⟩)]) tx (dg.dig n) [blk pl [.pointer (some ⟨c,0,none⟩)] 161,blk nb [.int .i64 n] 2,gl] (Us c pl nb n hn sm md tx)) H (lR 0 U (lR 1 U (lR 2 U l0))) U U (At Ps U U) ?_))))))
 rintro _ _ w ⟨rfl,rfl⟩ H
 exact Aa (Dg U (Ag ⟨rfl,rfl⟩ H))
theorem TK (c pl:Nat) (m:Int) (sm:Value) (md:Int) (fv:Value) (tx:ByteArray):
    Cn Tryz.prog 169 [.pointer (some ⟨c,0,none⟩),.func (.func 170) #[] #[.pointer (some ⟨pl,0,none⟩)]] [] [blk c [.int .u32 1,.int .i32 m,sm,.int .u32 md,fv,.string tx] 234] (fun v Bs=>v=.tuple #[]∧Bs=[]):=by
 intro w0 F0 H
 refine enter Tryz.func169 U U (Nat.le_of_ble_eq_true U) (Z (Ac (Ab U (V U U (AI U U) (V U U (Ah U LN U) (sc (Wn c m sm md fv tx) H (lR 0 U l0) U U (At Mb U U) ?_))))))
 rintro _ _ w ⟨rfl,rfl⟩ H
 exact V U U (E9 U U U) (Aa (Y (B0 U (Av (Dg U (Ag ⟨rfl,rfl⟩ H))))))
theorem Ur (c nb:Nat) (n:Int) (hn:AF n):
    Cn Tryz.prog 109 [.pointer (some ⟨c,0,none⟩)] [blk c [.int .u32 0,.int .i32 0,.int .u32 0,.int .u32 0,.func (.func 303) #[] #[.pointer (some ⟨nb,0,none⟩)],.string ⟨#[]⟩] 234] [blk nb [.int .i64 n] 2,gl] (fun v Bs=>v=.string (dg.dig n)∧Bs=[blk c [.int .u32 1,.int .i32 0,.int .u32 0,.int .u32 1,.func (.func 303) #[] #[.pointer (some ⟨nb,0,none⟩)],.string (dg.dig n)] 234]):=by
 intro w0 F0 H
 refine enter Tryz.func109 U U (Nat.le_of_ble_eq_true U) (Z (Ac (B4 U U U U H (fun b1 w H=>(Ab U (Aa (Y (Z (Z (Ac (V U U (Aj U DA U (H.cellI 0 U U)) (V U U (Dh U I5 U U) (Aa (Y (B0 U (Av (Y (Z (Ac (V U U (Aj U DA U (H.cellI 0 U U)) (V U U (AI U U) (V U U (Ah U LP U) ?_))))))))))))))))))))))
 replace H:=H.p1
 refine sc (M_ c 0 0 (.int .u32 0) 0 (.func (.func 303) #[] #[.pointer (some ⟨nb,0,none⟩)]) (⟨#[]⟩:ByteArray)) H l0 U U (At Ma U U) ?_
 rintro _ _ w ⟨rfl,rfl⟩ H
 refine Aa (Y (Z (Ac (V U U (Aj U DA U (H.cellI 1 U U)) (V U U (AI U U) (V U U (Ah U LO U) (V U U (Hh (fs:=#[]) (cs:=#[.pointer (some ⟨b1,0,none⟩)]) U U U) (sc (TJ c b1 nb n hn (.int .u32 0) 1 ⟨#[]⟩) H (lA 0 U (fun _ h=>h) (lR 0 U (lR 1 U l0))) U U (At Me U U) ?_))))))))
 rintro _ _ w ⟨rfl,rfl⟩ H
 refine Aa (Y (Z (Ac (V U U (Aj U DA U (H.cellI 1 U U)) (V U U (AI U U) (V U U (Ah U Iu U) (V U U (Aj U Bd U (H.cellI 0 U U)) (Ab U (Aa (Y (Ai (Am U U ?_))))))))))))
 replace H:=H.k1
 exact Ag ⟨rfl,rfl⟩ H
theorem LX (c:Nat) (fv:Value) (tx:ByteArray):
    Cn Tryz.prog 109 [.pointer (some ⟨c,0,none⟩)] [blk c [.int .u32 1,.int .i32 0,.int .u32 0,.int .u32 1,fv,.string tx] 234] [] (fun v Bs=>v=.string tx∧Bs=[blk c [.int .u32 1,.int .i32 0,.int .u32 0,.int .u32 1,fv,.string tx] 234]):=by
 intro w0 F0 H
 refine enter Tryz.func109 U U (Nat.le_of_ble_eq_true U) (Z (Ac (B4 U U U U H (fun b1 w H=>(Ab U (Aa (Y (Z (Z (Ac (V U U (Aj U DA U (H.cellI 0 U U)) (V U U (Dh U I5 U U) (Aa (Y (B0 U (Av (Y (Z (Ac (V U U (Aj U DA U (H.cellI 0 U U)) (V U U (AI U U) (V U U (Ah U LP U) ?_))))))))))))))))))))))
 replace H:=H.p1
 refine sc (M_ c 1 0 (.int .u32 0) 1 fv tx) H l0 U U (At Ma U U) ?_
 rintro _ _ w ⟨rfl,rfl⟩ H
 refine Aa (Y (Z (Ac (V U U (Aj U DA U (H.cellI 1 U U)) (V U U (AI U U) (V U U (Ah U LO U) (V U U (Hh (fs:=#[]) (cs:=#[.pointer (some ⟨b1,0,none⟩)]) U U U) (sc (TK c b1 0 (.int .u32 0) 1 fv tx) H (lA 0 U (fun _ h=>h) l0) U U (At Me U U) ?_))))))))
 rintro _ _ w ⟨rfl,rfl⟩ H
 refine Aa (Y (Z (Ac (V U U (Aj U DA U (H.cellI 1 U U)) (V U U (AI U U) (V U U (Ah U Iu U) (V U U (Aj U Bd U (H.cellI 0 U U)) (Ab U (Aa (Y (Ai (Am U U ?_))))))))))))
 replace H:=H.k1
 exact Ag ⟨rfl,rfl⟩ H
theorem Wh (nb:Nat):
    Cn Tryz.prog 95 [.func (.func 303) #[] #[.pointer (some ⟨nb,0,none⟩)]] [] [] (fun v Bs=>∃ b,v=.pointer (some ⟨b,0,none⟩)∧Bs=[blk b [.int .u32 0,.int .i32 0,.int .u32 0,.int .u32 0,.func (.func 303) #[] #[.pointer (some ⟨nb,0,none⟩)],.string ⟨#[]⟩] 234]):=by
 intro w0 F0 H
 exact enter Tryz.func95 U U (Nat.le_of_ble_eq_true U) (Z (Ac (Ab U (Aa (Y (Z (Ac (Ab U (V U U (CV (parts:=[(2,.tmp 3)]) (vs:=[.func (.func 303) #[] #[.pointer (some ⟨nb,0,none⟩)]]) (cs:=[.int .u32 0,.int .i32 0,.int .u32 0,.int .u32 0,.func (.func 303) #[] #[.pointer (some ⟨nb,0,none⟩)],.string ⟨#[]⟩]) U NJ U U) (B4 U U U U H (fun b1 w H=>(Ab U (Aa (Y (Ai (Am U U (Ag ⟨_,rfl,rfl⟩ H)))))))))))))))))
theorem Z1 (r:Nat) (pv:Value) (key:ByteArray) (vv:Value) (fuel pos steps:Int) (halted:Bool) (sv:Value) (g:Nat→Az) (tv:Value) (mb:Nat) (n:Int) (hn:AF n):
    Cn Tryz.prog 274 [.pointer (some ⟨r,0,none⟩),.int .i64 n] [Du mb] [blk r (Di pv key vv fuel pos steps halted sv g tv (.map (some mb))) 288,gl] (fun v Bs=>v=.string (dg.dig n)∧Bs=[Du mb]):=by
 intro w0 F0 H
 obtain ⟨kvs,H⟩:=TI H
 refine enter Tryz.func274 U U (Nat.le_of_ble_eq_true U) (Z (Ac (B4 U U U U H (fun b1 w H=>(Ab U (Aa (Y (Z (Z ?_)))))))))
 by_cases hno:Ep n (kvs.map E7)=none
 ·refine Et mo (by kernel_rfl) H (C7 U (Ba U U (fun w H=>AI U U) (Ba U U (fun w H=>Ah U Iv U) (Ba U U (fun w H=>Aj U I4 U (H.cellRI 0 U U)) (Ba U U (fun w H=>Aj U Cw U (H.cellI 0 U U)) (Ba U U (fun w H=>Kf U I6 Gd KN U U H 1 U (by rw [hno]<;>rfl)) (Ba U U (fun w H=>Dh U I5 U U) (El (fun w H=>(Y (BM U ?_)))))))))))
  replace H:=H.sel 3 [0,2,1] [] rfl (by kernel_rfl)
  refine BD (.e 0 (.e 1 (.e 2 (.e 3 (.e 4 (.e 5 (.m 6 (.m 7 .z)))))))) (fun w=>∃ Ar,Hd w0 F0 w (blk b1 [.int .i64 n] 2::D8 234 kvs::Ar) [blk r (Di pv key vv fuel pos steps halted sv g tv (.map (some mb))) 288,gl]) mo (by kernel_rfl) (fun w H=>⟨_,H⟩) H (fun w H=>(Ap U (Ak U U U (fun w ⟨Ar,H⟩=>AI U U) (Ak U U U (fun w ⟨Ar,H⟩=>Ah U Iv U) (Ak U U U (fun w ⟨Ar,H⟩=>Aj U I4 U (H.cellRI 0 U U)) (Ak U U U (fun w ⟨Ar,H⟩=>Aj U Cw U (H.cellI 0 U U)) (Ak U U U (fun w ⟨Ar,H⟩=>Hh (fs:=#[]) (cs:=#[.pointer (some ⟨b1,0,none⟩)]) U U U) (AL U (sc (Wh b1) H l0 U U (At PQ U U) ?_)))))))))
  rintro _ _ w ⟨b2,rfl,rfl⟩ H
  replace H:=H.p2|>.p2
  refine AH ⟨_,H⟩ (AL U ?_)
  replace H:=H.p3
  refine Zp U U U I6 Gd U U U hno H (fun w H=>?_)
  replace H:=H.p2|>.p2
  refine AH ⟨_,H⟩ (Bx (Y (Z (BD (.e 0 (.e 1 (.e 2 (.e 3 (.e 4 (.e 5 (.m 6 (.e 7 .z)))))))) (fun w=>∃ Ar,Hd w0 F0 w (blk b1 [.int .i64 n] 2::D8 234 kvs::EJ mb (kvs.map E7++[(n,.pointer (some ⟨b2,0,none⟩))])::Ar) [blk r (Di pv key vv fuel pos steps halted sv g tv (.map (some mb))) 288,gl]) mo (by kernel_rfl) (fun w H=>⟨_,H⟩) H (fun w H=>(Ap U (Ak U U U (fun w ⟨Ar,H⟩=>AI U U) (Ak U U U (fun w ⟨Ar,H⟩=>Ah U Iv U) (Ak U U U (fun w ⟨Ar,H⟩=>Aj U I4 U (H.cellRI 0 U U)) (Ak U U U (fun w ⟨Ar,H⟩=>Aj U Cw U (H.cellI 0 U U)) (Ak U U U (fun w ⟨Ar,H⟩=>Kf U I6 Gd KN U U H 2 U (by rw [ND hno]<;>rfl)) (AL U ?_))))))))))))
  replace H:=H.p3
  refine sc (Ur b2 b1 n hn) H (lA 0 U (fun _ h=>h) (lR 1 U l0)) U U (At Iz U U) ?_
  rintro _ _ w ⟨rfl,rfl⟩ H
  replace H:=H.p3|>.p3|>.p3
  refine AH ⟨_,H⟩ (Ap U (Bx (Y (Ai (Am U U ?_)))))
  replace H:=H.p2.p2.p3.k3
  replace H:=S8 (n:=n) (H.ex_in (A:=fun f:Value=>blk b2 [.int .u32 1,.int .i32 0,.int .u32 0,.int .u32 1,f,.string (Dt n)] 234) (.func (.func 303) #[] #[.pointer (some ⟨b1,0,none⟩)]))
  replace H:=H.perm (List.Perm.swap _ _ _)
  rw [←WI] at H
  replace H:=Lu _ H
  exact Ag ⟨rfl,rfl⟩ H
 refine Et mo (by kernel_rfl) H (C7 U (Ba U U (fun w H=>AI U U) (Ba U U (fun w H=>Ah U Iv U) (Ba U U (fun w H=>Aj U I4 U (H.cellRI 0 U U)) (Ba U U (fun w H=>Aj U Cw U (H.cellI 0 U U)) ?_)))))
 obtain ⟨v0,hv0⟩:=Option.ne_none_iff_exists'.1 hno
 obtain ⟨c,rfl,hmem⟩:=NC hv0
 refine Ba U U (fun w H=>Kf U I6 Gd KN U U H 1 U (by rw [hv0]<;>rfl)) (Ba U U (fun w H=>Dh U I5 U U) (El (fun w H=>(Y (B0 U (Av (Y (Z (BD (.e 0 (.e 1 (.e 2 (.e 3 (.e 4 (.e 5 (.m 6 (.e 7 .z)))))))) (fun w=>∃ Ar,Hd w0 F0 w (blk b1 [.int .i64 n] 2::EJ mb (kvs.map E7)::D8 234 kvs::Ar) [blk r (Di pv key vv fuel pos steps halted sv g tv (.map (some mb))) 288,gl]) mo (by kernel_rfl) (fun w H=>⟨_,H⟩) H (fun w H=>(Ap U (Ak U U U (fun w ⟨Ar,H⟩=>AI U U) (Ak U U U (fun w ⟨Ar,H⟩=>Ah U Iv U) (Ak U U U (fun w ⟨Ar,H⟩=>Aj U I4 U (H.cellRI 0 U U)) (Ak U U U (fun w ⟨Ar,H⟩=>Aj U Cw U (H.cellI 0 U U)) (Ak U U U (fun w ⟨Ar,H⟩=>Kf U I6 Gd KN U U H 1 U (by rw [hv0]<;>rfl)) (AL U ?_)))))))))))))))))
 replace H:=H.p2
 obtain ⟨rest,H,hback⟩:=S9 hmem H
 obtain ⟨f0,H⟩:=H.ex_out
 refine sc (LX c f0 (Dt n)) H l0 U U (At Iz U U) ?_
 rintro _ _ w ⟨rfl,rfl⟩ H
 replace H:=hback (H.ex_in (A:=fun f:Value=>blk c [.int .u32 1,.int .i32 0,.int .u32 0,.int .u32 1,f,.string (Dt n)] 234) f0)
 replace H:=H.p2.p2
 refine AH ⟨_,H⟩ (Ap U (Bx (Y (Ai (Am U U ?_)))))
 replace H:=H.p2.p2.k2
 replace H:=Lu _ H
 exact Ag ⟨rfl,rfl⟩ H
end Go.Proofs.YthgehekecfpikaaGreatDoor.X
