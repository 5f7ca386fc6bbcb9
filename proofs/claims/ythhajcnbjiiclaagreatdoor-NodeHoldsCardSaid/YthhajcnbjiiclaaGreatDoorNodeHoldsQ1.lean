/- NodeHolds: texts XL, XL3, XA, XW, XO, XS, XAb, XP, XQ, XR, XK, XN, XU, XProg, XC, XV, XSy, XMap, XV2, XH, XT, XT2, XT3, XT4, XPair, XMer, XMer2, XProg2, XRec, XV3, XV4, XV5, XG, XE, XJob, XJob2, XCfg, XWin, joined by a program of ours; what nothing names is left out. -/
import Derived.Tactics
import Derived.Deep.Quiet
import Derived.Below
import Derived.WalkKit
import Derived.ChangeArms
import Derived.ChangeOld
import Derived.Sort.Row
import Derived.Sort.Grow
import Derived.Sort.EncStr
import Derived.Lib.SlicesCompact
import Derived.Laws.LoneSync
import Derived.MapKept
import Derived.WideLaws
import Derived.Sort.Walk0
import Derived.Defers
import Derived.Lib.LaidTab
import Derived.Lib.ItoaNum
import Derived.Lib.AppendIntMem
import Derived.KernelRfl
open Array renaming getD_eq_getD_getElem? → pm, getElem?_append → xe, getElem?_append_left → vt, getElem?_eq_getElem → ud, getElem?_eq_none → rg, getElem?_eq_some_iff → ta, getElem?_modify → uw, length_toList → sg, mapM_eq_mapM_toList → wg, range → yu, size_append → un, size_replicate → xi, toList_inj → si
open Bool renaming eq_iff_iff → sw
open Classical renaming byContradiction → qq, epsilon → yn, epsilon_spec → xa, not_imp → yo, not_not → oq
open Int renaming le_refl → sl
open List renaming any_eq_false → rz, any_eq_true → sj, append_assoc → og, append_nil → oy, cons_append → wk, drop_drop → vk, drop_eq_nil_of_le → sk, drop_length_add_append → sq, drop_succ_cons → xr, eq_nil_of_length_eq_zero → oz, ext_getElem → zf, ext_getElem? → sd, filter_append → po, filter_cons → tn, filter_cons_of_neg → qg, filter_cons_of_pos → pq, filter_eq_nil_iff → tg, findIdx?_eq_none_iff → we, flatMap_cons → ox, getD_eq_getElem?_getD → qo, getElem!_toArray → ux, getElem?_append_left → qb, getElem?_append_right → qn, getElem?_drop → pz, getElem?_eq_getElem → ol, getElem?_eq_none → py, getElem?_eq_some_iff → oh, getElem?_map → om, getElem?_of_mem → qh, getElem?_set → qf, getElem?_take → qj, getElem_map → uu, getElem_range → xw, length_append → nr, length_cons → nz, length_drop → pt, length_filter_le → ql, length_map → nu, length_nil → ny, length_take → oo, mapM_cons → zy, map_append → oa, map_cons → pf, mem_append → pj, mem_cons → pn, mem_cons_of_mem → ow, mem_cons_self → od, mem_filter → re, mem_of_getElem? → nt, mem_singleton → pc, nil_append → rv, not_mem_nil → qx, pairwise_cons → qr, pairwise_iff_getElem → wh, range → qa, replicate → pd, replicate_succ → td, size_toArray → rh, take_add_one → qu, take_append_drop → qm, take_left → tj, take_length_add_append → so, take_of_length_le → oe, take_take → ul, toList_toArray → xt, zip_cons_cons → xx
open Nat renaming add_assoc → tu, add_comm → ro, add_mul → tz, add_zero → uy, div_add_mod → zm, div_eq_of_lt → zg, div_lt_of_lt_mul → xj, eq_zero_or_pos → uf, le_refl → ou, le_trans → ot, lt_of_lt_of_le → qw, lt_or_ge → pg, min_eq_left → rm, mul_assoc → jab, mul_comm → sr, mul_eq_zero → uz, mul_le_mul_right → qp, succ_mul → pw, zero_add → su, zero_le → oc
open Option renaming bind_eq_some_iff → px, bind_some → wi, map_eq_some_iff → qc, map_some → rk
open Go.Value renaming bool → nw, int → ph, string → pp
set_option linter.unusedVariables false
set_option linter.unusedSimpArgs false
set_option maxHeartbeats 8000000
open Go.Value renaming int→Y,slice→V,pointer→zP
open Go.IntKind renaming i64→Z
namespace Go.Proofs.YthhajcnbjiiclaaGreatDoor.X
open Go
variable {α β σ:Type} {K:Act→World→Prop} {args cs:List Value} {bs d k off q:Nat} {bt t' tt:TypeId} {fn:Func} {k':IntKind} {l:List α} {ops:Array Oper} {u v v':Value} {w0:World}
theorem U.{u} {α:Sort u} {a:α}:a=a:=rfl
def G0 {α:Type} (p:α→Bool) (xs:List α):Int:=match xs.findIdx? p with |some i=>(i:Int)|none=> -1
theorem NZ {p:α→Bool} {xs:List α} {x:α} (h:∀ y∈xs.take k,p y=false) (hx:xs[k]?=some x) (hp:p x=true):G0 p xs=(k:Int):=by
 have:xs.findIdx? p=some k:=by
  rw [List.findIdx?_eq_some_iff_getElem];have hlt:k<xs.length:=by
   rcases pg k xs.length with h'|h'
   exact h';simp [py h'] at hx
  refine ⟨hlt,by rw [ol hlt] at hx;rw [Option.some.inj hx];exact hp,fun j hj=>?_⟩;have:=h xs[j] (by rw [List.mem_take_iff_getElem];exact ⟨j,by omega,rfl⟩);simp [this]
 simp [G0,this]
theorem MG {p:α→Bool} {xs:List α} (h:∀ y∈xs,p y=false):G0 p xs= -1:=by
 have:xs.findIdx? p=none:=by
  rw [we];exact h
 simp [G0,this]
theorem N4 (p:α→Bool) (xs:List α):decide (0≤G0 p xs)=xs.any p:=by
 by_cases h:∃ y∈xs,p y=true;have h1:xs.any p=true:=by simpa using h
 rw [h1,decide_eq_true_eq];unfold G0;cases hf:xs.findIdx? p with
 |none=>
  rw [we] at hf;obtain ⟨y,hy,hp⟩:=h;rw [hf y hy] at hp;cases hp
 |some i=>simp
 have h':∀ y∈xs,p y=false:=fun y hy=>by
  cases hp:p y with
  |false=>rfl
  |true=>exact (h ⟨y,hy,hp⟩).elim
 rw [MG h'];have h1:xs.any p=false:=by
  rw [rz];intro y hy;simp [h' y hy]
 rw [h1];decide
theorem Pd {p:α→Bool} {xs:List α} {x:α} (h:∀ y∈xs.take k,p y=false) (hx:xs[k]?=some x) (hp:p x=false):∀ y∈xs.take (k+1),p y=false:=by
 intro y hy;rw [qu,hx] at hy;simp at hy;exact hy.elim (h y) (fun e=>e▸hp)
def cnt {α:Type} (p:α→Bool) (xs:List α):Nat:=(xs.filter p).length
theorem eR (p:α→Bool) (xs:List α) (x:α):cnt p (xs++[x])=cnt p xs+if p x then 1 else 0:=by
 unfold cnt;rw [po];by_cases h:p x<;>simp [h]
theorem VJ (p:α→Bool) (xs:List α):cnt p xs≤xs.length:=ql p xs
theorem VL {p:α→Bool} {xs:List α} {x:α} (hx:xs[k]?=some x):cnt p (xs.take (k+1))=cnt p (xs.take k)+if p x then 1 else 0:=by
 rw [qu,hx,←eR];rfl
abbrev BD:=Nat→Prop
def none_:BD:=fun _=>False
structure Dg (S:BD) (w w':World):Prop where
 os:w'.os=w.os
 tape:w'.tape=w.tape
 output:w'.output=w.output
 size:w.heap.size≤w'.heap.size
 block:∀ k,k<w.heap.size→¬ S k→w'.heap[k]?=w.heap[k]?
theorem Dg.refl (S:BD) (w:World):Dg S w w:=⟨rfl,rfl,rfl,ou _,fun _ _ _=>rfl⟩
theorem Dg.trans {S d:BD} {a b c:World} (h:Dg S a b) (k:Dg d b c) (hs:∀ i,i<a.heap.size→d i→S i):Dg S a c:=
 ⟨k.os.trans h.os,k.tape.trans h.tape,k.output.trans h.output,ot h.size k.size,
  fun i hi hn=>(k.block i (qw hi h.size) (fun x=>hn (hs i hi x))).trans (h.block i hi hn)⟩
theorem Dg.below {w w':World} (h:Dg none_ w w'):Go.RowKit.Below w.heap.size w w':=
 ⟨h.os,h.tape,h.output,h.size,fun k hk=>h.block k hk id⟩
theorem Dg.drewN (S:BD) (w:World) (n:Nat):Dg S w (w.drewN n):=⟨rfl,rfl,rfl,ou _,fun _ _ _=>rfl⟩
theorem Dg.alloc (S:BD) (w:World) (o:Obj):Dg S w (w.alloc o):=
 ⟨rfl,rfl,rfl,by simp,fun k hk _=>Go.RowKit.Below.heap_alloc w o k hk⟩
theorem Dg.setCell {S:BD} (w:World) (a:Addr) (v:Value) (h:S a.block):Dg S w (w.setCell a v):=
 ⟨rfl,rfl,rfl,by simp,fun k _ hn=>Go.RowKit.Below.heap_setCell w a v k (fun e=>hn (e▸h))⟩
structure SP where
 P:World→BD→Prop
 loc:∀ {w w':World} {F:BD},P w F→(∀ k,F k→w'.heap[k]?=w.heap[k]?)→P w' F
 mono:∀ {w:World} {F F':BD},P w F→(∀ k,F k→F' k)→P w F'
def DF:List SP→World→BD→Prop
 |[],_,_=>True
 |A::As,w,F=>∃ F1 F2:BD,(∀ k,F1 k→F k)∧(∀ k,F2 k→F k)∧(∀ k,F1 k→¬ F2 k)∧A.P w F1∧DF As w F2
theorem DF.loc:∀ {As:List SP} {w w':World} {F:BD},DF As w F→(∀ k,F k→w'.heap[k]?=w.heap[k]?)→DF As w' F
 |[],_,_,_,_,_=>trivial
 |_::_,_,_,_,⟨F1,F2,h1,h2,h3,a,s⟩,h=>⟨F1,F2,h1,h2,h3,SP.loc _ a (fun k hk=>h k (h1 k hk)),DF.loc s (fun k hk=>h k (h2 k hk))⟩
theorem DF.mono:∀ {As:List SP} {w:World} {F F':BD},DF As w F→(∀ k,F k→F' k)→DF As w F'
 |[],_,_,_,_,_=>trivial
 |_::_,_,_,_,⟨F1,F2,h1,h2,h3,a,s⟩,h=>⟨F1,F2,fun k hk=>h k (h1 k hk),fun k hk=>h k (h2 k hk),h3,a,s⟩
theorem DF.append_out:∀ {As Bs:List SP} {w:World} {F:BD},DF (As++Bs) w F→
  ∃ F1 F2:BD,(∀ k,F1 k→F k)∧(∀ k,F2 k→F k)∧(∀ k,F1 k→¬ F2 k)∧DF As w F1∧DF Bs w F2
 |[],_,_,F,h=>⟨none_,F,fun _ h=>h.elim,fun _ h=>h,fun _ h=>h.elim,trivial,h⟩
 |_::As,Bs,w,F,⟨F1,F2,h1,h2,h3,a,s⟩=>by
  obtain ⟨c,d,g1,g2,g3,sa,sb⟩:=DF.append_out (As:=As) (Bs:=Bs) s
  refine ⟨fun k=>F1 k∨c k,d,fun k hk=>hk.elim (h1 k) (fun x=>h2 k (g1 k x)),fun k hk=>h2 k (g2 k hk),?_,⟨F1,c,fun _=>.inl,fun _=>.inr,fun k a b=>h3 k a (g1 k b),a,sa⟩,sb⟩
  intro k hk hg
  exact hk.elim (fun x=>h3 k x (g2 k hg)) (fun x=>g3 k x hg)
theorem DF.append_in:∀ {As Bs:List SP} {w:World} {F F1 F2:BD},(∀ k,F1 k→F k)→(∀ k,F2 k→F k)→(∀ k,F1 k→¬ F2 k)→DF As w F1→DF Bs w F2→DF (As++Bs) w F
 |[],_,_,_,_,_,_,h2,_,_,b=>DF.mono b h2
 |_::As,Bs,_,F,F1,F2,h1,h2,h3,⟨c,d,g1,g2,g3,a,s⟩,b=>by
  refine ⟨c,fun k=>d k∨F2 k,fun k hk=>h1 k (g1 k hk),fun k hk=>hk.elim (fun x=>h1 k (g2 k x)) (h2 k),?_,a,
   DF.append_in (fun _=>.inl) (fun _=>.inr) (fun k x y=>h3 k (g2 k x) y) s b⟩
  intro k hk hg
  exact hg.elim (fun x=>g3 k hk x) (fun x=>h3 k (g1 k hk) x)
theorem DF.perm {As Bs:List SP} (p:As.Perm Bs):∀ {w:World} {F:BD},DF As w F→DF Bs w F:=by
 induction p with
 |nil=>exact fun h=>h
 |cons x _ ih=>exact fun ⟨F1,F2,h1,h2,h3,a,s⟩=>⟨F1,F2,h1,h2,h3,a,ih s⟩
 |swap x y l=>
  rintro w F ⟨F1,F2,h1,h2,h3,a,f,e,g1,g2,g3,b,s⟩;refine ⟨f,fun k=>F1 k∨e k,fun k hk=>h2 k (g1 k hk),fun k hk=>hk.elim (h1 k) (fun x=>h2 k (g2 k x)),?_,b,F1,e,fun _=>.inl,fun _=>.inr,fun k x y=>h3 k x (g2 k y),a,s⟩;intro k hk hg;exact hg.elim (fun x=>h3 k x (g1 k hk)) (fun x=>g3 k hk x)
 |trans _ _ c d=>exact fun h=>d (c h)
theorem DF.mem:∀ {As:List SP} {w:World} {F:BD} {A:SP},DF As w F→A∈As→A.P w F
 |_::_,_,_,_,⟨_,_,h1,h2,_,a,s⟩,h=>by
  cases h with
  |head=>exact SP.mono _ a h1
  |tail _ hm=>exact SP.mono _ (DF.mem s hm) h2
def Hd (w0:World) (F0:BD) (w:World) (As Rs:List SP):Prop:=
 ∃ F G:BD,DF As w F∧(∀ R∈Rs,R.P w G)∧(∀ k,F k→¬ G k)∧(∀ k,F k→k<w.heap.size∧(F0 k∨w0.heap.size≤k))∧(∀ k,G k→k<w.heap.size)∧Dg F0 w0 w
section
variable {w0 w:World} {F0:BD} {As Bs Rs:List SP} {A B R:SP}
theorem Hd.upd (h:Hd w0 F0 w As Rs):Dg F0 w0 w:=by obtain ⟨_,_,_,_,_,_,_,u⟩:=h;exact u
theorem Hd.perm (p:As.Perm Bs) (h:Hd w0 F0 w As Rs):Hd w0 F0 w Bs Rs:=by
 obtain ⟨F,G,s,r,d,f,g,u⟩:=h;exact ⟨F,G,s.perm p,r,d,f,g,u⟩
theorem Hd.subR {Ss:List SP} (h:Hd w0 F0 w As Rs) (hs:∀ R∈Ss,R∈Rs):Hd w0 F0 w As Ss:=by
 obtain ⟨F,G,s,r,d,f,g,u⟩:=h;exact ⟨F,G,s,fun R hR=>r R (hs R hR),d,f,g,u⟩
theorem Hd.drop (h:Hd w0 F0 w (A::As) Rs):Hd w0 F0 w As Rs:=by
 obtain ⟨F,G,⟨F1,F2,h1,h2,h3,a,s⟩,r,d,f,g,u⟩:=h;exact ⟨F2,G,s,r,fun k hk=>d k (h2 k hk),fun k hk=>f k (h2 k hk),g,u⟩
theorem Hd.nil (h:Hd w0 F0 w As Rs):Hd w0 F0 w [] Rs:=by
 obtain ⟨F,G,s,r,d,f,g,u⟩:=h;exact ⟨F,G,trivial,r,d,f,g,u⟩
theorem Hd.turn (h:Hd w0 F0 w (A::As) Rs) (hab:∀ F,A.P w F→B.P w F):Hd w0 F0 w (B::As) Rs:=by
 obtain ⟨F,G,⟨F1,F2,h1,h2,h3,a,s⟩,r,d,f,g,u⟩:=h;exact ⟨F,G,⟨F1,F2,h1,h2,h3,hab _ a,s⟩,r,d,f,g,u⟩
theorem Hd.turn2 {C:SP} (h:Hd w0 F0 w (A::B::As) Rs) (hab:∀ F1 F2,(∀ k,F1 k→¬ F2 k)→A.P w F1→B.P w F2→C.P w (fun k=>F1 k∨F2 k)):Hd w0 F0 w (C::As) Rs:=by
 obtain ⟨F,G,⟨F1,F2,h1,h2,h3,a,c,e,g1,g2,g3,b,s⟩,r,d,f,g,u⟩:=h;refine ⟨F,G,⟨fun k=>F1 k∨c k,e,fun k hk=>hk.elim (h1 k) (fun x=>h2 k (g1 k x)),fun k hk=>h2 k (g2 k hk),?_,hab F1 c (fun k x y=>h3 k x (g1 k y)) a b,s⟩,r,d,f,g,u⟩;intro k hk hg;exact hk.elim (fun x=>h3 k x (g2 k hg)) (fun x=>g3 k x hg)
theorem Hd.open_ (h:Hd w0 F0 w (A::As) Rs) (hab:∀ F,A.P w F→DF Bs w F):Hd w0 F0 w (Bs++As) Rs:=by
 obtain ⟨F,G,⟨F1,F2,h1,h2,h3,a,s⟩,r,d,f,g,u⟩:=h;exact ⟨F,G,DF.append_in h1 h2 h3 (hab _ a) s,r,d,f,g,u⟩
theorem Hd.shut (h:Hd w0 F0 w (Bs++As) Rs) (hab:∀ F,DF Bs w F→A.P w F):Hd w0 F0 w (A::As) Rs:=by
 obtain ⟨F,G,s,r,d,f,g,u⟩:=h;obtain ⟨F1,F2,h1,h2,h3,sa,sb⟩:=s.append_out;exact ⟨F,G,⟨F1,F2,h1,h2,h3,hab _ sa,sb⟩,r,d,f,g,u⟩
theorem Hd.lend (h:Hd w0 F0 w (A::As) Rs) (hab:∀ F,A.P w F→R.P w F):Hd w0 F0 w As (R::Rs):=by
 obtain ⟨F,G,⟨F1,F2,h1,h2,h3,a,s⟩,r,d,f,g,u⟩:=h;refine ⟨F2,fun k=>F1 k∨G k,s,?_,?_,fun k hk=>f k (h2 k hk),?_,u⟩;intro R' hR;cases hR with
 |head=>exact SP.mono _ (hab _ a) (fun _=>.inl)
 |tail _ hm=>exact SP.mono _ (r R' hm) (fun _=>.inr)
 intro k hk hg;exact hg.elim (fun x=>h3 k x hk) (fun x=>d k (h2 k hk) x);intro k hk;exact hk.elim (fun x=>(f k (h1 k x)).1) (g k)
theorem Hd.addR (h:Hd w0 F0 w As Rs) (hab:∀ G,(∀ R∈Rs,R.P w G)→R.P w G):Hd w0 F0 w As (R::Rs):=by
 obtain ⟨F,G,s,r,d,f,g,u⟩:=h;refine ⟨F,G,s,?_,d,f,g,u⟩;intro R' hR;cases hR with
 |head=>exact hab G r
 |tail _ hm=>exact r R' hm
theorem Hd.read {p:Prop} (h:Hd w0 F0 w As Rs) (hA:∀ F,(∀ A∈As,A.P w F)→(∀ R∈Rs,R.P w F)→p):p:=by
 obtain ⟨F,G,s,r,d,f,g,u⟩:=h;exact hA (fun k=>F k∨G k) (fun A hm=>SP.mono _ (s.mem hm) (fun _=>.inl)) (fun R hm=>SP.mono _ (r R hm) (fun _=>.inr))
theorem Hd.fact {p:Prop} (h:Hd w0 F0 w As Rs) (hm:A∈As) (hA:∀ F,A.P w F→p):p:=h.read fun F a _=>hA F (a A hm)
theorem Hd.factR {p:Prop} (h:Hd w0 F0 w As Rs) (hm:R∈Rs) (hA:∀ F,R.P w F→p):p:=h.read fun F _ r=>hA F (r R hm)
theorem Hd.drewN (h:Hd w0 F0 w As Rs) (n:Nat):Hd w0 F0 (w.drewN n) As Rs:=by
 obtain ⟨F,G,s,r,d,f,g,u⟩:=h;exact ⟨F,G,s.loc (fun _ _=>rfl),fun R hR=>SP.loc _ (r R hR) (fun _ _=>rfl),d,f,g,u.trans (Dg.drewN none_ w n) (fun _ _ x=>x.elim)⟩
theorem Hd.frame {Cs Ss:List SP} (h:Hd w0 F0 w (Cs++As) Rs) (hS:∀ S∈Ss,∀ F,(∀ A∈As,A.P w F)→(∀ R∈Rs,R.P w F)→S.P w F):
  ∃ Fc,Hd w Fc w Cs Ss∧∀ w' Cs',Hd w Fc w' Cs' Ss→Hd w0 F0 w' (Cs'++As) Rs:=by
 obtain ⟨F,G,s,r,d,f,g,u⟩:=h;obtain ⟨F1,F2,h1,h2,h3,sc,sa⟩:=s.append_out;refine ⟨F1,⟨F1,fun k=>F2 k∨G k,sc,?_,?_,fun k hk=>⟨(f k (h1 k hk)).1,.inl hk⟩,?_,Dg.refl _ _⟩,?_⟩;intro S hm;exact hS S hm _ (fun A ha=>SP.mono _ (sa.mem ha) (fun _=>.inl)) (fun R hr=>SP.mono _ (r R hr) (fun _=>.inr));intro k hk hg;exact hg.elim (h3 k hk) (d k (h1 k hk));intro k hk;exact hk.elim (fun x=>(f k (h2 k x)).1) (g k);rintro w' Cs' ⟨F',G',s',_,_,f',_,u'⟩;refine ⟨fun k=>F' k∨F2 k,G,DF.append_in (fun _=>.inl) (fun _=>.inr) ?_ s' (sa.loc ?_),?_,?_,?_,?_,?_⟩;intro k hk hg;have hlt:=(f k (h2 k hg)).1;exact (f' k hk).2.elim (fun x=>h3 k x hg) (fun x=>by omega);intro k hk;exact u'.block k (f k (h2 k hk)).1 (fun x=>h3 k x hk);intro R hm;exact SP.loc _ (r R hm) (fun k hk=>u'.block k (g k hk) (fun x=>d k (h1 k x) hk));intro k hk hg;refine hk.elim (fun x=>?_) (fun x=>d k (h2 k x) hg);have hlt:=g k hg;exact (f' k x).2.elim (fun y=>d k (h1 k y) hg) (fun y=>by omega);intro k hk;refine hk.elim (fun x=>⟨(f' k x).1,?_⟩) (fun x=>⟨qw (f k (h2 k x)).1 u'.size,(f k (h2 k x)).2⟩);exact (f' k x).2.elim (fun y=>(f k (h1 k y)).2) (fun y=>.inr (ot u.size y));intro k hk;exact qw (g k hk) u'.size;exact u.trans u' (fun i hi x=>(f i (h1 i x)).2.elim id (fun y=>by omega))
end
def blk (b:Nat) (cs:List Value) (t:TypeId):SP where
 P w F:=F b∧w.heap[b]?=some (.cells cs.toArray t (0,0))
 loc h hk:=⟨h.1,(hk b h.1).trans h.2⟩
 mono h hs:=⟨hs b h.1,h.2⟩
def FW (p:Prop):SP where
 P _ _:=p
 loc h _:=h
 mono h _:=h
def Fo (As:List SP):SP where
 P:=DF As
 loc:=DF.loc
 mono:=DF.mono
def ex {α:Sort _} (A:α→SP):SP where
 P w F:=∃ a,(A a).P w F
 loc h hk:=h.elim fun a ha=>⟨a,SP.loc _ ha hk⟩
 mono h hs:=h.elim fun a ha=>⟨a,SP.mono _ ha hs⟩
section
variable {w0 w:World} {F0:BD} {As Rs:List SP} {b:Nat} {cs:List Value} {t:TypeId}
theorem R0 {F:BD} (h:(blk b cs t).P w F) {i:Nat} (hv:cs[i]?=some v):w.cell? ⟨b,i,none⟩=some v:=by
 simp [World.cell?,h.2,hv]
theorem Vx {F:BD} (h:(blk b cs t).P w F) (i:Nat):w.frozen? ⟨b,i,none⟩=false:=by
 simp [World.frozen?,h.2]
theorem R4 {F:BD} (h:(blk b cs t).P w F) (i:Nat) (v:Value):(blk b (cs.set i v) t).P (w.setCell ⟨b,i,none⟩ v) F:=by
 refine ⟨h.1,?_⟩;have h2:=h.2;simp only [World.setCell,uw,↓reduceIte,h2,rk];simp
theorem Hd.cell (h:Hd w0 F0 w As Rs) (hm:blk b cs t∈As) {i:Nat} (hv:cs[i]?=some v):w.cell? ⟨b,i,none⟩=some v:=h.fact hm fun _ x=>R0 x hv
theorem Hd.cellR (h:Hd w0 F0 w As Rs) (hm:blk b cs t∈Rs) {i:Nat} (hv:cs[i]?=some v):w.cell? ⟨b,i,none⟩=some v:=h.factR hm fun _ x=>R0 x hv
theorem Hd.free (h:Hd w0 F0 w As Rs) (hm:blk b cs t∈As) (i:Nat):w.frozen? ⟨b,i,none⟩=false:=h.fact hm fun _ x=>Vx x i
theorem Hd.write {A B:SP} {w':World} (h:Hd w0 F0 w (A::As) Rs) (hab:∀ F,A.P w F→B.P w' F∧Dg F w w'):Hd w0 F0 w' (B::As) Rs:=by
 obtain ⟨F,G,⟨F1,F2,h1,h2,h3,a,s⟩,r,d,f,g,u⟩:=h;obtain ⟨hb,ub⟩:=hab _ a;refine ⟨F,G,⟨F1,F2,h1,h2,h3,hb,s.loc ?_⟩,?_,d,?_,?_,?_⟩;exact fun k hk=>ub.block k (f k (h2 k hk)).1 (fun x=>h3 k x hk);exact fun R hm=>SP.loc _ (r R hm) (fun k hk=>ub.block k (g k hk) (fun x=>d k (h1 k x) hk));exact fun k hk=>⟨qw (f k hk).1 ub.size,(f k hk).2⟩;exact fun k hk=>qw (g k hk) ub.size;exact u.trans ub (fun i hi x=>(f i (h1 i x)).2.elim id (fun y=>by omega))
theorem Hd.grow {A B:SP} {w':World} (h:Hd w0 F0 w (A::As) Rs) (hab:∀ F,A.P w F→(∀ k,F k→k<w.heap.size)→∃ F',B.P w' F'∧Dg F w w'∧∀ k,F' k→k<w'.heap.size∧(F k∨w.heap.size≤k)):Hd w0 F0 w' (B::As) Rs:=by
 obtain ⟨F,G,⟨F1,F2,h1,h2,h3,a,s⟩,r,d,f,g,u⟩:=h;obtain ⟨F',hb,ub,hF'⟩:=hab _ a (fun k hk=>(f k (h1 k hk)).1);refine ⟨fun k=>F' k∨F2 k,G,⟨F',F2,fun _=>.inl,fun _=>.inr,?_,hb,s.loc ?_⟩,?_,?_,?_,?_,?_⟩;intro k hk hg;have:=(f k (h2 k hg)).1;exact (hF' k hk).2.elim (fun x=>h3 k x hg) (fun x=>by omega);exact fun k hk=>ub.block k (f k (h2 k hk)).1 (fun x=>h3 k x hk);exact fun R hm=>SP.loc _ (r R hm) (fun k hk=>ub.block k (g k hk) (fun x=>d k (h1 k x) hk));intro k hk hg;have:=g k hg;exact hk.elim (fun x=>(hF' k x).2.elim (fun y=>d k (h1 k y) hg) (fun y=>by omega)) (fun x=>d k (h2 k x) hg);intro k hk;have:=u.size;refine hk.elim (fun x=>⟨(hF' k x).1,?_⟩) (fun x=>⟨qw (f k (h2 k x)).1 ub.size,(f k (h2 k x)).2⟩);exact (hF' k x).2.elim (fun y=>(f k (h1 k y)).2) (fun y=>.inr (by omega));exact fun k hk=>qw (g k hk) ub.size;exact u.trans ub (fun i hi x=>(f i (h1 i x)).2.elim id (fun y=>by omega))
theorem Hd.new {B:SP} {w':World} (h:Hd w0 F0 w As Rs) (ub:Dg none_ w w') {F':BD} (hb:B.P w' F') (hF':∀ k,F' k→k<w'.heap.size∧w.heap.size≤k):Hd w0 F0 w' (B::As) Rs:=by
 obtain ⟨F,G,s,r,d,f,g,u⟩:=h;have h':Hd w0 F0 w (FW True::As) Rs:=⟨F,G,⟨none_,F,fun _ x=>x.elim,fun _ x=>x,fun _ x=>x.elim,trivial,s⟩,r,d,f,g,u⟩;exact h'.grow fun F1 _ _=>⟨F',hb,⟨ub.os,ub.tape,ub.output,ub.size,fun k hk _=>ub.block k hk id⟩,fun k hk=>⟨(hF' k hk).1,.inr (hF' k hk).2⟩⟩
theorem Hd.alloc (h:Hd w0 F0 w As Rs) (cs:List Value) (t:TypeId):Hd w0 F0 (w.alloc (.cells cs.toArray t)) (blk w.heap.size cs t::As) Rs:=by
 refine h.new (Dg.alloc _ _ _) (F':=fun k=>k=w.heap.size) ⟨U,?_⟩ ?_;show (w.heap.push _)[w.heap.size]?=_;simp;intro k hk;subst hk;simp
theorem Hd.store (h:Hd w0 F0 w (blk b cs t::As) Rs) (i:Nat) (v:Value):Hd w0 F0 (w.setCell ⟨b,i,none⟩ v) (blk b (cs.set i v) t::As) Rs:=
 h.write fun _ hb=>⟨R4 hb i v,Dg.setCell _ _ _ hb.1⟩
theorem Hd.le (h:Hd w0 F0 w As Rs):w0.heap.size≤w.heap.size:=h.upd.size
end
theorem Hd.begin {w:World} {As Rs:List SP} {F G:BD} (s:DF As w F) (r:∀ R∈Rs,R.P w G) (d:∀ k,F k→¬ G k) (f:∀ k,F k→k<w.heap.size) (g:∀ k,G k→k<w.heap.size):Hd w F w As Rs:=
 ⟨F,G,s,r,d,fun k hk=>⟨f k hk,.inl hk⟩,g,Dg.refl _ _⟩
abbrev Cb:=List (Nat×Value)
def lk:Cb→Nat→Option Value
 |[],_=>none
 |(k,v)::l,s=>match Nat.decEq k s with |.isTrue _=>some v|.isFalse _=>lk l s
def ev (l:Cb):Operand→Option Value
 |.tmp t=>lk l t
 |.const v=>some v
 |.global g=>some (.pointer (some ⟨g,0,none⟩))
 |.func f=>some (.func (.func f) #[] #[])
def Cj (l:Cb):Option Tmp→Value→Cb
 |some d,v=>(d,v)::l
 |none,_=>l
def CF (n:Nat):Option Tmp→Bool
 |some d=>Nat.ble (d+1) n
 |none=>true
structure DC (n:Nat) (l:Cb) (a:Act):Prop where
 defers:a.defers=[]
 size:a.tmps.size=n
 get:∀ s v,lk l s=some v→a.tmps.getD s undef=v∧s<n
theorem DC.eval {n:Nat} {l:Cb} {a:Act} (h:DC n l a) {x:Operand} (hx:ev l x=some v):a.eval x=v:=by
 cases x with
 |tmp t=>exact (h.get t v hx).1
 |const c=>exact Option.some.inj hx
 |global g=>exact Option.some.inj hx
 |func f=>exact Option.some.inj hx
theorem DC.put {n:Nat} {l:Cb} {a:Act} (h:DC n l a) (d:Option Tmp) (v:Value) (hd:CF n d=true):DC n (Cj l d v) (a.put d v):=by
 cases d with
 |none=>exact h
 |some d=>
  have hd':d<n:=by simp only [CF] at hd;exact Nat.le_of_ble_eq_true hd
  refine ⟨h.defers,by simp [Act.put,h.size],fun s u hs=>?_⟩;simp only [Cj,lk] at hs;split at hs;rename_i e _;obtain rfl:v=u:=by simpa using hs
  subst e;exact ⟨by simp [Act.put,h.size,hd'],hd'⟩;rename_i e _;obtain ⟨g,hn⟩:=h.get s u hs;refine ⟨?_,hn⟩;simp only [Act.put,pm] at *;rw [Array.getElem?_setIfInBounds_ne (by omega)];exact g
theorem DC.sub {n:Nat} {l l':Cb} {a:Act} (h:DC n l a) (hs:∀ s v,lk l' s=some v→lk l s=some v):DC n l' a:=
 ⟨h.defers,h.size,fun s v x=>h.get s v (hs s v x)⟩
def LG (l:Cb):Cb→Prop
 |[]=>True
 |(s,v)::l'=>lk l s=some v∧LG l l'
theorem LG.out {l:Cb}:∀ {l':Cb},LG l l'→∀ s v,lk l' s=some v→lk l s=some v
 |[],_,s,v,h=>by simp [lk] at h
 |(k,u)::l',⟨h1,h2⟩,s,v,h=>by
  simp only [lk] at h
  split at h
  rename_i e _
  obtain rfl:u=v:=by simpa using h
  exact e▸h1
  exact h2.out s v h
/-! ### A list of operations -/
def WL (P:Program) (ops:Array Oper) (Q:Exit→Act→World→Prop) (rest:List Oper) (n:Nat) (l:Cb) (w:World):Prop:=∀ a,DC n l a→wpList P ops Q rest a w
def WC (P:Program) (c:Code) (Q:Exit→Act→World→Prop) (n:Nat) (l:Cb) (w:World):Prop:=∀ a,DC n l a→c.wp P Q a w
def WQ (Q:Exit→Act→World→Prop) (e:Exit) (n:Nat) (l:Cb) (w:World):Prop:=∀ a,DC n l a→Q e a w
def gd (ops:Array Oper) (l:Cb) (o:Oper):Option Bool:=
 match o.guard with
 |none=>some true
 |some (j,want)=>
  match (ops[j]?).bind (·.dst) with
  |none=>some false
  |some d=>
   match lk l d with
   |some (.bool b)=>some (b==want)
   |some _=>some false
   |none=>none
theorem Hu {n:Nat} {l:Cb} {o:Oper} {a:Act} {b:Bool} (h:DC n l a) (hg:gd ops l o=some b):Region.wanted o (yielded ops a.tmps)=b:=by
 unfold gd at hg;unfold Region.wanted;split at hg;rename_i e;simp only [e];simpa using hg;rename_i j want e;simp only [e];unfold yielded;split at hg;rename_i e1;simp only [e1,Option.bind_none];cases b<;>cases want<;>simp_all;rename_i d e1;have key:∀ v,lk l d=some v→a.tmps[d]?=some v:=by
  intro v hv;obtain ⟨g,hn⟩:=h.get d v hv;have hlt:d<a.tmps.size:=by rw [h.size];exact hn
  rw [ud hlt];simp [Array.getD,hlt] at g;rw [g]
 simp only [e1,wi];split at hg;rename_i b' e2;simp only [key _ e2];have hg':(b'==want)=b:=by simpa using hg
 subst hg';cases b'<;>cases want<;>rfl;rename_i v hv e2;simp only [key _ e2];have hg':false=b:=by simpa using hg
 subst hg';cases v<;>simp_all;simp at hg
section
variable {P:Program} {ops:Array Oper} {Q:Exit→Act→World→Prop} {rest:List Oper} {n:Nat} {l:Cb} {w w':World} {o:Oper} {v:Value}
def BT (P:Program) (n:Nat) (l:Cb) (w:World) (o:Oper) (v:Value) (w':World):Prop:=∀ a,DC n l a→(execOp a.eval o).run P w=.ok (.value v) w'
theorem Ed (hg:gd ops l o=some true) (hd:CF n o.dst=true) (hr:BT P n l w o v w') (h:WL P ops Q rest n (Cj l o.dst v) w'):WL P ops Q (o::rest) n l w:=by
 intro a ha;refine wpList_step fun K hK=>?_;rw [if_pos (Hu ha hg)];unfold Oper.wp;rw [hr a ha];exact hK _ _ (h _ (ha.put _ _ hd))
theorem Aj (hz0:(gd ops l o,CF n o.dst)=(some true,true)) (hr:BT P n l w o v w') (h:WL P ops Q rest n (Cj l o.dst v) w'):WL P ops Q (o::rest) n l w:=Ed (Prod.mk.inj hz0).1 (Prod.mk.inj hz0).2 hr h
theorem O1 (hg:gd ops l o=some true) (hd:o.dst=none) (hr:∀ a,DC n l a→(execOp a.eval o).run P w=.ok .skip w') (h:WL P ops Q rest n l w'):WL P ops Q (o::rest) n l w:=by
 intro a ha;refine wpList_step fun K hK=>?_;rw [if_pos (Hu ha hg)];unfold Oper.wp;rw [hr a ha];refine hK _ _ ?_;rw [hd];exact h _ ha
theorem xF (hg:gd ops l o=some false) (hd:CF n o.dst=true) (h:WL P ops Q rest n (Cj l o.dst undef) w):WL P ops Q (o::rest) n l w:=by
 intro a ha;refine wpList_step fun K hK=>?_;rw [if_neg (by rw [Hu ha hg];simp)];exact hK _ _ (h _ (ha.put _ _ hd))
theorem AH (h:WQ Q .normal n l w):WL P ops Q [] n l w:=h
def LI (T:Value→World→Prop):Ending→World→Prop:=fun e w'=>∃ v,e=.returned v∧T v w'
def NR (P:Program) (n:Nat) (l:Cb) (w:World) (o:Oper) (f:FuncId) (args:Array Value):Prop:=∀ a,DC n l a→(execOp a.eval o).run P w=.ok (.enter f args) w
theorem wV {f:FuncId} {args:Array Value} {T:Value→World→Prop} (hg:gd ops l o=some true) (hd:CF n o.dst=true) (hr:NR P n l w o f args)
  (hc:Calls P f args w (LI T)) (h:∀ v w',T v w'→WL P ops Q rest n (Cj l o.dst v) w'):WL P ops Q (o::rest) n l w:=by
 intro a ha;refine wpList_step fun K hK=>?_;rw [if_pos (Hu ha hg)];unfold Oper.wp;rw [hr a ha];refine hc.mono ?_;rintro e w' ⟨v,rfl,hT⟩;exact hK _ _ (h v w' hT _ (ha.put _ _ hd))
/-! ### Code -/
theorem Ab {x y:Code} (h:WC P x (Exit.then (y.wp P Q) Q) n l w):WC P (.seq x y) Q n l w:=fun a ha=>wp_seq (h a ha)
theorem Ap {id:Nat} {os:List Oper} (h:WL P os.toArray Q os n l w):WC P (.region id os.toArray false) Q n l w:=fun a ha=>wp_region_lit (h a ha)
theorem Bf (h:WQ Q .normal n l w):WC P .skip Q n l w:=fun a ha=>wp_skip (h a ha)
theorem MB {id:Nat} (h:WQ Q (.exit id) n l w):WC P (.exit id) Q n l w:=fun a ha=>wp_exit (h a ha)
theorem Fb (h:WQ Q .ret n l w):WC P .ret Q n l w:=fun a ha=>wp_ret (h a ha)
theorem AT {id:Nat} {c:Code} (h:WC P c (Exit.inBlock id Q) n l w):WC P (.block id c) Q n l w:=fun a ha=>wp_block (h a ha)
theorem Ci {c:Operand} {x y:Code} {b:Bool} (hc:ev l c=some (.bool b)) (ht:b=true→WC P x Q n l w) (hf:b=false→WC P y Q n l w):WC P (.cond c x y) Q n l w:=
 fun a ha=>wp_cond_split (ha.eval hc) (fun e=>ht e a ha) (fun e=>hf e a ha)
theorem Aq {c:Operand} {x y:Code} {p:Prop} {_:Decidable p} (hc:ev l c=some (.bool (decide p))) (ht:p→WC P x Q n l w) (hf:¬ p→WC P y Q n l w):WC P (.cond c x y) Q n l w:=
 Ci hc (fun e=>ht (of_decide_eq_true e)) (fun e=>hf (of_decide_eq_false e))
theorem Ck {c:Operand} {x y:Code} (hc:ev l c=some (.bool true)) (h:WC P x Q n l w):WC P (.cond c x y) Q n l w:=fun a ha=>wp_cond_true (ha.eval hc) (h a ha)
theorem Bz {c:Operand} {x y:Code} (hc:ev l c=some (.bool false)) (h:WC P y Q n l w):WC P (.cond c x y) Q n l w:=fun a ha=>wp_cond_false (ha.eval hc) (h a ha)
theorem AE {p:Prop} {_:Decidable p} (hc:lk l d=some (.bool (decide p))) (ht:p→WL P ops Q rest n ((d,.bool true)::l) w) (hf:¬ p→WL P ops Q rest n ((d,.bool false)::l) w):WL P ops Q rest n l w:=by
 intro a ha;by_cases hp:p;refine ht hp a ⟨ha.defers,ha.size,fun s v hs=>?_⟩;simp only [lk] at hs;split at hs;rename_i e _;obtain rfl:nw true=v:=by simpa using hs
 subst e;have:=ha.get _ _ hc;simpa [hp] using this;exact ha.get _ _ hs;refine hf hp a ⟨ha.defers,ha.size,fun s v hs=>?_⟩;simp only [lk] at hs;split at hs;rename_i e _;obtain rfl:nw false=v:=by simpa using hs
 subst e;have:=ha.get _ _ hc;simpa [hp] using this;exact ha.get _ _ hs
theorem AY {y:Code} (h:WC P y Q n l w):WQ (Exit.then (y.wp P Q) Q) .normal n l w:=h
theorem Bg (h:WQ Q .ret n l w):WQ (Exit.then K Q) .ret n l w:=h
theorem Mb {id:Nat} (h:WQ Q (.exit id) n l w):WQ (Exit.then K Q) (.exit id) n l w:=h
theorem Cq {id:Nat} (h:WQ Q .normal n l w):WQ (Exit.inBlock id Q) .normal n l w:=h
theorem Bb {id:Nat} (h:WQ Q .ret n l w):WQ (Exit.inBlock id Q) .ret n l w:=h
theorem Nl {id:Nat} (h:WQ Q .normal n l w):WQ (Exit.inBlock id Q) (.exit id) n l w:=fun a ha=>by simp only [Exit.inBlock,if_true];exact h a ha
theorem VC {c:Code} (L:σ→Cb) (I:σ→World→Prop) (μ:σ→Nat) (h:σ) (h0:LG l (L h)) (hI:I h w)
  (round:∀ s w,I s w→WC P c (Exit.then (fun a' w'=>∃ s',DC n (L s') a'∧I s' w'∧μ s'<μ s) Q) n (L s) w):WC P (.loop c) Q n l w:=by
 intro a ha;refine wp_loop (fun a w=>∃ s,DC n (L s) a∧I s w) (fun a w=>?_) ?_ ?_;exact yn fun m=>∃ s,DC n (L s) a∧I s w∧μ s=m∧∀ s',DC n (L s') a→I s' w→m≤μ s';exact ⟨h,ha.sub h0.out,hI⟩;have key:∀ a w,(∃ s,DC n (L s) a∧I s w)→∃ m,∃ s,DC n (L s) a∧I s w∧μ s=m∧∀ s',DC n (L s') a→I s' w→m≤μ s':=by
  intro a w ⟨s,hf,hi⟩;have:∀ k,∀ s,DC n (L s) a→I s w→μ s=k→∃ m,∃ s,DC n (L s) a∧I s w∧μ s=m∧∀ s',DC n (L s') a→I s' w→m≤μ s':=by
   intro k;induction k using Nat.strongRecOn with
   |_ k ih=>
    intro s hf hi hk;by_cases hall:∀ s',DC n (L s') a→I s' w→μ s≤μ s';exact ⟨_,s,hf,hi,U,hall⟩;have ⟨s',h'⟩:=Classical.not_forall.1 hall;have ⟨hf',h''⟩:=yo.1 h';have ⟨hi',hlt⟩:=yo.1 h'';exact ih (μ s') (by omega) s' hf' hi' U
  exact this _ s hf hi U
 rintro a w ⟨s,hf,hi⟩;obtain ⟨s1,hf1,d,f,g⟩:=xa (key a w ⟨s,hf,hi⟩);refine Code.wp_mono ?_ (round s1 w d a hf1);intro e a' w' hq;cases e<;>try exact hq
 obtain ⟨s',hf',hi',hlt⟩:=hq;refine ⟨⟨s',hf',hi'⟩,?_⟩;obtain ⟨_,_,_,_,b⟩:=xa (key a' w' ⟨s',hf',hi'⟩);have:=b s' hf' hi';show _<yn _;rw [←f];exact Nat.lt_of_le_of_lt this hlt
theorem QQ {L:σ→Cb} {I:σ→World→Prop} {μ:σ→Nat} {s:σ} (s':σ) (hk:LG l (L s')) (hI:I s' w) (hm:μ s'<μ s):
  WQ (Exit.then (fun a' w'=>∃ s',DC n (L s') a'∧I s' w'∧μ s'<μ s) Q) .normal n l w:=fun _ ha=>⟨s',ha.sub hk.out,hI,hm⟩
theorem HJ {x y:Code} (L:σ→Cb) (I:σ→World→Prop) (hx:WC P x (Exit.then (fun a' w'=>∃ s,DC n (L s) a'∧I s w') Q) n l w)
  (hy:∀ s w,I s w→WC P y Q n (L s) w):WC P (.seq x y) Q n l w:=by
 intro a ha;refine wp_seq (Code.wp_mono ?_ (hx a ha));intro e a' w' hq;cases e<;>try exact hq
 obtain ⟨s,hf,hi⟩:=hq;exact hy s w' hi a' hf
theorem tJ {L:σ→Cb} {I:σ→World→Prop} (s:σ) (hk:LG l (L s)) (hI:I s w):WQ (Exit.then (fun a' w'=>∃ s,DC n (L s) a'∧I s w') Q) .normal n l w:=fun _ ha=>⟨s,ha.sub hk.out,hI⟩
/-! ### The function's ends -/
def LO:Nat→List Value→Cb
 |_,[]=>[]
 |i,v::vs=>(i,v)::LO (i+1) vs
theorem Tx:∀ (vs:List Value) (i s:Nat) (v:Value),lk (LO i vs) s=some v→i≤s∧vs[s - i]?=some v
 |[],i,s,v,h=>by simp [LO,lk] at h
 |u::vs,i,s,v,h=>by
  simp only [LO,lk] at h
  split at h
  rename_i e _
  subst e
  exact ⟨ou _,by simpa using h⟩
  rename_i e _
  obtain ⟨h1,h2⟩:=Tx vs (i+1) s v h
  refine ⟨by omega,?_⟩
  have:s - i=(s - (i+1))+1:=by omega
  rw [this]
  simpa using h2
theorem enter {f:FuncId} {c:Code} {R:Ending→World→Prop} (hf:P.funcs[f]?=some fn) (hb:fn.body=some c) (hn:fn.ntmps=n) (hl:args.length≤n)
  (h:WC P c (bodyPost P fn R) n (LO 0 args) w):Calls P f args.toArray w R:=by
 refine calls_of_wp hf hb (h _ ⟨U,?_,?_⟩);simp only [un,rh,xi,hn];omega;intro s v hs;obtain ⟨_,h2⟩:=Tx _ 0 s v hs;have hlt:s<args.length:=by
  rcases pg s args.length with h'|h'
  exact h';simp [py h'] at h2
 refine ⟨?_,by omega⟩;have h3:args[s]?=some v:=by simpa using h2
 simp [pm,xe,hlt];simpa [ol hlt] using h3
theorem Ma {R:Ending→World→Prop} {t:Tmp} (hr:fn.results=#[.tmp t]) (hv:lk l t=some v) (h:R (.returned v) w):WQ (bodyPost P fn R) .ret n l w:=
 fun a ha=>bodyPost_ret (by rw [results_tmp hr];rw [(ha.get t v hv).1]) ha.defers h
theorem tK {R:Ending→World→Prop} {t u:Tmp} (hr:fn.results=#[.tmp t,.tmp u]) (hv:lk l t=some v) (hu:lk l u=some v') (h:R (.returned (.tuple #[v,v'])) w):WQ (bodyPost P fn R) .ret n l w:=
 fun a ha=>bodyPost_ret (by rw [results_tmp2 hr];rw [(ha.get t v hv).1,(ha.get u v' hu).1]) ha.defers h
theorem BQ {R:Ending→World→Prop} {t u:Tmp} (hz0:(fn.results,lk l t,lk l u)=(#[.tmp t,.tmp u],some v,some v')) (h:R (.returned (.tuple #[v,v'])) w):WQ (bodyPost P fn R) .ret n l w:=tK (Prod.mk.inj hz0).1 (Prod.mk.inj (Prod.mk.inj hz0).2).1 (Prod.mk.inj (Prod.mk.inj hz0).2).2 h
theorem JM {R:Ending→World→Prop} {t u s:Tmp} {v'':Value} (hr:fn.results=#[.tmp t,.tmp u,.tmp s]) (hv:lk l t=some v) (hu:lk l u=some v') (hs:lk l s=some v'')
  (h:R (.returned (.tuple #[v,v',v''])) w):WQ (bodyPost P fn R) .ret n l w:=
 fun a ha=>bodyPost_ret (by simp [results,hr];simp [(ha.get t v hv).1,(ha.get u v' hu).1,(ha.get s v'' hs).1,←pm]) ha.defers h
theorem D4 {R:Ending→World→Prop} (hr:fn.results=#[]) (h:R (.returned (.tuple #[])) w):WQ (bodyPost P fn R) .normal n l w:=
 fun a ha=>bodyPost_end (by rw [results_none hr]) ha.defers h
theorem Nm {R:Ending→World→Prop} (hr:fn.results=#[]) (h:R (.returned (.tuple #[])) w):WQ (bodyPost P fn R) .ret n l w:=
 fun a ha=>bodyPost_ret (by rw [results_none hr]) ha.defers h
end
/-! ### Contracts -/
def Cn (P:Program) (f:FuncId) (args:List Value) (As Rs:List SP) (T:Value→List SP→Prop):Prop:=
 ∀ w F,Hd w F w As Rs→Calls P f args.toArray w (LI fun v w'=>∃ Bs,T v Bs∧Hd w F w' Bs Rs)
section
variable {P:Program} {ops:Array Oper} {Q:Exit→Act→World→Prop} {rest:List Oper} {n:Nat} {l:Cb} {w0 w w':World} {F0:BD} {o:Oper} {v:Value} {As Rs Cs Ss:List SP}
def HE (w:World) (As Rs Ss:List SP):Prop:=∀ S∈Ss,∀ F,(∀ A∈As,A.P w F)→(∀ R∈Rs,R.P w F)→S.P w F
theorem l0:HE w As Rs []:=fun _ h=>by cases h
theorem lR {S:SP} (i:Nat) (hm:Rs[i]?=some S) (h:HE w As Rs Ss):HE w As Rs (S::Ss):=by
 intro S' hS F hA hR;cases hS with
 |head=>exact hR _ (nt hm)
 |tail _ h'=>exact h S' h' F hA hR
theorem lA {A S:SP} (i:Nat) (hm:As[i]?=some A) (hs:∀ F,A.P w F→S.P w F) (h:HE w As Rs Ss):HE w As Rs (S::Ss):=by
 intro S' hS F hA hR;cases hS with
 |head=>exact hs F (hA _ (nt hm))
 |tail _ h'=>exact h S' h' F hA hR
theorem lX {S:SP} (hs:∀ F,(∀ A∈As,A.P w F)→(∀ R∈Rs,R.P w F)→S.P w F) (h:HE w As Rs Ss):HE w As Rs (S::Ss):=by
 intro S' hS F hA hR;cases hS with
 |head=>exact hs F hA hR
 |tail _ h'=>exact h S' h' F hA hR
theorem Qo:HE w As Rs Rs:=fun _ hS _ _ hR=>hR _ hS
theorem J0 {f:FuncId} {T:Value→List SP→Prop} (hc:Cn P f args Cs Ss T) (H:Hd w0 F0 w (Cs++As) Rs) (hl:HE w As Rs Ss):
  Calls P f args.toArray w (LI fun v w'=>∃ Bs,T v Bs∧Hd w0 F0 w' (Bs++As) Rs):=by
 obtain ⟨Fc,h1,h2⟩:=H.frame hl;refine (hc w Fc h1).mono ?_;rintro e w' ⟨v,rfl,Bs,hT,hB⟩;exact ⟨v,U,Bs,hT,h2 w' Bs hB⟩
theorem wW {f:FuncId} {T:Value→List SP→Prop} (hg:gd ops l o=some true) (hd:CF n o.dst=true) (hr:NR P n l w o f args.toArray)
  (hc:Cn P f args Cs Ss T) (H:Hd w0 F0 w (Cs++As) Rs) (hl:HE w As Rs Ss)
  (h:∀ v Bs w',T v Bs→Hd w0 F0 w' (Bs++As) Rs→WL P ops Q rest n (Cj l o.dst v) w'):WL P ops Q (o::rest) n l w:=
 wV hg hd hr (J0 hc H hl) fun v w' ⟨Bs,hT,hB⟩=>h v Bs w' hT hB
theorem Cn.mono {f:FuncId} {T T':Value→List SP→Prop} (h:Cn P f args Cs Ss T) (hT:∀ v Bs,T v Bs→T' v Bs):Cn P f args Cs Ss T':=
 fun w F H=>(h w F H).mono fun e w' ⟨v,he,Bs,t,hb⟩=>⟨v,he,Bs,hT v Bs t,hb⟩
theorem YZ {A:SP}:∀ (As:List SP) (i:Nat),As[i]?=some A→As.Perm (A::As.eraseIdx i)
 |[],_,h=>by simp at h
 |B::As,0,h=>by
  obtain rfl:B=A:=by simpa using h
  exact List.Perm.refl _
 |B::As,i+1,h=>by
  have:=YZ _ i (by simpa using h)
  exact (this.cons B).trans (List.Perm.swap _ _ _)
theorem Hd.pick {A:SP} (i:Nat) (hi:As[i]?=some A) (h:Hd w0 F0 w As Rs):Hd w0 F0 w (A::As.eraseIdx i) Rs:=h.perm (YZ _ i hi)
end
/-! ### A region that draws its order, and only reads -/
section
variable {P:Program} {ops:Array Oper} {C:World→Prop} {Q:Act→Prop} {rest:List Oper} {n:Nat} {l:Cb} {o:Oper} {v:Value}
def WU (P:Program) (ops:Array Oper) (C:World→Prop) (Q:Act→Prop) (rest:List Oper) (n:Nat) (l:Cb):Prop:=∀ a,DC n l a→wpQuiet P ops C Q rest a
theorem aZ (hg:gd ops l o=some true) (hd:CF n o.dst=true) (hr:∀ w,C w→BT P n l w o v w) (h:WU P ops C Q rest n (Cj l o.dst v)):WU P ops C Q (o::rest) n l:=by
 intro a ha;refine wpQuiet_step fun K hK=>?_;rw [if_pos (Hu ha hg)];refine ⟨v,fun w hw=>?_,hK _ (h _ (ha.put _ _ hd))⟩;unfold Oper.quietAt;rw [hr w hw a ha];exact ⟨U,U⟩
theorem BM (hz0:(gd ops l o,CF n o.dst)=(some true,true)) (hr:∀ w,C w→BT P n l w o v w) (h:WU P ops C Q rest n (Cj l o.dst v)):WU P ops C Q (o::rest) n l:=aZ (Prod.mk.inj hz0).1 (Prod.mk.inj hz0).2 hr h
theorem z8 (hg:gd ops l o=some false) (hd:CF n o.dst=true) (h:WU P ops C Q rest n (Cj l o.dst undef)):WU P ops C Q (o::rest) n l:=by
 intro a ha;refine wpQuiet_step fun K hK=>?_;rw [if_neg (by rw [Hu ha hg];simp)];exact hK _ (h _ (ha.put _ _ hd))
theorem z7 (h:∀ a,DC n l a→Q a):WU P ops C Q [] n l:=h
theorem UI {p:Prop} {_:Decidable p} (hc:lk l d=some (.bool (decide p))) (ht:p→WU P ops C Q rest n ((d,.bool true)::l)) (hf:¬ p→WU P ops C Q rest n ((d,.bool false)::l)):WU P ops C Q rest n l:=by
 intro a ha;by_cases hp:p;refine ht hp a ⟨ha.defers,ha.size,fun s v hs=>?_⟩;simp only [lk] at hs;split at hs;rename_i e _;obtain rfl:nw true=v:=by simpa using hs
 subst e;have:=ha.get _ _ hc;simpa [hp] using this;exact ha.get _ _ hs;refine hf hp a ⟨ha.defers,ha.size,fun s v hs=>?_⟩;simp only [lk] at hs;split at hs;rename_i e _;obtain rfl:nw false=v:=by simpa using hs
 subst e;have:=ha.get _ _ hc;simpa [hp] using this;exact ha.get _ _ hs
end
section
variable {P:Program} {Q:Exit→Act→World→Prop} {n:Nat} {l:Cb} {w0 w:World} {F0:BD} {As Rs:List SP}
theorem Hn {id:Nat} {os:List Oper} (hm:P.follows .mixedOrders=true) (hB:Region.lexB .any os.toArray=true) (H:Hd w0 F0 w As Rs)
  (h:WU P os.toArray (fun w=>Hd w0 F0 w As Rs) (fun a=>∀ w',Hd w0 F0 w' As Rs→Q .normal a w') os n l):WC P (.region id os.toArray true) Q n l w:=by
 intro a ha;exact wp_region_quiet hm hB (H.drewN 1) (by simpa using h a ha)
theorem Gx (h:∀ w,Hd w0 F0 w As Rs→WQ Q .normal n l w):WU P ops (fun w=>Hd w0 F0 w As Rs) (fun a=>∀ w',Hd w0 F0 w' As Rs→Q .normal a w') [] n l:=
 z7 fun a ha w' H=>h w' H a ha
end
/-! ### What is asked of the types' table -/
def D5 (P:Program) (t:TypeId):Option (TypeId×Nat×Nat):=
 match P.underlying t with
 |some (.slice e)=>(P.info? e).map fun i=>(e,i.size,i.bytes)
 |_=>none
def CK (P:Program) (t:TypeId):Option (Bool×Nat):=
 match P.underlying t,P.info? t with
 |some d,some i=>some ((match d with |.struct _|.array _ _=>true|_=>false),i.size)
 |_,_=>none
def BJ (P:Program) (s:TypeId) (k:Nat):Option Nat:=
 match P.underlying s with
 |some (.struct fs)=>match fs[k]? with
  |some f=>match P.info? f.type with
   |some i=>if i.size=0 then none else some f.offset
   |none=>none
  |none=>none
 |_=>none
def DO (P:Program) (t:TypeId):Option Value:=(P.info? t).bind (·.zero)
section
variable {P:Program} {n:Nat} {l:Cb} {w w':World} {o:Oper} {v u:Value} {x y:Operand} {t:TypeId}
theorem HZ {e size bytes:Nat} (h:D5 P t=some (e,size,bytes)):P.underlying t=some (.slice e)∧∃ i,P.info? e=some i∧i.size=size∧i.bytes=bytes:=by
 unfold D5 at h;split at h;rename_i e' he;cases hi:P.info? e' with
 |none=>simp [hi] at h
 |some i=>
  simp [hi] at h;obtain ⟨rfl,h1,h2⟩:=h;exact ⟨he,i,hi,h1,h2⟩
 simp at h
theorem aY {b:Bool} {size:Nat} (h:CK P t=some (b,size)):∃ d i,P.underlying t=some d∧P.info? t=some i∧(match d with |.struct _|.array _ _=>true|_=>false)=b∧i.size=size:=by
 unfold CK at h;split at h;rename_i d i hd hi;simp only [Option.some.injEq,Prod.mk.injEq] at h;exact ⟨d,i,hd,hi,h.1,h.2⟩;simp at h
theorem Nv {b:Bool} {size:Nat} (h:CK P t=some (b,size)):(isAgg t).run P w=.ok b w:=by
 obtain ⟨d,i,hd,hi,hb,hs⟩:=aY h;unfold isAgg;rw [Sem.run_bind,run_underlying hd w];subst hb;cases d<;>simp
theorem Rb {b:Bool} {size:Nat} (h:CK P t=some (b,size)):(sizeOf t).run P w=.ok size w:=by
 obtain ⟨d,i,hd,hi,hb,hs⟩:=aY h;simp [sizeOf,typeInfo,hi,hs]
/-! ### Operations that touch no memory -/
theorem uA (ho:o.op=.move x) (hx:ev l x=some v):BT P n l w o v w:=by
 intro a ha;simp [execOp,ho,ha.eval hx]
theorem tN (ho:o.op=.assign x) (hx:ev l x=some v):BT P n l w o v w:=by
 intro a ha;simp [execOp,ho,ha.eval hx]
theorem uG {c:Operand} (ho:o.op=.pick c x y) (hc:ev l c=some (.bool true)) (hx:ev l x=some v):BT P n l w o v w:=by
 intro a ha;simp [execOp,ho,ha.eval hx,ha.eval hc,asBool]
theorem uF {c:Operand} (ho:o.op=.pick c x y) (hc:ev l c=some (.bool false)) (hy:ev l y=some v):BT P n l w o v w:=by
 intro a ha;simp [execOp,ho,ha.eval hy,ha.eval hc,asBool]
theorem Zn {a:Addr} (ho:o.op=.nilCheck x) (hx:ev l x=some (.pointer (some a))):BT P n l w o (.pointer (some a)) w:=by
 intro a' ha;simp [execOp,ho,ha.eval hx]
theorem BA {a:Addr} (hz0:(o.op,ev l x)=(.nilCheck x,some (.pointer (some a)))):BT P n l w o (.pointer (some a)) w:=Zn (Prod.mk.inj hz0).1 (Prod.mk.inj hz0).2
theorem Zo {b c:Bool} (ho:o.op=.unOp .not t x) (hx:ev l x=some (.bool b)) (hc:(!b)=c):BT P n l w o (.bool c) w:=by
 intro a ha;simp [execOp,ho,ha.eval hx,Op.unary,hc]
theorem Dn {b c:Bool} (hz0:(o.op,ev l x,(!b))=(.unOp .not t x,some (.bool b),c)):BT P n l w o (.bool c) w:=Zo (Prod.mk.inj hz0).1 (Prod.mk.inj (Prod.mk.inj hz0).2).1 (Prod.mk.inj (Prod.mk.inj hz0).2).2
theorem Eu {p:Prop} {_:Decidable p} (ho:o.op=.unOp .not t x) (hx:ev l x=some (.bool (decide p))):BT P n l w o (.bool (decide ¬ p)) w:=by
 refine Zo ho hx ?_;simp
theorem AX {k:IntKind} {i j z:Int} (ho:o.op=.binOp .add t x y t') (hx:ev l x=some (.int k i)) (hy:ev l y=some (.int k j)) (hz:k.wrap (i+j)=z):BT P n l w o (.int k z) w:=by
 intro a ha;simp [execOp,ho,ha.eval hx,ha.eval hy,eqGuard,binOp,Op.intArith,hz]
theorem DB {k:IntKind} {i j z:Int} (ho:o.op=.binOp .sub t x y t') (hx:ev l x=some (.int k i)) (hy:ev l y=some (.int k j)) (hz:k.wrap (i - j)=z):BT P n l w o (.int k z) w:=by
 intro a ha;simp [execOp,ho,ha.eval hx,ha.eval hy,eqGuard,binOp,Op.intArith,hz]
theorem Lq {k:IntKind} {i j z:Int} (ho:o.op=.binOp .mul t x y t') (hx:ev l x=some (.int k i)) (hy:ev l y=some (.int k j)) (hz:k.wrap (i*j)=z):BT P n l w o (.int k z) w:=by
 intro a ha;simp [execOp,ho,ha.eval hx,ha.eval hy,eqGuard,binOp,Op.intArith,hz]
theorem Mc {k:IntKind} {i j z:Int} (ho:o.op=.binOp .rem t x y t') (hx:ev l x=some (.int k i)) (hy:ev l y=some (.int k j)) (h0:j≠0) (hz:i.tmod j=z):BT P n l w o (.int k z) w:=by
 intro a ha;simp [execOp,ho,ha.eval hx,ha.eval hy,eqGuard,binOp,Op.intDiv,h0,hz]
theorem uH {k:IntKind} {i j z:Int} (ho:o.op=.binOp .quo t x y t') (hx:ev l x=some (.int k i)) (hy:ev l y=some (.int k j)) (h0:j≠0) (hz:k.wrap (i.tdiv j)=z):BT P n l w o (.int k z) w:=by
 intro a ha;simp [execOp,ho,ha.eval hx,ha.eval hy,eqGuard,binOp,Op.intDiv,h0,hz]
theorem uI {k:IntKind} {i j z:Int} (ho:o.op=.binOp .shl t x y t') (hx:ev l x=some (.int k i)) (hy:ev l y=some (.int k' j)) (h0:0≤j) (hz:k.wrap (i*2^(min j.toNat k.bits))=z):BT P n l w o (.int k z) w:=by
 intro a ha;simp [execOp,ho,ha.eval hx,ha.eval hy,eqGuard,binOp,Op.shift,Int.not_lt.2 h0,hz]
theorem Np {k:IntKind} {i j z:Int} (ho:o.op=.binOp .shr t x y t') (hx:ev l x=some (.int k i)) (hy:ev l y=some (.int k' j)) (h0:0≤j) (hz:i.fdiv (2^(min j.toNat k.bits))=z):BT P n l w o (.int k z) w:=by
 intro a ha;simp [execOp,ho,ha.eval hx,ha.eval hy,eqGuard,binOp,Op.shift,Int.not_lt.2 h0,hz]
theorem tP {k:IntKind} {i j z:Int} {op:BinOp} (ho:o.op=.binOp op t x y t') (hop:op=.and∨op=.or∨op=.xor∨op=.andNot) (hx:ev l x=some (.int k i)) (hy:ev l y=some (.int k j))
  (hz:(Op.intBits op k i j).run P w=.ok (.int k z) w):BT P n l w o (.int k z) w:=by
 intro a ha;rcases hop with rfl|rfl|rfl|rfl<;>simp [execOp,ho,ha.eval hx,ha.eval hy,eqGuard,binOp,hz]
theorem t_ {k:IntKind} {i j:Int} (ho:o.op=.binOp .lss t x y t') (hx:ev l x=some (.int k i)) (hy:ev l y=some (.int k j)):BT P n l w o (.bool (decide (i<j))) w:=by
 intro a ha;simp [execOp,ho,ha.eval hx,ha.eval hy,eqGuard,binOp,Op.intCmp]
theorem Bt {k:IntKind} {i j:Int} (hz0:(o.op,ev l x,ev l y)=(.binOp .lss t x y t',some (.int k i),some (.int k j))):BT P n l w o (.bool (decide (i<j))) w:=t_ (Prod.mk.inj hz0).1 (Prod.mk.inj (Prod.mk.inj hz0).2).1 (Prod.mk.inj (Prod.mk.inj hz0).2).2
theorem t6 {k:IntKind} {i j:Int} (ho:o.op=.binOp .leq t x y t') (hx:ev l x=some (.int k i)) (hy:ev l y=some (.int k j)):BT P n l w o (.bool (decide (i≤j))) w:=by
 intro a ha;simp [execOp,ho,ha.eval hx,ha.eval hy,eqGuard,binOp,Op.intCmp]
theorem Dk {k:IntKind} {i j:Int} (hz0:(o.op,ev l x,ev l y)=(.binOp .leq t x y t',some (.int k i),some (.int k j))):BT P n l w o (.bool (decide (i≤j))) w:=t6 (Prod.mk.inj hz0).1 (Prod.mk.inj (Prod.mk.inj hz0).2).1 (Prod.mk.inj (Prod.mk.inj hz0).2).2
theorem tW {k:IntKind} {i j:Int} (ho:o.op=.binOp .gtr t x y t') (hx:ev l x=some (.int k i)) (hy:ev l y=some (.int k j)):BT P n l w o (.bool (decide (j<i))) w:=by
 intro a ha;simp [execOp,ho,ha.eval hx,ha.eval hy,eqGuard,binOp,Op.intCmp]
theorem CB {k:IntKind} {i j:Int} (hz0:(o.op,ev l x,ev l y)=(.binOp .gtr t x y t',some (.int k i),some (.int k j))):BT P n l w o (.bool (decide (j<i))) w:=tW (Prod.mk.inj hz0).1 (Prod.mk.inj (Prod.mk.inj hz0).2).1 (Prod.mk.inj (Prod.mk.inj hz0).2).2
theorem tV {k:IntKind} {i j:Int} (ho:o.op=.binOp .geq t x y t') (hx:ev l x=some (.int k i)) (hy:ev l y=some (.int k j)):BT P n l w o (.bool (decide (j≤i))) w:=by
 intro a ha;simp [execOp,ho,ha.eval hx,ha.eval hy,eqGuard,binOp,Op.intCmp]
theorem Dj {k:IntKind} {i j:Int} (hz0:(o.op,ev l x,ev l y)=(.binOp .geq t x y t',some (.int k i),some (.int k j))):BT P n l w o (.bool (decide (j≤i))) w:=tV (Prod.mk.inj hz0).1 (Prod.mk.inj (Prod.mk.inj hz0).2).1 (Prod.mk.inj (Prod.mk.inj hz0).2).2
theorem RY (i j:Int):(i==j)=decide (i=j):=by rw [sw];simp
theorem tT {k:IntKind} {i j:Int} (ho:o.op=.binOp .eql t x y t') (hx:ev l x=some (.int k i)) (hy:ev l y=some (.int k j)):BT P n l w o (.bool (decide (i=j))) w:=by
 intro a ha;simp [execOp,ho,ha.eval hx,ha.eval hy,eqGuard,binOp,Op.intCmp,RY]
theorem AK {k:IntKind} {i j:Int} (hz0:(o.op,ev l x,ev l y)=(.binOp .eql t x y t',some (.int k i),some (.int k j))):BT P n l w o (.bool (decide (i=j))) w:=tT (Prod.mk.inj hz0).1 (Prod.mk.inj (Prod.mk.inj hz0).2).1 (Prod.mk.inj (Prod.mk.inj hz0).2).2
theorem uB {k:IntKind} {i j:Int} (ho:o.op=.binOp .neq t x y t') (hx:ev l x=some (.int k i)) (hy:ev l y=some (.int k j)):BT P n l w o (.bool (decide (i≠j))) w:=by
 intro a ha;simp [execOp,ho,ha.eval hx,ha.eval hy,eqGuard,binOp,Op.intCmp,bne,RY]
theorem CC {k:IntKind} {i j:Int} (hz0:(o.op,ev l x,ev l y)=(.binOp .neq t x y t',some (.int k i),some (.int k j))):BT P n l w o (.bool (decide (i≠j))) w:=uB (Prod.mk.inj hz0).1 (Prod.mk.inj (Prod.mk.inj hz0).2).1 (Prod.mk.inj (Prod.mk.inj hz0).2).2
theorem Et {k:IntKind} {src dst:TypeId} {i z:Int} {d:TypeDesc} (ho:o.op=.convert src dst x) (hx:ev l x=some (.int k i)) (hs:P.underlying src=some d) (hd:P.underlying dst=some (.int k')) (hz:k'.wrap i=z):BT P n l w o (.int k' z) w:=by
 intro a ha;simp [execOp,ho,ha.eval hx,convert,run_underlying hs,run_underlying hd,Conv.intToInt,hz]
theorem tU {vs:Array Value} {i:Nat} (ho:o.op=.extract x i) (hx:ev l x=some (.tuple vs)) (hi:vs[i]?=some v):BT P n l w o v w:=by
 intro a ha;simp [execOp,ho,ha.eval hx,Instr.extract,hi]
theorem Lp {f:FuncId} {first captured:Array Operand} {fs cs:Array Value} (ho:o.op=.makeFunc (.func f) first captured) (hf:first.toList.map (ev l)=fs.toList.map some) (hc:captured.toList.map (ev l)=cs.toList.map some):BT P n l w o (.func (.func f) fs cs) w:=by
 have key:∀ (a:Act),DC n l a→∀ (xs:List Operand) (vs:List Value),xs.map (ev l)=vs.map some→xs.map a.eval=vs:=by
  intro a ha xs;induction xs with
  |nil=>intro vs h;cases vs<;>simp_all
  |cons x xs ih=>
   intro vs h;cases vs with
   |nil=>simp at h
   |cons v vs=>
    simp only [pf,List.cons.injEq] at h ⊢;exact ⟨ha.eval h.1,ih vs h.2⟩
 intro a ha;have h1:=key a ha _ _ hf;have h2:=key a ha _ _ hc;have e1:first.map a.eval=fs:=by rw [←si];simpa using h1
 have e2:captured.map a.eval=cs:=by rw [←si];simpa using h2
 simp [execOp,ho,Instr.makeFunc,e1,e2]
theorem Je {k:IntKind} {i j z:Int} {ts:Array TypeId} (ho:o.op=.call { callee:=.builtin .min,args:=#[x,y],argTypes:=ts }) (hx:ev l x=some (.int k i)) (hy:ev l y=some (.int k j)) (hz:min i j=z):BT P n l w o (.int k z) w:=by
 intro a ha;subst hz;simp [execOp,ho,resolve,ha.eval hx,ha.eval hy,invoke,builtin,Builtin.min_,Builtin.min2];omega
theorem QU {k:IntKind} {i j z:Int} {ts:Array TypeId} (ho:o.op=.call { callee:=.builtin .max,args:=#[x,y],argTypes:=ts }) (hx:ev l x=some (.int k i)) (hy:ev l y=some (.int k j)) (hz:max i j=z):BT P n l w o (.int k z) w:=by
 intro a ha;subst hz;simp [execOp,ho,resolve,ha.eval hx,ha.eval hy,invoke,builtin,Builtin.max_,Builtin.max2];omega
theorem Bj {A:Option Addr} {m c:Nat} {e:TypeId} (ho:o.op=.call { callee:=.builtin .len,args:=#[x],argTypes:=#[tt] }) (ht:P.underlying tt=some (.slice e)) (hx:ev l x=some (.slice A m c)):BT P n l w o (.int .i64 (m:Int)) w:=by
 intro a ha;simp [execOp,ho,resolve,ha.eval hx,invoke,builtin,Builtin.len_,run_underlying ht,goInt]
theorem Zf {A:Option Addr} {m c:Nat} {e:TypeId} (ho:o.op=.call { callee:=.builtin .cap,args:=#[x],argTypes:=#[tt] }) (ht:P.underlying tt=some (.slice e)) (hx:ev l x=some (.slice A m c)):BT P n l w o (.int .i64 (c:Int)) w:=by
 intro a ha;simp [execOp,ho,resolve,ha.eval hx,invoke,builtin,Builtin.cap_,run_underlying ht,goInt]
theorem E0 {s:ByteArray} (ho:o.op=.call { callee:=.builtin .len,args:=#[x],argTypes:=#[tt] }) (ht:P.underlying tt=some .string) (hx:ev l x=some (.string s)):BT P n l w o (.int .i64 (s.size:Int)) w:=by
 intro a ha;simp [execOp,ho,resolve,ha.eval hx,invoke,builtin,Builtin.len_,run_underlying ht,goInt]
/-! ### Nil or not -/
theorem Wd {q:Option Addr} {e:TypeId} (ht:P.underlying t=some (.pointer e)):(Op.equalIn (d+1) t (.pointer q) (.pointer none)).run P w=.ok q.isNone w:=by
 cases q<;>simp [Op.equalIn,run_underlying ht]
theorem gA {f:Fn} {fs cs:Array Value} {ps rs:Array TypeId} {b:Bool} (ht:P.underlying t=some (.func ps rs b)):(Op.equalIn (d+1) t (.func f fs cs) .nilFunc).run P w=.ok false w:=by
 simp [Op.equalIn,run_underlying ht]
theorem gB {A:Option Addr} {m c:Nat} {e:TypeId} (ht:P.underlying t=some (.slice e)):(Op.equalIn (d+1) t (.slice A m c) (.slice none 0 0)).run P w=.ok A.isNone w:=by
 cases A<;>simp [Op.equalIn,run_underlying ht]
theorem Uf {u v:Value} {b:Bool} (ho:o.op=.binOp .eql t x y t') (hx:ev l x=some u) (hy:ev l y=some v) (h1:binOp .eql t u v=(do pure (.bool (←Op.equal t u v)))) (h2:eqGuard .eql t x y u v=pure ())
  (hb:(Op.equalIn (9999+1) t u v).run P w=.ok b w):BT P n l w o (.bool b) w:=by
 intro a ha;have hb':(Op.equal t u v).run P w=.ok b w:=hb;unfold execOp;simp only [ho,ha.eval hx,ha.eval hy,h1,h2,Sem.run_bind,Sem.run_pure,Result.andThen_ok,hb']
theorem Zm {u v:Value} {b:Bool} (ho:o.op=.binOp .neq t x y t') (hx:ev l x=some u) (hy:ev l y=some v) (h1:binOp .neq t u v=(do pure (.bool (!(←Op.equal t u v))))) (h2:eqGuard .neq t x y u v=pure ())
  (hb:(Op.equalIn (9999+1) t u v).run P w=.ok b w):BT P n l w o (.bool !b) w:=by
 intro a ha;have hb':(Op.equal t u v).run P w=.ok b w:=hb;unfold execOp;simp only [ho,ha.eval hx,ha.eval hy,h1,h2,Sem.run_bind,Sem.run_pure,Result.andThen_ok,hb']
theorem CP {q:Option Addr} {e:TypeId} (ho:o.op=.binOp .eql t x y t') (ht:P.underlying t=some (.pointer e)) (hx:ev l x=some (.pointer q)) (hy:ev l y=some (.pointer none)):BT P n l w o (.bool q.isNone) w:=
 Uf ho hx hy rfl rfl (Wd ht)
theorem Fg {q:Option Addr} {e:TypeId} (ho:o.op=.binOp .neq t x y t') (ht:P.underlying t=some (.pointer e)) (hx:ev l x=some (.pointer q)) (hy:ev l y=some (.pointer none)):BT P n l w o (.bool !q.isNone) w:=
 Zm ho hx hy rfl rfl (Wd ht)
theorem Zh {f:Fn} {fs cs:Array Value} {ps rs:Array TypeId} {b:Bool} (ho:o.op=.binOp .neq t x y t') (ht:P.underlying t=some (.func ps rs b)) (hx:ev l x=some (.func f fs cs)) (hy:ev l y=some .nilFunc):BT P n l w o (.bool true) w:=
 Zm (b:=false) ho hx hy rfl rfl (gA ht)
theorem ON {A:Option Addr} {m c:Nat} {e:TypeId} (ho:o.op=.binOp .eql t x y t') (ht:P.underlying t=some (.slice e)) (hx:ev l x=some (.slice A m c)) (hy:ev l y=some (.slice none 0 0)):BT P n l w o (.bool A.isNone) w:=
 Uf ho hx hy rfl rfl (gB ht)
theorem f_ {p q:Bool} (ht:P.underlying t=some .bool):(Op.equalIn (d+1) t (.bool p) (.bool q)).run P w=.ok (decide (p=q)) w:=by
 have:(p==q)=decide (p=q):=by cases p<;>cases q<;>rfl
 simp [Op.equalIn,run_underlying ht,this]
theorem tO {p q:Bool} (ho:o.op=.binOp .eql t x y t') (ht:P.underlying t=some .bool) (hx:ev l x=some (.bool p)) (hy:ev l y=some (.bool q)):BT P n l w o (.bool (decide (p=q))) w:=
 Uf ho hx hy rfl rfl (f_ ht)
/-! ### Addresses -/
theorem GE (b off k:Nat):(⟨b,off,none⟩:Addr).add k=⟨b,off+k,none⟩:=by unfold Addr.add;split<;>simp_all
theorem Ay {s:TypeId} {b fo:Nat} (ho:o.op=.fieldAddr s x k) (hf:BJ P s k=some fo) (hx:ev l x=some (.pointer (some ⟨b,off,none⟩))):BT P n l w o (.pointer (some ⟨b,off+fo,none⟩)) w:=by
 intro a ha;unfold BJ at hf;split at hf;rename_i fs hu;split at hf;rename_i f hk;split at hf;rename_i i hi;split at hf;simp at hf;rename_i hn;obtain rfl:f.offset=fo:=by simpa using hf
 simp [execOp,ho,ha.eval hx,Instr.fieldAt,run_underlying hu,hk,Instr.sureAddr,fieldPlace,sizeOf,typeInfo,hi,hn,GE];simp at hf;simp at hf;simp at hf
theorem tY {e size bytes:TypeId} {b m c:Nat} {k:IntKind} {i:Int} {p:Nat} (ho:o.op=.indexAddr tt x y) (hs:D5 P tt=some (e,size,bytes)) (hx:ev l x=some (.slice (some ⟨b,off,none⟩) m c)) (hy:ev l y=some (.int k i))
  (h0:0≤i) (h1:i<(m:Int)) (hp:off+i.toNat*size=p):BT P n l w o (.pointer (some ⟨b,p,none⟩)) w:=by
 intro a ha;obtain ⟨hu,inf,hi,hz,_⟩:=HZ hs;subst hp;simp [execOp,ho,ha.eval hx,ha.eval hy,Instr.indexAt,run_underlying hu,asIntOf,sizeOf,typeInfo,hi,hz,GE,h0,h1]
theorem tZ {e:TypeId} {size len b:Nat} {k:IntKind} {i:Int} {p:Nat} {inf:TypeInfo} (ho:o.op=.indexAddr tt x y) (hu:P.underlying tt=some (.array len e)) (hi:P.info? e=some inf) (hz:inf.size=size)
  (hx:ev l x=some (.pointer (some ⟨b,off,none⟩))) (hy:ev l y=some (.int k i)) (h0:0≤i) (h1:i<(len:Int)) (hp:off+i.toNat*size=p):BT P n l w o (.pointer (some ⟨b,p,none⟩)) w:=by
 intro a ha;subst hp;simp [execOp,ho,ha.eval hx,ha.eval hy,Instr.indexAt,run_underlying hu,asIntOf,Instr.sureAddr,sizeOf,typeInfo,hi,hz,GE,h0,h1]
/-! ### Loads -/
theorem AA {sz:Nat} {p:Addr} (ho:o.op=.load t x) (ht:CK P t=some (false,sz)) (hx:ev l x=some (.pointer (some p))) (hc:w.cell? p=some v):BT P n l w o v w:=by
 intro a ha;simp [execOp,ho,ha.eval hx,Instr.loadAt,Instr.sureAddr,loadVar,Nv ht,hc]
theorem Bv {sz:Nat} {p:Addr} (ho:o.op=.load t x) (ht:CK P t=some (true,sz)) (hx:ev l x=some (.pointer (some p))) (hz:cs.length=sz) (hc:∀ j v,cs[j]?=some v→w.cell? (p.add j)=some v):BT P n l w o (.agg cs.toArray) w:=by
 intro a ha;have hl:=run_loadCells_list (P:=P) w p cs hc;simp [execOp,ho,ha.eval hx,Instr.loadAt,Instr.sureAddr,loadVar,Nv ht,Rb ht,←hz,hl]
/-! ### Aggregates as values -/
theorem OM {s:ByteArray} {k:IntKind} {i:Int} {b:UInt8} (ho:o.op=.index tt x y) (ht:P.underlying tt=some .string) (hx:ev l x=some (.string s)) (hy:ev l y=some (.int k i)) (h0:0≤i) (hb:s[i.toNat]?=some b):BT P n l w o (.int .u8 (b.toNat:Int)) w:=by
 intro a ha;simp [execOp,ho,ha.eval hx,ha.eval hy,Instr.index,run_underlying ht,asIntOf,h0,hb]
/-! ### Cuts -/
/-! ### Calls -/
def AN (P:Program) (f:FuncId):Prop:=∀ args w,(callFunc f args).run P w=.ok (.enter f args) w
theorem m_ {f:FuncId} (hf:P.funcs[f]?=some fn) (hn:(fn.name== "runtime.NumGoroutine")=false) (hb:fn.body.isNone=false):AN P f:=by
 intro args w;unfold callFunc;simp only [Sem.run_bind,run_program,Result.andThen_ok,hf,hn,hb];simp
theorem AU {f:FuncId} (hf:P.funcs[f]?=some fn) (hz0:((fn.name== "runtime.NumGoroutine"),fn.body.isNone)=(false,false)):AN P f:=m_ hf (Prod.mk.inj hz0).1 (Prod.mk.inj hz0).2
theorem Sj {a:Act} (ha:DC n l a):∀ (xs:List Operand) (vs:List Value),xs.map (ev l)=vs.map some→xs.map a.eval=vs:=by
 intro xs;induction xs with
 |nil=>intro vs h;cases vs<;>simp_all
 |cons x xs ih=>
  intro vs h;cases vs with
  |nil=>simp at h
  |cons v vs=>
   simp only [pf,List.cons.injEq] at h ⊢;exact ⟨ha.eval h.1,ih vs h.2⟩
theorem ME {f:FuncId} {xs:List Operand} {vs:List Value} {ts:Array TypeId} (hk:AN P f) (ho:o.op=.call { callee:=.value (.func f),args:=xs.toArray,argTypes:=ts }) (hx:xs.map (ev l)=vs.map some):NR P n l w o f vs.toArray:=by
 intro a ha;have:=Sj ha _ _ hx;simp [execOp,ho,resolve,Act.eval,Deferred.ofValue,invoke,this,hk _ w]
theorem IA {f:FuncId} {xs:List Operand} {vs:List Value} {fs cs:Array Value} {ts:Array TypeId} (hk:AN P f) (ho:o.op=.call { callee:=.value x,args:=xs.toArray,argTypes:=ts }) (hf:ev l x=some (.func (.func f) fs cs)) (hx:xs.map (ev l)=vs.map some):NR P n l w o f (fs.toList++vs++cs.toList).toArray:=by
 intro a ha;have:=Sj ha _ _ hx;have e:(fs.toList++vs++cs.toList).toArray=fs++vs.toArray++cs:=by apply si.1;simp
 rw [e];simp [execOp,ho,resolve,ha.eval hf,Deferred.ofValue,invoke,this,hk _ w]
end
/-! ### Texts -/
theorem toList_inj {a b:ByteArray} (h:a.data.toList=b.data.toList):a=b:=by
 cases a;cases b;simp at h;subst h;rfl
theorem Ps (a b:ByteArray):(a.toList==b.toList)=decide (a=b):=by
 rw [sw];simp only [beq_iff_eq,decide_eq_true_eq];constructor;intro h;rw [ByteArray.toList_eq,ByteArray.toList_eq] at h;exact toList_inj h;rintro rfl;rfl
def B4 (a b:ByteArray):Bool:=Op.bytesLess a.data.toList b.data.toList
section
variable {P:Program} {n:Nat} {l:Cb} {w w':World} {o:Oper} {v u:Value} {x y:Operand} {t:TypeId} {a b:ByteArray} {t':TypeId}
theorem Ue (ho:o.op=.binOp .eql t x y t') (hx:ev l x=some (.string a)) (hy:ev l y=some (.string b)):BT P n l w o (.bool (decide (a=b))) w:=by
 intro a' ha;simp [execOp,ho,ha.eval hx,ha.eval hy,eqGuard,binOp,Op.stringOp,Ps]
theorem Ug (ho:o.op=.binOp .neq t x y t') (hx:ev l x=some (.string a)) (hy:ev l y=some (.string b)):BT P n l w o (.bool (decide (a≠b))) w:=by
 intro a' ha;simp [execOp,ho,ha.eval hx,ha.eval hy,eqGuard,binOp,Op.stringOp,Ps]
theorem Zk (ho:o.op=.binOp .lss t x y t') (hx:ev l x=some (.string a)) (hy:ev l y=some (.string b)):BT P n l w o (.bool (decide (B4 a b=true))) w:=by
 intro a' ha;rw [show decide (B4 a b=true)=B4 a b from Bool.decide_eq_true];simp [execOp,ho,ha.eval hx,ha.eval hy,eqGuard,binOp,Op.stringOp,B4,ByteArray.toList_eq]
theorem tX (ho:o.op=.binOp .gtr t x y t') (hx:ev l x=some (.string a)) (hy:ev l y=some (.string b)):BT P n l w o (.bool (!(B4 a b||decide (a=b)))) w:=by
 intro a' ha;simp [execOp,ho,ha.eval hx,ha.eval hy,eqGuard,binOp,Op.stringOp,B4,←ByteArray.toList_eq,Ps]
theorem tM (ho:o.op=.binOp .add t x y t') (hx:ev l x=some (.string a)) (hy:ev l y=some (.string b)) (hb:a.size+b.size≤9223372036854775807):BT P n l w o (.string (a++b)) w:=by
 intro a' ha;simp [execOp,ho,ha.eval hx,ha.eval hy,eqGuard,binOp,run_string_add_sum w a b hb]
end
/-! ### Kinds of data -/
structure Kd (α:Type) where
 sz:Nat
 O:World→BD→α→List Value→Prop
 R:World→BD→α→List Value→Prop
 O_loc:∀ {w w':World} {F:BD} {x:α} {cs:List Value},O w F x cs→(∀ k,F k→w'.heap[k]?=w.heap[k]?)→O w' F x cs
 O_mono:∀ {w:World} {F F':BD} {x:α} {cs:List Value},O w F x cs→(∀ k,F k→F' k)→O w F' x cs
 R_loc:∀ {w w':World} {F:BD} {x:α} {cs:List Value},R w F x cs→(∀ k,F k→w'.heap[k]?=w.heap[k]?)→R w' F x cs
 R_mono:∀ {w:World} {F F':BD} {x:α} {cs:List Value},R w F x cs→(∀ k,F k→F' k)→R w F' x cs
 O_R:∀ {w:World} {F:BD} {x:α} {cs:List Value},O w F x cs→R w F x cs
 len:∀ {w:World} {F:BD} {x:α} {cs:List Value},R w F x cs→cs.length=sz
 one:∀ {w:World} {F:BD} {x:α} {cs:List Value},R w F x cs→∀ c∈cs,c.oneCell'=true
 pos:0<sz
def flat {α:Type} (enc:α→List Value) (sz:Nat) (hp:0<sz) (hl:∀ x,(enc x).length=sz) (h1:∀ x,∀ c∈enc x,c.oneCell'=true):Kd α where
 sz:=sz
 O _ _ x cs:=cs=enc x
 R _ _ x cs:=cs=enc x
 O_loc h _:=h
 O_mono h _:=h
 R_loc h _:=h
 R_mono h _:=h
 O_R h:=h
 len h:=h▸hl _
 one h:=h▸h1 _
 pos:=hp
def Av (k:IntKind):Kd Int:=flat (fun x=>[.int k x]) 1 (by omega) (fun _=>rfl) (fun _ c h=>by simp at h;subst h;rfl)
def P7:Kd Bool:=flat (fun x=>[.bool x]) 1 (by omega) (fun _=>rfl) (fun _ c h=>by simp at h;subst h;rfl)
def EX:Kd ByteArray:=flat (fun x=>[.string x]) 1 (by omega) (fun _=>rfl) (fun _ c h=>by simp at h;subst h;rfl)
section
variable {α:Type} (d:Kd α)
def BB (w:World) (F:BD):List α→List Value→Prop
 |[],cs=>cs=[]
 |x::xs,cs=>∃ c cs',cs=c++cs'∧d.R w F x c∧BB w F xs cs'
def DN (w:World):BD→List α→List Value→Prop
 |_,[],cs=>cs=[]
 |F,x::xs,cs=>∃ (F1 F2:BD) (c cs':List Value),(∀ k,F1 k→F k)∧(∀ k,F2 k→F k)∧(∀ k,F1 k→¬ F2 k)∧cs=c++cs'∧d.O w F1 x c∧DN w F2 xs cs'
variable {d} {w w':World} {F F':BD} {xs ys:List α} {cs ds:List Value}
theorem BB.loc:∀ {xs:List α} {cs:List Value},BB d w F xs cs→(∀ k,F k→w'.heap[k]?=w.heap[k]?)→BB d w' F xs cs
 |[],_,h,_=>h
 |_::_,_,⟨c,cs',e,h1,h2⟩,hk=>⟨c,cs',e,d.R_loc h1 hk,BB.loc h2 hk⟩
theorem BB.mono:∀ {xs:List α} {cs:List Value},BB d w F xs cs→(∀ k,F k→F' k)→BB d w F' xs cs
 |[],_,h,_=>h
 |_::_,_,⟨c,cs',e,h1,h2⟩,hk=>⟨c,cs',e,d.R_mono h1 hk,BB.mono h2 hk⟩
theorem DN.loc:∀ {xs:List α} {F:BD} {cs:List Value},DN d w F xs cs→(∀ k,F k→w'.heap[k]?=w.heap[k]?)→DN d w' F xs cs
 |[],_,_,h,_=>h
 |_::_,_,_,⟨F1,F2,c,cs',s1,s2,dj,e,h1,h2⟩,hk=>⟨F1,F2,c,cs',s1,s2,dj,e,d.O_loc h1 (fun k x=>hk k (s1 k x)),DN.loc h2 (fun k x=>hk k (s2 k x))⟩
theorem DN.mono:∀ {xs:List α} {F F':BD} {cs:List Value},DN d w F xs cs→(∀ k,F k→F' k)→DN d w F' xs cs
 |[],_,_,_,h,_=>h
 |_::_,_,_,_,⟨F1,F2,c,cs',s1,s2,dj,e,h1,h2⟩,hk=>⟨F1,F2,c,cs',fun k x=>hk k (s1 k x),fun k x=>hk k (s2 k x),dj,e,h1,h2⟩
theorem DN.toR:∀ {xs:List α} {F:BD} {cs:List Value},DN d w F xs cs→BB d w F xs cs
 |[],_,_,h=>h
 |_::_,_,_,⟨F1,F2,c,cs',s1,s2,_,e,h1,h2⟩=>⟨c,cs',e,d.R_mono (d.O_R h1) s1,(DN.toR h2).mono s2⟩
theorem BB.len:∀ {xs:List α} {cs:List Value},BB d w F xs cs→cs.length=xs.length*d.sz
 |[],_,h=>by subst h;simp
 |_::_,_,⟨c,cs',e,h1,h2⟩=>by
  subst e
  rw [nr,d.len h1,BB.len h2,nz,pw,ro]
theorem BB.one:∀ {xs:List α} {cs:List Value},BB d w F xs cs→∀ c∈cs,c.oneCell'=true
 |[],_,h,c,hc=>by subst h;cases hc
 |_::_,_,⟨c,cs',e,h1,h2⟩,c',hc=>by
  subst e
  exact (pj.1 hc).elim (d.one h1 c') (BB.one h2 _)
theorem BB.append:∀ {xs:List α} {cs:List Value},BB d w F xs cs→BB d w F ys ds→BB d w F (xs++ys) (cs++ds)
 |[],_,h,k=>by subst h;exact k
 |_::_,_,⟨c,cs',e,h1,h2⟩,k=>⟨c,cs'++ds,by rw [e,og],h1,BB.append h2 k⟩
theorem DN.append:∀ {xs:List α} {F F1 F2:BD} {cs:List Value},(∀ k,F1 k→F k)→(∀ k,F2 k→F k)→(∀ k,F1 k→¬ F2 k)→DN d w F1 xs cs→DN d w F2 ys ds→DN d w F (xs++ys) (cs++ds)
 |[],_,_,_,_,_,s2,_,h,k=>by subst h;exact k.mono s2
 |_::_,F,F1,F2,_,s1,s2,dj,⟨a,b,c,cs',g1,g2,gd,e,h1,h2⟩,k=>
  ⟨a,fun j=>b j∨F2 j,c,cs'++ds,fun j hj=>s1 j (g1 j hj),fun j hj=>hj.elim (fun x=>s1 j (g2 j x)) (s2 j),fun j hj hg=>hg.elim (gd j hj) (dj j (g1 j hj)),by rw [e,og],h1,
   DN.append (fun _=>.inl) (fun _=>.inr) (fun j x=>dj j (g2 j x)) h2 k⟩
theorem BB.get:∀ {xs:List α} {cs:List Value} {i:Nat} {x:α},BB d w F xs cs→xs[i]?=some x→∃ c,d.R w F x c∧(cs.drop (i*d.sz)).take d.sz=c
 |[],_,_,_,_,h=>by simp at h
 |y::xs,_,0,x,⟨c,cs',e,h1,h2⟩,h=>by
  obtain rfl:y=x:=by simpa using h
  refine ⟨c,h1,?_⟩
  subst e
  have:=d.len h1
  simp [←this]
 |y::xs,_,i+1,x,⟨c,cs',e,h1,h2⟩,h=>by
  obtain ⟨c',h3,h4⟩:=BB.get h2 (by simpa using h)
  refine ⟨c',h3,?_⟩
  subst e
  have:=d.len h1
  rw [←h4,pw,ro,←vk]
  congr 2
  rw [←this,List.drop_left]
theorem BB.take:∀ {xs:List α} {cs:List Value} (i:Nat),BB d w F xs cs→BB d w F (xs.take i) (cs.take (i*d.sz))
 |[],_,i,h=>by subst h;simp [BB]
 |_::_,_,0,h=>by simp [BB]
 |y::xs,_,i+1,⟨c,cs',e,h1,h2⟩=>by
  have h3:=BB.take i h2
  have:=d.len h1
  refine ⟨c,cs'.take (i*d.sz),?_,h1,h3⟩
  subst e
  rw [pw,ro,←this,so]
theorem BB.drop:∀ {xs:List α} {cs:List Value} (i:Nat),BB d w F xs cs→BB d w F (xs.drop i) (cs.drop (i*d.sz))
 |[],_,i,h=>by subst h;simp [BB]
 |_::_,_,0,h=>by simpa using h
 |y::xs,_,i+1,⟨c,cs',e,h1,h2⟩=>by
  have h3:=BB.drop i h2
  have:=d.len h1
  subst e
  rw [pw,ro (i*d.sz),←this,sq,this]
  exact h3
theorem DN.take:∀ {xs:List α} {F:BD} {cs:List Value} (i:Nat),DN d w F xs cs→DN d w F (xs.take i) (cs.take (i*d.sz))
 |[],_,_,i,h=>by subst h;simp [DN]
 |_::_,_,_,0,h=>by simp [DN]
 |y::xs,_,_,i+1,⟨F1,F2,c,cs',s1,s2,dj,e,h1,h2⟩=>by
  have h3:=DN.take i h2
  have:=d.len (d.O_R h1)
  refine ⟨F1,F2,c,cs'.take (i*d.sz),s1,s2,dj,?_,h1,h3⟩
  subst e
  rw [pw,ro,←this,so]
end
theorem DN.flatR {α:Type} {enc:α→List Value} {sz:Nat} {hp:0<sz} {hl:∀ x,(enc x).length=sz} {h1:∀ x,∀ c∈enc x,c.oneCell'=true} {w:World} {F G:BD}:∀ {xs:List α} {cs:List Value},
  BB (flat enc sz hp hl h1) w F xs cs→DN (flat enc sz hp hl h1) w G xs cs
 |[],_,h=>h
 |_::_,_,⟨c,cs',e,h1,h2⟩=>⟨none_,G,c,cs',fun _ h=>h.elim,fun _ h=>h,fun _ h=>h.elim,e,h1,DN.flatR h2⟩
theorem BB.flat_eq {α:Type} {enc:α→List Value} {sz:Nat} {hp:0<sz} {hl:∀ x,(enc x).length=sz} {h1:∀ x,∀ c∈enc x,c.oneCell'=true} {w:World} {F:BD}:∀ {xs:List α} {cs:List Value},
  BB (flat enc sz hp hl h1) w F xs cs↔cs=xs.flatMap enc
 |[],_=>by simp [BB]
 |x::xs,cs=>by
  constructor
  rintro ⟨c,cs',rfl,hc,h2⟩
  rw [BB.flat_eq] at h2
  have:c=enc x:=hc
  simp [h2,this]
  rintro rfl
  exact ⟨enc x,xs.flatMap enc,by simp,U,BB.flat_eq.2 rfl⟩
/-! ### Slices -/
def Plain (_:Option Addr):Prop:=True
def Hl (w:World) (F:BD) (A:Option Addr) (cs:List Value):Prop:=
 Plain A∧(cs=[]∨∃ b off C t fr,A=some ⟨b,off,none⟩∧F b∧w.heap[b]?=some (.cells C t fr)∧(C.toList.drop off).take cs.length=cs)
def Iu (w:World) (F:BD) (sz:Nat) (A:Option Addr) (n c:Nat) (cs:List Value):Prop:=
 n≤c∧c≤9223372036854775807∧cs.length=n*sz∧((c=0∧Plain A)∨∃ b C t,A=some ⟨b,0,none⟩∧F b∧w.heap[b]?=some (.cells C t (0,0))∧C.size=c*sz∧C.toList.take (n*sz)=cs)
section
variable {w w':World} {F F':BD} {A:Option Addr} {n c sz:Nat} {cs:List Value}
theorem Hl.loc (h:Hl w F A cs) (hk:∀ k,F k→w'.heap[k]?=w.heap[k]?):Hl w' F A cs:=
 ⟨h.1,h.2.imp id fun ⟨b,off,C,t,fr,e,hb,hh,ht⟩=>⟨b,off,C,t,fr,e,hb,(hk b hb).trans hh,ht⟩⟩
theorem Hl.mono (h:Hl w F A cs) (hk:∀ k,F k→F' k):Hl w F' A cs:=
 ⟨h.1,h.2.imp id fun ⟨b,off,C,t,fr,e,hb,hh,ht⟩=>⟨b,off,C,t,fr,e,hk b hb,hh,ht⟩⟩
theorem Iu.loc (h:Iu w F sz A n c cs) (hk:∀ k,F k→w'.heap[k]?=w.heap[k]?):Iu w' F sz A n c cs:=
 ⟨h.1,h.2.1,h.2.2.1,h.2.2.2.imp id fun ⟨b,C,t,e,hb,hh,hs,ht⟩=>⟨b,C,t,e,hb,(hk b hb).trans hh,hs,ht⟩⟩
theorem Iu.mono (h:Iu w F sz A n c cs) (hk:∀ k,F k→F' k):Iu w F' sz A n c cs:=
 ⟨h.1,h.2.1,h.2.2.1,h.2.2.2.imp id fun ⟨b,C,t,e,hb,hh,hs,ht⟩=>⟨b,C,t,e,hk b hb,hh,hs,ht⟩⟩
theorem Iu.toR (h:Iu w F sz A n c cs):Hl w F A cs:=by
 obtain ⟨h1,h2,h3,h4⟩:=h;rcases h4 with ⟨hc,hp⟩|⟨b,C,t,e,hb,hh,hs,ht⟩;have:n=0:=by omega
 subst this;exact ⟨hp,.inl (oz (by simpa using h3))⟩;refine ⟨trivial,.inr ⟨b,0,C,t,(0,0),e,hb,hh,?_⟩⟩;rw [h3];simpa using ht
theorem Hl.cell (h:Hl w F A cs) {j:Nat} (hv:cs[j]?=some v):∃ b off,A=some ⟨b,off,none⟩∧w.cell? ⟨b,off+j,none⟩=some v:=by
 rcases h.2 with rfl|⟨b,off,C,t,fr,e,hb,hh,ht⟩;simp at hv;refine ⟨b,off,e,?_⟩;have hlt:j<cs.length:=by
  rcases pg j cs.length with h'|h'
  exact h';simp [py h'] at hv
 rw [←ht,qj,if_pos hlt,pz] at hv;simp [World.cell?,hh];simpa using hv
end
def Uv {α:Type} (d:Kd α) (w:World) (F:BD) (xs:List α) (A:Option Addr) (n c:Nat):Prop:=
 xs.length=n∧n≤c∧c≤9223372036854775807∧∃ cs,Hl w F A cs∧BB d w F xs cs
def x5 {α:Type} (d:Kd α) (w:World) (F:BD) (xs:List α) (A:Option Addr) (n c:Nat):Prop:=
 xs.length=n∧∃ cs F1 F2,(∀ k,F1 k→F k)∧(∀ k,F2 k→F k)∧(∀ k,F1 k→¬ F2 k)∧Iu w F1 d.sz A n c cs∧DN d w F2 xs cs
def CO {α:Type} (d:Kd α):Kd (List α) where
 sz:=1
 O w F xs cs:=∃ A n c,cs=[.slice A n c]∧x5 d w F xs A n c
 R w F xs cs:=∃ A n c,cs=[.slice A n c]∧Uv d w F xs A n c
 O_loc:=fun ⟨A,n,c,e,h1,cs,F1,F2,s1,s2,dj,h2,h3⟩ hk=>⟨A,n,c,e,h1,cs,F1,F2,s1,s2,dj,h2.loc (fun k x=>hk k (s1 k x)),h3.loc (fun k x=>hk k (s2 k x))⟩
 O_mono:=fun ⟨A,n,c,e,h1,cs,F1,F2,s1,s2,dj,h2,h3⟩ hk=>⟨A,n,c,e,h1,cs,F1,F2,fun k x=>hk k (s1 k x),fun k x=>hk k (s2 k x),dj,h2,h3⟩
 R_loc:=fun ⟨A,n,c,e,h1,h2,h3,cs,h4,h5⟩ hk=>⟨A,n,c,e,h1,h2,h3,cs,h4.loc hk,h5.loc hk⟩
 R_mono:=fun ⟨A,n,c,e,h1,h2,h3,cs,h4,h5⟩ hk=>⟨A,n,c,e,h1,h2,h3,cs,h4.mono hk,h5.mono hk⟩
 O_R:=fun ⟨A,n,c,e,h1,cs,F1,F2,s1,s2,dj,h2,h3⟩=>⟨A,n,c,e,h1,h2.1,h2.2.1,cs,h2.toR.mono s1,h3.toR.mono s2⟩
 len:=fun ⟨A,n,c,e,_⟩=>by subst e;rfl
 one:=fun ⟨A,n,c,e,_⟩ x hx=>by subst e;simp at hx;subst hx;rfl
 pos:=by omega
def own {α:Type} (d:Kd α) (x:α) (cs:List Value):SP:=⟨fun w F=>d.O w F x cs,d.O_loc,d.O_mono⟩
def rd {α:Type} (d:Kd α) (x:α) (cs:List Value):SP:=⟨fun w F=>d.R w F x cs,d.R_loc,d.R_mono⟩
abbrev Aa {α:Type} (d:Kd α) (v:Value) (xs:List α):SP:=own (CO d) xs [v]
abbrev An {α:Type} (d:Kd α) (v:Value) (xs:List α):SP:=rd (CO d) xs [v]
theorem Bi {d:Kd α} {x:α} {w:World} (F:BD) (h:(own d x cs).P w F):(rd d x cs).P w F:=d.O_R h
section
variable {α:Type} {d:Kd α} {w0 w w':World} {F F0:BD} {xs ys:List α} {v:Value} {As Rs:List SP}
theorem Un (h:(An d v xs).P w F):∃ A c,v=.slice A xs.length c∧xs.length≤c∧c≤9223372036854775807∧Plain A∧∃ cs,Hl w F A cs∧BB d w F xs cs:=by
 obtain ⟨A,n,c,e,h1,h2,h3,cs,h4,h5⟩:=h;obtain rfl:v=.slice A n c:=by simpa using e
 subst h1;exact ⟨A,c,U,h2,h3,h4.1,cs,h4,h5⟩
theorem Fk (h:(An d v xs).P w F):∃ A c,v=.slice A xs.length c∧xs.length≤c∧c≤9223372036854775807∧Plain A:=by
 obtain ⟨A,c,e,h1,h2,h3,_⟩:=Un h;exact ⟨A,c,e,h1,h2,h3⟩
theorem Hd.form (H:Hd w0 F0 w As Rs) (hm:An d v xs∈Rs):∃ A c,v=.slice A xs.length c∧xs.length≤c∧c≤9223372036854775807∧Plain A:=H.factR hm fun _ h=>Fk h
theorem Hd.formO (H:Hd w0 F0 w As Rs) (hm:Aa d v xs∈As):∃ A c,v=.slice A xs.length c∧xs.length≤c∧c≤9223372036854775807∧Plain A:=H.fact hm fun F h=>Fk (Bi F h)
theorem OY {A:Option Addr} {m c:Nat} (h:(An d (.slice A m c) xs).P w F) {i:Nat} {x:α} (hx:xs[i]?=some x):
  ∃ (b off:Nat) (cs:List Value),A=some ⟨b,off,none⟩∧cs.length=d.sz∧(∀ j u,cs[j]?=some u→w.cell? ⟨b,off+i*d.sz+j,none⟩=some u)∧d.R w F x cs:=by
 obtain ⟨A',c',e,_,_,_,cs,h4,h5⟩:=Un h;cases e;obtain ⟨c0,h6,h7⟩:=h5.get hx;have hl:=d.len h6;have hp:=d.pos;have key:∀ j u,c0[j]?=some u→cs[i*d.sz+j]?=some u:=by
  intro j u hu;rw [←h7,qj] at hu;split at hu;rwa [pz] at hu
  cases hu
 have h0:∃ u,c0[0]?=some u:=⟨c0[0],by simp [ol (show 0<c0.length by omega)]⟩;obtain ⟨f,a⟩:=h0;obtain ⟨b,off,e,_⟩:=h4.cell (key 0 f a);refine ⟨b,off,c0,e,hl,fun j u hu=>?_,h6⟩;obtain ⟨b',off',e',hc⟩:=h4.cell (key j u hu);rw [e] at e';cases e';rwa [←tu] at hc
theorem Hd.at_ {A:Option Addr} {m c:Nat} (H:Hd w0 F0 w As Rs) (hm:An d (.slice A m c) xs∈Rs) {i:Nat} {x:α} (hx:xs[i]?=some x):
  ∃ (b off:Nat) (cs:List Value),A=some ⟨b,off,none⟩∧cs.length=d.sz∧(∀ j u,cs[j]?=some u→w.cell? ⟨b,off+i*d.sz+j,none⟩=some u):=H.factR hm fun _ h=>by
 obtain ⟨b,off,cs,h1,h2,h3,_⟩:=OY h hx
 exact ⟨b,off,cs,h1,h2,h3⟩
theorem ZY {enc:α→List Value} {sz:Nat} {hp:0<sz} {hl:∀ x,(enc x).length=sz} {h1:∀ x,∀ c∈enc x,c.oneCell'=true} {A:Option Addr} {m c:Nat} (h:(An (flat enc sz hp hl h1) (.slice A m c) xs).P w F) {i:Nat} {x:α} (hx:xs[i]?=some x):
  ∃ b off,A=some ⟨b,off,none⟩∧∀ j u,(enc x)[j]?=some u→w.cell? ⟨b,off+i*sz+j,none⟩=some u:=by
 obtain ⟨b,off,cs,h1,h2,h3,h4⟩:=OY h hx;obtain rfl:cs=enc x:=h4;exact ⟨b,off,h1,h3⟩
end
/-! ### What is written: a block's cells -/
def Fj:List Value→Nat→List Value→List Value
 |cs,_,[]=>cs
 |cs,i,v::vs=>Fj (cs.set i v) (i+1) vs
section
variable {P:Program} {w:World} {F:BD}
theorem OZ {b:Nat} {t:TypeId}:∀ (vs cs:List Value) (off i:Nat) (w:World),(blk b cs t).P w F→off+i+vs.length≤cs.length→(∀ v∈vs,v.oneCell'=true)→
  ∃ w',(storeCells ⟨b,off,none⟩ vs i).run P w=.ok () w'∧(blk b (Fj cs (off+i) vs) t).P w' F∧Dg F w w'
 |[],cs,off,i,w,h,_,_=>⟨w,by simp [storeCells],h,Dg.refl _ _⟩
 |v::vs,cs,off,i,w,h,hl,h1=>by
  simp only [nz] at hl
  have hlt:off+i<cs.length:=by omega
  have hc:w.cell? ⟨b,off+i,none⟩=some cs[off+i]:=R0 h (by simp [ol hlt])
  obtain ⟨w',hr,hb,hu⟩:=OZ vs (cs.set (off+i) v) off (i+1) (w.setCell ⟨b,off+i,none⟩ v) (R4 h _ _) (by simp;omega) (fun v' hv=>h1 v' (ow _ hv))
  refine ⟨w',?_,by rw [Fj];exact tu off i 1▸hb,(Dg.setCell w _ v h.1).trans hu (fun _ _ x=>x)⟩
  simp only [storeCells,GE,Sem.run_bind]
  rw [run_store P w _ v _ (h1 v (od ..))]
  simp only [stored,hc,Vx h]
  exact hr
end
section
variable {P:Program} {ops:Array Oper} {Q:Exit→Act→World→Prop} {rest:List Oper} {n:Nat} {l:Cb} {w0 w:World} {F0:BD} {o:Oper} {v:Value} {As Rs:List SP} {x y:Operand} {t:TypeId}
theorem Bc {b sz:Nat} {B:Bool} (hg:gd ops l o=some true) (hd:o.dst=none) (ho:o.op=.store t x y) (ht:CK P t=some (B,sz)) (hx:ev l x=some (.pointer (some ⟨b,off,none⟩))) (hy:ev l y=some v)
  (H:Hd w0 F0 w (blk b cs bt::As) Rs) (hs:v.cells.size=sz) (hl:off+sz≤cs.length) (h1:∀ u∈v.cells.toList,u.oneCell'=true) (h:∀ w',Hd w0 F0 w' (blk b (Fj cs off v.cells.toList) bt::As) Rs→WL P ops Q rest n l w'):WL P ops Q (o::rest) n l w:=by
 obtain ⟨F,hb⟩:∃ F,(blk b cs bt).P w F:=H.fact (od ..) fun F hb=>⟨F,hb⟩;obtain ⟨w',hr,_,_⟩:=OZ (P:=P) _ _ _ 0 w hb (by simp [hs];omega) h1;refine O1 hg hd (fun a ha=>?_) (h w' (H.write fun F' hb'=>?_));simp [execOp,ho,ha.eval hx,ha.eval hy,Instr.storeAt,Instr.sureAddr,storeVar,Rb ht,hs,hr];obtain ⟨w'',hr',h2,h3⟩:=OZ (P:=P) _ _ _ 0 w hb' (by simp [hs];omega) h1;rw [hr] at hr';cases hr';exact ⟨h2,h3⟩
theorem wU (hg:gd ops l o=some true) (hd:CF n o.dst=true) (ho:o.op=.box t x) (hx:ev l x=some v) (H:Hd w0 F0 w As Rs)
  (h:∀ b w',Hd w0 F0 w' (blk b v.cells.toList t::As) Rs→WL P ops Q rest n (Cj l o.dst (.pointer (some ⟨b,0,none⟩))) w'):WL P ops Q (o::rest) n l w:=by
 refine Ed (w':=w.alloc (.cells v.cells t)) hg hd (v:=.pointer (some ⟨w.heap.size,0,none⟩)) (fun a ha=>?_) (h _ _ ?_);simp [execOp,ho,ha.eval hx,Instr.box,newVar,newRow];have:=H.alloc v.cells.toList t;simpa using this
theorem Cw (hz0:(gd ops l o,CF n o.dst,o.op,ev l x)=(some true,true,.box t x,some v)) (H:Hd w0 F0 w As Rs) (h:∀ b w',Hd w0 F0 w' (blk b v.cells.toList t::As) Rs→WL P ops Q rest n (Cj l o.dst (.pointer (some ⟨b,0,none⟩))) w'):WL P ops Q (o::rest) n l w:=wU (Prod.mk.inj hz0).1 (Prod.mk.inj (Prod.mk.inj hz0).2).1 (Prod.mk.inj (Prod.mk.inj (Prod.mk.inj hz0).2).2).1 (Prod.mk.inj (Prod.mk.inj (Prod.mk.inj hz0).2).2).2 H h
theorem Du {z:Value} (hg:gd ops l o=some true) (hd:CF n o.dst=true) (ho:o.op=.alloc t) (hz:DO P t=some z) (H:Hd w0 F0 w As Rs)
  (h:∀ b w',Hd w0 F0 w' (blk b z.cells.toList t::As) Rs→WL P ops Q rest n (Cj l o.dst (.pointer (some ⟨b,0,none⟩))) w'):WL P ops Q (o::rest) n l w:=by
 obtain ⟨i,hi,hz'⟩:=px.1 hz;refine Ed (w':=w.alloc (.cells z.cells t)) hg hd (v:=.pointer (some ⟨w.heap.size,0,none⟩)) (fun a ha=>?_) (h _ _ ?_);simp [execOp,ho,Instr.alloc,zeroValue,typeInfo,hi,hz',newVar,newRow];have:=H.alloc z.cells.toList t;simpa using this
def MH (place:Nat→Option (Nat×Nat)):List Value→List (Nat×Value)→Option (List Value)
 |cs,[]=>some cs
 |cs,(i,v)::rest=>
  match place i with
  |none=>none
  |some (off,size)=>match Nat.decEq v.cells.size size,Nat.decLe (off+size) cs.length with
   |.isTrue _,.isTrue _=>MH place (Fj cs off v.cells.toList) rest
   |_,_=>none
theorem WH:∀ (vs:List Value) (k off:Nat) (A:Array Value),((vs.zipIdx k).foldl (fun cs (p:Value×Nat)=>cs.setIfInBounds (off+p.2) p.1) A).toList=Fj A.toList (off+k) vs
 |[],_,_,_=>rfl
 |v::vs,k,off,A=>by
  rw [List.zipIdx_cons,List.foldl_cons,WH _ _ _]
  simp [Fj,tu]
theorem Sm {place:Nat→Option (Nat×Nat)}:∀ {parts:List (Nat×Value)} {A:Array Value} {cs:List Value},MH place A.toList parts=some cs→Instr.fill place A parts=some cs.toArray
 |[],A,cs,h=>by
  have:A.toList=cs:=by simpa [MH] using h
  subst this
  simp [Instr.fill]
 |(i,v)::rest,A,cs,h=>by
  simp only [MH] at h
  simp only [Instr.fill]
  split at h
  cases h
  rename_i off size hp
  simp only [hp]
  split at h
  rename_i e1 _ e2 _
  have a:A.toList.length=A.size:=sg
  rw [if_neg (by simp at e2 ⊢;omega)]
  refine Sm ?_
  have:=WH v.cells.toList 0 off A
  rw [uy] at this
  rw [←h,←this]
  congr 2
  rw [←Array.foldl_toList]
  simp
  cases h
theorem AbG {z:List Value} {sz:Nat} (hz:z.length=sz) (hp:0<sz) (c:Nat):(qa (c*sz)).map (fun j=>z[j%z.length]!)=(pd c ()).flatMap fun _=>z:=by
 have hfl:∀ c,((pd c ()).flatMap fun _=>z).length=c*sz:=by
  intro c;induction c with
  |zero=>simp
  |succ c ih=>rw [td,ox,nr,ih,hz,pw,ro]
 have hd:∀ c i,((pd c ()).flatMap fun _=>z).drop (i*sz)=(pd (c - i) ()).flatMap fun _=>z:=by
  intro c i;induction i generalizing c with
  |zero=>simp
  |succ i ih=>
   cases c with
   |zero=>simp
   |succ c=>
    rw [td,ox,pw,ro (i*sz),←hz,sq,hz,ih];congr 2;omega
 apply zf;rw [hfl];simp;intro j h1 h2;simp only [uu,xw];simp at h1;have hdj:j=j / sz*sz+j%sz:=by rw [sr];exact (zm j sz).symm
 have hjd:j / sz<c:=xj (by rw [sr];exact h1);have hjm:j%sz<sz:=Nat.mod_lt _ hp;have h4:(((pd c ()).flatMap fun _=>z).drop (j / sz*sz))[j%sz]?=z[j%sz]?:=by
  obtain ⟨r,hr⟩:∃ r,c - j / sz=r+1:=⟨c - j / sz - 1,by omega⟩;rw [hd,hr,td,ox,qb (by omega)]
 rw [pz,←hdj,ol h2,ol (by omega)] at h4;rw [hz,getElem!_pos z _ (by omega)];exact (Option.some.inj h4).symm
def E4 (P:Program) (t:TypeId):Option (Array Value×Array (Nat×Nat)):=
 match P.underlying t with
 |some (.struct fs)=>match DO P t,fs.mapM fun f=>(P.info? f.type).map fun i=>(f.offset,i.size) with
  |some z,some ps=>some (z.cells,ps)
  |_,_=>none
 |_=>none
theorem wI (w:World):∀ (fs:List Field) (ps:List (Nat×Nat)),(fs.mapM fun f=>(P.info? f.type).map fun i=>(f.offset,i.size))=some ps→(fs.mapM fun f=>(do pure (f.offset,←sizeOf f.type):Sem (Nat×Nat))).run P w=.ok ps w:=by
 intro fs;induction fs with
 |nil=>intro ps h;simp at h;subst h;rfl
 |cons f fs ih=>
  intro ps h;simp only [zy,Option.bind_eq_bind,px,Option.pure_def,Option.some.injEq] at h;obtain ⟨p,hp,qs,hq,rfl⟩:=h;obtain ⟨i,hi,rfl⟩:=qc.1 hp;simp [zy,sizeOf,typeInfo,hi] at ih ⊢;simp [ih qs hq]
theorem CH {parts:List (Nat×Operand)} {vs:List Value} {z:Array Value} {ps:Array (Nat×Nat)} (ho:o.op=.build t parts.toArray) (hb:E4 P t=some (z,ps)) (hx:(parts.map fun p=>ev l p.2)=vs.map some)
  (hf:MH (ps[·]?) z.toList ((parts.map (·.1)).zip vs)=some cs):BT P n l w o (.agg cs.toArray) w:=by
 replace hf:=Sm hf;unfold E4 at hb;split at hb;rename_i fs hu;split at hb;rename_i z' ps' hz hp;simp only [Option.some.injEq,Prod.mk.injEq] at hb;obtain ⟨rfl,rfl⟩:=hb;obtain ⟨i,hi,hz'⟩:=px.1 hz;intro a ha;have hx':∀ (ps:List (Nat×Operand)) (vs:List Value),(ps.map fun p=>ev l p.2)=vs.map some→(ps.map fun p=>(p.1,a.eval p.2))=(ps.map (·.1)).zip vs:=by
  intro ps;induction ps with
  |nil=>intro vs h;cases vs<;>simp_all
  |cons p ps ih=>
   intro vs h;cases vs with
   |nil=>simp at h
   |cons v vs=>
    simp only [pf,List.cons.injEq,xx] at h ⊢;exact ⟨by rw [ha.eval h.1],ih vs h.2⟩
 have hm:(fs.mapM fun f=>(do pure (f.offset,←sizeOf f.type):Sem (Nat×Nat))).run P w=.ok ps' w:=by
  have h1:fs.toList.mapM (fun f=>(P.info? f.type).map fun i=>(f.offset,i.size))=some ps'.toList:=by
   have:=congrArg (Option.map Array.toList) hp;rw [wg] at hp;cases h:fs.toList.mapM (fun f=>(P.info? f.type).map fun i=>(f.offset,i.size)) with
   |none=>simp [h] at hp
   |some q=>simp [h] at hp;simp [←hp]
  rw [wg];have h2:=wI (P:=P) w _ _ h1;simp only [Sem.run_map,h2,Result.andThen_ok]
 have c:=hx' parts vs hx;have b:(parts.toArray.map fun (x:Nat×Operand)=>match x with |(i,x)=>(i,a.eval x)).toList=(parts.map (·.1)).zip vs:=by
  rw [←c];simp
 unfold execOp;simp only [ho,Instr.build,Sem.run_bind,zeroValue,typeInfo,run_program,hi,hz',run_underlying hu,hm,Sem.run_pure,Result.andThen_ok,b,hf];simp at hb;simp at hb
theorem Cc {parts:List (Nat×Operand)} {vs:List Value} {m e size bytes:Nat} {z:Value} (hg:gd ops l o=some true) (hd:CF n o.dst=true) (ho:o.op=.buildSlice t m parts.toArray)
  (hs:D5 P t=some (e,size,bytes)) (hz:DO P e=some z) (hzs:z.cells.toList.length=size) (h0:m*size≠0) (h1:¬ m*size>2^24) (hx:(parts.map fun p=>ev l p.2)=vs.map some)
  (hf:MH (fun i=>some (i*size,size)) ((pd m ()).flatMap fun _=>z.cells.toList) ((parts.map (·.1)).zip vs)=some cs) (H:Hd w0 F0 w As Rs)
  (h:∀ b w',Hd w0 F0 w' (blk b cs e::As) Rs→WL P ops Q rest n (Cj l o.dst (.slice (some ⟨b,0,none⟩) m m)) w'):WL P ops Q (o::rest) n l w:=by
 obtain ⟨hu,inf,hi,hsz,_⟩:=HZ hs;obtain ⟨i,hi',hz'⟩:=px.1 hz;rw [hi] at hi';cases hi';have hpos:0<size:=by
  rcases uf size with h|h
  rw [h] at h0;simp at h0;exact h
 have d:((yu (m*size)).map (z.cells[·%z.cells.size]!)).toList=(pd m ()).flatMap fun _=>z.cells.toList:=by
  rw [←AbG hzs hpos m];simp;intro a _;rw [getElem!_def];cases z.cells[a%z.cells.size]?<;>rfl
 rw [←d] at hf;replace hf:=Sm hf;refine Ed (w':=w.alloc (.cells cs.toArray e)) hg hd (v:=.slice (some ⟨w.heap.size,0,none⟩) m m) (fun a ha=>?_) (h _ _ ?_);have hx':∀ (ps:List (Nat×Operand)) (vs:List Value),(ps.map fun p=>ev l p.2)=vs.map some→(ps.map fun p=>(p.1,a.eval p.2))=(ps.map (·.1)).zip vs:=by
  intro ps;induction ps with
  |nil=>intro vs h;cases vs<;>simp_all
  |cons p ps ih=>
   intro vs h;cases vs with
   |nil=>simp at h
   |cons v vs=>
    simp only [pf,List.cons.injEq,xx] at h ⊢;exact ⟨by rw [ha.eval h.1],ih vs h.2⟩
 have c:(parts.toArray.map fun (x:Nat×Operand)=>match x with |(i,x)=>(i,a.eval x)).toList=(parts.map (·.1)).zip vs:=by
  rw [←hx' parts vs hx];simp
 unfold execOp;simp only [ho,Instr.buildSlice,Sem.run_bind,run_underlying hu,sizeOf,zeroValue,typeInfo,run_program,hi,hz',hsz,if_neg h1,if_neg h0,Sem.run_pure,Result.andThen_ok,c,hf,newRow,run_newObj];simp;exact H.alloc cs e
end
instance:Coe Int Value:=⟨fun n=>.int .i64 n⟩
instance:Coe Bool Value:=⟨fun b=>.bool b⟩
instance:Coe ByteArray Value:=⟨fun s=>.string s⟩
instance:Coe Nat Value:=⟨fun b=>.pointer (some ⟨b,0,none⟩)⟩
instance:Coe Nat (Option Addr):=⟨fun b=>some ⟨b,0,none⟩⟩
structure Tk where
def zO {α:Type} (d:Kd α) (a:Option Addr) (c:Nat) (xs:List α):Tk:=⟨⟩
def zR {α:Type} (d:Kd α) (a:Option Addr) (c:Nat) (xs:List α):Tk:=⟨⟩
section
variable {α:Type} {d:Kd α} {a:Option Addr} {c:Nat} {xs:List α}
instance:CoeDep Tk (zO d a c xs) SP:=⟨Aa d (.slice a xs.length c) xs⟩
instance:CoeDep Tk (zR d a c xs) SP:=⟨An d (.slice a xs.length c) xs⟩
end
theorem gx {i:Nat} (h:i<l.length):∃ z,l[i]?=some z:=⟨_,ol h⟩
section
variable {P:Program} {w:World} {F:BD}
theorem Up {t tx ty e size bytes:Nat} {dx:TypeDesc} {z:Value} {A:Option Addr} {n c m:Nat} {news:List Value} {x:Value} (hs:D5 P t=some (e,size,bytes)) (hz:DO P e=some z) (hzs:z.cells.size=size)
  (htx:P.underlying tx=some dx) (hni:(∃ q,dx=.slice q)∨dx=.string) (h:Iu w F size A n c cs) (hF:∀ k,F k→k<w.heap.size)
  (hlen:(Builtin.lenOf x).run P w=.ok m w) (hfc:∀ w':World,w'.heap=w.heap→(Builtin.firstCells size m x).run P w'=.ok news.toArray w') (hnl:news.length=m*size) (h1:∀ u∈news,u.oneCell'=true)
  (d:0<bytes) (hb:(n+m)*bytes≤140737488355328):
  ∃ A' c' w' F',(Builtin.append_ #[t,tx] ty #[V A n c,x]).run P w=.ok (V A' (n+m) c') w'∧Iu w' F' size A' (n+m) c' (cs++news)∧Dg F w w'∧(∀ k,F' k→k<w'.heap.size∧(F k∨w.heap.size≤k)):=by
 obtain ⟨hu,i,hi,rfl,rfl⟩:=HZ hs;obtain ⟨i',hi',hz'⟩:=px.1 hz;rw [hi] at hi';cases hi';obtain ⟨hnc,hcm,hcl,hrow⟩:=h;have hsmall:n+m≤140737488355328:=ot (Nat.le_mul_of_pos_right _ d) hb;by_cases hroom:n+m≤c;rcases hrow with ⟨a,hp⟩|⟨b,C,bt,hA,hFb,hh,hCs,htake⟩;obtain rfl:n=0:=by omega
 obtain rfl:m=0:=by omega
 obtain rfl:cs=[]:=oz (by simpa using hcl);obtain rfl:news=[]:=oz (by simpa using hnl);refine ⟨A,c,w,F,?_,⟨hnc,hcm,by simp,.inl ⟨a,hp⟩⟩,Dg.refl _ _,fun k hk=>⟨hF k hk,.inl hk⟩⟩;rcases hni with ⟨q,rfl⟩|rfl<;>cases A<;>simp [Builtin.append_,run_underlying hu,run_underlying htx,sizeOf,typeInfo,hi,hlen,hfc w rfl,a,storeCells];have hfit:n*i.size+news.length≤C.size:=by rw [hnl,hCs,←tz];exact qp _ hroom
 have hst:=run_storeCells_at P b (n*i.size) bt news 0 C w hh (by simpa using hfit) h1;simp only [uy] at hst;refine ⟨A,c,w.setRow b (C.toList.take (n*i.size)++news++C.toList.drop (n*i.size+news.length)).toArray,F,?_,⟨hroom,hcm,by simp [hcl,hnl,tz],.inr ⟨b,_,bt,hA,hFb,setRow_heap w b C _ bt _ hh,?_,?_⟩⟩,⟨U,U,U,by simp,fun k _ hk=>setRow_other w b k _ (fun e=>hk (e▸hFb))⟩,fun k hk=>⟨by simpa using hF k hk,.inl hk⟩⟩;subst hA;rcases hni with ⟨q,rfl⟩|rfl<;>simp [Builtin.append_,run_underlying hu,run_underlying htx,sizeOf,typeInfo,hi,hlen,hfc w rfl,hroom,GE,hst];simp only [rh,nr,oo,pt,sg];omega;rw [htake];have:(cs++news).length=(n+m)*i.size:=by simp [hcl,hnl,tz]
 rw [←this];exact tj;have hbz:i.bytes≠0:=by omega
 have hold:∀ w':World,w'.heap=w.heap→(Builtin.firstCells i.size n (.slice A n c)).run P w'=.ok cs.toArray w':=by
  intro w' hw';rcases hrow with ⟨a,hp⟩|⟨b,C,bt,hA,hFb,hh,hCs,htake⟩;obtain rfl:n=0:=by omega
  obtain rfl:cs=[]:=oz (by simpa using hcl);cases A<;>simp [Builtin.firstCells,loadCells,loadCellsFrom];subst hA;refine run_firstCells_some w' i.size n ⟨b,0,none⟩ n c cs hcl (fun j v hv=>?_);have hR:Hl w F b cs:=Iu.toR ⟨hnc,hcm,hcl,.inr ⟨b,C,bt,rfl,hFb,hh,hCs,htake⟩⟩;obtain ⟨b',off',e',hcell⟩:=hR.cell hv;cases e';have:w'.cell? ⟨b,0+j,none⟩=w.cell? ⟨b,0+j,none⟩:=by simp [World.cell?,hw']
  rw [GE,this];exact hcell
 have hbig:¬ (9223372036854775807<((n+m:Nat):Int)):=by omega
 have hfit:¬ 281474976710656<Builtin.nextslicecap (n+m) c*i.bytes:=by
  have:=growslice_fits (need:=n+m) (old:=c) (bytes:=i.bytes) (by omega) hb;omega
 have hge:=grownCap_ge w (n+m) c e;have hle:grownCap w (n+m) c e≤9223372036854775807:=by
  have:=grownCap_le_maxLen w (n+m) c e (by simp only [maxLen];omega);simpa [maxLen] using this
 refine ⟨some ⟨w.heap.size,0,none⟩,grownCap w (n+m) c e,w.drew.alloc (.cells (cs.toArray++news.toArray++Builtin.zeroCells z.cells (grownCap w (n+m) c e - (n+m))) e),fun k=>k=w.heap.size,?_,⟨hge,hle,by simp [hcl,hnl,tz],.inr ⟨w.heap.size,_,e,U,U,heap_alloc_new w.drew _,?_,?_⟩⟩,?_,?_⟩;rcases hni with ⟨q,rfl⟩|rfl<;>simp [Builtin.append_,run_underlying hu,run_underlying htx,sizeOf,zeroValue,typeInfo,hi,hz',hlen,hfc w.drew rfl,hold w.drew rfl,hroom,hbz,hfit,newRow,grownCap,Question.forced]<;>(rw [←Array.append_assoc];simp);simp only [un,rh,size_zeroCells,hzs,hcl,hnl,←tz];congr 1;omega;simp only [Array.toList_append];have:(cs++news).length=(n+m)*i.size:=by simp [hcl,hnl,tz]
 rw [←this];exact tj;exact (Dg.alloc F _ _).trans (Dg.refl F _) (fun _ _ x=>x)|>fun u=>⟨u.os,u.tape,u.output,u.size,u.block⟩;intro k hk;subst hk;simp
end
section
variable {P:Program} {ops:Array Oper} {Q:Exit→Act→World→Prop} {rest:List Oper} {n:Nat} {l:Cb} {w0 w:World} {F0:BD} {o:Oper} {v:Value} {As Rs:List SP} {x y:Operand} {t:TypeId}
theorem So {size m c:Nat} {B:Option Addr} {news:List Value} {F:BD} (h:Hl w F B news) (hnl:news.length=m*size) (hm:B=none→m=0):
  ∀ w':World,w'.heap=w.heap→(Builtin.firstCells size m (V B m c)).run P w'=.ok news.toArray w':=by
 intro w' hw';cases B with
 |none=>
  obtain rfl:=hm rfl;obtain rfl:news=[]:=oz (by simpa using hnl);simp [Builtin.firstCells]
 |some a=>
  refine run_firstCells_some w' size m a m c news hnl (fun j v hv=>?_);obtain ⟨b,off,e,hc⟩:=h.cell hv;cases e;have:w'.cell? ⟨b,off+j,none⟩=w.cell? ⟨b,off+j,none⟩:=by simp [World.cell?,hw']
  rw [GE,this];exact hc
theorem CS {enc:α→List Value} {sz:Nat} {hp:0<sz} {hl:∀ x,(enc x).length=sz} {h1:∀ x,∀ c∈enc x,c.oneCell'=true} {e bytes:Nat} {z:Value} {xs ys:List α} {B:Option Addr} {m c2:Nat}
  (hg:gd ops l o=some true) (hd:CF n o.dst=true) (ho:o.op=.call { callee:=.builtin .append,args:=#[x,y],argTypes:=#[t,t] }) (hs:D5 P t=some (e,sz,bytes)) (hz:DO P e=some z) (hzs:z.cells.size=sz) (J:0<bytes)
  (hx:ev l x=some u) (hy:ev l y=some (.slice B m c2)) (H:Hd w0 F0 w (Aa (flat enc sz hp hl h1) u xs::As) Rs) (hb:(xs.length+m)*bytes≤140737488355328)
  (hn:∀ F,(∀ A∈As,A.P w F)→(∀ R∈Rs,R.P w F)→(An (flat enc sz hp hl h1) (.slice B m c2) ys).P w F)
  (h:∀ u' w',Hd w0 F0 w' (Aa (flat enc sz hp hl h1) u' (xs++ys)::As) Rs→WL P ops Q rest n (Cj l o.dst u') w'):WL P ops Q (o::rest) n l w:=by
 obtain ⟨F,D,E⟩:∃ F,(∀ A∈As,A.P w F)∧(∀ R∈Rs,R.P w F):=H.read fun F a r=>⟨F,fun A hA=>a A (ow _ hA),r⟩;obtain ⟨hyl,_,_,news,hnr,hnR⟩:Uv (flat enc sz hp hl h1) w F ys B m c2:=by
  obtain ⟨A',n',c',e',h'⟩:=hn F D E;cases e';exact h'
 have hnl:news.length=m*sz:=by rw [hnR.len,hyl];rfl
 have K:B=none→m=0:=by
  intro hB;rcases hnr.2 with rfl|⟨b,off,C,t',fr,e',_⟩;have:m*sz=0:=by rw [←hnl];rfl
  exact (uz.1 this).resolve_right (by omega);rw [hB] at e';cases e'
 obtain ⟨hu,i,hi,N,O⟩:=HZ hs;have hfc:=So (P:=P) (c:=c2) hnr hnl K;have key:∀ F1,(Aa (flat enc sz hp hl h1) u xs).P w F1→(∀ k,F1 k→k<w.heap.size)→∃ A c A' c' w' F',u=.slice A xs.length c∧(Builtin.append_ #[t,t] o.type #[u,.slice B m c2]).run P w=.ok (.slice A' (xs.length+m) c') w'∧(Aa (flat enc sz hp hl h1) (.slice A' (xs.length+m) c') (xs++ys)).P w' F'∧Dg F1 w w'∧(∀ k,F' k→k<w'.heap.size∧(F1 k∨w.heap.size≤k)):=by
  rintro F1 ⟨A,n',c,e',hxl,cs,W,X,g1,g2,gd,hr,hR⟩ hlt;cases e';subst hxl;obtain ⟨A',c',w',F',hrun,hrow,hupd,hF'⟩:=Up (P:=P) (tx:=t) (ty:=o.type) (m:=m) (news:=news) hs hz hzs hu (.inl ⟨e,rfl⟩) hr (fun k hk=>hlt k (g1 k hk)) (by simp [Builtin.lenOf]) hfc hnl hnR.one J hb;refine ⟨A,c,A',c',w',F',U,hrun,?_,⟨hupd.os,hupd.tape,hupd.output,hupd.size,fun k hk hn'=>hupd.block k hk (fun q=>hn' (g1 k q))⟩,fun k hk=>⟨(hF' k hk).1,(hF' k hk).2.imp (g1 k) id⟩⟩;exact ⟨A',_,c',U,by simp [hyl],cs++news,F',none_,fun _ q=>q,fun _ q=>q.elim,fun _ _ q=>q,hrow,DN.flatR (F:=none_) (BB.flat_eq.2 (by rw [BB.flat_eq.1 hR.toR,BB.flat_eq.1 hnR];simp))⟩
 have hall:∃ F1,(Aa (flat enc sz hp hl h1) u xs).P w F1∧∀ k,F1 k→k<w.heap.size:=by
  obtain ⟨F,G,⟨F1,F2,M,a2,a3,a,s⟩,r,d,f,g,u⟩:=H;exact ⟨F1,a,fun k hk=>(f k (M k hk)).1⟩
 obtain ⟨F1,hO,hlt⟩:=hall;obtain ⟨A,c,A',c',w',F',hue,hrun,_,_,_⟩:=key F1 hO hlt;refine Ed hg hd (v:=V A' (xs.length+m) c') (w':=w') (fun a ha=>?_) (h _ _ (H.grow fun F2 I p=>?_));simp [execOp,ho,resolve,ha.eval hx,ha.eval hy,invoke,builtin,hrun];obtain ⟨S,c3,T,c4,Y,L,_,j,h4,h5,h6⟩:=key F2 I p;rw [hrun] at j;cases j;exact ⟨L,h4,h5,h6⟩
theorem wR {d:Kd α} {E:SP} {e bytes:Nat} {z:Value} {xs ys:List α} {B:Option Addr} {m c2:Nat}
  (hg:gd ops l o=some true) (hd:CF n o.dst=true) (ho:o.op=.call { callee:=.builtin .append,args:=#[x,y],argTypes:=#[t,t] }) (hs:D5 P t=some (e,d.sz,bytes)) (hz:DO P e=some z) (hzs:z.cells.size=d.sz) (K:0<bytes)
  (hx:ev l x=some u) (hy:ev l y=some (.slice B m c2)) (H:Hd w0 F0 w (Aa d u xs::E::As) Rs) (hb:(xs.length+m)*bytes≤140737488355328)
  (hyl:ys.length=m) (hE:∀ F,E.P w F→∃ news,Hl w F B news∧DN d w F ys news)
  (h:∀ u' w',Hd w0 F0 w' (Aa d u' (xs++ys)::As) Rs→WL P ops Q rest n (Cj l o.dst u') w'):WL P ops Q (o::rest) n l w:=by
 have M:Hd w0 F0 w (Fo [Aa d u xs,E]::As) Rs:=H.shut (Bs:=[Aa d u xs,E]) (fun F hF=>hF);obtain ⟨hu,i,hi,R,S⟩:=HZ hs;have hpos:=d.pos;have key:∀ F1,(Fo [Aa d u xs,E]).P w F1→(∀ k,F1 k→k<w.heap.size)→∃ A' c' w' F',(Builtin.append_ #[t,t] o.type #[u,.slice B m c2]).run P w=.ok (.slice A' (xs.length+m) c') w'∧(Aa d (.slice A' (xs.length+m) c') (xs++ys)).P w' F'∧Dg F1 w w'∧(∀ k,F' k→k<w'.heap.size∧(F1 k∨w.heap.size≤k)):=by
  rintro F1 ⟨X,Y,k1,k2,kd,⟨A,n',c,e',hxl,cs,W,I,g1,g2,gd,hr,hR⟩,D,Z,k3,k4,kd',hEP,_⟩ hlt;cases e';subst hxl;obtain ⟨news,hnr,hnO⟩:=hE D hEP;have hnl:news.length=m*d.sz:=by rw [hnO.toR.len,hyl]
  have L:B=none→m=0:=by
   intro hB;rcases hnr.2 with rfl|⟨b,off,C,t',fr,e',_⟩;have:m*d.sz=0:=by rw [←hnl];rfl
   exact (uz.1 this).resolve_right (by omega);rw [hB] at e';cases e'
  have hfc:=So (P:=P) (c:=c2) hnr hnl L;obtain ⟨A',c',w',F',hrun,hrow,hupd,hF'⟩:=Up (P:=P) (tx:=t) (ty:=o.type) (m:=m) (news:=news) hs hz hzs hu (.inl ⟨e,rfl⟩) hr (fun k hk=>hlt k (k1 k (g1 k hk))) (by simp [Builtin.lenOf]) hfc hnl hnO.toR.one K hb;have hsz:=hupd.size;refine ⟨A',c',w',fun k=>F' k∨I k∨D k,hrun,?_,⟨hupd.os,hupd.tape,hupd.output,hupd.size,fun k hk hn'=>hupd.block k hk (fun q=>hn' (k1 k (g1 k q)))⟩,?_⟩;refine ⟨A',_,c',U,by simp [hyl],cs++news,F',fun k=>I k∨D k,fun _=>.inl,fun _=>.inr,?_,hrow,DN.append (F1:=I) (F2:=D) (fun _=>.inl) (fun _=>.inr) ?_ (hR.loc ?_) (hnO.loc ?_)⟩;intro k hk hq;have hold:k<w.heap.size:=hq.elim (fun q=>hlt k (k1 k (g2 k q))) (fun q=>hlt k (k2 k (k3 k q)));rcases (hF' k hk).2 with hg|hg
  exact hq.elim (gd k hg) (fun q=>kd k (g1 k hg) (k3 k q));omega;exact fun k a b=>kd k (g2 k a) (k3 k b);exact fun k hk=>hupd.block k (hlt k (k1 k (g2 k hk))) (fun q=>gd k q hk);exact fun k hk=>hupd.block k (hlt k (k2 k (k3 k hk))) (fun q=>kd k (g1 k q) (k3 k hk));intro k hk;rcases hk with hk|hk|hk
  exact ⟨(hF' k hk).1,(hF' k hk).2.imp (fun q=>k1 k (g1 k q)) id⟩;exact ⟨qw (hlt k (k1 k (g2 k hk))) hsz,.inl (k1 k (g2 k hk))⟩;exact ⟨qw (hlt k (k2 k (k3 k hk))) hsz,.inl (k2 k (k3 k hk))⟩
 have hall:∃ F1,(Fo [Aa d u xs,E]).P w F1∧∀ k,F1 k→k<w.heap.size:=by
  obtain ⟨F,G,⟨F1,F2,O,a2,a3,a,s⟩,r,d,f,g,u⟩:=M;exact ⟨F1,a,fun k hk=>(f k (O k hk)).1⟩
 obtain ⟨F1,hO,hlt⟩:=hall;obtain ⟨A',c',w',F',hrun,_,_,_⟩:=key F1 hO hlt;refine Ed hg hd (v:=V A' (xs.length+m) c') (w':=w') (fun a ha=>?_) (h _ _ (M.grow fun F2 J p=>?_));simp [execOp,ho,resolve,ha.eval hx,ha.eval hy,invoke,builtin,hrun];obtain ⟨T,c4,w4,N,j,h4,h5,h6⟩:=key F2 J p;rw [hrun] at j;cases j;exact ⟨N,h4,h5,h6⟩
theorem CW {d:Kd α} {b:Nat} {e:TypeId} {xs:List α} {F:BD} {m:Nat} (h:(blk b cs e).P w F) (hx:xs.length=m) (hm:m≤9223372036854775807) (hr:BB d w F xs cs):(An d (V b m m) xs).P w F:=by
 refine ⟨_,_,_,U,hx,ou _,hm,cs,⟨trivial,.inr ⟨b,0,_,_,_,U,h.1,h.2,by simp⟩⟩,hr⟩
theorem GW {enc:α→List Value} {sz:Nat} {hp:0<sz} {hl:∀ x,(enc x).length=sz} {h1:∀ x,∀ c∈enc x,c.oneCell'=true} {b:Nat} {e:TypeId} {xs:List α} {F:BD} {m:Nat} (h:(blk b cs e).P w F) (hx:xs.length=m) (hm:m≤9223372036854775807)
  (hr:cs=xs.flatMap enc):(Aa (flat enc sz hp hl h1) (V b m m) xs).P w F:=by
 have hlen:cs.length=m*sz:=by
  have:=(BB.flat_eq (enc:=enc) (hp:=hp) (hl:=hl) (h1:=h1) (w:=w) (F:=F)).2 hr;rw [this.len,hx];rfl
 refine ⟨_,_,_,U,hx,cs,F,none_,fun _ q=>q,fun _ q=>q.elim,fun _ _ q=>q,⟨ou _,hm,hlen,.inr ⟨b,_,_,U,h.1,h.2,by simp [hlen];rfl,by show cs.take (m*sz)=cs;rw [←hlen];exact List.take_length⟩⟩,DN.flatR (F:=none_) (BB.flat_eq.2 hr)⟩
theorem T1 (d:Kd α) (w:World) (F:BD) {A:Option Addr} (hA:Plain A):(Aa d (V A 0 0) ([]:List α)).P w F:=
 ⟨A,0,0,rfl,rfl,[],none_,none_,fun _ q=>q.elim,fun _ q=>q.elim,fun _ q=>q.elim,⟨ou _,by omega,by simp,.inl ⟨rfl,hA⟩⟩,rfl⟩
theorem Jg {d:Kd α} {w:World} (F:BD) {A:Option Addr} {c:Nat} (hA:Plain A) (hc:c≤9223372036854775807):(An d (V A 0 c) ([]:List α)).P w F:=
 ⟨A,0,c,rfl,rfl,oc _,hc,[],⟨hA,.inl rfl⟩,rfl⟩
theorem Hd.newnil (d:Kd α) (H:Hd w0 F0 w As Rs):Hd w0 F0 w (Aa d (V none 0 0) []::As) Rs:=
 H.new (Dg.refl _ _) (F':=none_) (T1 d w _ trivial) (fun _ q=>q.elim)
end
theorem Df {x:Int} (h0: -9223372036854775808≤x) (h1:x≤9223372036854775807):IntKind.i64.wrap x=x:=by
 simp only [IntKind.wrap,IntKind.bits,IntKind.signed];simp;omega
theorem Hi {x:Int} (h0:0≤x) (h1:x≤18446744073709551615):IntKind.u64.wrap x=x:=by
 simp only [IntKind.wrap,IntKind.bits,IntKind.signed];simp;omega
theorem NK (x:Int):0≤IntKind.u64.wrap x∧IntKind.u64.wrap x≤18446744073709551615:=by
 simp only [IntKind.wrap,IntKind.bits,IntKind.signed];simp;omega
def E_:Option Addr→Nat
 |some a=>a.block
 |none=>0
def Bl:Option Addr→Nat
 |some a=>a.off
 |none=>0
def Ia (A:Option Addr):Prop:=A=some ⟨E_ A,Bl A,none⟩
theorem zN {A:Option Addr} {b:Nat} (h:A=some ⟨b,off,none⟩):Ia A:=by subst h;rfl
section
variable {P:Program} {n:Nat} {l:Cb} {w0 w:World} {F0:BD} {o:Oper} {v u:Value} {x y:Operand} {t:TypeId} {As Rs:List SP}
theorem Hd.cellI {b:Nat} (H:Hd w0 F0 w As Rs) (i:Nat) (hi:As[i]?=some (blk b cs bt)) {j:Nat} (hv:cs[j]?=some v):w.cell? ⟨b,j,none⟩=some v:=H.cell (nt hi) hv
theorem Hd.cellRI {b:Nat} (H:Hd w0 F0 w As Rs) (i:Nat) (hi:Rs[i]?=some (blk b cs bt)) {j:Nat} (hv:cs[j]?=some v):w.cell? ⟨b,j,none⟩=some v:=H.cellR (nt hi) hv
theorem Hd.cellsI {b:Nat} {ds:List Value} (H:Hd w0 F0 w As Rs) (i:Nat) (hi:As[i]?=some (blk b cs bt)) (hv:(cs.drop off).take ds.length=ds):∀ j v,ds[j]?=some v→w.cell? ((⟨b,off,none⟩:Addr).add j)=some v:=by
 intro j v hj;rw [GE];refine H.cellI i hi ?_;rw [←hv,qj] at hj;split at hj;rwa [pz] at hj
 cases hj
theorem Hd.cellsRI {b:Nat} {ds:List Value} (H:Hd w0 F0 w As Rs) (i:Nat) (hi:Rs[i]?=some (blk b cs bt)) (hv:(cs.drop off).take ds.length=ds):∀ j v,ds[j]?=some v→w.cell? ((⟨b,off,none⟩:Addr).add j)=some v:=by
 intro j v hj;rw [GE];refine H.cellRI i hi ?_;rw [←hv,qj] at hj;split at hj;rwa [pz] at hj
 cases hj
theorem BC {e size bytes:TypeId} {A:Option Addr} {m c:Nat} {k:IntKind} {i:Int} {p:Nat} (ho:o.op=.indexAddr tt x y) (hs:D5 P tt=some (e,size,bytes)) (hx:ev l x=some (V A m c)) (hy:ev l y=some (.int k i))
  (h0:0≤i) (h1:i<(m:Int)) (hA:Ia A) (hp:Bl A+i.toNat*size=p):BT P n l w o (zP (some ⟨E_ A,p,none⟩)) w:=tY (b:=E_ A) (off:=Bl A) ho hs (hx.trans (congrArg (fun q=>some (Value.slice q m c)) hA)) hy h0 h1 hp
variable {α:Type} {enc:α→List Value} {sz:Nat} {hp:0<sz} {hl:∀ x,(enc x).length=sz} {h1:∀ x,∀ c∈enc x,c.oneCell'=true} {xs:List α} {A:Option Addr} {m c:Nat}
theorem Sq {F:BD} (h:(An (flat enc sz hp hl h1) (V A m c) xs).P w F) {i:Nat} {x:α} (hx:xs[i]?=some x) {j p:Nat} {u:Value} (hu:(enc x)[j]?=some u) (hpj:Bl A+i*sz+j=p):w.cell? ⟨E_ A,p,none⟩=some u:=by
 obtain ⟨b,off,e,hc⟩:=ZY h hx;subst e;subst hpj;exact hc j u hu
theorem St {F:BD} (h:(An (flat enc sz hp hl h1) (V A m c) xs).P w F) {i:Nat} {x:α} (hx:xs[i]?=some x):Ia A:=by
 obtain ⟨b,off,e,hc⟩:=ZY h hx;exact zN e
theorem Hd.thR (H:Hd w0 F0 w As Rs) (j:Nat) (hj:Rs[j]?=some (An (flat enc sz hp hl h1) (V A m c) xs)) {i:Nat} {x:α} (hx:xs[i]?=some x):Ia A:=H.factR (nt hj) fun _ h=>St h hx
theorem Hd.thA (H:Hd w0 F0 w As Rs) (j:Nat) (hj:As[j]?=some (Aa (flat enc sz hp hl h1) (V A m c) xs)) {i:Nat} {x:α} (hx:xs[i]?=some x):Ia A:=H.fact (nt hj) fun F h=>St (Bi F h) hx
theorem Hd.elR (H:Hd w0 F0 w As Rs) (j:Nat) (hj:Rs[j]?=some (An (flat enc sz hp hl h1) (V A m c) xs)) {i:Nat} {x:α} (hx:xs[i]?=some x) {p:Nat} {u:Value} (hu:(enc x)[q]?=some u) (hpj:Bl A+i*sz+q=p):w.cell? ⟨E_ A,p,none⟩=some u:=
 H.factR (nt hj) fun _ h=>Sq h hx hu hpj
theorem Hd.elA (H:Hd w0 F0 w As Rs) (j:Nat) (hj:As[j]?=some (Aa (flat enc sz hp hl h1) (V A m c) xs)) {i:Nat} {x:α} (hx:xs[i]?=some x) {p:Nat} {u:Value} (hu:(enc x)[q]?=some u) (hpj:Bl A+i*sz+q=p):w.cell? ⟨E_ A,p,none⟩=some u:=
 H.fact (nt hj) fun F h=>Sq (Bi F h) hx hu hpj
theorem Hd.elsR (H:Hd w0 F0 w As Rs) (j:Nat) (hj:Rs[j]?=some (An (flat enc sz hp hl h1) (V A m c) xs)) {i:Nat} {x:α} (hx:xs[i]?=some x) {p:Nat} (hpj:Bl A+i*sz=p):∀ q v,(enc x)[q]?=some v→w.cell? ((⟨E_ A,p,none⟩:Addr).add q)=some v:=by
 intro q v hq;rw [GE];exact H.elR j hj hx hq (by rw [hpj])
theorem Hd.elsA (H:Hd w0 F0 w As Rs) (j:Nat) (hj:As[j]?=some (Aa (flat enc sz hp hl h1) (V A m c) xs)) {i:Nat} {x:α} (hx:xs[i]?=some x) {p:Nat} (hpj:Bl A+i*sz=p):∀ q v,(enc x)[q]?=some v→w.cell? ((⟨E_ A,p,none⟩:Addr).add q)=some v:=by
 intro q v hq;rw [GE];exact H.elA j hj hx hq (by rw [hpj])
theorem Hd.keep:∀ (k:Nat) {As:List SP},Hd w0 F0 w As Rs→Hd w0 F0 w (As.take k) Rs
 |k,As,h=>by
  have:Hd w0 F0 w (As.take k++As.drop k) Rs:=by rwa [qm]
  obtain ⟨Fc,h1,h2⟩:=this.frame (Ss:=Rs) (fun S hS F _ hR=>hR S hS)
  have h3:=this
  obtain ⟨F,G,s,r,d,f,g,u⟩:=h3
  obtain ⟨F1,F2,a,a2,a3,s1,s2⟩:=s.append_out
  exact ⟨F1,G,s1,r,fun k hk=>d k (a k hk),fun k hk=>f k (a k hk),g,u⟩
theorem hY {α:Type} (l:List α) (d:α):(qa l.length).map (fun i=>l.getD i d)=l:=by
 apply sd;intro k;rw [om];rcases pg k l.length with h|h
 rw [List.getElem?_range h,rk,ol h];simp [h];rw [py (by simpa using h),py h];rfl
theorem Hd.sel {As:List SP} (n:Nat) (is js:List Nat) (hn:As.length=n) (h:(is++js).isPerm (qa n)=true) (H:Hd w0 F0 w As Rs):Hd w0 F0 w (is.map fun i=>As.getD i (FW True)) Rs:=by
 subst hn;have p1:=(List.isPerm_iff.1 h).map fun i=>As.getD i (FW True);rw [hY,oa] at p1;have h1:=(H.perm p1.symm).keep (is.map fun i=>As.getD i (FW True)).length;rwa [tj] at h1
theorem Hd.fR (H:Hd w0 F0 w As Rs) (j:Nat) {d:Kd α} (hj:Rs[j]?=some (An d v xs)):∃ A c,v=V A xs.length c∧xs.length≤c∧c≤9223372036854775807∧Plain A:=H.form (nt hj)
theorem Hd.fA (H:Hd w0 F0 w As Rs) (j:Nat) {d:Kd α} (hj:As[j]?=some (Aa d v xs)):∃ A c,v=V A xs.length c∧xs.length≤c∧c≤9223372036854775807∧Plain A:=H.formO (nt hj)
theorem Dz {P:Program} {Q:Exit→Act→World→Prop} {rest:List Oper} {b:Bool} (hc:lk l d=some (.bool b)) (ht:b=true→WL P ops Q rest n ((d,true)::l) w) (hf:b=false→WL P ops Q rest n ((d,false)::l) w):WL P ops Q rest n l w:=by
 have hc':lk l d=some (.bool (decide (b=true))):=by cases b<;>exact hc
 exact AE hc' ht (fun h=>hf (by simpa using h))
end
theorem sc {P:Program} {Q:Exit→Act→World→Prop} {rest:List Oper} {n:Nat} {l:Cb} {w:World} {F0:BD} {o:Oper} {As Rs Cs Ss:List SP} {f:FuncId} {T:Value→List SP→Prop}
  (hc:Cn P f args Cs Ss T) (H:Hd w0 F0 w (Cs++As) Rs) (hl:HE w As Rs Ss) (hg:gd ops l o=some true) (hd:CF n o.dst=true) (hr:NR P n l w o f args.toArray)
  (h:∀ v Bs w',T v Bs→Hd w0 F0 w' (Bs++As) Rs→WL P ops Q rest n (Cj l o.dst v) w'):WL P ops Q (o::rest) n l w:=wW hg hd hr hc H hl h
theorem Ac {T:Value→List SP→Prop} {w:World} {F0:BD} {Bs Rs:List SP} (ht:T v Bs) (H:Hd w0 F0 w Bs Rs):LI (fun v w'=>∃ Bs,T v Bs∧Hd w0 F0 w' Bs Rs) (.returned v) w:=⟨v,rfl,Bs,ht,H⟩
/-! ### Lists -/
theorem aQ {xs ys:List α} {x:α} (hx:xs[k]?=some x) (hy:ys[k]?=some x) (h:xs.take k=ys.take k):xs.take (k+1)=ys.take (k+1):=by
 rw [qu,qu,hx,hy,h]
theorem Dd {xs:List α} {x:α} (hx:xs[k]?=some x):xs.take (k+1)=xs.take k++[x]:=by
 rw [qu,hx];rfl
theorem Jl {xs:List α} (h:xs.length≤k):xs.take k=xs:=oe h
theorem Hw {xs:List α} {x:α} (hx:xs[k]?=some x):k<xs.length:=by
 rcases pg k xs.length with h|h
 exact h;simp [py h] at hx
def Hj (w:World):BD:=fun k=>k<w.heap.size
def Hk {α:Type} (P:Program) (t:TypeId) (d:Kd α) (W:α→Prop):Prop:=
 ∀ {H:Type} (enc:TypeId×Value→H) (w:World) (fuel:Nat) (cs:List Value) (x:DataW H×List MemPlace),DataW.trod enc P w 0 (fun _=>true) true fuel t cs=some x→∃ a,d.R w (Hj w) a cs∧W a
def Aw (x:Int):Prop:= -9223372036854775808≤x∧x≤9223372036854775807
section
variable {P:Program} {t:TypeId}
theorem Fe (hu:P.underlying t=some (.int .i64)):Hk P t (Av .i64) Aw:=by
 intro H enc w fuel cs x h;obtain ⟨n,rfl,_,hw⟩:=DataW.trod_int hu h;refine ⟨n,U,?_⟩;simp [Lit.wf,IntKind.min,IntKind.max,IntKind.bits,IntKind.signed] at hw;exact hw
theorem d_ {w:World} {a:Addr}:∀ {n:Nat} {cs:List Value},w.cells? 0 a n=some cs→cs.length=n∧∀ j v,cs[j]?=some v→w.cell? (a.add j)=some v:=by
 intro n cs h;simp only [World.cells?,oc,if_true] at h;have hl:=mapM_some_length h;refine ⟨by simpa using hl,fun j v hj=>?_⟩;have hlt:j<n:=by
  rcases pg j cs.length with h'|h'
  simp at hl;omega;simp [py h'] at hj
 have:=mapM_some_get h j j (by simp [hlt]);rw [this,hj]
theorem VE {w:World} {a:Addr} (h:w.cell? a=some v):a.spot=none∧∃ C t fr,w.heap[a.block]?=some (.cells C t fr)∧C[a.off]?=some v:=by
 unfold World.cell? at h;split at h;rename_i C t fr hb;split at h;cases h;rename_i hs;exact ⟨by simpa using hs,C,t,fr,hb,h⟩;cases h
theorem wA {w:World} {a:Addr} (h:∀ j v,cs[j]?=some v→w.cell? (a.add j)=some v):Hl w (Hj w) (some a) cs:=by
 refine ⟨trivial,?_⟩;cases cs with
 |nil=>exact .inl rfl
 |cons c cs=>
  right;have h0:=h 0 c rfl;have d:a.add 0=a:=by simp [Addr.add]
  rw [d] at h0;obtain ⟨hs,C,t,fr,hb,hc⟩:=VE h0;obtain ⟨b,off,sp⟩:=a;simp only at hs hb hc;subst hs;refine ⟨b,off,C,t,fr,U,(ta.1 hb).1,hb,?_⟩;apply sd;intro j;rw [qj];split;rename_i hj;rw [pz];have hv:=h j (c::cs)[j] (by simp [ol hj]);rw [GE] at hv;obtain ⟨_,C',t',fr',hb',hc'⟩:=VE hv;simp only at hb' hc';rw [hb] at hb';cases hb';rw [ol hj,←hc'];simp;rename_i hj;rw [py (by omega)]
theorem L8 {d:Kd α} {W:α→Prop} {e size bytes:Nat} (hs:D5 P t=some (e,size,bytes)) (hd:d.sz=size) (he:Hk P e d W):Hk P t (CO d) (fun xs=>(∀ x∈xs,W x)∧xs.length≤9223372036854775807):=by
 intro H enc w fuel cs x h;obtain ⟨hu,i,hi,hsz,_⟩:=HZ hs;have hc:P.cellsOf e=d.sz:=by simp [Program.cellsOf,hi,hsz,hd]
 rcases DataW.trod_slice hu h with ⟨rfl,_⟩|⟨a,len,cap,elems,rest,n,_,rfl,_,_,hl,hm,hlen,hel,_,_⟩;refine ⟨[],⟨none,0,0,U,U,ou _,by omega,[],⟨trivial,.inl rfl⟩,U⟩,by simp,by simp⟩;have hm':cap≤9223372036854775807:=by simpa [maxLen] using hm
 have each:∀ k,k<len→∃ (y:α) (c:List Value),d.R w (Hj w) y c∧W y∧c.length=d.sz∧∀ j v,c[j]?=some v→w.cell? (a.add (k*d.sz+j))=some v:=by
  intro k hk;have h1:=hel k hk;rw [ol (by omega),px] at h1;obtain ⟨c,b,f⟩:=h1;obtain ⟨y,hy,hW⟩:=he enc w n c _ f;obtain ⟨hcl,hcc⟩:=d_ b;refine ⟨y,c,hy,hW,by rw [hcl,hc],fun j v hj=>?_⟩;have h2:=hcc j v hj;have h3:(a.add (k*P.cellsOf e)).add j=a.add (k*d.sz+j):=by
   rw [hc];unfold Addr.add;by_cases h4:k*d.sz=0<;>by_cases h5:j=0<;>simp [h4,h5,tu]
  rwa [h3] at h2
 have all:∀ k,k≤len→∃ (ys:List α) (cs:List Value),ys.length=k∧BB d w (Hj w) ys cs∧cs.length=k*d.sz∧(∀ y∈ys,W y)∧∀ j v,cs[j]?=some v→w.cell? (a.add j)=some v:=by
  intro k;induction k with
  |zero=>exact fun _=>⟨[],[],rfl,rfl,by simp,by simp,by simp⟩
  |succ k ih=>
   intro hk;obtain ⟨ys,cs,h1,h2,h3,h4,h5⟩:=ih (by omega);obtain ⟨y,c,g1,g2,g3,g4⟩:=each k (by omega);refine ⟨ys++[y],cs++c,by simp [h1],h2.append ⟨c,[],by simp,g1,U⟩,by simp [h3,g3,pw],?_,?_⟩;intro z hz;simp at hz;exact hz.elim (h4 z) (fun e=>e▸g2);intro j v hj;rcases pg j cs.length with hlt|hge
   exact h5 j v (by rwa [qb hlt] at hj);rw [qn hge] at hj;have:=g4 _ v hj;rwa [show k*d.sz+(j - cs.length)=j by omega] at this
 obtain ⟨ys,cs,h1,h2,h3,h4,h5⟩:=all len (ou _);exact ⟨ys,⟨some a,len,cap,U,h1,hl,hm',cs,wA h5,h2⟩,h4,by omega⟩
def He (P:Program) (t:TypeId):Option (List (TypeId×Nat×Nat)):=
 match P.underlying t with
 |some (.struct fs)=>some (fs.toList.map fun f=>(f.type,f.offset,P.cellsOf f.type))
 |_=>none
theorem L7 {H:Type} {enc:TypeId×Value→H} {w:World} {fuel:Nat} {x:DataW H×List MemPlace} {l:List (TypeId×Nat×Nat)} (hs:He P t=some l) (h:DataW.trod enc P w 0 (fun _=>true) true fuel t cs=some x):
  cs.length=P.cellsOf t∧∃ n,∀ (i:Nat) (ty off sz:Nat),l[i]?=some (ty,off,sz)→∃ y,DataW.trod enc P w 0 (fun _=>true) true n ty ((cs.drop off).take sz)=some y:=by
 unfold He at hs;split at hs;rename_i fs hu;obtain ⟨xs,n,_,_,hl,hxl,hf⟩:=DataW.trod_struct hu h;refine ⟨hl,n,fun i ty off sz hi=>?_⟩;have hl':l=fs.toList.map fun f=>(f.type,f.offset,P.cellsOf f.type):=by simpa using hs.symm
 subst hl';simp only [om,qc] at hi;obtain ⟨f,hf1,hf2⟩:=hi;simp only [Prod.mk.injEq] at hf2;obtain ⟨rfl,rfl,rfl⟩:=hf2;have:=hf i f (by simpa using hf1);rw [this];have hlt:i<xs.length:=by
  rw [hxl];rcases pg i fs.size with h'|h'
  exact h';simp [h'] at hf1
 exact ⟨_,ol hlt⟩;cases hs
end
theorem nC {P:Program} {f:FuncId} {Rs:List SP} {T:Value→List SP→Prop} {W:World} (hc:Cn P f args [] Rs T) (hR:∀ R∈Rs,R.P W (Hj W)) (hT:∀ v Bs,T v Bs→v=u):
  Calls P f args.toArray W fun e W'=>e=.returned u∧Go.RowKit.Below W.heap.size W W':=by
 refine (hc W none_ (Hd.begin (G:=Hj W) trivial hR (fun _ h=>h.elim) (fun _ h=>h.elim) (fun _ h=>h))).mono ?_;rintro e W' ⟨v,rfl,Bs,t,H⟩;exact ⟨by rw [hT v Bs t],H.upd.below⟩
/-! ### Structs that lead nowhere -/
structure Au where
 key:ByteArray
 val:ByteArray
deriving DecidableEq
def MF (p:Au):List Value:=[.string p.key,.string p.val]
def Ak:Kd Au:=flat MF 2 (by omega) (fun _=>rfl) (fun _ c h=>by simp [MF] at h;rcases h with rfl|rfl<;>rfl)
theorem YT {P:Program} {t s:TypeId} (hs:He P t=some [(s,0,1),(s,1,1)]) (hc:P.cellsOf t=2) (hu:P.underlying s=some .string):Hk P t Ak (fun p=>p.key.size≤9223372036854775807∧p.val.size≤9223372036854775807):=by
 intro H enc w fuel cs x h;obtain ⟨hl,n,hf⟩:=L7 hs h;rw [hc] at hl;obtain ⟨f,h0⟩:=hf 0 _ _ _ rfl;obtain ⟨g,h1⟩:=hf 1 _ _ _ rfl;obtain ⟨a,b,rfl⟩:∃ a b,cs=[a,b]:=by
  match cs,hl with
  |[a,b],_=>exact ⟨a,b,rfl⟩
 obtain ⟨e,c,_,l0⟩:=DataW.trod_string hu h0;obtain ⟨s1,e1,_,d⟩:=DataW.trod_string hu h1;simp at c e1;subst c e1;exact ⟨⟨e,s1⟩,U,by simpa [maxLen] using l0,by simpa [maxLen] using d⟩
structure Cr where
 op:Int
 a:Int
 s:ByteArray
deriving DecidableEq
def V8 (p:Cr):List Value:=[.int .i64 p.op,.int .i64 p.a,.string p.s]
def At:Kd Cr:=flat V8 3 (by omega) (fun _=>rfl) (fun _ c h=>by simp [V8] at h;rcases h with rfl|rfl|rfl<;>rfl)
theorem rT {P:Program} {t i s:TypeId} (hs:He P t=some [(i,0,1),(i,1,1),(s,2,1)]) (hc:P.cellsOf t=3) (hi:P.underlying i=some (.int .i64)) (hu:P.underlying s=some .string):
  Hk P t At (fun p=>Aw p.op∧Aw p.a∧p.s.size≤9223372036854775807):=by
 intro H enc w fuel cs x h;obtain ⟨hl,n,hf⟩:=L7 hs h;rw [hc] at hl;obtain ⟨g,h0⟩:=hf 0 _ _ _ rfl;obtain ⟨j,h1⟩:=hf 1 _ _ _ rfl;obtain ⟨k,h2⟩:=hf 2 _ _ _ rfl;obtain ⟨a,b,c,rfl⟩:∃ a b c,cs=[a,b,c]:=by
  match cs,hl with
  |[a,b,c],_=>exact ⟨a,b,c,rfl⟩
 obtain ⟨e,⟨f⟩,l0⟩:=Fe hi enc w n _ _ h0;obtain ⟨s1,⟨e1⟩,d⟩:=Fe hi enc w n _ _ h1;obtain ⟨s2,e2,_,l2⟩:=DataW.trod_string hu h2;simp at e2;subst e2;exact ⟨⟨e,s1,s2⟩,U,l0,d,by simpa [maxLen] using l2⟩
structure AbK where
 x:Int
 y:Int
deriving DecidableEq
/-! ### '==' of structs that lead nowhere -/
section
variable {P:Program} {w:World} {t:TypeId}
theorem PD {xs ys:Array Value} {f:Field} {fs:List Field} {sz:Nat} {b:Bool} (hn:f.name≠ "_") (ha:CK P f.type=some (false,sz)) (hx:xs[f.offset]?=some u) (hy:ys[f.offset]?=some v)
  (he:(Op.equalIn d f.type u v).run P w=.ok b w):(Op.eqFields d xs ys (f::fs)).run P w=if b then (Op.eqFields d xs ys fs).run P w else .ok false w:=by
 simp only [Op.eqFields,if_pos hn,Sem.run_bind];simp only [part,Sem.run_bind,Nv ha,Result.andThen_ok,hx,hy,Sem.run_pure,Bool.false_eq_true,if_false,he,Sem.run_ite];cases b<;>simp
theorem Wc (d:Nat) {k:IntKind} {a b:Int} (h:P.underlying t=some (.int k')):(Op.equalIn (d+1) t (.int k a) (.int k b)).run P w=.ok (decide (a=b)) w:=by rw [run_equalIn_int w d t k k' a b h,RY]
theorem We (d:Nat) {a b:ByteArray} (h:P.underlying t=some .string):(Op.equalIn (d+1) t a b).run P w=.ok (decide (a=b)) w:=by rw [run_equalIn_string w d t a b h,Ps]
structure KK (P:Program) (t:TypeId) (fs:List Field):Prop where
 und:P.underlying t=some (.struct fs.toArray)
 stood:P.stoodInHeld t=false
 guard:P.eqGuardType P.depth t=false
theorem KK.run {fs:List Field} (h:KK P t fs) (d:Nat) (xs ys:Array Value):(Op.equalIn (d+1) t (.agg xs) (.agg ys)).run P w=(Op.eqFields d xs ys fs).run P w:=by
 have hf:P.fieldsOf t=fs.toArray:=by simp [Program.fieldsOf,h.und]
 rw [run_equalIn_struct w d t xs ys (by rw [hf];exact h.und) h.stood,hf]
section
variable {n:Nat} {l:Cb} {o:Oper} {x y:Operand} {t':TypeId} {xs ys:Array Value} {fs:List Field} {b:Bool}
theorem uD (ho:o.op=.binOp .neq t x y t') (h:KK P t fs) (hx:ev l x=some (.agg xs)) (hy:ev l y=some (.agg ys)) (hb:(Op.eqFields (9998+1) xs ys fs).run P w=.ok b w):BT P n l w o (.bool !b) w:=by
 intro a ha;have h1:(Op.equal t (.agg xs) (.agg ys)).run P w=.ok b w:=(h.run (9998+1) xs ys).trans hb;have h2:=run_eqGuard_agg (P:=P) w .neq t x y xs ys h.guard;unfold execOp;simp only [ho,ha.eval hx,ha.eval hy,Sem.run_bind,h2,Result.andThen_ok];simp only [binOp,Sem.run_bind,h1,Result.andThen_ok,Sem.run_pure]
end
structure U1 (P:Program) (t s:TypeId):Prop where
 ex:∃ f0 f1:Field,KK P t [f0,f1]∧f0.name≠ "_" ∧f1.name≠ "_" ∧f0.type=s∧f1.type=s∧f0.offset=0∧f1.offset=1
 str:P.underlying s=some .string
 one:CK P s=some (false,1)
theorem f9 {s:TypeId} {f0 f1:Field} (d:Nat) (p q:Au) (h1:f0.name≠ "_") (h2:f1.name≠ "_") (h3:f0.type=s) (h4:f1.type=s) (h5:f0.offset=0) (h6:f1.offset=1) (hs:P.underlying s=some .string) (ho:CK P s=some (false,1)):
  (Op.eqFields (d+1) (MF p).toArray (MF q).toArray [f0,f1]).run P w=.ok (decide (p=q)) w:=by
 rw [PD (u:=.string p.key) (v:=.string q.key) (b:=decide (p.key=q.key)) h1 (by rw [h3];exact ho) (by rw [h5];rfl) (by rw [h5];rfl) (by rw [h3];exact We d hs)];rw [PD (u:=.string p.val) (v:=.string q.val) (b:=decide (p.val=q.val)) h2 (by rw [h4];exact ho) (by rw [h6];rfl) (by rw [h6];rfl) (by rw [h4];exact We d hs)];obtain ⟨a,b⟩:=p;obtain ⟨c,e⟩:=q;by_cases e1:a=c<;>by_cases e2:b=e<;>simp [e1,e2,Op.eqFields]
variable {n:Nat} {l:Cb} {o:Oper} {x y:Operand} {t' s:TypeId}
theorem uC {p q:Au} (ho:o.op=.binOp .neq t x y t') (h:U1 P t s) (hx:ev l x=some (.agg (MF p).toArray)) (hy:ev l y=some (.agg (MF q).toArray)):BT P n l w o (.bool (decide (p≠q))) w:=by
 obtain ⟨f0,f1,he,h1,h2,h3,h4,h5,h6⟩:=h.ex;have:=uD (n:=n) (w:=w) ho he hx hy (f9 9998 p q h1 h2 h3 h4 h5 h6 h.str h.one);rwa [show decide (p≠q)=!decide (p=q) from by simp]
structure AbL (P:Program) (t i s:TypeId):Prop where
 ex:∃ f0 f1 f2:Field,KK P t [f0,f1,f2]∧f0.name≠ "_" ∧f1.name≠ "_" ∧f2.name≠ "_" ∧f0.type=i∧f1.type=i∧f2.type=s∧f0.offset=0∧f1.offset=1∧f2.offset=2
 str:P.underlying s=some .string
 int:P.underlying i=some (.int .i64)
 one:CK P s=some (false,1)
 onei:CK P i=some (false,1)
end
/-! ### Rows of known length -/
section
variable {α:Type} {enc:α→List Value} {sz:Nat} (hl:∀ x,(enc x).length=sz)
include hl
theorem IC (xs:List α):(xs.flatMap enc).length=xs.length*sz:=by
 induction xs with
 |nil=>simp
 |cons x xs ih=>simp [hl,ih,pw,ro]
theorem PH:∀ (xs:List α) (i:Nat),(xs.flatMap enc).drop (i*sz)=(xs.drop i).flatMap enc
 |[],i=>by simp
 |x::xs,0=>by simp
 |x::xs,i+1=>by
  rw [ox,xr,pw,ro (i*sz),←hl x,sq,hl x]
  exact PH xs i
theorem Sr:∀ (xs:List α) (i:Nat),(xs.flatMap enc).take (i*sz)=(xs.take i).flatMap enc
 |[],i=>by simp
 |x::xs,0=>by simp
 |x::xs,i+1=>by
  rw [ox,List.take_succ_cons,ox,pw,ro (i*sz),←hl x,so,hl x]
  rw [Sr xs i]
end
theorem L_:∀ (vs cs:List Value) (i:Nat),i+vs.length≤cs.length→Fj cs i vs=cs.take i++vs++cs.drop (i+vs.length)
 |[],cs,i,h=>by simp [Fj]
 |v::vs,cs,i,h=>by
  simp only [nz] at h
  rw [Fj,L_ vs _ (i+1) (by simp;omega)]
  have h1:(cs.set i v).take (i+1)=cs.take i++[v]:=by
   rw [qu,List.take_set_of_le (by omega)];simp [qf,show i<cs.length by omega]
  have h2:(cs.set i v).drop (i+1+vs.length)=cs.drop (i+(vs.length+1)):=by
   rw [List.drop_set_of_lt (by omega)];congr 1;omega
  rw [h1,h2];simp
theorem tH {enc:α→List Value} {sz:Nat} (hl:∀ x,(enc x).length=sz) {xs:List α} {i:Nat} {x:α} (hi:i<xs.length):Fj (xs.flatMap enc) (i*sz) (enc x)=(xs.set i x).flatMap enc:=by
 have h1:i*sz+sz≤xs.length*sz:=by rw [←pw];exact qp _ hi
 rw [L_ _ _ _ (by rw [hl,IC hl];exact h1),hl,Sr hl,←pw,PH hl,List.set_eq_take_append_cons_drop,if_pos hi];simp
def OX {α:Type} (enc:α→List Value) (b:Nat) (t:TypeId) (xs:List α):SP:=blk b (xs.flatMap enc) t
section
variable {P:Program} {ops:Array Oper} {Q:Exit→Act→World→Prop} {rest:List Oper} {n:Nat} {l:Cb} {w0 w:World} {F F0:BD} {o:Oper} {v:Value} {As Rs:List SP} {x y:Operand} {t:TypeId}
variable {α:Type} {enc:α→List Value} {sz:Nat} {hp:0<sz} {hl:∀ x,(enc x).length=sz} {h1:∀ x,∀ c∈enc x,c.oneCell'=true}
theorem Q9 {b:Nat} {xs ys:List α} {m c:Nat} (h:(OX enc b bt xs).P w F) (hy:xs.take m=ys) (hm:ys.length=m) (hc:c=xs.length) (hcm:c≤9223372036854775807):(Aa (flat enc sz hp hl h1) (V b m c) ys).P w F:=by
 have hmc:m≤c:=by rw [←hm,←hy,hc];simp;omega
 have hml:m≤xs.length:=by omega
 refine ⟨_,_,_,U,hm,ys.flatMap enc,F,none_,fun _ q=>q,fun _ q=>q.elim,fun _ _ q=>q,⟨hmc,hcm,by rw [IC hl,hm];rfl,.inr ⟨b,_,bt,U,h.1,h.2,?_,?_⟩⟩,DN.flatR (F:=none_) (BB.flat_eq.2 U)⟩;simp only [rh];rw [IC hl,hc];rfl;simp only [xt];show (xs.flatMap enc).take (m*sz)=_;rw [Sr hl,hy]
theorem Rc {e bytes:Nat} {z:Value} {a0:α} {m c:Nat} (hg:gd ops l o=some true) (hd:CF n o.dst=true) (ho:o.op=.makeSlice t x y) (hs:D5 P t=some (e,sz,bytes)) (hz:DO P e=some z) (hz0:z.cells.toList=enc a0) (hp:0<sz) (hl:∀ x,(enc x).length=sz)
  (hx:ev l x=some (Y Z (m:Int))) (hy:ev l y=some (Y Z (c:Int))) (hmc:m≤c) (hc:c*bytes≤140737488355328) (hcs:c≤140737488355328) (H:Hd w0 F0 w As Rs)
  (h:∀ b w',Hd w0 F0 w' (OX enc b e (pd c a0)::As) Rs→WL P ops Q rest n (Cj l o.dst (V b m c)) w'):WL P ops Q (o::rest) n l w:=by
 obtain ⟨hu,inf,hi,hsz,hby⟩:=HZ hs;obtain ⟨i,hi',hz'⟩:=px.1 hz;rw [hi] at hi';cases hi';have hwc:IntKind.i64.wrap (c:Int)=c:=Df (by omega) (by omega);have hwm:IntKind.i64.wrap (m:Int)=m:=Df (by omega) (by omega);have hcells:(qa (c*sz)).map (fun j=>z.cells[j%z.cells.size]!)=(pd c a0).flatMap enc:=by
  have hzs:z.cells.size=sz:=by rw [←sg,hz0,hl]
  apply zf;rw [IC hl];simp;intro j h1 h2;simp only [uu,xw];simp at h1;have hd:j=j / sz*sz+j%sz:=by rw [sr];exact (zm j sz).symm
  have hjd:j / sz<c:=xj (by rw [sr];exact h1);have hjm:j%sz<sz:=Nat.mod_lt _ hp;have h3:((pd c a0).flatMap enc)[j]?=(enc a0)[j%sz]?:=by
   have h4:(((pd c a0).flatMap enc).drop (j / sz*sz))[j%sz]?=(enc a0)[j%sz]?:=by
    rw [PH hl,List.drop_replicate];obtain ⟨r,hr⟩:∃ r,c - j / sz=r+1:=⟨c - j / sz - 1,by omega⟩;rw [hr,td,ox,qb (by rw [hl];exact hjm)]
   rw [pz,←hd] at h4;exact h4
  have h5:((pd c a0).flatMap enc)[j]=z.cells[j%z.cells.size]! :=by
   rw [ol h2] at h3;rw [hzs];have h6:j%sz<z.cells.size:=by rw [hzs];exact hjm
   rw [getElem!_pos z.cells _ h6];have h7:(enc a0)[j%sz]?=some z.cells[j%sz]:=by rw [←hz0];simp [h6]
   rw [h7] at h3;exact Option.some.inj h3
  exact h5.symm
 refine Ed hg hd (fun a ha=>?_) (h _ _ (H.alloc _ e));have hb:inf.bytes*c≤281474976710656:=by rw [hby,sr];omega
 have hb':¬ ((281474976710656:Int)<(inf.bytes:Int)*(c:Int)):=by
  have:((inf.bytes*c:Nat):Int)≤281474976710656:=Int.le_trans (Int.ofNat_le.2 hb) (by decide);rw [Int.natCast_mul] at this;omega
 have hmc':¬ ((c:Int)<(m:Int)):=by omega
 have hcn:¬ ((c:Int)<0):=by omega
 have hmn:¬ ((m:Int)<0):=by omega
 have d:(yu (c*sz)).map (fun x=>z.cells[x%z.cells.size]!)=((pd c a0).flatMap enc).toArray:=by
  apply si.1;rw [←hcells];simp
 by_cases f:c*sz=0;obtain rfl:c=0:=by
  rcases uz.1 f with h|h
  exact h;omega
 obtain rfl:m=0:=by omega
 simp [execOp,ho,ha.eval hx,ha.eval hy,Instr.makeSlice,run_underlying hu,asInt,asIntOf,sizeOf,zeroValue,typeInfo,hi,hz',hsz,hwc,newRow,IntKind.wrap,IntKind.bits,IntKind.signed];exact congrArg (fun q=>w.alloc (Obj.cells q e)) (by apply si.1;simp);simp [execOp,ho,ha.eval hx,ha.eval hy,Instr.makeSlice,run_underlying hu,asInt,asIntOf,sizeOf,zeroValue,typeInfo,hi,hz',hsz,hwc,hwm,hb',hmc',hcn,hmn,newRow,f,d]
end
def encStr (x:ByteArray):List Value:=[.string x]
section
variable {w w0:World} {F0:BD} {As Rs:List SP} {α:Type} {enc:α→List Value} {sz:Nat} {hp:0<sz} {hl:∀ x,(enc x).length=sz} {h1:∀ x,∀ c∈enc x,c.oneCell'=true} {A:Option Addr} {m c:Nat} {xs:List α}
theorem vV {F:BD} (h:DN (flat enc sz hp hl h1) w F xs cs):cs=xs.flatMap enc:=BB.flat_eq.1 h.toR
theorem Hd.toBlk (H:Hd w0 F0 w (Aa (flat enc sz hp hl h1) (V A m c) xs::As) Rs) (hc:0<xs.length):
  ∃ b t rest,A=some ⟨b,0,none⟩∧xs.length=m∧m≤c∧c≤9223372036854775807∧rest.length+m*sz=c*sz∧Hd w0 F0 w (blk b (xs.flatMap enc++rest) t::As) Rs:=by
 obtain ⟨b,C,t,hA,hm,hle,hmax,hh,hs,ht⟩:∃ b C t,A=some ⟨b,0,none⟩∧xs.length=m∧m≤c∧c≤9223372036854775807∧w.heap[b]?=some (.cells C t (0,0))∧C.size=c*sz∧C.toList.take (m*sz)=xs.flatMap enc:=by
  refine H.fact (od ..) ?_;rintro F ⟨A',n,c',e,hn,cs,F1,F2,s1,s2,dj,⟨r1,r2,d,a⟩,hr⟩;simp only [List.cons.injEq,Value.slice.injEq,and_true] at e;obtain ⟨rfl,rfl,rfl⟩:=e;have hcs:=vV hr;rcases a with ⟨h0,_⟩|⟨b,C,t,e,hb,hh,hs,ht⟩;omega;exact ⟨b,C,t,e,hn,r1,r2,hh,hs,by rw [←hcs];exact ht⟩
 have hCl:C.toList.length=c*sz:=by simpa using hs
 have hle':m*sz≤c*sz:=qp _ hle;refine ⟨b,t,C.toList.drop (m*sz),hA,hm,hle,hmax,by rw [pt];omega,H.turn fun F hF=>?_⟩;obtain ⟨A',n,c',e,hn,cs,F1,F2,s1,s2,dj,⟨r1,r2,d,a⟩,hr⟩:=hF;simp only [List.cons.injEq,Value.slice.injEq,and_true] at e;obtain ⟨rfl,rfl,rfl⟩:=e;rcases a with ⟨h0,_⟩|⟨b',C',t',e,hb,hh',hs',ht'⟩;omega;rw [hA] at e;obtain rfl:b=b':=by simpa using e
 refine ⟨s1 b hb,?_⟩;rw [hh,←ht,qm]
theorem Hd.ofBlk {b t:Nat} {rest:List Value} (H:Hd w0 F0 w (blk b (xs.flatMap enc++rest) t::As) Rs) (hm:xs.length=m) (hle:m≤c) (hmax:c≤9223372036854775807) (hr:rest.length+m*sz=c*sz):
  Hd w0 F0 w (Aa (flat enc sz hp hl h1) (V b m c) xs::As) Rs:=by
 refine H.turn fun F hF=>?_;have hfl:(xs.flatMap enc).length=m*sz:=by rw [IC hl,hm]
 refine ⟨_,_,_,U,hm,xs.flatMap enc,F,none_,fun _ q=>q,fun _ q=>q.elim,fun _ _ q=>q,⟨hle,hmax,hfl,.inr ⟨b,_,_,U,hF.1,hF.2,by show (xs.flatMap enc++rest).toArray.size=c*sz;simp only [rh,nr];omega,?_⟩⟩,DN.flatR (F:=none_) (BB.flat_eq.2 U)⟩;show ((xs.flatMap enc++rest).toArray.toList).take (m*sz)=_;rw [xt,List.take_left' hfl]
variable {P:Program} {ops:Array Oper} {Q:Exit→Act→World→Prop} {rest:List Oper} {n:Nat} {l:Cb} {o:Oper} {v:Value} {x y:Operand} {t:TypeId}
theorem Hd.nilR {d:Kd β} {ys:List β} {A:Option Addr} {m c:Nat} (H:Hd w0 F0 w As Rs) (j:Nat) (hj:Rs[j]?=some (An d (V A m c) ys)) (hA:A.isNone=true):ys=[]:=by
 refine H.factR (nt hj) ?_;rintro F ⟨A',n,c',e,hn,h1,h2,cs,hr,hrep⟩;simp only [List.cons.injEq,Value.slice.injEq,and_true] at e;obtain ⟨rfl,rfl,rfl⟩:=e;rcases hr.2 with rfl|⟨b,off,C,t,fr,e,_⟩;have:=hrep.len;have hp:=d.pos;rcases uf ys.length with h0|h0
 exact oz h0;have:=Nat.mul_pos h0 hp;simp at *;omega;rw [e] at hA;cases hA
theorem Hd.newnilA (d:Kd β) (A:Option Addr) (H:Hd w0 F0 w As Rs):Hd w0 F0 w (Aa d (V A 0 0) []::As) Rs:=by
 obtain ⟨F,G,s,r⟩:=H;exact ⟨F,G,⟨none_,F,fun _ h=>h.elim,fun _ h=>h,fun _ h=>h.elim,T1 d w _ trivial,s⟩,r⟩
theorem O0 {e size bytes:Nat} (hg:gd ops l o=some true) (hd:CF n o.dst=true) (ho:o.op=.buildSlice t 0 #[]) (hs:D5 P t=some (e,size,bytes)) (H:Hd w0 F0 w As Rs)
  (h:∀ b w',Hd w0 F0 w' (blk b [] e::As) Rs→WL P ops Q rest n (Cj l o.dst (V b 0 0)) w'):WL P ops Q (o::rest) n l w:=by
 obtain ⟨hu,inf,hi,hsz,_⟩:=HZ hs;refine Ed (w':=w.alloc (.cells #[] e)) hg hd (v:=V (some ⟨w.heap.size,0,none⟩) 0 0) (fun a ha=>?_) (h _ _ ?_);unfold execOp;simp only [ho,Instr.buildSlice,Sem.run_bind,run_underlying hu,sizeOf,typeInfo,run_program,hi,Nat.zero_mul,if_true,Sem.run_pure,Result.andThen_ok,newRow];have hz:∀ f:Nat→Value,(yu 0).map f=#[]:=fun f=>si.1 (by simp);simp [Instr.fill,hz];have:=H.alloc [] e;simpa using this
theorem Ky {i p:Nat} {a:α} {B:Bool} (hg:gd ops l o=some true) (hd:o.dst=none) (ho:o.op=.store t x y) (ht:CK P t=some (B,sz)) (hx:ev l x=some (zP (some ⟨E_ A,p,none⟩))) (hy:ev l y=some v) (hv:v.cells.toList=enc a)
  (H:Hd w0 F0 w (Aa (flat enc sz hp hl h1) (V A m c) xs::As) Rs) (hi:i<xs.length) (hpi:Bl A+i*sz=p) (h:∀ w',Hd w0 F0 w' (Aa (flat enc sz hp hl h1) (V A m c) (xs.set i a)::As) Rs→WL P ops Q rest n l w'):WL P ops Q (o::rest) n l w:=by
 obtain ⟨b,bt,spare,rfl,hm,hle,hmax,hr,H'⟩:=H.toBlk (by omega);simp only [E_,Bl,su] at hx hpi;subst hpi;have hfl:(xs.flatMap enc).length=xs.length*sz:=IC hl _;have hfit:i*sz+sz≤(xs.flatMap enc).length:=by rw [IC hl,←pw];exact qp _ hi
 refine Bc hg hd ho ht hx hy H' (by rw [←sg,hv,hl]) (by rw [nr];omega) (by rw [hv];exact h1 a) (fun w' d=>h w' ?_);rw [hv] at d;have e:Fj (xs.flatMap enc++spare) (i*sz) (enc a)=(xs.set i a).flatMap enc++spare:=by
  rw [←tH hl hi,L_ _ _ _ (by rw [nr,hl];omega),L_ _ _ _ (by rw [hl];exact hfit)];rw [List.take_append_of_le_length (by omega),List.drop_append_of_le_length (by rw [hl];omega)];simp [og]
 rw [e] at d;exact d.ofBlk (by rw [List.length_set];exact hm) hle hmax hr
end
section
variable {w w0:World} {F0:BD} {As Rs:List SP} {α:Type} [Inhabited α] {e1:α→Value}
theorem W8 {b t:Nat} {xs:List α} {rest:List Value} (H:Hd w0 F0 w (blk b (xs.map e1++rest) t::As) Rs):Sort.Holds e1 w b 0 xs.toArray:=by
 intro j hj;simp only [rh] at hj;rw [su];refine ⟨H.cell (od ..) ?_,H.free (od ..) j⟩;rw [qb (by simpa using hj),om,ol hj];simp [hj]
theorem tG {xs ys:List α} {rest:List Value} (hl:ys.length=xs.length):Sort.putCells e1 0 ys.toArray (xs.map e1++rest).toArray=(ys.map e1++rest).toArray:=by
 apply si.1;apply sd;intro i;unfold Sort.putCells;rw [Array.toList_mapIdx,List.getElem?_mapIdx];simp only [rh,oc,true_and,su,Nat.sub_zero,ux];rcases pg i ys.length with h|h
 rw [qb (by simpa using (hl▸h)),qb (by simpa using h),om,om,ol h,ol (by omega)];simp [h];rw [qn (by simp;omega),qn (by simpa using h)];simp only [nu,hl];cases rest[i - xs.length]? with
 |none=>rfl
 |some v=>simp;omega
theorem Vy {b t n:Nat} {xs ys:List α} {rest:List Value} {os:Array Obj} (H:Hd w0 F0 w (blk b (xs.map e1++rest) t::As) Rs) (hl:ys.length=xs.length):
  Hd w0 F0 (Sort.grow (Sort.putRow e1 (Sort.ahead w n) b 0 ys.toArray) os) (blk b (ys.map e1++rest) t::As) Rs:=by
 refine H.write fun F hF=>?_;have hb:b<w.heap.size:=by
  rcases pg b w.heap.size with h|h
  exact h;have:=hF.2;rw [rg h] at this;cases this
 have hh:∀ k,k<w.heap.size→(Sort.grow (Sort.putRow e1 (Sort.ahead w n) b 0 ys.toArray) os).heap[k]?=(w.heap.modify b (Sort.onCells (Sort.putCells e1 0 ys.toArray)))[k]?:=by
  intro k hk;show ((w.heap.modify b (Sort.onCells (Sort.putCells e1 0 ys.toArray)))++os)[k]?=_;rw [vt (by simpa using hk)]
 refine ⟨⟨hF.1,?_⟩,U,U,U,?_,fun k hk hn=>?_⟩;rw [hh b hb,uw,if_pos rfl,hF.2];simp only [rk,Sort.onCells,tG hl];show w.heap.size≤((w.heap.modify b (Sort.onCells (Sort.putCells e1 0 ys.toArray)))++os).size;simp;rw [hh k hk,uw,if_neg (by rintro rfl;exact hn hF.1)]
theorem iL (w:World):Sort.grow w #[]=w:=by
 unfold Sort.grow;simp
end
theorem Qx {e1:α→Value} (xs:List α):xs.flatMap (fun x=>[e1 x])=xs.map e1:=by
 induction xs with
 |nil=>rfl
 |cons x xs ih=>simp [ih]
section
variable {P:Program} {α:Type} [Inhabited α] {e1:α→Value} {h1:∀ x,∀ c∈[e1 x],c.oneCell'=true} {f:FuncId}
theorem eP {s:List α→List α} (hlen:∀ xs,(s xs).length=xs.length) (hnil:s []=[])
  (h0:∀ (p:Option Addr) (c:Nat) (w:World),Calls P f #[V p 0 c] w fun e w'=>e=.returned (.tuple #[])∧w'=w)
  (hc:∀ (b c:Nat) (xs:List α) (w:World),Sort.Holds e1 w b 0 xs.toArray→b<w.heap.size→xs.length≤1000000→Calls P f #[V b xs.length c] w fun e w'=>e=.returned (.tuple #[])∧∃ n os,w'=Sort.grow (Sort.putRow e1 (Sort.ahead w n) b 0 (s xs).toArray) os)
  (v:Value) (xs:List α) (hb:xs.length≤1000000):Cn P f [v] [Aa (flat (fun x=>[e1 x]) 1 (by omega) (fun _=>rfl) h1) v xs] [] (fun _ Bs=>Bs=[Aa (flat (fun x=>[e1 x]) 1 (by omega) (fun _=>rfl) h1) v (s xs)]):=by
 intro w F H;obtain ⟨A,c,rfl,hle,hmax,hp⟩:=H.fA 0 rfl;rcases uf xs.length with hx|hx
 obtain rfl:=oz hx;refine (h0 A c w).mono ?_;rintro e w' ⟨rfl,rfl⟩;exact ⟨_,U,_,U,by rw [hnil];exact H⟩;obtain ⟨b,t,rest,rfl,hm,hle',hmax',hr,H'⟩:=H.toBlk hx;rw [Qx] at H';have hbl:b<w.heap.size:=H'.fact (od ..) fun F hF=>by
  rcases pg b w.heap.size with h|h
  exact h;have:=hF.2;rw [rg h] at this;cases this
 refine (hc b c xs w (W8 H') hbl hb).mono ?_;rintro e w' ⟨rfl,n,os,rfl⟩;refine ⟨_,U,_,U,?_⟩;have a:=Vy (n:=n) (os:=os) H' (hlen xs);rw [←Qx] at a;exact a.ofBlk (hlen xs) hle' hmax' hr
theorem eO {s:List α→List α} {z:α} (hlen:∀ xs,(s xs).length≤xs.length) (hnil:s []=[])
  (h0:∀ (p:Option Addr) (c:Nat) (w:World),Calls P f #[V p 0 c] w fun e w'=>e=.returned (V p 0 c)∧w'=w)
  (hc:∀ (b c:Nat) (xs:List α) (w:World),Sort.Holds e1 w b 0 xs.toArray→xs.length≤1000000→xs.length≤c→Calls P f #[V b xs.length c] w fun e w'=>e=.returned (V b (s xs).length c)∧∃ n,w'=Sort.putRow e1 (Sort.ahead w n) b 0 (s xs++pd (xs.length - (s xs).length) z).toArray)
  (v:Value) (xs:List α) (hb:xs.length≤1000000):Cn P f [v] [Aa (flat (fun x=>[e1 x]) 1 (by omega) (fun _=>rfl) h1) v xs] [] (fun u Bs=>Bs=[Aa (flat (fun x=>[e1 x]) 1 (by omega) (fun _=>rfl) h1) u (s xs)]):=by
 intro w F H;obtain ⟨A,c,rfl,hle,hmax,hp⟩:=H.fA 0 rfl;rcases uf xs.length with hx|hx
 obtain rfl:=oz hx;refine (h0 A c w).mono ?_;rintro e w' ⟨rfl,rfl⟩;exact ⟨_,U,_,U,by rw [hnil];exact H⟩;obtain ⟨b,t,rest,rfl,hm,hle',hmax',hr,H'⟩:=H.toBlk hx;rw [Qx] at H';refine (hc b c xs w (W8 H') hb hle).mono ?_;rintro e w' ⟨rfl,n,rfl⟩;refine ⟨_,U,_,U,?_⟩;have hl:=hlen xs;have a:=Vy (n:=n) (os:=#[]) H' (ys:=s xs++pd (xs.length - (s xs).length) z) (by simp;omega);rw [iL,oa,og,←Qx _] at a;exact a.ofBlk U (by omega) hmax' (by simp;omega)
end
theorem VN [Inhabited α] [DecidableEq α] (xs:List α):(Lib.compact xs).length≤xs.length:=by
 unfold Lib.compact Lib.compactUpTo;rw [nu];exact ot (ql _ _) (by simp)
def Kp (x:ByteArray):List UInt8:=x.data.toList
def Pf (x:List UInt8):ByteArray:=⟨x.toArray⟩
def Lv (xs:List ByteArray):List ByteArray:=((xs.map Kp).mergeSort fun x y=>decide (x≤y)).map Pf
def KP (xs:List ByteArray):List ByteArray:=(Lib.compact (xs.map Kp)).map Pf
theorem W7 {w:World} {b:Nat} {xs:List ByteArray} (h:Sort.Holds pp w b 0 xs.toArray):Sort.Holds Go.Proofs.encStr w b 0 (xs.map Kp).toArray:=by
 intro j hj;have hj':j<xs.length:=by simpa using hj
 have:=h j (by simpa using hj');simp only [ux] at this ⊢;rw [getElem!_pos _ j (by simpa using hj')];rw [getElem!_pos _ j hj'] at this;rw [uu];have e:Go.Proofs.encStr (Kp xs[j])=pp xs[j]:=by simp [Go.Proofs.encStr,Kp]
 rw [e];exact this
theorem Ze {w:World} {b:Nat} {zs:List (List UInt8)}:Sort.putRow Go.Proofs.encStr w b 0 zs.toArray=Sort.putRow pp w b 0 (zs.map Pf).toArray:=by
 unfold Sort.putRow;congr 1;funext c;unfold Sort.putCells;congr 1;funext k x;simp only [rh,nu,ux];split;rename_i h;have h':k - 0<zs.length:=by omega
 rw [getElem!_pos (zs.map Pf) _ (by simpa using h'),getElem!_pos zs _ h',uu];rfl;rfl
theorem qU {s:ByteArray}:s=(⟨#[]⟩:ByteArray)↔s.size=0:=by
 constructor;rintro rfl;rfl;intro h;have:s.data=#[]:=Array.eq_empty_of_size_eq_zero h;cases s;simp at this;subst this;rfl
def Cz (p:Cr) (n:Int):Prop:=0≤p.op∧p.op≤23∧(p.op=1→p.s.size=0)∧(p.op=2→p.a=0∧p.s.size≤64)∧(p.op=19∨p.op=20→0≤p.a∧p.a≤n∧p.s.size=0)∧
 (p.op=21∨p.op=22→0≤p.a∧p.a≤7∧p.s.size=0)∧(¬ (p.op=1∨p.op=2∨p.op=19∨p.op=20∨p.op=21∨p.op=22)→p.a=0∧p.s.size=0)
instance (p:Cr) (n:Int):Decidable (Cz p n):=by unfold Cz;infer_instance
def GV (n:Int):Cr→Bool:=fun p=>!decide (Cz p n)
def Fa (xs:List Cr):Int:=if 0≤G0 (GV xs.length) (xs.take 40) then G0 (GV xs.length) (xs.take 40) else if (40:Int)<xs.length then 40 else -1
theorem cT {xs:List Cr} {x:Cr} (hk:k<40) (hn:∀ y∈xs.take k,GV xs.length y=false) (hx:xs[k]?=some x) (hb:¬ Cz x xs.length):Fa xs=(k:Int):=by
 have:G0 (GV xs.length) (xs.take 40)=(k:Int):=NZ (k:=k) (by rw [ul,rm (by omega)];exact hn) (by rw [qj,if_pos hk];exact hx) (by simp [GV,hb]);unfold Fa;rw [this,if_pos (by omega)]
theorem Vr {xs:List Cr} (hk:k=min xs.length 40) (hn:∀ y∈xs.take k,GV xs.length y=false):Fa xs=if (40:Int)<xs.length then 40 else -1:=by
 have:G0 (GV xs.length) (xs.take 40)= -1:=MG (by
  intro y hy;refine hn y ?_;rw [hk];rcases Nat.le_total xs.length 40 with h|h
  rw [rm h,oe (ou _)];rwa [oe h] at hy
  rwa [Nat.min_eq_right h])
 unfold Fa;rw [this,if_neg (by omega)]
theorem cU {xs:List Cr} {x:Cr} (hn:∀ y∈xs.take k,GV xs.length y=false) (hx:xs[k]?=some x) (hb:Cz x xs.length):∀ y∈xs.take (k+1),GV xs.length y=false:=
 Pd hn hx (by simp [GV,hb])
def Hv (xs:List Cr):Bool:=decide (¬ (xs.length≤60∧∀ p∈xs,p.s.size≤100))
theorem iJ {xs:List Cr} {x:Cr} (hx:xs[k]?=some x) (h:100<x.s.size):true=Hv xs:=by
 have h3:¬ (xs.length≤60∧∀ p∈xs,p.s.size≤100):=fun h2=>absurd (h2.2 x (nt hx)) (by omega);exact (decide_eq_true h3).symm
theorem WW {xs:List Cr} (hn:∀ y∈xs.take k,y.s.size≤100) (h:xs.length≤k∨60<xs.length):decide ((60:Int)<(xs.length:Int))=Hv xs:=by
 refine decide_eq_decide.2 ⟨fun h1 h2=>by omega,fun h1=>?_⟩;apply qq;intro h2;refine h1 ⟨by omega,?_⟩;rwa [oe (by omega)] at hn
theorem y_ {xs:List Cr} {x:Cr} (hn:∀ y∈xs.take k,y.s.size≤100) (hx:xs[k]?=some x) (h:x.s.size≤100):∀ y∈xs.take (k+1),y.s.size≤100:=by
 intro y hy;rw [qu,hx] at hy;simp at hy;rcases hy with hy|rfl
 exact hn y hy;exact h
section
variable {P:Program} {n:Nat} {l:Cb} {w:World} {o:Oper} {x y:Operand} {t:TypeId}
theorem oM (A:Option Addr):A.map (fun a=>a.add 0)=A:=by
 cases A with
 |none=>rfl
 |some a=>cases a;simp [Addr.add]
theorem Nn {e size bytes:TypeId} {A:Option Addr} {m c m':Nat} {k:IntKind} {j:Int} (ho:o.op=.slice tt x none (some y) none) (hs:D5 P tt=some (e,size,bytes)) (hx:ev l x=some (.slice A m c)) (hy:ev l y=some (.int k j))
  (h0:0≤j) (h1:j≤(c:Int)) (hm:j.toNat=m'):BT P n l w o (.slice A m' c) w:=by
 intro a ha;obtain ⟨hu,inf,hi,hz,_⟩:=HZ hs;subst hm;have hb:(Instr.sliceBounds true m c none (some (.int k j)) none).run P w=.ok (0,j.toNat,c) w:=by
  simp [Instr.sliceBounds,Instr.sliceBound,asIntOf,h0,h1]
 simp [execOp,ho,ha.eval hx,ha.eval hy,Instr.sliceAt,Instr.slice,hb,run_underlying hu,sizeOf,typeInfo,hi,hz,oM]
end
section
variable {w:World} {F:BD} {α:Type} {d:Kd α} {A:Option Addr} {m c:Nat} {xs:List α}
theorem wB (h:(An d (V A m c) xs).P w F) {i:Nat} (hi:i≤m):(An d (V A i c) (xs.take i)).P w F:=by
 obtain ⟨A',m',c',e,hl,h1,h2,cs,hr,hrep⟩:=h;simp only [List.cons.injEq,Value.slice.injEq,and_true] at e;obtain ⟨rfl,rfl,rfl⟩:=e;refine ⟨_,_,_,U,by rw [oo];omega,by omega,h2,cs.take (i*d.sz),⟨trivial,?_⟩,hrep.take i⟩;rcases hr.2 with rfl|⟨b,off,C,t,fr,e,hb,hh,ht⟩;exact .inl (by simp);refine .inr ⟨b,off,C,t,fr,e,hb,hh,?_⟩;rw [oo,←ul,ht]
def Ga (A:Option Addr) (c i sz:Nat):Option Addr:=if c=i then A else A.map fun a=>a.add (i*sz)
theorem Nt (h:(An d (V A m c) xs).P w F) {i:Nat} (hi:i≤m):(An d (V (Ga A c i d.sz) (m - i) (c - i)) (xs.drop i)).P w F:=by
 obtain ⟨A',m',c',e,hl,h1,h2,cs,hr,hrep⟩:=h;simp only [List.cons.injEq,Value.slice.injEq,and_true] at e;obtain ⟨rfl,rfl,rfl⟩:=e;refine ⟨_,_,_,U,by rw [pt];omega,by omega,by omega,cs.drop (i*d.sz),⟨trivial,?_⟩,hrep.drop i⟩;have hlen:=hrep.len;by_cases hc:c=i;refine .inl ?_;rw [List.drop_eq_nil_iff];rw [hlen];exact qp _ (by omega);rcases hr.2 with rfl|⟨b,off,C,t,fr,e,hb,hh,ht⟩;exact .inl (by simp);refine .inr ⟨b,off+i*d.sz,C,t,fr,?_,hb,hh,?_⟩;unfold Ga;rw [if_neg hc,e,rk,GE];have:=congrArg (List.drop (i*d.sz)) ht;rw [List.drop_take,vk] at this;rw [pt];exact this
end
section
variable {P:Program} {n:Nat} {l:Cb} {w:World} {o:Oper} {x y:Operand} {t:TypeId}
theorem OL {e size bytes:TypeId} {A:Option Addr} {m c i':Nat} {k:IntKind} {i:Int} (ho:o.op=.slice tt x (some y) none none) (hs:D5 P tt=some (e,size,bytes)) (hx:ev l x=some (.slice A m c)) (hy:ev l y=some (.int k i))
  (h0:0≤i) (h1:i≤(m:Int)) (hi':i.toNat=i'):BT P n l w o (.slice (Ga A c i' size) (m - i') (c - i')) w:=by
 intro a ha;obtain ⟨hu,inf,hi,hz,_⟩:=HZ hs;subst hi';have hb:(Instr.sliceBounds true m c (some (.int k i)) none none).run P w=.ok (i.toNat,m,c) w:=by
  simp [Instr.sliceBounds,Instr.sliceBound,asIntOf,h0,h1]
 unfold Ga;by_cases e1:c=i.toNat;rw [if_pos e1];rw [e1] at hb;simp [execOp,ho,ha.eval hx,ha.eval hy,Instr.sliceAt,Instr.slice,hb,run_underlying hu,sizeOf,typeInfo,hi,hz,e1];rw [if_neg e1];simp [execOp,ho,ha.eval hx,ha.eval hy,Instr.sliceAt,Instr.slice,hb,run_underlying hu,sizeOf,typeInfo,hi,hz,e1]
end
section
variable {P:Program} {n:Nat} {l:Cb} {w:World} {o:Oper} {x y:Operand} {t:TypeId} {t':TypeId} {a b:ByteArray}
end
structure BS where
 t:Bool
 n:Int
 b:ByteArray
def PB (v:BS):List Value:=[.bool v.t,.int .i64 v.n,.string v.b]
def EY:Kd BS:=flat PB 3 (by omega) (fun _=>rfl) (fun _ c h=>by
 simp only [PB,pn,qx,or_false] at h
 rcases h with rfl|rfl|rfl<;>rfl)
def EI (n:Int):BS:=⟨false,n,⟨#[]⟩⟩
def Hh (s:ByteArray):BS:=⟨true,0,s⟩
def DU:BS:=⟨false,0,⟨#[]⟩⟩
def HF (v:BS):Prop:=Aw v.n∧v.b.size≤64
def B1 (op:Int):ByteArray:=
 if op=3∨op=4∨op=22 then ⟨#[101]⟩ else if op=5∨op=12 then ⟨#[101,101]⟩ else if op=8∨op=9∨op=10∨op=11 then ⟨#[110,110]⟩
 else if op=13∨op=23 then ⟨#[98,98]⟩ else if op=14∨op=18 then ⟨#[98]⟩ else if op=15 then ⟨#[98,110]⟩ else if op=16 then ⟨#[98,110,110]⟩ else if op=17∨op=20 then ⟨#[110]⟩ else ⟨#[]⟩
def IB (c:UInt8) (v:BS):Bool:=!((c==110 && v.t)||(c==98 && !v.t))
def HP:List UInt8→List BS→Bool
 |c::cs,v::vs=>IB c v && HP cs vs
 |_,_=>true
def BN (op:Int) (stk:List BS):Int×List BS×List BS:=
 if stk.length<(B1 op).size then (1,stk,[])
 else if HP (B1 op).data.toList (stk.drop (stk.length - (B1 op).size)) then (0,stk.take (stk.length - (B1 op).size),stk.drop (stk.length - (B1 op).size)) else (2,stk,[])
def Hm (v:BS):Bool:=v.t && decide (64<v.b.size)
def C0 (stk vs:List BS):Int×List BS:=
 if vs.any Hm then (4,stk) else if 16<stk.length+vs.length then (1,stk) else (0,stk++vs)
def Gb (told:List Au) (k v:ByteArray):Int×List Au:=
 if 16<k.size then (4,told) else if 40≤told.length then (5,told) else (0,told++[⟨k,v⟩])
def Dc (op a b:Int):BS:=if op=8 then EI (IntKind.i64.wrap (a+b)) else if op=9 then EI (IntKind.i64.wrap (a - b)) else if op=10 then EI (IntKind.i64.wrap (a*b)) else EI (if a<b then 1 else 0)
def YP (b:Bool):BS:=EI (if b then 1 else 0)
def IP (a b:BS):Bool:=if a.t then b.t && decide (a.b=b.b) else !b.t && decide (a.n=b.n)
def IZ (s:ByteArray) (i:Int):Int:=if i<0∨(s.size:Int)≤i then -1 else ((s[i.toNat]?.getD 0).toNat:Int)
def KQ (s:ByteArray) (f t:Int):ByteArray:=
 if min (max t 0) (s.size:Int)≤min (max f 0) (s.size:Int) then ⟨#[]⟩ else s.extract (min (max f 0) (s.size:Int)).toNat (min (max t 0) (s.size:Int)).toNat
structure VM where
 pos:Int
 halted:Bool
 stk:List BS
 g:Nat→BS
 told:List Au
 vals:List ByteArray
structure B5 where
 dig:Int→ByteArray
 num:ByteArray→Int
def O2 (g:Nat→BS) (k:Nat) (v:BS):Nat→BS:=fun j=>if j=k then v else g j
def Ep (m:VM) (vs:List BS):VM×Int:=({m with stk:=(C0 m.stk vs).2},(C0 m.stk vs).1)
def Li (m:VM):VM×Int:=
 match m.vals with
 |[]=>Ep m [EI 0]
 |v::vs=>Ep {m with vals:=vs} [Hh v,EI 1]
def Dl (D:B5) (key:ByteArray) (m:VM) (i:Cr) (v:List BS):VM×Int:=
 let v0:=v.getD 0 DU;let v1:=v.getD 1 DU;let v2:=v.getD 2 DU
 if i.op=0 then ({m with halted:=true},0)
 else if i.op=1 then Ep m [EI i.a]
 else if i.op=2 then Ep m [Hh i.s]
 else if i.op=3 then Ep m [v0,v0]
 else if i.op=5 then Ep m [v1,v0]
 else if i.op=6 then Ep m [Hh key]
 else if i.op=7 then Li m
 else if i.op=8∨i.op=9∨i.op=10∨i.op=11 then Ep m [Dc i.op v0.n v1.n]
 else if i.op=12 then Ep m [YP (IP v0 v1)]
 else if i.op=13 then Ep m [Hh (v0.b++v1.b)]
 else if i.op=14 then Ep m [EI v0.b.size]
 else if i.op=15 then Ep m [EI (IZ v0.b v1.n)]
 else if i.op=16 then Ep m [Hh (KQ v0.b v1.n v2.n)]
 else if i.op=17 then Ep m [Hh (D.dig v0.n)]
 else if i.op=18 then Ep m [EI (D.num v0.b)]
 else if i.op=19 then ({m with pos:=i.a},0)
 else if i.op=20 then (if v0.n≠0 then {m with pos:=i.a} else m,0)
 else if i.op=21 then Ep m [m.g i.a.toNat]
 else if i.op=22 then ({m with g:=O2 m.g i.a.toNat v0},0)
 else if i.op=23 then ({m with told:=(Gb m.told v0.b v1.b).2},(Gb m.told v0.b v1.b).1)
 else (m,0)
def CY (D:B5) (key:ByteArray) (m:VM) (i:Cr):VM×Int:=
 if (BN i.op m.stk).1≠0 then (m,(BN i.op m.stk).1) else Dl D key {m with stk:=(BN i.op m.stk).2.1} i (BN i.op m.stk).2.2
def Eo (D:B5) (p:List Cr) (key:ByteArray):Nat→VM→VM×Int
 |0,m=>if m.pos<p.length∧m.halted=false then (m,3) else (m,0)
 |n+1,m=>
  if m.pos<p.length∧m.halted=false then
   match p[m.pos.toNat]? with
   |some i=>if (CY D key {m with pos:=m.pos+1} i).2≠0 then CY D key {m with pos:=m.pos+1} i else Eo D p key n (CY D key {m with pos:=m.pos+1} i).1
   |none=>(m,0)
  else (m,0)
def F5 (vals:List ByteArray):VM:=⟨0,false,[],fun _=>DU,[],vals⟩
def CJ (D:B5) (p:List Cr) (key:ByteArray) (vals:List ByteArray) (fuel:Int):List Au×Int:=
 if ¬ Fa p<0∨fuel<0 then ([],2)
 else if (Eo D p key (min fuel 2000).toNat (F5 vals)).2≠0 then ([],(Eo D p key (min fuel 2000).toNat (F5 vals)).2) else ((Eo D p key (min fuel 2000).toNat (F5 vals)).1.told,0)
/-! ### Facts -/
theorem UY {x:Int}:Aw (IntKind.i64.wrap x):=by
 unfold Aw;simp only [IntKind.wrap,IntKind.bits,IntKind.signed];simp;omega
theorem rL {op a b:Int}:HF (Dc op a b):=by
 unfold Dc;split;exact ⟨UY,(by decide:(⟨#[]⟩:ByteArray).size≤64)⟩;split;exact ⟨UY,(by decide:(⟨#[]⟩:ByteArray).size≤64)⟩;split;exact ⟨UY,(by decide:(⟨#[]⟩:ByteArray).size≤64)⟩;refine ⟨?_,(by decide:(⟨#[]⟩:ByteArray).size≤64)⟩;show Aw (if a<b then 1 else 0);split<;>(unfold Aw;omega)
def FE (pv:Value) (key:ByteArray) (vv:Value) (fuel pos steps:Int) (halted:Bool) (sv:Value) (g:Nat→BS) (tv mv:Value):List Value:=
 [pv,.string key,vv,.int .i64 fuel,.int .i64 pos,.int .i64 steps,.bool halted,sv,
  .bool (g 0).t,.int .i64 (g 0).n,.string (g 0).b,.bool (g 1).t,.int .i64 (g 1).n,.string (g 1).b,.bool (g 2).t,.int .i64 (g 2).n,.string (g 2).b,.bool (g 3).t,.int .i64 (g 3).n,.string (g 3).b,
  .bool (g 4).t,.int .i64 (g 4).n,.string (g 4).b,.bool (g 5).t,.int .i64 (g 5).n,.string (g 5).b,.bool (g 6).t,.int .i64 (g 6).n,.string (g 6).b,.bool (g 7).t,.int .i64 (g 7).n,.string (g 7).b,tv,mv]
def GS (P:Program) (f:FuncId) (g:Array Value→Sem Value):Prop:=∃ fn,P.funcs[f]?=some fn∧(fn.name== "runtime.NumGoroutine")=false∧fn.body.isNone=true∧Extern.findNext fn=none∧Extern.find fn=some g
section
variable {P:Program} {ops:Array Oper} {Q:Exit→Act→World→Prop} {rest:List Oper} {n:Nat} {l:Cb} {w0 w w':World} {F0:BD} {o:Oper} {v:Value} {As Rs:List SP} {f:FuncId} {xs:List Operand} {vs:List Value} {ts:Array TypeId} {b off:Nat} {cs:List Value} {t:TypeId}
theorem No (ho:o.op=.call { callee:=.value (.func f),args:=xs.toArray,argTypes:=ts }) (hx:xs.map (ev l)=vs.map some) (hr:(callFunc f vs.toArray).run P w=.ok (.value v) w'):BT P n l w o v w':=by
 intro a ha;have:=Sj ha _ _ hx;simp [execOp,ho,resolve,Act.eval,Deferred.ofValue,invoke,this,hr]
theorem OK {k:IntKind} {x:Int} (he:GS P f (Extern.Atomic.loadT (.int k))) (ho:o.op=.call { callee:=.value (.func f),args:=xs.toArray,argTypes:=ts }) (hx:xs.map (ev l)=[some (zP (some ⟨b,off,none⟩))]) (hc:w.cell? ⟨b,off,none⟩=some (.int k x)):BT P n l w o (.int k x) w:=by
 obtain ⟨fn,h1,h2,h3,h4,h5⟩:=he;exact No (vs:=[zP (some ⟨b,off,none⟩)]) ho hx (run_call_load h1 h2 h3 h4 k h5 hc)
theorem Us {w:World} {F:BD} (h:(blk b cs t).P w F) {i:Nat} {v:Value}:(blk b (cs.set i v) t).P (w.setCell ⟨b,i,none⟩ v) F∧Dg F w (w.setCell ⟨b,i,none⟩ v):=⟨R4 h i v,Dg.setCell w _ v h.1⟩
theorem Ur {k:IntKind} {y:Int} (he:GS P f Extern.Atomic.storeT) (hg:gd ops l o=some true) (hd:CF n o.dst=true) (ho:o.op=.call { callee:=.value (.func f),args:=xs.toArray,argTypes:=ts }) (hx:xs.map (ev l)=[some (zP (some ⟨b,off,none⟩)),some (.int k y)])
  (H:Hd w0 F0 w (blk b cs t::As) Rs) (hc:cs[off]?=some u) (h:∀ w',Hd w0 F0 w' (blk b (cs.set off (.int k y)) t::As) Rs→WL P ops Q rest n (Cj l o.dst (.tuple #[])) w'):WL P ops Q (o::rest) n l w:=by
 obtain ⟨fn,h1,h2,h3,h4,h5⟩:=he;exact Ed hg hd (No (vs:=[zP (some ⟨b,off,none⟩),.int k y]) ho hx (run_call_store h1 h2 h3 h4 h5 (H.cell (od ..) hc) (H.free (od ..) off))) (h _ (H.write fun F hF=>Us hF))
theorem Uq {k:IntKind} {x y:Int} (he:GS P f (Extern.Atomic.casT (.int k))) (hg:gd ops l o=some true) (hd:CF n o.dst=true) (ho:o.op=.call { callee:=.value (.func f),args:=xs.toArray,argTypes:=ts }) (hx:xs.map (ev l)=[some (zP (some ⟨b,off,none⟩)),some (.int k x),some (.int k y)])
  (H:Hd w0 F0 w (blk b cs t::As) Rs) (hc:cs[off]?=some (.int k x)) (h:∀ w',Hd w0 F0 w' (blk b (cs.set off (.int k y)) t::As) Rs→WL P ops Q rest n (Cj l o.dst (.bool true)) w'):WL P ops Q (o::rest) n l w:=by
 obtain ⟨fn,h1,h2,h3,h4,h5⟩:=he;exact Ed hg hd (No (vs:=[zP (some ⟨b,off,none⟩),.int k x,.int k y]) ho hx (run_call_cas_hit h1 h2 h3 h4 k h5 (H.cell (od ..) hc) (H.free (od ..) off))) (h _ (H.write fun F hF=>Us hF))
theorem wQ {k:IntKind} {x y z:Int} (he:GS P f (Extern.Atomic.update (Op.intArith .add) k true)) (hg:gd ops l o=some true) (hd:CF n o.dst=true) (ho:o.op=.call { callee:=.value (.func f),args:=xs.toArray,argTypes:=ts }) (hx:xs.map (ev l)=[some (.pointer (some ⟨b,off,none⟩)),some (.int k y)])
  (H:Hd w0 F0 w (blk b cs t::As) Rs) (hc:cs[off]?=some (.int k x)) (hz:k.wrap (x+y)=z) (h:∀ w',Hd w0 F0 w' (blk b (cs.set off (.int k z)) t::As) Rs→WL P ops Q rest n (Cj l o.dst (.int k z)) w'):WL P ops Q (o::rest) n l w:=by
 obtain ⟨fn,h1,h2,h3,h4,h5⟩:=he;refine Ed hg hd (No (vs:=[zP (some ⟨b,off,none⟩),.int k y]) ho hx (run_call_add h1 h2 h3 h4 k h5 (s:=z) (H.cell (od ..) hc) (H.free (od ..) off) ?_)) (h _ (H.write fun F hF=>Us hF));subst hz;simp [Op.intArith]
theorem QT {m:Mark} (he:GS P f (fun _=>do mark m;pure Extern.Race.none_)) (ho:o.op=.call { callee:=.value (.func f),args:=xs.toArray,argTypes:=ts }) (hx:xs.map (ev l)=[]):BT P n l w o (.tuple #[]) w:=by
 obtain ⟨fn,h1,h2,h3,h4,h5⟩:=he;exact No (vs:=[]) ho hx (run_call_mark0 h1 h2 h3 h4 m h5 w)
theorem Zl {m:Addr→Mark} (he:GS P f (Extern.Race.marked m)) (ho:o.op=.call { callee:=.value (.func f),args:=xs.toArray,argTypes:=ts }) {A:Addr} (hx:xs.map (ev l)=[some (zP (some A))]):BT P n l w o (.tuple #[]) w:=by
 obtain ⟨fn,h1,h2,h3,h4,h5⟩:=he;exact No (vs:=[zP (some A)]) ho hx (run_call_marked h1 h2 h3 h4 m h5 A w)
end
def KJ (es:List MapEntry) (kvs:List (Int×Value)):Prop:=es.map (fun e=>(e.key,e.val))=kvs.map (fun p=>(ph .i64 p.1,p.2))
def GU (k:Int):List (Int×Value)→Option Value
 |[]=>none
 |p::r=>if k=p.1 then some p.2 else GU k r
def Ih (b:Nat) (kvs:List (Int×Value)):SP where
 P w F:=F b∧∃ es c,w.heap[b]?=some (.map es c)∧KJ es.toList kvs
 loc:=fun ⟨h,es,c,e,h2⟩ hk=>⟨h,es,c,(hk b h).trans e,h2⟩
 mono:=fun ⟨h,h2⟩ hs=>⟨hs b h,h2⟩
theorem Sn {k:Int}:∀ {es:List MapEntry} {kvs:List (Int×Value)} (i:Nat),KJ es kvs→
  (GU k kvs=none∧Instr.findNow (.int .i64) (Y Z k) es i=some none)∨∃ j v,GU k kvs=some v∧Instr.findNow (.int .i64) (Y Z k) es i=some (some (j,v))
 |[],kvs,i,h=>by
  obtain rfl:kvs=[]:=by simpa [KJ] using h.symm
  exact .inl ⟨U,U⟩
 |e::es,[],i,h=>by simp [KJ] at h
 |e::es,p::kvs,i,h=>by
  simp only [KJ,pf,List.cons.injEq,Prod.mk.injEq] at h
  obtain ⟨⟨h1,h2⟩,h3⟩:=h
  have ih:=Sn (k:=k) (i+1) (show KJ es kvs from h3)
  unfold GU Instr.findNow
  rw [h1]
  simp only [Instr.sameNow,if_true]
  by_cases hk:k=p.1
  rw [if_pos hk]
  refine .inr ⟨i,p.2,U,?_⟩
  simp [hk,h2]
  rw [if_neg hk]
  have:(k==p.1)=false:=by simpa using hk
  rw [this]
  exact ih
section
variable {P:Program} {ops:Array Oper} {Q:Exit→Act→World→Prop} {rest:List Oper} {n:Nat} {l:Cb} {w0 w:World} {F0:BD} {o:Oper} {v:Value} {As Rs:List SP} {x y:Operand} {t kt et:TypeId} {b:Nat} {kvs:List (Int×Value)}
theorem wG {F:BD} (hm:P.underlying t=some (.map kt et)) (hk:P.underlying kt=some (.int .i64)) {z:Value} (hz:DO P et=some z) (k:Int) (h:(Ih b kvs).P w F):(Instr.lookup t (.map (some b)) k false).run P w=.ok ((GU k kvs).getD z) w:=by
 obtain ⟨_,es,c,hb,he⟩:=h;have hg:=MapKept.run_getObj_map (P:=P) hb;have hc:=fun e=>MapKept.run_checkKey (P:=P) (w:=w) (k:=Y Z k) hk (by trivial) e 9999;obtain ⟨i,hi,hz'⟩:=px.1 hz;rcases Sn (k:=k) 0 he with ⟨h1,h2⟩|⟨j,u,h1,h2⟩;have hf:=MapKept.run_findKey (w:=w) hk h2;simp [Instr.lookup,run_underlying hm,hg,hc,hf,h1,zeroValue,typeInfo,hi,hz'];have hf:=MapKept.run_findKey (w:=w) hk h2;simp [Instr.lookup,run_underlying hm,hg,hc,hf,h1]
theorem t7 (ho:o.op=.lookup t x y false) (hm:P.underlying t=some (.map kt et)) (hk:P.underlying kt=some (.int .i64)) {z:Value} (hz:DO P et=some z) (hx:ev l x=some (.map (some b))) {k:Int} (hy:ev l y=some (Y Z k))
  (H:Hd w0 F0 w As Rs) (j:Nat) (hj:As[j]?=some (Ih b kvs)):BT P n l w o ((GU k kvs).getD z) w:=by
 intro a ha;refine H.fact (nt hj) fun F h=>?_;have:=wG hm hk hz k h;simp [execOp,ho,ha.eval hx,ha.eval hy,this]
theorem xC {z:Operand} (hg:gd ops l o=some true) (hd:o.dst=none) (ho:o.op=.mapUpdate t x y z) (hm:P.underlying t=some (.map kt et)) (hk:P.underlying kt=some (.int .i64)) (hx:ev l x=some (.map (some b))) {k:Int} (hy:ev l y=some (Y Z k)) (hz:ev l z=some v)
  (hn:GU k kvs=none) (H:Hd w0 F0 w (Ih b kvs::As) Rs) (h:∀ w',Hd w0 F0 w' (Ih b (kvs++[(k,v)])::As) Rs→WL P ops Q rest n l w'):WL P ops Q (o::rest) n l w:=by
 obtain ⟨es,c,hb,he⟩:∃ es c,w.heap[b]?=some (.map es c)∧KJ es.toList kvs:=H.fact (od ..) fun F h=>h.2;have hgo:=MapKept.run_getObj_map (P:=P) hb;have hc:=MapKept.run_checkKey (P:=P) (w:=w) (k:=Y Z k) hk (by trivial) false 9999;have hf:(Instr.findKey kt (.int .i64 k) es.toList).run P w=.ok none w:=by
  rcases Sn (k:=k) 0 he with ⟨h1,h2⟩|⟨j,u,h1,h2⟩;exact MapKept.run_findKey (w:=w) hk h2;rw [hn] at h1;cases h1
 have hs:=fun ob=>MapKept.run_setObj_map (P:=P) (o:=ob) hb;refine O1 hg hd (w':={ w with heap:=w.heap.setIfInBounds b (.map (es.push { key:=Y Z k,val:=v,born:=c }) (c+1)) }) (fun a ha=>?_) (h _ (H.write fun F hF=>?_));simp [execOp,ho,ha.eval hx,ha.eval hy,ha.eval hz,Instr.mapUpdate,run_underlying hm,hgo,hc,hf,hs];have hlt:b<w.heap.size:=(ta.1 hb).1;refine ⟨⟨hF.1,_,_,by simp [hlt];exact ⟨U,U⟩,?_⟩,⟨U,U,U,by simp,fun k hk hn'=>?_⟩⟩;simp only [KJ,Array.toList_push,oa] at he ⊢;rw [he];rfl;have:b≠k:=fun e=>hn' (e▸hF.1);simp [this]
theorem xA (hg:gd ops l o=some true) (hd:CF n o.dst=true) (ho:o.op=.makeMap t none) (H:Hd w0 F0 w As Rs)
  (h:∀ b w',Hd w0 F0 w' (Ih b []::As) Rs→WL P ops Q rest n (Cj l o.dst (.map (some b))) w'):WL P ops Q (o::rest) n l w:=by
 refine Ed (w':=w.alloc (.map #[] 0)) hg hd (v:=.map (some w.heap.size)) (fun a ha=>?_) (h _ _ ?_);simp [execOp,ho,Instr.makeMap];refine H.new (F':=fun k=>k=w.heap.size) (Dg.alloc _ _ _) ⟨U,#[],0,heap_alloc_new w _,U⟩ ?_;intro k hk;subst hk;simp
end
section
variable {P:Program} {fn:Func} {R:Ending→World→Prop} {n:Nat} {l:Cb} {w w':World} {v:Value} {t:TypeId}
theorem vW {s:Tmp} {sz:Nat} {p:Addr} {a:Act} (hr:fn.results=#[.cell s t]) (ha:DC n l a) (hs:lk l s=some (zP (some p))) (ht:CK P t=some (true,sz)) (hz:cs.length=sz) (hc:∀ j v,cs[j]?=some v→w.cell? (p.add j)=some v):(results fn a.tmps).run P w=.ok (.agg cs.toArray) w:=by
 have hl:=run_loadCells_list (P:=P) w p cs hc;have hg:=(ha.get s _ hs).1;simp [results,hr];rw [←pm,hg];simp [asAddr,loadVar,Nv ht,Rb ht,←hz,hl]
theorem HV {s:Tmp} {sz:Nat} {p:Addr} (hr:fn.results=#[.cell s t]) (hs:lk l s=some (zP (some p))) (ht:CK P t=some (true,sz)) (hz:cs.length=sz) (hc:∀ j v,cs[j]?=some v→w.cell? (p.add j)=some v) (h:R (.returned (.agg cs.toArray)) w):WQ (bodyPost P fn R) .ret n l w:=
 fun a ha=>bodyPost_ret (vW hr ha hs ht hz hc) ha.defers h
end
section
variable {P:Program} {n:Nat} {l:Cb} {w w0:World} {F0:BD} {o:Oper} {x y z:Operand} {t:TypeId} {As Rs:List SP}
theorem tR {s:ByteArray} {k:IntKind} {i j:Int} {r:ByteArray} (ho:o.op=.slice tt x (some y) (some z) none) (ht:P.underlying tt=some .string) (hx:ev l x=some (.string s)) (hy:ev l y=some (.int k i)) (hz:ev l z=some (.int k' j))
  (h0:0≤i) (h1:i≤j) (h2:j≤(s.size:Int)) (hr:s.extract i.toNat j.toNat=r):BT P n l w o (.string r) w:=by
 intro a ha;have hb:(Instr.sliceBounds false s.size s.size (some (.int k i)) (some (.int k' j)) none).run P w=.ok (i.toNat,j.toNat,s.size) w:=by
  have g0:0≤j:=by omega
  simp [Instr.sliceBounds,Instr.sliceBound,asIntOf,h0,h2,g0];intro hh;omega
 simp [execOp,ho,ha.eval hx,ha.eval hy,ha.eval hz,Instr.sliceAt,Instr.slice,hb,run_underlying ht,←hr]
theorem JN {e:TypeId} {size len b:Nat} {k:IntKind} {i:Int} {p:Nat} (ho:o.op=.indexAddr tt x y) (hu:P.underlying tt=some (.array len e)) (hi:(P.info? e).map (·.size)=some size)
  (hx:ev l x=some (zP (some ⟨b,off,none⟩))) (hy:ev l y=some (.int k i)) (h0:0≤i) (h1:i<(len:Int)) (hp:off+i.toNat*size=p):BT P n l w o (zP (some ⟨b,p,none⟩)) w:=by
 obtain ⟨inf,h2,h3⟩:=qc.1 hi;exact tZ ho hu h2 h3 hx hy h0 h1 hp
theorem Zi {b:Bool} (ho:o.op=.binOp .neq t x (.const .nilIface) t') (ht:P.underlying t=some (.interface (P.methodsAt t))) (hx:ev l x=some u) (hu:(u=.nilIface∧b=false)∨(∃ te pe,u=.iface te pe∧b=true)):BT P n l w o b w:=by
 intro a ha;have hc:a.eval (.const .nilIface)=.nilIface:=rfl;rcases hu with ⟨rfl,rfl⟩|⟨te,pe,rfl,rfl⟩;have h:=run_equal_nil_nil (P:=P) w t ht;simp [execOp,ho,ha.eval hx,hc,eqGuard,binOp,h];have h:=run_equal_held_nil (P:=P) w t te pe ht;simp [execOp,ho,ha.eval hx,hc,eqGuard,binOp,h]
theorem Zp {src dst e:TypeId} {p:Addr} (ho:o.op=.convert src dst x) (hs:P.underlying src=some (.pointer e)) (hd:P.underlying dst=some .unsafePointer) (hz:(P.info? e).map (fun i=>decide (i.size=0))=some false) (hx:ev l x=some (.pointer (some p))) (hc:w.cell? p=some v):BT P n l w o (.pointer (some p)) w:=by
 intro a ha;simp [execOp,ho,ha.eval hx,run_convert_to_unsafe hs hd hz hc]
theorem YW {d:Kd α} {F:BD} {A:Option Addr} {m c:Nat} {xs:List α} (h:(Aa d (V A m c) xs).P w F) {i:Nat} (hi:i≤m):(Aa d (V A i c) (xs.take i)).P w F:=by
 obtain ⟨A',m',c',e,hl,cs,F1,F2,s1,s2,dj,⟨r1,r2,a,f⟩,hrep⟩:=h;simp only [List.cons.injEq,Value.slice.injEq,and_true] at e;obtain ⟨rfl,rfl,rfl⟩:=e;refine ⟨A,i,c,U,by rw [oo];omega,cs.take (i*d.sz),F1,F2,s1,s2,dj,⟨by omega,r2,?_,?_⟩,hrep.take i⟩;rw [oo,a];exact rm (qp _ hi);rcases f with h0|⟨b,C,t,e,hb,hh,hs,ht⟩;exact .inl h0;refine .inr ⟨b,C,t,e,hb,hh,hs,?_⟩;rw [←ht,ul,rm (qp _ hi)]
theorem Hd.preO {d:Kd α} {A:Option Addr} {m c:Nat} {xs:List α} (H:Hd w0 F0 w (Aa d (V A m c) xs::As) Rs) (i:Nat) (hi:i≤m):Hd w0 F0 w (Aa d (V A i c) (xs.take i)::As) Rs:=H.turn fun _ h=>YW h hi
end
section
variable {w w0:World} {F0:BD} {As Rs:List SP} {α:Type} {enc:α→List Value} {sz:Nat} {hp:0<sz} {hl:∀ x,(enc x).length=sz} {h1:∀ x,∀ c∈enc x,c.oneCell'=true} {xs:List α} {A:Option Addr} {m c:Nat}
theorem Hd.thX (H:Hd w0 F0 w As Rs) (hS:∀ F,(∀ A∈As,A.P w F)→(∀ R∈Rs,R.P w F)→(An (flat enc sz hp hl h1) (V A m c) xs).P w F) {i:Nat} {x:α} (hx:xs[i]?=some x):Ia A:=H.read fun F hA hR=>St (hS F hA hR) hx
theorem Hd.elX (H:Hd w0 F0 w As Rs) (hS:∀ F,(∀ A∈As,A.P w F)→(∀ R∈Rs,R.P w F)→(An (flat enc sz hp hl h1) (V A m c) xs).P w F) {i:Nat} {x:α} (hx:xs[i]?=some x) {p:Nat} (hu:(enc x)[q]?=some u) (hpj:Bl A+i*sz+q=p):w.cell? ⟨E_ A,p,none⟩=some u:=
 H.read fun F hA hR=>Sq (hS F hA hR) hx hu hpj
theorem Hd.elsX (H:Hd w0 F0 w As Rs) (hS:∀ F,(∀ A∈As,A.P w F)→(∀ R∈Rs,R.P w F)→(An (flat enc sz hp hl h1) (V A m c) xs).P w F) {i:Nat} {x:α} (hx:xs[i]?=some x) {p:Nat} (hpj:Bl A+i*sz=p):∀ q v,(enc x)[q]?=some v→w.cell? ((⟨E_ A,p,none⟩:Addr).add q)=some v:=by
 intro q v hq;rw [GE];exact H.elX hS hx hq (by rw [hpj])
end
section
variable {pv:Value} {key:ByteArray} {vv:Value} {fuel pos steps:Int} {halted:Bool} {sv:Value} {g:Nat→BS} {tv mv:Value}
theorem X_ (h:k<8):k=0∨k=1∨k=2∨k=3∨k=4∨k=5∨k=6∨k=7:=by omega
theorem wC (h:k<8):(((FE pv key vv fuel pos steps halted sv g tv mv).drop (8+k*3)).take 3)=PB (g k):=by
 rcases X_ h with rfl|rfl|rfl|rfl|rfl|rfl|rfl|rfl<;>rfl
theorem wD (h:k<8) {v:BS}:Fj (FE pv key vv fuel pos steps halted sv g tv mv) (8+k*3) (PB v)=FE pv key vv fuel pos steps halted sv (O2 g k v) tv mv:=by
 rcases X_ h with rfl|rfl|rfl|rfl|rfl|rfl|rfl|rfl<;>rfl
end
def Bd {α:Type} (d:Kd α):Kd (Value×List α) where
 sz:=1
 O w F x cs:=cs=[x.1]∧(CO d).O w F x.2 [x.1]
 R w F x cs:=cs=[x.1]∧(CO d).R w F x.2 [x.1]
 O_loc h hk:=⟨h.1,(CO d).O_loc h.2 hk⟩
 O_mono h hk:=⟨h.1,(CO d).O_mono h.2 hk⟩
 R_loc h hk:=⟨h.1,(CO d).R_loc h.2 hk⟩
 R_mono h hk:=⟨h.1,(CO d).R_mono h.2 hk⟩
 O_R h:=⟨h.1,(CO d).O_R h.2⟩
 len h:=by rw [h.1];rfl
 one h:=fun c hc=>(CO d).one h.2 c (h.1▸hc)
 pos:=Nat.one_pos
section
variable {w w0:World} {F F0:BD} {As Rs:List SP} {α:Type} {d:Kd α} {A:Option Addr} {m c:Nat} {us:List (Value×List α)}
theorem SV (h:(An (Bd d) (V A m c) us).P w F) {i:Nat} {x:Value×List α} (hx:us[i]?=some x):
  Ia A∧w.cell? ⟨E_ A,Bl A+i*1,none⟩=some x.1∧(An d x.1 x.2).P w F:=by
 obtain ⟨b,off,cs,e,hl,hc,h1,h2⟩:=OY h hx;subst h1 e;exact ⟨U,hc 0 x.1 rfl,h2⟩
theorem L5 (h:(An (Bd d) (V A m c) us).P w F) {i:Nat} {x:List α} (hx:us[i]?=some (u,x)):(An d u x).P w F:=(SV h hx).2.2
theorem Hd.thRd (H:Hd w0 F0 w As Rs) (j:Nat) (hj:Rs[j]?=some (An (Bd d) (V A m c) us)) {i:Nat} {x:Value×List α} (hx:us[i]?=some x):Ia A:=H.factR (nt hj) fun _ h=>(SV h hx).1
theorem Hd.elRd (H:Hd w0 F0 w As Rs) (j:Nat) (hj:Rs[j]?=some (An (Bd d) (V A m c) us)) {i:Nat} {x:List α} (hx:us[i]?=some (u,x)) {p:Nat} (hp:Bl A+i*1=p):w.cell? ⟨E_ A,p,none⟩=some u:=by
 subst hp;exact H.factR (nt hj) fun _ h=>(SV h hx).2.1
theorem Hd.nestR (H:Hd w0 F0 w As Rs) (j:Nat) (hj:Rs[j]?=some (An (Bd d) (V A m c) us)) {i:Nat} {x:List α} (hx:us[i]?=some (u,x)):∃ A' c',u=V A' x.length c'∧x.length≤c'∧c'≤9223372036854775807:=by
 refine H.factR (nt hj) fun _ h=>?_;obtain ⟨A',c',e,h1,h2,_⟩:=Fk (L5 h hx);exact ⟨A',c',e,h1,h2⟩
theorem Hd.pickR (is:List Nat) (H:Hd w0 F0 w As Rs):Hd w0 F0 w As (is.filterMap fun i=>Rs[i]?):=H.subR fun R hR=>by
 obtain ⟨i,_,hi⟩:=List.mem_filterMap.1 hR
 exact nt hi
theorem Hd.dropR {R:SP} (H:Hd w0 F0 w As (R::Rs)):Hd w0 F0 w As Rs:=H.subR fun _ hR=>ow _ hR
theorem Hd.dupR {R:SP} (H:Hd w0 F0 w As Rs) (j:Nat) (hj:Rs[j]?=some R):Hd w0 F0 w As (R::Rs):=H.addR fun _ h=>h _ (nt hj)
theorem Hd.sufR {xs:List α} (H:Hd w0 F0 w As Rs) (j:Nat) (hj:Rs[j]?=some (An d (V A m c) xs)) {n:Nat} (hn:n≤m):Hd w0 F0 w As (An d (V (Ga A c n d.sz) (m - n) (c - n)) (xs.drop n)::Rs):=
 H.addR fun _ h=>Nt (h _ (nt hj)) hn
theorem ZO:∀ {xs:List (List α)} {cs:List Value},BB (CO d) w F xs cs→∃ us:List (Value×List α),us.map (·.2)=xs∧BB (Bd d) w F us cs
 |[],_,h=>⟨[],rfl,h⟩
 |x::xs,_,⟨c,cs',e,h1,h2⟩=>by
  obtain ⟨us,rfl,hu⟩:=ZO h2
  obtain ⟨A',n',c',rfl,h3⟩:=h1
  exact ⟨(V A' n' c',x)::us,U,_,_,e,⟨U,_,_,_,U,h3⟩,hu⟩
theorem Hd.heads {xs:List (List α)} (H:Hd w0 F0 w As Rs) (j:Nat) (hj:Rs[j]?=some (An (CO d) v xs)):∃ us:List (Value×List α),us.map (·.2)=xs∧Hd w0 F0 w As (An (Bd d) v us::Rs):=by
 obtain ⟨F,G,s,r,dj,f,g,u⟩:=H;obtain ⟨A',n',c',e,h1,h2,h3,cs,h4,h5⟩:=r _ (nt hj);obtain ⟨us,rfl,hu⟩:=ZO h5;refine ⟨us,U,F,G,s,?_,dj,f,g,u⟩;intro R hR;cases hR with
 |head=>exact ⟨A',n',c',e,by rw [←h1,nu],h2,h3,cs,h4,hu⟩
 |tail _ hm=>exact r R hm
theorem ZN:∀ {us:List (Value×List α)},(∀ p∈us,(An d p.1 p.2).P w F)→BB (Bd d) w F us (us.map (·.1))
 |[],_=>rfl
 |p::us,h=>⟨[p.1],us.map (·.1),rfl,⟨rfl,h p (od ..)⟩,ZN fun q hq=>h q (ow _ hq)⟩
end
section
variable {P:Program} {ops:Array Oper} {Q:Exit→Act→World→Prop} {rest:List Oper} {n:Nat} {l:Cb} {w0 w:World} {F0:BD} {o:Oper} {As Rs:List SP} {x y:Operand} {t:TypeId}
theorem JO {d:Kd α} {e bytes et b:Nat} {z:Value} {us:List (Value×List α)} {ys:List α}
  (hg:gd ops l o=some true) (hd:CF n o.dst=true) (ho:o.op=.call { callee:=.builtin .append,args:=#[x,y],argTypes:=#[t,t] }) (hs:D5 P t=some (e,1,bytes)) (hz:DO P e=some z) (hzs:z.cells.size=1) (a:0<bytes)
  (hx:ev l x=some u) (hy:ev l y=some (V (some ⟨b,0,none⟩) 1 1)) (H:Hd w0 F0 w (Aa (Bd d) u us::blk b [v'] et::Aa d v' ys::As) Rs) (hb:(us.length+1)*bytes≤140737488355328)
  (h:∀ u' w',Hd w0 F0 w' (Aa (Bd d) u' (us++[(v',ys)])::As) Rs→WL P ops Q rest n (Cj l o.dst u') w'):WL P ops Q (o::rest) n l w:=by
 have H1:Hd w0 F0 w ([blk b [v'] et,Aa d v' ys]++(Aa (Bd d) u us::As)) Rs:=H.perm ((List.Perm.swap _ _ _).trans ((List.Perm.swap _ _ _).cons _));have c:=H1.shut (A:=Fo [blk b [v'] et,Aa d v' ys]) (fun F hF=>hF);have f:=c.perm (List.Perm.swap _ _ _);refine wR (d:=Bd d) hg hd ho hs hz hzs a hx hy f hb U ?_ h;rintro F ⟨F1,F2,h1,h2,h3,hbk,g,i,g1,g2,g3,hos,_⟩;refine ⟨[v'],⟨trivial,.inr ⟨b,0,_,_,_,U,h1 b hbk.1,hbk.2,by simp⟩⟩,?_⟩;exact ⟨F2,none_,[v'],[],h2,fun _ q=>q.elim,fun _ _ q=>q,U,⟨U,(CO d).O_mono hos g1⟩,U⟩
end
theorem TA (a b:ByteArray):B4 a b=decide (a.data.toList<b.data.toList):=Proofs.bytesLess_eq _ _
theorem K_ (a:ByteArray):B4 a a=false:=by
 rw [TA];exact decide_eq_false (List.lt_irrefl _)
theorem Yb {a b c:ByteArray} (h1:B4 a b=true) (h2:B4 b c=true):B4 a c=true:=by
 rw [TA] at *;exact decide_eq_true (List.lt_trans (of_decide_eq_true h1) (of_decide_eq_true h2))
theorem Qv {a b:ByteArray} (h1:B4 a b=true):B4 b a=false:=by
 cases h:B4 b a with
 |false=>rfl
 |true=>have:=Yb h1 h;rw [K_] at this;cases this
theorem Tz {a b:ByteArray} (h1:B4 a b=false) (h2:B4 b a=false):a=b:=by
 rw [TA] at *;have h1:=of_decide_eq_false h1;have h2:=of_decide_eq_false h2;exact toList_inj (List.le_antisymm h2 h1)
theorem JH {a b c:ByteArray} (h1:B4 b a=false) (h2:B4 c b=false):B4 c a=false:=by
 cases h:B4 c a with
 |false=>rfl
 |true=>
  cases h3:B4 a b with
  |true=>have:=Yb h h3;rw [this] at h2;cases h2
  |false=>
   have:=Tz h3 h1;subst this;rw [h] at h2;cases h2
theorem Ya {a b c:ByteArray} (h1:B4 a b=true) (h2:B4 c b=false):B4 a c=true:=by
 cases h:B4 a c with
 |true=>rfl
 |false=>have:=JH h2 h;rw [this] at h1;cases h1
theorem nI {a b c:ByteArray} (h1:B4 b a=false) (h2:B4 b c=true):B4 a c=true:=by
 cases h:B4 a c with
 |true=>rfl
 |false=>have:=JH h h1;rw [this] at h2;cases h2
def C_ (xs ys:List Au):Prop:=xs.length=ys.length∧∀ k:ByteArray,xs.filter (fun p=>decide (p.key=k))=ys.filter (fun p=>decide (p.key=k))
theorem C_.refl (xs:List Au):C_ xs xs:=⟨rfl,fun _=>rfl⟩
theorem C_.trans {xs ys zs:List Au} (h1:C_ xs ys) (h2:C_ ys zs):C_ xs zs:=⟨h1.1.trans h2.1,fun k=>(h1.2 k).trans (h2.2 k)⟩
theorem C_.symm {xs ys:List Au} (h1:C_ xs ys):C_ ys xs:=⟨h1.1.symm,fun k=>(h1.2 k).symm⟩
theorem C_.append {a b c d:List Au} (h1:C_ a b) (h2:C_ c d):C_ (a++c) (b++d):=
 ⟨by rw [nr,nr,h1.1,h2.1],fun k=>by rw [po,po,h1.2,h2.2]⟩
theorem C_.mem {xs ys:List Au} (h:C_ xs ys) {p:Au} (hp:p∈xs):p∈ys:=by
 have:p∈xs.filter (fun q=>decide (q.key=p.key)):=re.2 ⟨hp,by simp⟩;rw [h.2] at this;exact (re.1 this).1
def Ei (xs:List Au):Prop:=xs.Pairwise fun p q=>B4 q.key p.key=false
instance (xs:List Au):Decidable (Ei xs):=by unfold Ei;infer_instance
def ins (p:Au):List Au→List Au
 |[]=>[p]
 |q::l=>if B4 q.key p.key=true then q::ins p l else p::q::l
def srt:List Au→List Au
 |[]=>[]
 |p::l=>ins p (srt l)
theorem Xb {p q:Au}:∀ {l:List Au},q∈ins p l↔q=p∨q∈l
 |[]=>by simp [ins]
 |r::l=>by
  unfold ins
  split
  rw [pn,Xb,pn]
  constructor<;>(rintro (h|h|h)<;>simp [h])
  simp
theorem Xc {p:Au}:∀ {l:List Au},Ei l→Ei (ins p l)
 |[],_=>by simp [ins,Ei]
 |q::l,h=>by
  have h':=qr.1 h
  unfold ins
  split
  rename_i hlt
  refine qr.2 ⟨fun r hr=>?_,Xc h'.2⟩
  rcases Xb.1 hr with rfl|hr
  exact Qv hlt
  exact h'.1 r hr
  rename_i hlt
  have hlt:B4 q.key p.key=false:=by simpa using hlt
  refine qr.2 ⟨fun r hr=>?_,h⟩
  rcases pn.1 hr with rfl|hr
  exact hlt
  exact JH hlt (h'.1 r hr)
theorem Xd {p:Au}:∀ {l:List Au},C_ (p::l) (ins p l)
 |[]=>C_.refl _
 |q::l=>by
  unfold ins
  split
  rename_i hlt
  have hne:p.key≠q.key:=fun e=>by rw [e,K_] at hlt;cases hlt
  have h1:C_ (p::q::l) (q::p::l):=by
   refine ⟨by simp,fun k=>?_⟩;by_cases hp:p.key=k;have:¬ q.key=k:=fun e=>hne (hp.trans e.symm);simp [hp,this];simp [tn,hp]
  exact h1.trans (C_.append (C_.refl [q]) (Xd (p:=p) (l:=l)));exact C_.refl _
theorem O_:∀ l:List Au,Ei (srt l)
 |[]=>List.Pairwise.nil
 |_::l=>Xc (O_ l)
theorem JQ:∀ l:List Au,C_ l (srt l)
 |[]=>C_.refl _
 |p::l=>(C_.append (C_.refl [p]) (JQ l)).trans Xd
theorem YV:∀ {xs ys:List Au},Ei xs→Ei ys→C_ xs ys→xs=ys
 |[],ys,_,_,h=>(oz h.1.symm).symm
 |x::xs,[],_,_,h=>by cases h.1
 |x::xs,y::ys,hx,hy,h=>by
  have hx':=qr.1 hx
  have hy':=qr.1 hy
  have hk:x.key=y.key:=by
   refine Tz ?_ ?_;rcases pn.1 (h.mem (od ..):x∈y::ys) with e|hm
   rw [e,K_];exact hy'.1 x hm;rcases pn.1 (h.symm.mem (od ..):y∈x::xs) with e|hm
   rw [e,K_];exact hx'.1 y hm
  have he:=h.2 x.key;rw [pq (by simp),pq (by simp [hk])] at he;obtain ⟨rfl,_⟩:=List.cons.inj he;rw [YV hx'.2 hy'.2 ⟨by simpa using h.1,fun k=>?_⟩];have a:=h.2 k;by_cases hxk:x.key=k;rw [pq (by simp [hxk]),pq (by simp [hxk])] at a;exact (List.cons.inj a).2;rw [qg (by simp [hxk]),qg (by simp [hxk])] at a;exact a
theorem O9 {xs ys:List Au} (h:C_ xs ys) (ho:Ei ys):ys=srt xs:=YV ho (O_ xs) (h.symm.trans (JQ xs))
theorem aJ {xs:List Au} (ho:Ei xs):srt xs=xs:=(O9 (C_.refl xs) ho).symm
theorem yG {xs ys:List Au} (h:C_ xs ys):srt xs=srt ys:=(O9 (h.trans (JQ ys)) (O_ ys)).symm
theorem JP (xs:List Au):(srt xs).length=xs.length:=(JQ xs).1.symm
def Eg (xs ys:List Au) (f:Nat→Nat):Prop:=ys.length=xs.length∧∀ t,ys[t]?=xs[f t]?
def H6 (a b n t:Nat):Nat:=if a≤t∧t<a+n then t+(b - a) else if b≤t∧t<b+n then t - (b - a) else t
def Ca (a m b t:Nat):Nat:=if a≤t∧t<a+(b - m) then t+(m - a) else if a+(b - m)≤t∧t<b then t - (b - m) else t
theorem RA (xs:List Au) {f:Nat→Nat} (h:∀ t,f t=t):Eg xs xs f:=⟨rfl,fun t=>by rw [h]⟩
theorem AaM {xs ys:List Au} {a b:Nat} {x y:Au} (hab:a+k<b) (h:Eg xs ys (H6 a b k)) (hx:ys[a+k]?=some x) (hy:ys[b+k]?=some y):
  Eg xs ((ys.set (a+k) y).set (b+k) x) (H6 a b (k+1)):=by
 have c:a+k<ys.length:=(oh.1 hx).1;have l2:b+k<ys.length:=(oh.1 hy).1;refine ⟨by simpa using h.1,fun t=>?_⟩;rw [qf,qf];have hx':=h.2 (a+k);have hy':=h.2 (b+k);rw [hx] at hx';rw [hy] at hy';by_cases h1:b+k=t
 ·subst h1
  rw [if_pos rfl,if_pos (by simpa using l2),hx'];congr 1;unfold H6;rw [if_neg (by omega),if_neg (by omega),if_neg (by omega),if_pos (by omega)];omega
 ·rw [if_neg h1]
  by_cases h2:a+k=t
  ·subst h2
   rw [if_pos rfl,if_pos c,hy'];congr 1;unfold H6;rw [if_neg (by omega),if_neg (by omega),if_pos (by omega)];omega
  ·rw [if_neg h2,h.2]
   congr 1;unfold H6;repeat' split
   all_goals omega
theorem vZ {xs ys:List Au} {m i j:Nat} (him:i≤m) (hj:j<i) (h:Eg xs ys (H6 (m - i) m j)):∀ t,xs[Ca (m - i) m (m+j) t]?=ys[Ca (m - (i - j)) m (m+j) t]?:=by
 intro t;rw [h.2];congr 1;unfold Ca H6;repeat' split
 all_goals omega
theorem v_ {xs ys:List Au} {m i j:Nat} (him:i≤m) (hj:i<j) (h:Eg xs ys (H6 (m - i) (m+j - i) i)):∀ t,xs[Ca (m - i) m (m+j) t]?=ys[Ca (m - i) m (m+(j - i)) t]?:=by
 intro t;rw [h.2];congr 1;unfold Ca H6;repeat' split
 all_goals omega
theorem vY {m i t:Nat} (him:i≤m):Ca (m - i) m (m+i) t=H6 (m - i) m i t:=by
 unfold Ca H6;repeat' split
 all_goals omega
theorem AaJ {xs ys:List Au} {a m b:Nat} (h:Eg xs ys (Ca a m b)) (h1:a≤m) (h2:m≤b) (h3:b≤xs.length):
  ys=xs.take a++((xs.drop m).take (b - m)++((xs.drop a).take (m - a)++xs.drop b)):=by
 apply sd;intro t;rw [h.2];unfold Ca;by_cases c1:t<a;rw [if_neg (by omega),if_neg (by omega),qb (by simp;omega),qj,if_pos c1];rw [qn (by simp;omega)];have e1:(xs.take a).length=a:=by simp;omega
 rw [e1];by_cases c2:t<a+(b - m);rw [if_pos (by omega),qb (by simp;omega),qj,if_pos (by omega),pz];congr 1;omega;rw [qn (by simp;omega),if_neg (by omega)];have e2:((xs.drop m).take (b - m)).length=b - m:=by simp;omega
 rw [e2];by_cases c3:t<b;rw [if_pos (by omega),qb (by simp;omega),qj,if_pos (by omega),pz];congr 1;omega;rw [qn (by simp;omega),if_neg (by omega)];have c:((xs.drop a).take (m - a)).length=m - a:=by simp;omega
 rw [c,pz];congr 1;omega
theorem eZ {xs:List Au} {a m b:Nat} (h1:a≤m) (h2:m≤b):xs=xs.take a++((xs.drop a).take (m - a)++((xs.drop m).take (b - m)++xs.drop b)):=by
 have e1:(xs.drop m).take (b - m)++xs.drop b=xs.drop m:=by
  have:=qm (b - m) (xs.drop m);rwa [vk,show m+(b - m)=b by omega] at this
 have e2:(xs.drop a).take (m - a)++xs.drop m=xs.drop a:=by
  have:=qm (m - a) (xs.drop a);rwa [vk,show a+(m - a)=m by omega] at this
 rw [e1,e2,qm]
theorem ZV {xs ys:List Au} {a m b:Nat} (h:Eg xs ys (Ca a m b)) (h1:a≤m) (h2:m≤b) (h3:b≤xs.length)
  (hne:∀ p q x y,a≤p→p<m→m≤q→q<b→xs[p]?=some x→xs[q]?=some y→x.key≠y.key):C_ xs ys:=by
 refine ⟨h.1.symm,fun k=>?_⟩;rw [AaJ h h1 h2 h3];conv=>lhs;rw [eZ (xs:=xs) h1 h2]
 simp only [po];congr 1;rw [←og,←og];congr 1;by_cases hk:∃ x∈(xs.drop a).take (m - a),x.key=k;obtain ⟨x,hx,hxk⟩:=hk;obtain ⟨p,hp⟩:=qh hx;have hpl:p<m - a:=by
  have:=(oh.1 hp).1;simp at this;omega
 rw [qj,if_pos hpl,pz] at hp;have:(((xs.drop m).take (b - m)).filter fun p=>decide (p.key=k))=[]:=by
  rw [tg];intro y hy;obtain ⟨q,hq⟩:=qh hy;have hql:q<b - m:=by
   have:=(oh.1 hq).1;simp at this;omega
  rw [qj,if_pos hql,pz] at hq;have:=hne (a+p) (m+q) x y (by omega) (by omega) (by omega) (by omega) hp hq;simp only [decide_eq_true_eq];exact fun e=>this (hxk.trans e.symm)
 rw [this,oy,rv];have:(((xs.drop a).take (m - a)).filter fun p=>decide (p.key=k))=[]:=by
  rw [tg];intro x hx;simp only [decide_eq_true_eq];exact fun e=>hk ⟨x,hx,e⟩
 rw [this,oy,rv]
def C1 (xs:List Au) (a b:Nat):Prop:=∀ p q x y,a≤p→p<q→q<b→xs[p]?=some x→xs[q]?=some y→B4 y.key x.key=false
def F7 (xs ys:List Au) (a b:Nat):Prop:=ys.length=xs.length∧(∀ t,t<a∨b≤t→ys[t]?=xs[t]?)∧∀ t,a≤t→t<b→∃ u,a≤u∧u<b∧ys[t]?=xs[u]?
theorem F7.refl (xs:List Au) (a b:Nat):F7 xs xs a b:=⟨rfl,fun _ _=>rfl,fun t h1 h2=>⟨t,h1,h2,rfl⟩⟩
theorem F7.trans {xs ys zs:List Au} {a b:Nat} (h1:F7 xs ys a b) (h2:F7 ys zs a b):F7 xs zs a b:=by
 refine ⟨h2.1.trans h1.1,fun t ht=>(h2.2.1 t ht).trans (h1.2.1 t ht),fun t ha hb=>?_⟩;obtain ⟨u,c,d,e⟩:=h2.2.2 t ha hb;obtain ⟨u',u1',u2',e'⟩:=h1.2.2 u c d;exact ⟨u',u1',u2',e.trans e'⟩
theorem F7.wider {xs ys:List Au} {a b a' b':Nat} (h:F7 xs ys a b) (ha:a'≤a) (hb:b≤b'):F7 xs ys a' b':=by
 refine ⟨h.1,fun t ht=>h.2.1 t (by omega),fun t h1 h2=>?_⟩;by_cases c:a≤t∧t<b;obtain ⟨u,d,f,e⟩:=h.2.2 t c.1 c.2;exact ⟨u,by omega,by omega,e⟩;exact ⟨t,h1,h2,h.2.1 t (by omega)⟩
theorem ZU {xs ys:List Au} {a m b:Nat} (h:Eg xs ys (Ca a m b)) (h1:a≤m) (h2:m≤b):F7 xs ys a b:=by
 refine ⟨h.1,fun t ht=>?_,fun t ha hb=>⟨Ca a m b t,?_,?_,h.2 t⟩⟩;rw [h.2,show Ca a m b t=t by unfold Ca;rw [if_neg (by omega),if_neg (by omega)]];unfold Ca;split<;>(try split)<;>omega;unfold Ca;split<;>(try split)<;>omega
theorem C1.same {xs ys:List Au} {a b:Nat} (h:C1 xs a b) (he:∀ t,a≤t→t<b→ys[t]?=xs[t]?):C1 ys a b:=
 fun p q x y h1 h2 h3 hx hy=>h p q x y h1 h2 h3 ((he p h1 (by omega)).symm.trans hx) ((he q (by omega) h3).symm.trans hy)
theorem C1.sub {xs:List Au} {a b a' b':Nat} (h:C1 xs a b) (ha:a≤a') (hb:b'≤b):C1 xs a' b':=
 fun p q x y h1 h2 h3=>h p q x y (by omega) h2 (by omega)
theorem C1.one (xs:List Au) {a b:Nat} (h:b≤a+1):C1 xs a b:=fun p q x y h1 h2 h3=>by omega
theorem C1.ord {xs:List Au} (h:C1 xs 0 xs.length):Ei xs:=by
 unfold Ei;rw [wh];intro i j hi hj hij;exact h i j _ _ (by omega) hij hj (ol hi) (ol hj)
structure Ef (xs ys:List Au) (a b:Nat):Prop where
 stab:C_ xs ys
 ins:F7 xs ys a b
 srt:C1 ys a b
theorem yX {xs:List Au} {j:Nat} {x y:Au} (hx:xs[j]?=some x) (hy:xs[j+1]?=some y) (hlt:B4 y.key x.key=true):C_ xs ((xs.set (j+1) x).set j y)∧F7 xs ((xs.set (j+1) x).set j y) j (j+2):=by
 have a:j+1<xs.length:=(oh.1 hy).1;have hv:Eg xs ((xs.set (j+1) x).set j y) (Ca j (j+1) (j+2)):=by
  refine ⟨by simp,fun t=>?_⟩;rw [qf,qf];unfold Ca;by_cases c1:j=t;subst c1;rw [if_pos rfl,if_pos (by simp;omega),if_pos (by omega),show j+(j+1 - j)=j+1 by omega,hy];rw [if_neg c1];by_cases c2:j+1=t;subst c2;rw [if_pos rfl,if_pos a,if_neg (by omega),if_pos (by omega),show j+1 - (j+2 - (j+1))=j by omega,hx];rw [if_neg c2,if_neg (by omega),if_neg (by omega)]
 refine ⟨ZV hv (by omega) (by omega) (by omega) fun p q u v h1 h2 h3 h4 hu hw=>?_,ZU hv (by omega) (by omega)⟩;obtain rfl:p=j:=by omega
 obtain rfl:q=p+1:=by omega
 rw [hx] at hu;rw [hy] at hw;obtain rfl:=Option.some.inj hu;obtain rfl:=Option.some.inj hw;intro e;rw [e,K_] at hlt;cases hlt
def JX (xs:List Au) (a b j:Nat):Prop:=∀ p q x y,a≤p→p<q→q<b→q≠j→xs[p]?=some x→xs[q]?=some y→B4 y.key x.key=false
theorem dQ {xs:List Au} {a i:Nat} (h:C1 xs a i):JX xs a (i+1) i:=fun p q x y h1 h2 h3 h4=>h p q x y h1 h2 (by omega)
theorem dP {xs:List Au} {a b:Nat} (h:JX xs a b a):C1 xs a b:=fun p q x y h1 h2 h3=>h p q x y h1 h2 h3 (by omega)
theorem dT {xs:List Au} {a b j:Nat} {x y:Au} (h:JX xs a b (j+1)) (ha:a≤j) (hx:xs[j]?=some x) (hy:xs[j+1]?=some y) (hlt:B4 y.key x.key=false):C1 xs a b:=by
 intro p q u v h1 h2 h3 hu hv;by_cases c:q=j+1;subst c;rw [hy] at hv;obtain rfl:=Option.some.inj hv;by_cases c2:p=j;subst c2;rw [hx] at hu;obtain rfl:=Option.some.inj hu;exact hlt;exact JH (h p j u x h1 (by omega) (by omega) (by omega) hu hx) hlt;exact h p q u v h1 h2 h3 c hu hv
theorem dR {xs:List Au} {a b j:Nat} {x y:Au} (h:JX xs a b (j+1)) (ha:a≤j) (hx:xs[j]?=some x) (hy:xs[j+1]?=some y) (hlt:B4 y.key x.key=true) (hb:j+1<b):JX ((xs.set (j+1) x).set j y) a b j:=by
 have c:j+1<xs.length:=(oh.1 hy).1;have g:∀ t u,((xs.set (j+1) x).set j y)[t]?=some u→(t=j∧u=y)∨(t=j+1∧u=x)∨(t≠j∧t≠j+1∧xs[t]?=some u):=by
  intro t u ht;rw [qf,qf] at ht;by_cases c1:j=t;rw [if_pos c1,if_pos (by simp;omega)] at ht;exact .inl ⟨c1.symm,(Option.some.inj ht).symm⟩;rw [if_neg c1] at ht;by_cases c2:j+1=t;rw [if_pos c2,if_pos c] at ht;exact .inr (.inl ⟨c2.symm,(Option.some.inj ht).symm⟩);rw [if_neg c2] at ht;exact .inr (.inr ⟨Ne.symm c1,Ne.symm c2,ht⟩)
 intro p q u v h1 h2 h3 h4 hu hv;rcases g q v hv with ⟨rfl,_⟩|⟨rfl,rfl⟩|⟨q1,q2,hq⟩;exact absurd U h4;rcases g p u hu with ⟨rfl,rfl⟩|⟨rfl,_⟩|⟨p1,p2,hp⟩;exact Qv hlt;omega;exact h p j u v h1 (by omega) (by omega) (by omega) hp hx;rcases g p u hu with ⟨rfl,rfl⟩|⟨rfl,rfl⟩|⟨p1,p2,hp⟩;exact h (p+1) q u v (by omega) (by omega) h3 q2 hy hq;exact h j q u v (by omega) (by omega) h3 q2 hx hq;exact h p q u v h1 h2 h3 q2 hp hq
theorem C1.le {xs:List Au} {a b p:Nat} {x y:Au} (h:C1 xs a b) (h1:a≤p) (h2:p≤q) (h3:q<b) (hx:xs[p]?=some x) (hy:xs[q]?=some y):B4 y.key x.key=false:=by
 rcases pg p q with h'|h'
 exact h p q x y h1 h' h3 hx hy;obtain rfl:p=q:=by omega
 rw [hx] at hy;obtain rfl:=Option.some.inj hy;exact K_ _
theorem Q8 {xs ys:List Au} {a m b s mid e:Nat} (hv:Eg xs ys (Ca s m e)) (h1:a≤s) (h2:s≤m) (h3:m≤e) (h4:e≤b) (hmid:mid=s+(e - m)) (hl:C1 xs a m) (hr:C1 xs m b):
  C1 ys a s∧C1 ys s mid∧C1 ys mid e∧C1 ys e b:=by
 subst hmid;refine ⟨?_,?_,?_,?_⟩;refine (hl.sub (ou _) h2).same fun t c d=>?_;rw [hv.2,show Ca s m e t=t by unfold Ca;rw [if_neg (by omega),if_neg (by omega)]];intro p q x y p1 p2 p3 hx hy;rw [hv.2,show Ca s m e p=p+(m - s) by unfold Ca;rw [if_pos (by omega)]] at hx;rw [hv.2,show Ca s m e q=q+(m - s) by unfold Ca;rw [if_pos (by omega)]] at hy;exact hr _ _ x y (by omega) (by omega) (by omega) hx hy;intro p q x y p1 p2 p3 hx hy;rw [hv.2,show Ca s m e p=p - (e - m) by unfold Ca;rw [if_neg (by omega),if_pos (by omega)]] at hx;rw [hv.2,show Ca s m e q=q - (e - m) by unfold Ca;rw [if_neg (by omega),if_pos (by omega)]] at hy;exact hl _ _ x y (by omega) (by omega) (by omega) hx hy;refine (hr.sub h3 (ou _)).same fun t c d=>?_;rw [hv.2,show Ca s m e t=t by unfold Ca;rw [if_neg (by omega),if_neg (by omega)]]
theorem Ef.refl {xs:List Au} {a b:Nat} (h:C1 xs a b):Ef xs xs a b:=⟨C_.refl _,F7.refl _ _ _,h⟩
theorem Ls {xs:List Au} {a s mid:Nat} (h1:C1 xs a s) (h2:C1 xs s mid) (h:¬ (a<s∧s<mid)) (hs:a≤s):C1 xs a mid:=by
 rcases pg a s with c|c
 exact h1.sub (ou _) (by omega);exact h2.sub (by omega) (ou _)
theorem Ld {xs ys zs ws:List Au} {a m b s mid e:Nat} (hv:Eg xs ys (Ca s m e)) (h1:a≤s) (h2:s≤m) (h3:m≤e) (h4:e≤b) (hb:b≤xs.length) (hmid:mid=s+(e - m)) (hl:C1 xs a m) (hr:C1 xs m b)
  (hlow:s=a∨e=b∨∃ u v,xs[s - 1]?=some u∧xs[e]?=some v∧B4 v.key u.key=false)
  (hup:s=m∨e=m∨∃ u v,xs[e - 1]?=some u∧xs[s]?=some v∧B4 u.key v.key=true)
  (hz:Ef ys zs a mid) (hw:Ef zs ws mid b):Ef xs ws a b:=by
 have hkey:∀ p q x y,s≤p→p<m→m≤q→q<e→xs[p]?=some x→xs[q]?=some y→B4 y.key x.key=true:=by
  intro p q x y p1 p2 q1 q2 hx hy;rcases hup with c|c|⟨u,v,hu,hv',hlt⟩;omega;omega;exact Ya (nI (hr.le (p:=q) (q:=e - 1) q1 (by omega) (by omega) hy hu) hlt) (hl.le (p:=s) (q:=p) h1 p1 p2 hv' hx)
 have s1:C_ xs ys:=ZV hv h2 h3 (by omega) fun p q x y p1 p2 q1 q2 hx hy e=>by
  have:=hkey p q x y p1 p2 q1 q2 hx hy;rw [e,K_] at this;cases this
 have i:F7 xs ys a b:=(ZU hv h2 h3).wider h1 h4;have g:s≤mid:=by omega
 have h:mid≤e:=by omega
 refine ⟨s1.trans (hz.stab.trans hw.stab),i.trans ((hz.ins.wider (ou _) (by omega)).trans (hw.ins.wider (by omega) (ou _))),fun p q x y p1 p2 p3 hx hy=>?_⟩;rcases pg q mid with c|c
 rw [hw.ins.2.1 p (by omega)] at hx;rw [hw.ins.2.1 q (by omega)] at hy;exact hz.srt p q x y p1 p2 c hx hy;rcases pg p mid with c'|c'
 rw [hw.ins.2.1 p (by omega)] at hx;obtain ⟨u,f,j,hu⟩:=hz.ins.2.2 p p1 c';rw [hx] at hu;obtain ⟨t,t1,t2,ht⟩:=hw.ins.2.2 q c p3;rw [hy,hz.ins.2.1 t (by omega)] at ht
 -- the pair at u of ys is x, the pair at t of ys is y
 have hxu:=hv.2 u;have hyt:=hv.2 t;rw [←hu] at hxu;rw [←ht] at hyt;rcases pg u s with cu|cu
 rw [show Ca s m e u=u by unfold Ca;rw [if_neg (by omega),if_neg (by omega)]] at hxu;rcases pg t e with ct|ct
 rw [show Ca s m e t=t - (e - m) by unfold Ca;rw [if_neg (by omega),if_pos (by omega)]] at hyt;exact hl u _ x y f (by omega) (by omega) hxu.symm hyt.symm;rw [show Ca s m e t=t by unfold Ca;rw [if_neg (by omega),if_neg (by omega)]] at hyt;rcases hlow with d|d|⟨u',v',hu',hv',hlt⟩;omega;omega;exact JH (hl.le (p:=u) (q:=s - 1) f (by omega) (by omega) hxu.symm hu') (JH hlt (hr.le (p:=e) (q:=t) h3 ct t2 hv' hyt.symm));rw [show Ca s m e u=u+(m - s) by unfold Ca;rw [if_pos (by omega)]] at hxu;rcases pg t e with ct|ct
 rw [show Ca s m e t=t - (e - m) by unfold Ca;rw [if_neg (by omega),if_pos (by omega)]] at hyt;exact Qv (hkey _ _ y x (by omega) (by omega) (by omega) (by omega) hyt.symm hxu.symm);rw [show Ca s m e t=t by unfold Ca;rw [if_neg (by omega),if_neg (by omega)]] at hyt;exact hr _ t x y (by omega) (by omega) t2 hxu.symm hyt.symm;exact hw.srt p q x y c' p2 p3 hx hy
theorem o3 {xs ys:List Au} {a b i:Nat} {x:Au} (hv:Eg xs ys (Ca a (a+1) i)) (h1:a+1≤i) (h2:i≤b) (hb:b≤xs.length) (hr:C1 xs (a+1) b) (hx:xs[a]?=some x)
  (hlow:i=a+1∨∃ u,xs[i - 1]?=some u∧B4 u.key x.key=true) (hup:i=b∨∃ u,xs[i]?=some u∧B4 u.key x.key=false):Ef xs ys a b:=by
 have hruns:=Q8 hv (ou a) (by omega) h1 h2 rfl (C1.one _ (ou _)) hr;have e1:a+(i - (a+1))=i - 1:=by omega
 rw [e1] at hruns
 -- low: nothing stands below a; up: what stands below i is below x
 have hs:Ef ys ys a (i - 1):=Ef.refl hruns.2.1;have hyx:ys[i - 1]?=some x:=by rw [hv.2,show Ca a (a+1) i (i - 1)=a by unfold Ca;rw [if_neg (by omega),if_pos (by omega)];omega,hx]
 have hw:Ef ys ys (i - 1) b:=by
  refine Ef.refl fun p q u v p1 p2 p3 hu hw=>?_;rcases pg p i with c|c
  obtain rfl:p=i - 1:=by omega
  rw [hyx] at hu;obtain rfl:=Option.some.inj hu;rw [hv.2,show Ca a (a+1) i q=q by unfold Ca;rw [if_neg (by omega),if_neg (by omega)]] at hw;rcases hup with d|⟨u',hu',hlt⟩;omega;exact JH hlt (hr.le (q:=q) h1 (by omega) p3 hu' hw);exact hruns.2.2.2 p q u v c p2 p3 hu hw
 refine Ld hv (ou _) (by omega) h1 h2 hb e1.symm (C1.one _ (ou _)) hr (.inl U) ?_ hs hw;rcases hlow with d|⟨u,hu,hlt⟩;exact .inr (.inl d);exact .inr (.inr ⟨u,x,hu,hx,hlt⟩)
theorem o5 {xs ys:List Au} {a m i:Nat} {x:Au} (hv:Eg xs ys (Ca i m (m+1))) (h1:a≤i) (h2:i≤m) (hb:m+1≤xs.length) (hl:C1 xs a m) (hx:xs[m]?=some x)
  (hlow:i=a∨∃ u,xs[i - 1]?=some u∧B4 x.key u.key=false) (hup:i=m∨∃ u,xs[i]?=some u∧B4 x.key u.key=true):Ef xs ys a (m+1):=by
 have hruns:=Q8 hv h1 h2 (by omega) (ou _) rfl hl (C1.one _ (by omega));have e1:i+(m+1 - m)=i+1:=by omega
 rw [e1] at hruns;have hyx:ys[i]?=some x:=by rw [hv.2,show Ca i m (m+1) i=m by unfold Ca;rw [if_pos (by omega)];omega,hx]
 have hs:Ef ys ys a (i+1):=by
  refine Ef.refl fun p q u v p1 p2 p3 hu hw=>?_;rcases pg q i with c|c
  exact hruns.1 p q u v p1 p2 c hu hw;obtain rfl:q=i:=by omega
  rw [hyx] at hw;obtain rfl:=Option.some.inj hw;rw [hv.2,show Ca q m (m+1) p=p by unfold Ca;rw [if_neg (by omega),if_neg (by omega)]] at hu;rcases hlow with d|⟨u',hu',hlt⟩;omega;exact JH (hl.le (q:=q - 1) p1 (by omega) (by omega) hu hu') hlt
 have hw:Ef ys ys (i+1) (m+1):=Ef.refl hruns.2.2.1;refine Ld hv h1 h2 (by omega) (ou _) hb e1.symm hl (C1.one _ (by omega)) (.inr (.inl U)) ?_ hs hw;rcases hup with d|⟨u,hu,hlt⟩;exact .inl d;exact .inr (.inr ⟨x,u,by rw [show m+1 - 1=m by omega];exact hx,hu,hlt⟩)
theorem Of {n:Nat}:((n:Nat):Int).fdiv (2^(min (1:Int).toNat IntKind.u64.bits))=((n / 2:Nat):Int):=by
 have:(2:Int)^(min (1:Int).toNat IntKind.u64.bits)=2:=by decide
 rw [this,Int.fdiv_eq_ediv_of_nonneg _ (by omega)];omega
def Jy (a b:ByteArray):Int:=if B4 a b=true then -1 else if B4 b a=true then 1 else 0
theorem eM {a b:ByteArray} (h:B4 a b=true):Jy a b= -1:=if_pos h
theorem eL {a b:ByteArray} (h:¬ B4 a b=true) (h2:(!(B4 a b||decide (a=b)))=true):Jy a b=1:=by
 unfold Jy;rw [if_neg h,if_pos];cases h3:B4 b a with
 |true=>rfl
 |false=>
  have:=Tz (by simpa using h) h3;subst this;simp at h2
theorem eK {a b:ByteArray} (h:¬ B4 a b=true) (h2:(!(B4 a b||decide (a=b)))=false):Jy a b=0:=by
 have h':B4 a b=false:=by simpa using h
 have:a=b:=by simpa [h'] using h2
 subst this;unfold Jy;rw [if_neg h,if_neg h]
theorem KO {a b:ByteArray}:Jy a b<0↔B4 a b=true:=by
 unfold Jy;by_cases h:B4 a b=true;simp [h];rw [if_neg h];by_cases h2:B4 b a=true;rw [if_pos h2];simp [h];rw [if_neg h2];simp [h]
theorem MD {a b:ByteArray} (h:¬ Jy a b<0):B4 a b=false:=by
 cases h2:B4 a b with
 |false=>rfl
 |true=>exact absurd (KO.2 h2) h
theorem yY {xs:List Au} {j:Nat} {x y:Au} (hj:0<j) (hx:xs[j - 1]?=some x) (hy:xs[j]?=some y) (hlt:B4 y.key x.key=true):C_ xs ((xs.set j x).set (j - 1) y)∧F7 xs ((xs.set j x).set (j - 1) y) (j - 1) (j+1):=by
 obtain ⟨i,rfl⟩:∃ i,j=i+1:=⟨j - 1,by omega⟩;exact yX hx hy hlt
theorem dU {xs:List Au} {a b j:Nat} {x y:Au} (h:JX xs a b j) (hj:a<j) (hx:xs[j - 1]?=some x) (hy:xs[j]?=some y) (hlt:B4 y.key x.key=false):C1 xs a b:=by
 obtain ⟨i,rfl⟩:∃ i,j=i+1:=⟨j - 1,by omega⟩;exact dT h (by omega) hx hy hlt
theorem dS {xs:List Au} {a b j:Nat} {x y:Au} (h:JX xs a b j) (hj:a<j) (hx:xs[j - 1]?=some x) (hy:xs[j]?=some y) (hlt:B4 y.key x.key=true) (hb:j<b):JX ((xs.set j x).set (j - 1) y) a b (j - 1):=by
 obtain ⟨i,rfl⟩:∃ i,j=i+1:=⟨j - 1,by omega⟩;exact dR h (by omega) hx hy hlt (by omega)
theorem AaN {xs ys:List Au} {a:Nat} {x y:Au} (hk:a≤k) (h:Eg xs ys (Ca a (a+1) (k+1))) (hx:ys[k]?=some x) (hy:ys[k+1]?=some y):Eg xs ((ys.set k y).set (k+1) x) (Ca a (a+1) (k+1+1)):=by
 have b:k<ys.length:=(oh.1 hx).1;have l2:k+1<ys.length:=(oh.1 hy).1;refine ⟨by simpa using h.1,fun t=>?_⟩;rw [qf,qf];have hx':=h.2 k;have hy':=h.2 (k+1);rw [hx] at hx';rw [hy] at hy';by_cases c1:k+1=t
 ·subst c1
  rw [if_pos rfl,if_pos (by simpa using l2),hx'];congr 1;unfold Ca;repeat' split
  all_goals omega
 ·rw [if_neg c1]
  by_cases c2:k=t
  ·subst c2
   rw [if_pos rfl,if_pos b,hy'];congr 1;unfold Ca;repeat' split
   all_goals omega
  ·rw [if_neg c2,h.2]
   congr 1;unfold Ca;repeat' split
   all_goals omega
theorem AaH {xs ys:List Au} {m:Nat} {x y:Au} (hk:k≤m) (h0:0<k) (h:Eg xs ys (Ca k m (m+1))) (hx:ys[k]?=some x) (hy:ys[k - 1]?=some y):Eg xs ((ys.set k y).set (k - 1) x) (Ca (k - 1) m (m+1)):=by
 have a:k<ys.length:=(oh.1 hx).1;have l2:k - 1<ys.length:=(oh.1 hy).1;refine ⟨by simpa using h.1,fun t=>?_⟩;rw [qf,qf];have hx':=h.2 k;have hy':=h.2 (k - 1);rw [hx] at hx';rw [hy] at hy';by_cases c1:k - 1=t
 ·subst c1
  rw [if_pos rfl,if_pos (by simpa using l2),hx'];congr 1;unfold Ca;repeat' split
  all_goals omega
 ·rw [if_neg c1]
  by_cases c2:k=t
  ·subst c2
   rw [if_pos rfl,if_pos a,hy'];congr 1;unfold Ca;repeat' split
   all_goals omega
  ·rw [if_neg c2,h.2]
   congr 1;unfold Ca;repeat' split
   all_goals omega
theorem AaK (xs:List Au) (a:Nat):Eg xs xs (Ca a (a+1) (a+1)):=RA xs fun t=>by
 unfold Ca
 repeat' split
 all_goals omega
theorem AaL (xs:List Au) (m:Nat):Eg xs xs (Ca m m (m+1)):=RA xs fun t=>by
 unfold Ca
 repeat' split
 all_goals omega
theorem Rz {xs:List Au} {s m e:Nat} (h:¬ (s<m∧m<e)) (h1:s≤m) (h2:m≤e):Eg xs xs (Ca s m e):=RA xs fun t=>by
 unfold Ca
 repeat' split
 all_goals omega
theorem AaO {xs ys:List Au} {a m:Nat} {x y:Au} (hm:m=a+1) (hk:a≤k) (h:Eg xs ys (Ca a m (k+1))) (hx:ys[k]?=some x) (hy:ys[k+1]?=some y):Eg xs ((ys.set k y).set (k+1) x) (Ca a m (k+1+1)):=by
 subst hm;exact AaN hk h hx hy
theorem AaI {xs ys:List Au} {m b:Nat} {x y:Au} (hb:b=m+1) (hk:k≤m) (h0:0<k) (h:Eg xs ys (Ca k m b)) (hx:ys[k]?=some x) (hy:ys[k - 1]?=some y):Eg xs ((ys.set k y).set (k - 1) x) (Ca (k - 1) m b):=by
 subst hb;exact AaH hk h0 h hx hy
theorem o4 {xs ys:List Au} {a m b i:Nat} {x:Au} (hm:m=a+1) (hv:Eg xs ys (Ca a m i)) (h1:m≤i) (h2:i≤b) (hb:b≤xs.length) (hr:C1 xs m b) (hx:xs[a]?=some x)
  (hlow:i=m∨∃ u,xs[i - 1]?=some u∧B4 u.key x.key=true) (hup:i=b∨∃ u,xs[i]?=some u∧B4 u.key x.key=false):Ef xs ys a b:=by
 subst hm;exact o3 hv h1 h2 hb hr hx hlow hup
theorem o6 {xs ys:List Au} {a m b i:Nat} {x:Au} (hm:b=m+1) (hv:Eg xs ys (Ca i m b)) (h1:a≤i) (h2:i≤m) (hb:b≤xs.length) (hl:C1 xs a m) (hx:xs[m]?=some x)
  (hlow:i=a∨∃ u,xs[i - 1]?=some u∧B4 x.key u.key=false) (hup:i=m∨∃ u,xs[i]?=some u∧B4 x.key u.key=true):Ef xs ys a b:=by
 subst hm;exact o5 hv h1 h2 hb hl hx hlow hup
def Fp (xs:List Au) (lo hi bs:Nat):Prop:=∀ p q x y,lo≤p→p<q→q<hi→p / bs=q / bs→xs[p]?=some x→xs[q]?=some y→B4 y.key x.key=false
theorem Sc {c p:Nat} (h1:c*bs≤p) (h2:p<(c+1)*bs):p / bs=c:=Nat.div_eq_of_lt_le h1 h2
theorem Fp.at {xs:List Au} {lo hi c a b:Nat} (h:Fp xs lo hi bs) (ha:a=c*bs) (hlo:lo≤a) (hb:b≤a+bs) (hh:b≤hi):C1 xs a b:=by
 intro p q x y p1 p2 p3 hx hy;refine h p q x y (by omega) p2 (by omega) ?_ hx hy;have:(c+1)*bs=c*bs+bs:=pw c bs;rw [Sc (c:=c) (by omega) (by omega),Sc (c:=c) (by omega) (by omega)]
theorem Fp.more {xs ys:List Au} {c a b:Nat} (h:Fp xs 0 a bs) (ha:a=c*bs) (hb:b≤a+bs) (hi:F7 xs ys a b) (hs:C1 ys a b):Fp ys 0 b bs:=by
 intro p q x y p1 p2 p3 hd hx hy;have e1:(c+1)*bs=c*bs+bs:=pw c bs;rcases pg p a with c1|c1
 rcases pg q a with c2|c2
 rw [hi.2.1 p (by omega)] at hx;rw [hi.2.1 q (by omega)] at hy;exact h p q x y p1 p2 c2 hd hx hy;exfalso;have hq:q / bs=c:=Sc (by omega) (by omega);have hbs:0<bs:=by omega
 have:p / bs<c:=(Nat.div_lt_iff_lt_mul hbs).2 (by omega);omega;exact hs p q x y c1 p2 p3 hx hy
theorem Fp.same {xs ys:List Au} {lo hi lo':Nat} (h:Fp xs lo hi bs) (hl:lo≤lo') (he:∀ t,lo'≤t→ys[t]?=xs[t]?):Fp ys lo' hi bs:=by
 intro p q x y p1 p2 p3 hd hx hy;rw [he p (by omega)] at hx;rw [he q (by omega)] at hy;exact h p q x y (by omega) p2 p3 hd hx hy
theorem Fp.nil (xs:List Au) (bs:Nat):Fp xs 0 0 bs:=fun p q x y p1 p2 p3=>by omega
theorem Fp.all {xs:List Au} {n:Nat} (h:Fp xs 0 n bs) (hn:n≤bs):C1 xs 0 n:=by
 intro p q x y p1 p2 p3 hx hy;refine h p q x y p1 p2 p3 ?_ hx hy;rw [zg (by omega),zg (by omega)]
theorem Pt {zs:List Au} {a n:Nat} (h:Fp zs a n bs) (hc:∃ c,a=c*(2*bs)) (hn:a+bs≤n):C1 zs a (a+bs)∧∀ b,b≤a+2*bs→b≤n→C1 zs (a+bs) b:=by
 obtain ⟨c,rfl⟩:=hc;have e:c*(2*bs)=(2*c)*bs:=by rw [←jab,sr c 2]
 have e2:(2*c+1)*bs=(2*c)*bs+bs:=pw _ _;refine ⟨h.at (c:=2*c) e (ou _) (ou _) hn,fun b h1 h2=>h.at (c:=2*c+1) (by omega) (by omega) (by omega) h2⟩
theorem dN {zs:List Au} {a n:Nat} (h:Fp zs a n bs) (hc:∃ c,a=c*(2*bs)) (hn:n≤a+bs):C1 zs a n:=by
 obtain ⟨c,rfl⟩:=hc;exact h.at (by rw [←jab,sr c 2]) (ou _) hn (ou _)
theorem R3 {zs ws:List Au} {a b:Nat} (h:Fp zs 0 a (2*bs)) (hc:∃ c,a=c*(2*bs)) (hb:b≤a+2*bs) (hs:Ef zs ws a b):Fp ws 0 b (2*bs):=by
 obtain ⟨c,hc⟩:=hc;exact h.more hc hb hs.ins hs.srt
theorem pB {a:Nat} (hc:∃ c,a=c*(2*bs)):∃ c,a+2*bs=c*(2*bs):=by
 obtain ⟨c,rfl⟩:=hc;exact ⟨c+1,(pw c (2*bs)).symm⟩
def NQ (xs:List Au) (i:Nat):Prop:=∀ t x y,i≤t→xs[t]?=some x→xs[t+1]?=some y→B4 y.key x.key=false
theorem cP {xs:List Au} (h:NQ xs 0):Ei xs:=by
 refine C1.ord ?_;have key:∀ d p x y,xs[p]?=some x→xs[p+d+1]?=some y→B4 y.key x.key=false:=by
  intro d;induction d with
  |zero=>intro p x y hx hy;exact h p x y (oc _) hx hy
  |succ d ih=>
   intro p x y hx hy;have hl:p+d+1<xs.length:=by have:=(oh.1 hy).1;omega
   have hz:=ol hl;exact JH (ih p x _ hx hz) (h (p+d+1) _ y (oc _) hz hy)
 intro p q x y _ h2 _ hx hy;exact key (q - p - 1) p x y hx (by rw [show p+(q - p - 1)+1=q by omega];exact hy)
theorem rY {xs:List Au} {j:Nat} {x y:Au} (ho:Ei xs) (hj:0<j) (hx:xs[j]?=some x) (hy:xs[j - 1]?=some y):B4 x.key y.key=false:=by
 unfold Ei at ho;rw [wh] at ho;have a:=oh.1 hx;have l2:=oh.1 hy;have:=ho (j - 1) j l2.1 a.1 (by omega);rwa [a.2,l2.2] at this
theorem cO {xs:List Au} {j:Nat} {x y:Au} (h:NQ xs j) (hj:0<j) (hx:xs[j]?=some x) (hy:xs[j - 1]?=some y) (hlt:B4 x.key y.key=false):NQ xs (j - 1):=by
 intro t u v ht hu hv;rcases pg t j with c|c
 obtain rfl:t=j - 1:=by omega
 rw [hy] at hu;rw [show j - 1+1=j by omega,hx] at hv;obtain rfl:=Option.some.inj hu;obtain rfl:=Option.some.inj hv;exact hlt;exact h t u v c hu hv
theorem cN (xs:List Au):NQ xs (xs.length - 1):=fun t x y ht hx hy=>by
 have:=(oh.1 hy).1
 omega
def Dt (ps:List Au) (k:ByteArray):List ByteArray:=(ps.filter fun p=>decide (p.key=k)).map (·.val)
def G9 (ps:List Au):List ByteArray:=KP (Lv (ps.map (·.key)))
theorem yT {xs ys:List Au} (h:∀ k:ByteArray,xs.filter (fun p=>decide (p.key=k))=ys.filter (fun p=>decide (p.key=k))):C_ xs ys:=by
 refine ⟨List.Perm.length_eq (List.perm_iff_count.2 fun p=>?_),h⟩;have e:∀ l:List Au,l.count p=(l.filter fun q=>decide (q.key=p.key)).count p:=fun l=>(List.count_filter (by simp)).symm;rw [e xs,e ys,h]
def G4 (xs:List Au) (n:Int):Bool:=decide (¬ ((xs.length:Int)≤n∧∀ p∈xs,p.key.size≤100∧p.val.size≤100))
theorem WT {xs:List Au} {n:Int} {x:Au} (hx:xs[k]?=some x) (h:100<x.key.size∨100<x.val.size):true=G4 xs n:=by
 have h3:¬ ((xs.length:Int)≤n∧∀ p∈xs,p.key.size≤100∧p.val.size≤100):=fun h2=>absurd (h2.2 x (nt hx)) (by omega);exact (decide_eq_true h3).symm
theorem WS {xs:List Au} {n:Int} (hn:∀ y∈xs.take k,y.key.size≤100∧y.val.size≤100) (h:xs.length≤k∨n<(xs.length:Int)):decide (n<(xs.length:Int))=G4 xs n:=by
 refine decide_eq_decide.2 ⟨fun h1 h2=>by omega,fun h1=>?_⟩;apply qq;intro h2;refine h1 ⟨by omega,?_⟩;rwa [oe (by omega)] at hn
theorem rC (ps:List Au) (k:ByteArray):(Dt ps k).length≤ps.length:=by
 unfold Dt;rw [nu];exact ql _ _
theorem rI {xs:List Au} {key:ByteArray} {x:Au} (hx:xs[k]?=some x) (h:x.key=key):Dt (xs.take (k+1)) key=Dt (xs.take k) key++[x.val]:=by
 unfold Dt;rw [qu,hx];simp [h]
theorem rH {xs:List Au} {key:ByteArray} {x:Au} (hx:xs[k]?=some x) (h:¬ x.key=key):Dt (xs.take (k+1)) key=Dt (xs.take k) key:=by
 unfold Dt;rw [qu,hx];simp [h]
theorem jX {xs:List Au} {x:Au} (hx:xs[k]?=some x):(xs.take (k+1)).map (·.key)=(xs.take k).map (·.key)++[x.key]:=by
 rw [qu,hx];simp
theorem Ux (xs:List ByteArray):(Lv xs).length=xs.length:=by simp [Lv]
theorem eV (xs:List ByteArray):(KP xs).length≤xs.length:=by
 have:=VN (xs.map Kp);simpa [KP] using this
theorem jY (ps:List Au):(G9 ps).length≤ps.length:=by
 unfold G9;have:=eV (Lv (ps.map (·.key)));rw [Ux,nu] at this;exact this
def D3 (p:Au):Prop:=p.key.size≤16∧p.val.size≤64
instance (p:Au):Decidable (D3 p):=by unfold D3;infer_instance
def Lb (xs:List Au):Prop:=∀ p∈xs,D3 p
instance (xs:List Au):Decidable (Lb xs):=by unfold Lb;infer_instance
theorem oX {xs:List Au}:(!(xs.any fun p=>!decide (D3 p)))=decide (Lb xs):=by
 rw [sw,decide_eq_true_iff];unfold Lb;simp
theorem PA {x:α} (h:l[0]?=some x):l=x::l.drop 1:=by
 cases l with
 |nil=>simp at h
 |cons y l=>simp at h;subst h;rfl
theorem o0 {al bl:List Au} {x y:Au} (hx:al[0]?=some x) (hy:bl[0]?=some y) (ha:Ei al) (hb:Ei bl) (h:¬ B4 y.key x.key=true):srt (al++bl)=x::srt (al.drop 1++bl):=by
 have h':B4 y.key x.key=false:=by simpa using h
 have ea:=PA hx;have eb:=PA hy;rw [ea] at ha;rw [eb] at hb;obtain ⟨a,d⟩:=qr.1 ha;obtain ⟨c,e⟩:=qr.1 hb;refine (O9 ?_ ?_).symm;have:C_ (x::(al.drop 1++bl)) (x::srt (al.drop 1++bl)):=C_.append (b:=[x]) (C_.refl _) (JQ _);rwa [←wk,←ea] at this
 refine qr.2 ⟨fun q hq=>?_,O_ _⟩;have hq':=(JQ _).symm.mem hq;rcases pj.1 hq' with h1|h1
 exact a q h1;rw [eb] at h1;rcases pn.1 h1 with rfl|h2
 exact h';exact JH h' (c q h2)
theorem o1 {al bl:List Au} {x y:Au} (hx:al[0]?=some x) (hy:bl[0]?=some y) (ha:Ei al) (hb:Ei bl) (h:B4 y.key x.key=true):srt (al++bl)=y::srt (al++bl.drop 1):=by
 have ea:=PA hx;have eb:=PA hy;have a:=ha;rw [ea] at a;rw [eb] at hb;obtain ⟨c,f⟩:=qr.1 a;obtain ⟨d,g⟩:=qr.1 hb;have hal:∀ q∈al,B4 y.key q.key=true:=by
  intro q hq;rw [ea] at hq;rcases pn.1 hq with rfl|h2
  exact h;exact Ya h (c q h2)
 refine (O9 ?_ ?_).symm;have h1:C_ (al++bl) (y::(al++bl.drop 1)):=by
  refine yT fun k=>?_;rw [eb,xr,List.drop_zero,po,tn,tn,po];by_cases hk:y.key=k;have:al.filter (fun p=>decide (p.key=k))=[]:=tg.2 fun q hq=>by
   have:=hal q hq;rw [hk] at this;simp only [decide_eq_true_eq];intro e;rw [e,K_] at this;cases this
  simp [this,hk];simp [hk]
 exact h1.trans (C_.append (b:=[y]) (C_.refl _) (JQ _));refine qr.2 ⟨fun q hq=>?_,O_ _⟩;have hq':=(JQ _).symm.mem hq;rcases pj.1 hq' with h1|h1
 exact Qv (hal q h1);exact d q h1
theorem Yq {al bl:List Au} (ha:Ei al) (hb:Ei bl) (h:al.length=0∨bl.length=0):srt (al++bl)=al++bl:=by
 rcases h with h|h
 rw [oz h];exact aJ hb;rw [oz h,oy];exact aJ ha
theorem YU {al:List Au} (ha:Ei al) (k:Nat):Ei (al.drop k):=List.Pairwise.sublist (List.drop_sublist k al) ha
def Ds (us:List (Value×List Au)):List Au:=us.flatMap (·.2)
theorem MI {us:List (Value×List Au)} {x:List Au} (hx:us[k]?=some (u,x)):Ds (us.take (k+1))=Ds (us.take k)++x:=by
 unfold Ds;rw [Dd hx,List.flatMap_append];simp
theorem Wn (a b:List (Value×List Au)):Ds (a++b)=Ds a++Ds b:=by simp [Ds]
theorem LQ (us:List (Value×List Au)) (k:Nat):(Ds (us.take k)).length≤(Ds us).length:=by
 have:(Ds us).length=(Ds (us.take k)).length+(Ds (us.drop k)).length:=by rw [←nr,←Wn,qm]
 omega
theorem gN {us:List (Value×List Au)}:(Ds (us.drop k)).length≤(Ds us).length:=by
 have:(Ds us).length=(Ds (us.take k)).length+(Ds (us.drop k)).length:=by rw [←nr,←Wn,qm]
 omega
theorem yF (a b:List Au):srt (srt a++b)=srt (a++b):=yG (C_.append (JQ a).symm (C_.refl b))
theorem CU {xs:List α} {x:α} (h:xs[k]?=some x):x∈xs:=nt h
structure HD where
 A:Option Addr
 n:Nat
 c:Nat
def NY (h:HD):List Value:=[.slice h.A h.n h.c]
def GG:Kd HD:=flat NY 1 (by omega) (fun _=>rfl) (fun _ c h=>by simp [NY] at h;subst h;rfl)
def Id:Value→HD
 |.slice A n c=>⟨A,n,c⟩
 |_=>⟨none,0,0⟩
section
variable {w w0:World} {F F0:BD} {As Rs:List SP} {α:Type} {d:Kd α}
theorem WX:∀ {us:List (Value×List α)} {cs:List Value},BB (Bd d) w F us cs→∀ p∈us,(An d p.1 p.2).P w F
 |[],_,_,p,hp=>by cases hp
 |q::us,_,⟨c,cs',e,h1,h2⟩,p,hp=>by
  cases hp with
  |head=>exact h1.2
  |tail _ hm=>exact WX h2 p hm
end
/-! ### Parts -/
def Ha (key:ByteArray):Nat→Int
 |0=>7
 |k+1=>IntKind.u32.wrap (IntKind.u32.wrap (31*Ha key k)+((key[k]?.getD 0).toNat:Int))
theorem AbD {x:Int}:0≤IntKind.u32.wrap x∧IntKind.u32.wrap x<4294967296:=by
 simp only [IntKind.wrap,IntKind.bits,IntKind.signed];simp;omega
theorem TW (key:ByteArray) (k:Nat):0≤Ha key k∧Ha key k<4294967296:=by
 cases k with
 |zero=>exact ⟨by simp [Ha],by simp [Ha]⟩
 |succ k=>exact AbD
def QN (key:ByteArray) (n:Int):Int:=if n<1 then -1 else Ha key key.size%n
def Ja (xs:List Au) (n p:Int):List Au:=xs.filter fun x=>decide (QN x.key n=p)
theorem rO {xs:List Au} {n p:Int} {x:Au} (hx:xs[k]?=some x) (h:QN x.key n=p):Ja (xs.take (k+1)) n p=Ja (xs.take k) n p++[x]:=by
 unfold Ja;rw [Dd hx,po];simp [h]
theorem rM {xs:List Au} {n p:Int} {x:Au} (hx:xs[k]?=some x) (h:¬ QN x.key n=p):Ja (xs.take (k+1)) n p=Ja (xs.take k) n p:=by
 unfold Ja;rw [Dd hx,po];simp [h]
theorem YR (xs:List Au) (n p:Int):(Ja xs n p).length≤xs.length:=ql ..
theorem qZ {key:ByteArray} {b:UInt8} (hb:key[k]?=some b):Ha key (k+1)=IntKind.u32.wrap (IntKind.u32.wrap (31*Ha key k)+(b.toNat:Int)):=by
 rw [Ha,hb];rfl
theorem AbF (b:UInt8):IntKind.u32.wrap (b.toNat:Int)=(b.toNat:Int):=by
 have:=UInt8.toNat_lt b;simp only [IntKind.wrap,IntKind.bits,IntKind.signed];simp;omega
theorem Vq {xs:List Cr} (h:xs.length≤40):Fa xs<0↔∀ p∈xs,Cz p xs.length:=by
 have e:xs.take 40=xs:=oe h;have h2:=N4 (GV xs.length) xs;unfold Fa;rw [e];constructor;intro hb p hp;apply qq;intro hg;have h3:xs.any (GV xs.length)=true:=sj.2 ⟨p,hp,by simp [GV,hg]⟩;rw [h3] at h2;rw [if_pos (of_decide_eq_true h2)] at hb;have:=of_decide_eq_true h2;omega;intro hg;have h3:xs.any (GV xs.length)=false:=rz.2 (fun p hp=>by simp [GV,hg p hp]);rw [h3] at h2;rw [if_neg (of_decide_eq_false h2),if_neg (by omega)];omega
theorem JR {Q:α→Prop} {xs:List α} {x:α} (hn:∀ y∈xs.take k,Q y) (hx:xs[k]?=some x) (h:Q x):∀ y∈xs.take (k+1),Q y:=by
 intro y hy;rw [qu,hx] at hy;rcases pj.1 hy with hy|hy
 exact hn y hy;obtain rfl:y=x:=by simpa using hy
 exact h
structure Ao where
 kind:Int
 part:Int
 sp:Int
 att:Int
 why:Int
 sv:Value
 set:List Int
 pv:Value
 pairs:List Au
def J9 (r:Ao):List Value:=[.int .i64 r.kind,.int .i64 r.part,.int .i64 r.sp,.int .i64 r.att,.int .i64 r.why,r.sv,r.pv]
def BE:Kd Ao where
 sz:=7
 O w F x cs:=cs=J9 x∧∃ F1 F2:BD,(∀ k,F1 k→F k)∧(∀ k,F2 k→F k)∧(∀ k,F1 k→¬ F2 k)∧(CO (Av .i64)).O w F1 x.set [x.sv]∧(CO Ak).O w F2 x.pairs [x.pv]
 R w F x cs:=cs=J9 x∧(CO (Av .i64)).R w F x.set [x.sv]∧(CO Ak).R w F x.pairs [x.pv]
 O_loc:=fun ⟨e,F1,F2,s1,s2,dj,h1,h2⟩ hk=>⟨e,F1,F2,s1,s2,dj,(CO _).O_loc h1 (fun k x=>hk k (s1 k x)),(CO _).O_loc h2 (fun k x=>hk k (s2 k x))⟩
 O_mono:=fun ⟨e,F1,F2,s1,s2,dj,h1,h2⟩ hk=>⟨e,F1,F2,fun k x=>hk k (s1 k x),fun k x=>hk k (s2 k x),dj,h1,h2⟩
 R_loc:=fun ⟨e,h1,h2⟩ hk=>⟨e,(CO _).R_loc h1 hk,(CO _).R_loc h2 hk⟩
 R_mono:=fun ⟨e,h1,h2⟩ hk=>⟨e,(CO _).R_mono h1 hk,(CO _).R_mono h2 hk⟩
 O_R:=fun ⟨e,F1,F2,s1,s2,dj,h1,h2⟩=>⟨e,(CO _).R_mono ((CO _).O_R h1) s1,(CO _).R_mono ((CO _).O_R h2) s2⟩
 len h:=by rw [h.1];rfl
 one:=fun ⟨e,h1,h2⟩ c hc=>by
  have g1:=(CO _).one h1
  have g2:=(CO _).one h2
  subst e
  simp only [J9,pn,qx,or_false] at hc
  rcases hc with rfl|rfl|rfl|rfl|rfl|rfl|rfl
  ·rfl
  ·rfl
  ·rfl
  ·rfl
  ·rfl
  ·exact g1 _ (od ..)
  ·exact g2 _ (od ..)
 pos:=by omega
structure F9 where
 kind:Int
 part:Int
 sp:Int
 att:Int
 why:Int
 hs:HD
 hp:HD
def Hr (r:F9):List Value:=[.int .i64 r.kind,.int .i64 r.part,.int .i64 r.sp,.int .i64 r.att,.int .i64 r.why,.slice r.hs.A r.hs.n r.hs.c,.slice r.hp.A r.hp.n r.hp.c]
def FM:Kd F9:=flat Hr 7 (by omega) (fun _=>rfl) (fun _ c h=>by
 simp only [Hr,pn,qx,or_false] at h
 rcases h with rfl|rfl|rfl|rfl|rfl|rfl|rfl<;>rfl)
def EV (r:Ao):F9:=⟨r.kind,r.part,r.sp,r.att,r.why,Id r.sv,Id r.pv⟩
section
variable {w w0:World} {F F0:BD} {As Rs:List SP} {A:Option Addr} {m c:Nat}
theorem Q6 {us:List Ao} (h:(An BE (V A m c) us).P w F) {i:Nat} {x:Ao} (hx:us[i]?=some x):
  Ia A∧(∀ q u,(J9 x)[q]?=some u→w.cell? ⟨E_ A,Bl A+i*7+q,none⟩=some u)∧(An (Av .i64) x.sv x.set).P w F∧(An Ak x.pv x.pairs).P w F:=by
 obtain ⟨b,off,cs,e,hl,hc,h1,h2,h3⟩:=OY h hx;subst h1 e;exact ⟨U,hc,h2,h3⟩
theorem Ku {us:List Ao} (h:(An BE (V A m c) us).P w F) {i:Nat} {a a2 a3 a4 a5:Int} {sv pv:Value} {set:List Int} {pairs:List Au} (hx:us[i]?=some ⟨a,a2,a3,a4,a5,sv,set,pv,pairs⟩):(An (Av .i64) sv set).P w F:=(Q6 h hx).2.2.1
theorem OU {us:List Ao} (h:(An BE (V A m c) us).P w F) {i:Nat} {a a2 a3 a4 a5:Int} {sv pv:Value} {set:List Int} {pairs:List Au} (hx:us[i]?=some ⟨a,a2,a3,a4,a5,sv,set,pv,pairs⟩):(An Ak pv pairs).P w F:=(Q6 h hx).2.2.2
theorem Hd.thRr {us:List Ao} (H:Hd w0 F0 w As Rs) (j:Nat) (hj:Rs[j]?=some (An BE (V A m c) us)) {i:Nat} {x:Ao} (hx:us[i]?=some x):Ia A:=H.factR (nt hj) fun _ h=>(Q6 h hx).1
theorem Hd.nestRr {us:List Ao} (H:Hd w0 F0 w As Rs) (j:Nat) (hj:Rs[j]?=some (An BE (V A m c) us)) {i:Nat} {d a2 a3 a4 a5:Int} {sv pv:Value} {set:List Int} {pairs:List Au} (hx:us[i]?=some ⟨d,a2,a3,a4,a5,sv,set,pv,pairs⟩):
  ∃ a c1 b c2,sv=V a set.length c1∧pv=V b pairs.length c2∧set.length≤c1∧c1≤9223372036854775807∧pairs.length≤c2∧c2≤9223372036854775807:=by
 refine H.factR (nt hj) fun _ h=>?_;obtain ⟨a,c1,e1,g1,g2,_⟩:=Fk (Ku h hx);obtain ⟨b,c2,e2,g3,g4,_⟩:=Fk (OU h hx);exact ⟨a,c1,b,c2,e1,e2,g1,g2,g3,g4⟩
theorem ZQ:∀ {us:List Ao} {cs:List Value},BB BE w F us cs→BB FM w F (us.map EV) cs
 |[],_,h=>h
 |x::us,_,⟨c,cs',e,⟨h1,h2,h3⟩,h4⟩=>by
  obtain ⟨a,c1,e1,_⟩:=Fk (d:=Av .i64) (w:=w) (F:=F) h2
  obtain ⟨b,c2,e2,_⟩:=Fk (d:=Ak) (w:=w) (F:=F) h3
  exact ⟨c,cs',e,show c=Hr (EV x) by rw [h1];simp [J9,Hr,EV,Id,e1,e2],ZQ h4⟩
theorem u7 {us:List Ao} (h:(An BE v us).P w F):(An FM v (us.map EV)).P w F:=by
 obtain ⟨A',n',c',e,h1,h2,h3,cs,h4,h5⟩:=h;exact ⟨A',n',c',e,by rw [nu,h1],h2,h3,cs,h4,ZQ h5⟩
theorem Hd.recs {us:List Ao} (H:Hd w0 F0 w As Rs) (j:Nat) (hj:Rs[j]?=some (An BE v us)):∃ fs:List F9,fs.length=us.length∧Hd w0 F0 w As (An FM v fs::Rs):=
 ⟨us.map EV,nu ..,H.addR fun _ h=>u7 (h _ (nt hj))⟩
theorem Hd.elsRr {us:List Ao} (H:Hd w0 F0 w As Rs) (j:Nat) (hj:Rs[j]?=some (An BE (V A m c) us)) {i:Nat} {x:Ao} (hx:us[i]?=some x) {p:Nat} (hpj:Bl A+i*7=p):∀ q v,(J9 x)[q]?=some v→w.cell? ((⟨E_ A,p,none⟩:Addr).add q)=some v:=by
 intro q v hq;rw [GE,←hpj];exact H.factR (nt hj) fun F h=>(Q6 h hx).2.1 q v hq
end
section
variable {P:Program} {t:TypeId}
end
/-! ### What records say -/
theorem GY {xs:List α} {x:α} (hx:xs[k]?=some x):xs.drop k=x::xs.drop (k+1):=by
 have hlt:k<xs.length:=by
  rcases pg k xs.length with h|h
  exact h;simp [py h] at hx
 rw [List.drop_eq_getElem_cons hlt];rw [ol hlt] at hx;rw [Option.some.inj hx]
def PX (rs:List Ao) (n:Int):Bool:=decide (¬ ((rs.length:Int)≤n∧∀ r∈rs,r.set.length≤20∧G4 r.pairs 50=false))
theorem LK {s:ByteArray} {i:Nat} {c:UInt8} (h:s[i]?=some c):s.data.toList[i]?=some c:=by
 rw [getElem?_def] at h;split at h;rename_i hi;have e:s[i]=c:=Option.some.inj h;rw [←e,Array.getElem?_toList,ud (show i<s.data.size from hi)];rfl;cases h
theorem LP (c:UInt8) (v:BS):IB c v=!((decide ((c.toNat:Int)=110) && v.t)||(decide ((c.toNat:Int)=98) && !v.t)):=by
 have h:∀ d:UInt8,(c==d)=decide ((c.toNat:Int)=(d.toNat:Int)):=by
  intro d;rw [sw,beq_iff_eq,decide_eq_true_eq];constructor;rintro rfl;rfl;intro h;exact UInt8.toNat_inj.1 (by omega)
 unfold IB;rw [h,h];rfl
theorem PG {ks:List UInt8} {xs:List BS} {i:Nat} {c:UInt8} {x:BS} (hk:ks[i]?=some c) (hx:xs[i]?=some x) (hb:IB c x=true):HP (ks.drop (i+1)) (xs.drop (i+1))=HP (ks.drop i) (xs.drop i):=by
 rw [GY hk,GY hx];simp [HP,hb]
theorem Sp {ks:List UInt8} {xs:List BS} {i:Nat} {c:UInt8} {x:BS} (hk:ks[i]?=some c) (hx:xs[i]?=some x) (hb:IB c x=false):HP (ks.drop i) (xs.drop i)=false:=by
 rw [GY hk,GY hx];simp [HP,hb]
theorem gM {ks:List UInt8} {xs:List BS} {i:Nat} (h:xs.length≤i):HP (ks.drop i) (xs.drop i)=true:=by
 rw [sk h];cases ks.drop i<;>rfl
theorem TR {op:Int} {stk:List BS} (h:stk.length<(B1 op).size):BN op stk=(1,stk,[]):=if_pos h
theorem OB {op:Int} {stk:List BS} (h:¬ stk.length<(B1 op).size) (h2:HP (B1 op).data.toList (stk.drop (stk.length - (B1 op).size))=false):BN op stk=(2,stk,[]):=by
 unfold BN;rw [if_neg h,if_neg (by rw [h2];decide)]
theorem TP {op:Int} {stk:List BS} (h:¬ stk.length<(B1 op).size) (h2:HP (B1 op).data.toList (stk.drop (stk.length - (B1 op).size))=true):BN op stk=(0,stk.take (stk.length - (B1 op).size),stk.drop (stk.length - (B1 op).size)):=by
 unfold BN;rw [if_neg h,if_pos h2]
theorem TQ {op:Int} {stk:List BS} (h:(BN op stk).1=0):(BN op stk).2.2.length=(B1 op).size∧(BN op stk).2.1.length≤stk.length∧(∀ v∈(BN op stk).2.2,v∈stk)∧(∀ v∈(BN op stk).2.1,v∈stk):=by
 by_cases h1:stk.length<(B1 op).size;rw [TR h1] at h;cases h;cases h2:HP (B1 op).data.toList (stk.drop (stk.length - (B1 op).size)) with
 |false=>rw [OB h1 h2] at h;cases h
 |true=>
  rw [TP h1 h2];refine ⟨by simp only [pt];omega,by simp only [oo];omega,fun v hv=>List.mem_of_mem_drop hv,fun v hv=>List.mem_of_mem_take hv⟩
theorem tA {stk vs:List BS} {x:BS} (hx:vs[k]?=some x) (h:Hm x=true):C0 stk vs=(4,stk):=by
 unfold C0;rw [if_pos (sj.2 ⟨x,CU hx,h⟩)]
theorem Vp {vs:List BS} (hn:∀ y∈vs,Hm y=false):¬ vs.any Hm=true:=by
 intro h;obtain ⟨x,h1,h2⟩:=sj.1 h;rw [hn x h1] at h2;cases h2
theorem tC {stk vs:List BS} (hn:∀ y∈vs,Hm y=false) (h:16<stk.length+vs.length):C0 stk vs=(1,stk):=by
 unfold C0;rw [if_neg (Vp hn),if_pos h]
theorem tB {stk vs:List BS} (hn:∀ y∈vs,Hm y=false) (h:¬ 16<stk.length+vs.length):C0 stk vs=(0,stk++vs):=by
 unfold C0;rw [if_neg (Vp hn),if_neg h]
theorem tE {stk vs:List BS} (h:stk.length≤16):(C0 stk vs).2.length≤16:=by
 unfold C0;split;exact h;split;exact h;simp only [nr];omega
theorem dL {v:BS} (h1:v.t=true) (h2:(64:Int)<(v.b.size:Int)):Hm v=true:=by
 unfold Hm;rw [h1,decide_eq_true (by omega)];rfl
theorem Vv {v:BS} (h:v.t=false∨¬ (64:Int)<(v.b.size:Int)):Hm v=false:=by
 unfold Hm;rcases h with h|h
 rw [h];rfl;rw [decide_eq_false (by omega),Bool.and_false]
theorem fT {told:List Au} {k v:ByteArray} (h:(16:Int)<(k.size:Int)):Gb told k v=(4,told):=if_pos (by omega)
theorem fW {told:List Au} {k v:ByteArray} (h:¬ (16:Int)<(k.size:Int)) (h2:40≤told.length):Gb told k v=(5,told):=by
 unfold Gb;rw [if_neg (by omega),if_pos h2]
theorem fU {told:List Au} {k v:ByteArray} (h:¬ (16:Int)<(k.size:Int)) (h2:¬ 40≤told.length):Gb told k v=(0,told++[⟨k,v⟩]):=by
 unfold Gb;rw [if_neg (by omega),if_neg h2]
def Ez {α:Type} (d:Kd α) (v:Value) (xs:List α) (v2:Value) (ys:List α):Prop:=∀ (w:World) (F:BD),(An d v xs).P w F→(An d v2 ys).P w F
theorem Ez.refl (d:Kd α) (v:Value) (xs:List α):Ez d v xs v xs:=fun _ _ h=>h
def I_ (stk:List BS):List ByteArray→Int×List BS×List ByteArray
 |[]=>((C0 stk [EI 0]).1,(C0 stk [EI 0]).2,[])
 |v::vs=>((C0 stk [Hh v,EI 1]).1,(C0 stk [Hh v,EI 1]).2,vs)
theorem qR {stk:List BS} {vals:List ByteArray} {x:ByteArray} (hx:vals[0]?=some x):I_ stk vals=((C0 stk [Hh x,EI 1]).1,(C0 stk [Hh x,EI 1]).2,vals.drop 1):=by
 cases vals with
 |nil=>simp at hx
 |cons y vs=>simp at hx;subst hx;rfl
section
variable {D:B5} {key:ByteArray} {m:VM} {i:Cr} {v:List BS}
theorem Sf (h:(BN i.op m.stk).1≠0):CY D key m i=(m,(BN i.op m.stk).1):=if_pos h
theorem EQ (h:¬ (BN i.op m.stk).1≠0):CY D key m i=Dl D key {m with stk:=(BN i.op m.stk).2.1} i (BN i.op m.stk).2.2:=if_neg h
theorem U4 (h:i.op=0):Dl D key m i v=({m with halted:=true},0):=by unfold Dl;rw [h];rfl
theorem U5 (h:i.op=1):Dl D key m i v=Ep m [EI i.a]:=by unfold Dl;rw [h];rfl
theorem Vd (h:i.op=2):Dl D key m i v=Ep m [Hh i.s]:=by unfold Dl;rw [h];rfl
theorem Vh (h:i.op=3):Dl D key m i v=Ep m [v.getD 0 DU,v.getD 0 DU]:=by unfold Dl;rw [h];rfl
theorem Vi (h:i.op=4):Dl D key m i v=(m,0):=by unfold Dl;rw [h];rfl
theorem Vj (h:i.op=5):Dl D key m i v=Ep m [v.getD 1 DU,v.getD 0 DU]:=by unfold Dl;rw [h];rfl
theorem Vk (h:i.op=6):Dl D key m i v=Ep m [Hh key]:=by unfold Dl;rw [h];rfl
theorem Vl (h:i.op=7):Dl D key m i v=Li m:=by unfold Dl;rw [h];rfl
theorem NT (h:i.op=8∨i.op=9∨i.op=10∨i.op=11):Dl D key m i v=Ep m [Dc i.op (v.getD 0 DU).n (v.getD 1 DU).n]:=by
 unfold Dl;rcases h with h|h|h|h<;>(rw [h];rfl)
theorem U6 (h:i.op=12):Dl D key m i v=Ep m [YP (IP (v.getD 0 DU) (v.getD 1 DU))]:=by unfold Dl;rw [h];rfl
theorem U7 (h:i.op=13):Dl D key m i v=Ep m [Hh ((v.getD 0 DU).b++(v.getD 1 DU).b)]:=by unfold Dl;rw [h];rfl
theorem U8 (h:i.op=14):Dl D key m i v=Ep m [EI (v.getD 0 DU).b.size]:=by unfold Dl;rw [h];rfl
theorem U9 (h:i.op=15):Dl D key m i v=Ep m [EI (IZ (v.getD 0 DU).b (v.getD 1 DU).n)]:=by unfold Dl;rw [h];rfl
theorem U_ (h:i.op=16):Dl D key m i v=Ep m [Hh (KQ (v.getD 0 DU).b (v.getD 1 DU).n (v.getD 2 DU).n)]:=by unfold Dl;rw [h];rfl
theorem Va (h:i.op=17):Dl D key m i v=Ep m [Hh (D.dig (v.getD 0 DU).n)]:=by unfold Dl;rw [h];rfl
theorem Vb (h:i.op=18):Dl D key m i v=Ep m [EI (D.num (v.getD 0 DU).b)]:=by unfold Dl;rw [h];rfl
theorem Vc (h:i.op=19):Dl D key m i v=({m with pos:=i.a},0):=by unfold Dl;rw [h];rfl
theorem RN (h:i.op=20):Dl D key m i v=(if (v.getD 0 DU).n≠0 then {m with pos:=i.a} else m,0):=by unfold Dl;rw [h];rfl
theorem Ve (h:i.op=21):Dl D key m i v=Ep m [m.g i.a.toNat]:=by unfold Dl;rw [h];rfl
theorem Vf (h:i.op=22):Dl D key m i v=({m with g:=O2 m.g i.a.toNat (v.getD 0 DU)},0):=by unfold Dl;rw [h];rfl
theorem Vg (h:i.op=23):Dl D key m i v=({m with told:=(Gb m.told (v.getD 0 DU).b (v.getD 1 DU).b).2},(Gb m.told (v.getD 0 DU).b (v.getD 1 DU).b).1):=by unfold Dl;rw [h];rfl
theorem qJ {op:Int} {stk:List BS} (h:(BN op stk).1≠0):(BN op stk).2.1=stk:=by
 by_cases h1:stk.length<(B1 op).size;rw [TR h1];cases h2:HP (B1 op).data.toList (stk.drop (stk.length - (B1 op).size)) with
 |false=>rw [OB h1 h2]
 |true=>rw [TP h1 h2] at h;exact absurd rfl h
theorem EM {x:BS} (h:v[k]?=some x):v.getD k DU=x:=by rw [qo,h];rfl
theorem YD:Li m=({m with stk:=(I_ m.stk m.vals).2.1,vals:=(I_ m.stk m.vals).2.2},(I_ m.stk m.vals).1):=by
 unfold Li;split;rename_i h;rw [h];cases m;simp only at h;subst h;rfl;rename_i x xs h;rw [h];rfl
end
structure GT (n:Int) (m:VM):Prop where
 ok:(∀ v∈m.stk,HF v)∧∀ k,HF (m.g k)
 len:m.stk.length≤16
 told:m.told.length≤40
 pos:0≤m.pos∧m.pos≤n
theorem tF {stk vs:List BS} (h:(C0 stk vs).1=0):(C0 stk vs).2=stk++vs∧∀ v∈vs,Hm v=false:=by
 unfold C0 at h ⊢;split at h;cases h;rename_i h1;rw [if_neg h1];split at h;cases h;rename_i h2;rw [if_neg h2];refine ⟨U,fun v hv=>?_⟩;cases hb:Hm v with
 |false=>rfl
 |true=>exact absurd (sj.2 ⟨v,hv,hb⟩) h1
theorem dK {v:BS} (h:Hm v=false) (ht:v.t=true):v.b.size≤64:=by
 unfold Hm at h;rw [ht,Bool.true_and] at h;have:=of_decide_eq_false h;omega
theorem G6 {n:Int} {m:VM} {vs:List BS} (hm:GT n m) (h:(Ep m vs).2=0) (hv:∀ v∈vs,Aw v.n∧(v.t=false→v.b.size≤64)):GT n (Ep m vs).1:=by
 obtain ⟨h1,h2⟩:=tF (stk:=m.stk) h;refine ⟨⟨fun v hv'=>?_,hm.ok.2⟩,?_,hm.told,hm.pos⟩;have a:v∈(C0 m.stk vs).2:=hv';rw [h1] at a;rcases pj.1 a with h3|h3
 exact hm.ok.1 v h3;refine ⟨(hv v h3).1,?_⟩;cases ht:v.t with
 |false=>exact (hv v h3).2 ht
 |true=>exact dK (h2 v h3) ht
 exact tE hm.len
theorem YE:(⟨#[]⟩:ByteArray).size≤64:=by decide
theorem MU:Aw 0:=by unfold Aw;decide
theorem T0:HF DU:=⟨MU,YE⟩
theorem L6 {n:Int} (h:Aw n):∀ v∈[EI n],Aw v.n∧(v.t=false→v.b.size≤64):=by
 intro v hv;rw [pc.1 hv];exact ⟨h,fun _=>YE⟩
theorem Nh (s:ByteArray):∀ v∈[Hh s],Aw v.n∧(v.t=false→v.b.size≤64):=by
 intro v hv;rw [pc.1 hv];exact ⟨MU,fun h=>by cases h⟩
theorem TZ {v:BS} (h:HF v):Aw v.n∧(v.t=false→v.b.size≤64):=⟨h.1,fun _=>h.2⟩
theorem TY {v:List BS} (h:∀ x∈v,HF x) (k:Nat):HF (v.getD k DU):=by
 rw [qo];cases hk:v[k]? with
 |none=>exact T0
 |some x=>exact h x (CU hk)
theorem cS {s:ByteArray} {i:Int}:Aw (IZ s i):=by
 unfold IZ;split;unfold Aw;omega;have:=UInt8.toNat_lt (s[i.toNat]?.getD 0);unfold Aw;omega
theorem jN {D:B5} (hD:∀ s:ByteArray,Aw (D.num s)) {key:ByteArray} {n:Int} {m:VM} {i:Cr} {v:List BS} (hm:GT n m) (hi:Cz i n) (ha:Aw i.a) (hv:∀ x∈v,HF x) (h:(Dl D key m i v).2=0):GT n (Dl D key m i v).1:=by
 have h0:=TY hv 0;have h1:=TY hv 1;have g1:=hi.1;have g2:=hi.2.1;have two:∀ {a b:BS},HF a→HF b→∀ x∈[a,b],Aw x.n∧(x.t=false→x.b.size≤64):=by
  intro a b pa pb x hx;rcases pn.1 hx with rfl|hx
  exact TZ pa;rw [pc.1 hx];exact TZ pb
 have one:∀ {a:BS},HF a→∀ x∈[a],Aw x.n∧(x.t=false→x.b.size≤64):=by
  intro a pa x hx;rw [pc.1 hx];exact TZ pa
 have bit:∀ b:Bool,Aw (if b then 1 else 0):=by intro b;cases b<;>(unfold Aw;decide)
 rcases (show i.op=0∨i.op=1∨i.op=2∨i.op=3∨i.op=4∨i.op=5∨i.op=6∨i.op=7∨(i.op=8∨i.op=9∨i.op=10∨i.op=11)∨i.op=12∨i.op=13∨i.op=14∨i.op=15∨i.op=16∨i.op=17∨i.op=18∨i.op=19∨i.op=20∨i.op=21∨i.op=22∨i.op=23 by omega) with
  e|e|e|e|e|e|e|e|e|e|e|e|e|e|e|e|e|e|e|e|e
 rw [U4 e] at h ⊢;exact ⟨hm.ok,hm.len,hm.told,hm.pos⟩;rw [U5 e] at h ⊢;exact G6 hm h (L6 ha);rw [Vd e] at h ⊢;exact G6 hm h (Nh _);rw [Vh e] at h ⊢;exact G6 hm h (two h0 h0);rw [Vi e] at h ⊢;exact hm;rw [Vj e] at h ⊢;exact G6 hm h (two h1 h0);rw [Vk e] at h ⊢;exact G6 hm h (Nh _);rw [Vl e] at h ⊢;unfold Li at h ⊢;split at h;exact G6 hm h (L6 (by unfold Aw;omega));rename_i x xs hx;have c:GT n {m with vals:=xs}:=⟨hm.ok,hm.len,hm.told,hm.pos⟩;refine G6 c h fun y hy=>?_;rcases pn.1 hy with rfl|hy
 exact Nh x _ (pc.2 U);exact L6 (by unfold Aw;omega) y hy;rw [NT e] at h ⊢;exact G6 hm h (one (rL));rw [U6 e] at h ⊢;exact G6 hm h (L6 (bit _));rw [U7 e] at h ⊢;exact G6 hm h (Nh _);rw [U8 e] at h ⊢;exact G6 hm h (L6 (by have:=h0.2;unfold Aw;omega));rw [U9 e] at h ⊢;exact G6 hm h (L6 (cS));rw [U_ e] at h ⊢;exact G6 hm h (Nh _);rw [Va e] at h ⊢;exact G6 hm h (Nh _);rw [Vb e] at h ⊢;exact G6 hm h (L6 (hD _));rw [Vc e] at h ⊢;have:=hi.2.2.2.2.1 (.inl e);exact ⟨hm.ok,hm.len,hm.told,⟨this.1,this.2.1⟩⟩;rw [RN e] at h ⊢;have:=hi.2.2.2.2.1 (.inr e);split;exact ⟨hm.ok,hm.len,hm.told,⟨this.1,this.2.1⟩⟩;exact hm;rw [Ve e] at h ⊢;exact G6 hm h (one (hm.ok.2 _));rw [Vf e] at h ⊢;refine ⟨⟨hm.ok.1,fun k=>?_⟩,hm.len,hm.told,hm.pos⟩;show HF (if k=i.a.toNat then v.getD 0 DU else m.g k);split;exact h0;exact hm.ok.2 k;rw [Vg e] at h ⊢;refine ⟨hm.ok,hm.len,?_,hm.pos⟩;show (Gb m.told (v.getD 0 DU).b (v.getD 1 DU).b).2.length≤40;have:=hm.told;unfold Gb;split;exact this;split;exact this;simp only [nr,nz,ny];omega
theorem Xe {D:B5} (hD:∀ s:ByteArray,Aw (D.num s)) {key:ByteArray} {n:Int} {m:VM} {i:Cr} (hm:GT n m) (hi:Cz i n) (ha:Aw i.a) (h:(CY D key m i).2=0):GT n (CY D key m i).1:=by
 by_cases hN:(BN i.op m.stk).1≠0;rw [Sf hN] at h;exact absurd h hN;rw [EQ hN] at h ⊢;obtain ⟨d,l2,b,c⟩:=TQ (oq.1 hN);exact jN hD ⟨⟨fun v hv=>hm.ok.1 v (c v hv),hm.ok.2⟩,ot l2 hm.len,hm.told,hm.pos⟩ hi ha (fun x hx=>hm.ok.1 x (b x hx)) h
section
variable {D:B5} {p:List Cr} {key:ByteArray} {m:VM} {i:Cr}
theorem T7 (h:¬ (m.pos<p.length∧m.halted=false)):Eo D p key k m=(m,0):=by
 cases k<;>exact if_neg h
theorem sW (h:m.pos<p.length∧m.halted=false):Eo D p key 0 m=(m,3):=if_pos h
theorem Y1 (h:m.pos<p.length∧m.halted=false) (hi:p[m.pos.toNat]?=some i) (hw:(CY D key {m with pos:=m.pos+1} i).2≠0):Eo D p key (k+1) m=CY D key {m with pos:=m.pos+1} i:=by
 unfold Eo;rw [if_pos h,hi];exact if_pos hw
theorem Y2 (h:m.pos<p.length∧m.halted=false) (hi:p[m.pos.toNat]?=some i) (hw:¬ (CY D key {m with pos:=m.pos+1} i).2≠0):Eo D p key (k+1) m=Eo D p key k (CY D key {m with pos:=m.pos+1} i).1:=by
 conv=>lhs;unfold Eo
 rw [if_pos h,hi];exact if_neg hw
end
theorem jM {n:Nat} {vals:List ByteArray}:GT n (F5 vals) where
 ok:=⟨fun v hv=>(by cases hv),fun _=>T0⟩
 len:=oc _
 told:=oc _
 pos:=⟨sl 0,Int.natCast_nonneg n⟩
theorem oW {xs:List Cr} (h:Fa xs<0):∀ x∈xs,Cz x xs.length:=by
 by_cases hl:xs.length≤40;exact (Vq hl).1 h;exfalso;unfold Fa at h;split at h;omega;rw [if_pos (by omega)] at h;omega
theorem jO {n:Int} {m:VM} (h:GT n m) (hp:m.pos<n):GT n {m with pos:=m.pos+1}:=⟨h.ok,h.len,h.told,⟨by have:=h.pos;show 0≤m.pos+1;omega,by show m.pos+1≤n;omega⟩⟩
def SR (P:Program) (name:String) (Q:Array Value→Prop):SP where
 P w F:=∃ g,P.globalNamed name=some g∧F g∧∃ cs,w.var? P name=some cs∧Q cs
 loc:=fun ⟨g,h1,h2,cs,h3,h4⟩ hk=>⟨g,h1,h2,cs,by
  unfold World.var? at h3 ⊢
  rw [h1] at h3 ⊢
  simp only [wi] at h3 ⊢
  rw [hk g h2]
  exact h3,h4⟩
 mono:=fun ⟨g,h1,h2,h3⟩ hs=>⟨g,h1,hs g h2,h3⟩
def VA (A B:SP):SP where
 P w F:=A.P w F∧B.P w F
 loc:=fun ⟨a,b⟩ hk=>⟨SP.loc _ a hk,SP.loc _ b hk⟩
 mono:=fun ⟨a,b⟩ hs=>⟨SP.mono _ a hs,SP.mono _ b hs⟩
section
variable {w0 w w':World} {F0:BD} {As Rs:List SP}
theorem Hd.after (H:Hd w0 F0 w As Rs) (ub:Dg none_ w w'):Hd w0 F0 w' As Rs:=by
 have h:Hd w0 F0 w' (FW True::As) Rs:=H.new ub (F':=none_) trivial (fun _ h=>h.elim);exact h.drop
theorem UO (h:Go.RowKit.Below w.heap.size w w'):Dg none_ w w':=⟨h.os,h.tape,h.output,h.size,fun k hk _=>h.block k hk⟩
theorem AaD (w:World) (k:Nat) {os:Array Obj}:Dg none_ w (Sort.grow (w.drewN k) os):=⟨rfl,rfl,rfl,by simp [Sort.grow],fun i hi _=>by
 show (w.heap++os)[i]?=_
 rw [vt hi]⟩
end
/-! ### Calls that were put off -/
def RH (P:Program) (f:FuncId) (args:List Value) (As Rs:List SP) (T:Value→List SP→Prop):Prop:=
 ∀ w F u,Hd w F w As Rs→CallsD P f args.toArray u w fun e u' w'=>u'=u∧LI (fun v w'=>∃ Bs,T v Bs∧Hd w F w' Bs Rs) e w'
theorem Wb {P:Program} {n:Nat} {w:World} {f:FuncId} {c:Code} {u:FrameMode} {R:Ending→World→Prop} (hf:P.funcs[f]?=some fn) (hb:fn.body=some c) (hn:fn.ntmps=n) (hl:args.length≤n)
  (h:WC P c (bodyPost P fn R) n (LO 0 args) w):CallsD P f args.toArray u w fun e u' w'=>u'=u∧R e w':=by
 refine callsD_of_wp hf hb (h _ ⟨U,?_,?_⟩);simp only [un,rh,xi,hn];omega;intro s v hs;obtain ⟨_,h2⟩:=Tx _ 0 s v hs;have hlt:s<args.length:=by
  rcases pg s args.length with h'|h'
  exact h';simp [py h'] at h2
 refine ⟨?_,by omega⟩;have h3:args[s]?=some v:=by simpa using h2
 simp [pm,xe,hlt];simpa [ol hlt] using h3
theorem Pv {P:Program} {w:World} {F0:BD} {As Rs Cs Ss:List SP} {f:FuncId} {u:FrameMode} {T:Value→List SP→Prop} (hc:RH P f args Cs Ss T) (H:Hd w0 F0 w (Cs++As) Rs) (hl:HE w As Rs Ss):
  CallsD P f args.toArray u w fun e u' w'=>u'=u∧LI (fun v w'=>∃ Bs,T v Bs∧Hd w0 F0 w' (Bs++As) Rs) e w':=by
 obtain ⟨Fc,h1,h2⟩:=H.frame hl;refine (hc w Fc u h1).mono ?_;rintro e u' w' ⟨hu,v,rfl,Bs,hT,hB⟩;exact ⟨hu,v,U,Bs,hT,h2 w' Bs hB⟩
/-! ### Digits that are made once -/
def Sa (n:Int):ByteArray:=⟨(Lib.itoa n).toArray⟩
def Hp (n:Int) (c t:Nat):SP:=ex fun f:Value=>blk c [.int .u32 1,.int .i32 0,.int .u32 0,.int .u32 1,f,.string (Sa n)] t
def Jc (p:Int×Nat):Int×Value:=(p.1,.pointer (some ⟨p.2,0,none⟩))
def Hq (t:Nat) (kvs:List (Int×Nat)):SP:=Fo (kvs.map fun p=>Hp p.1 p.2 t)
def Px (t b:Nat):SP:=ex fun kvs:List (Int×Nat)=>Fo [Ih b (kvs.map Jc),Hq t kvs]
section
variable {w0 w w':World} {F0:BD} {As Rs:List SP} {t b:Nat}
theorem Hd.ex_out {α:Sort _} {A:α→SP} (H:Hd w0 F0 w (ex A::As) Rs):∃ a,Hd w0 F0 w (A a::As) Rs:=by
 obtain ⟨F,G,⟨F1,F2,h1,h2,h3,⟨a,ha⟩,s⟩,r,d,f,g,u⟩:=H;exact ⟨a,F,G,⟨F1,F2,h1,h2,h3,ha,s⟩,r,d,f,g,u⟩
theorem Hd.ex_in {α:Sort _} {A:α→SP} (a:α) (H:Hd w0 F0 w (A a::As) Rs):Hd w0 F0 w (ex A::As) Rs:=H.turn fun _ h=>⟨a,h⟩
theorem fI (H:Hd w0 F0 w (Px t b::As) Rs):∃ kvs:List (Int×Nat),Hd w0 F0 w (Ih b (kvs.map Jc)::Hq t kvs::As) Rs:=by
 obtain ⟨kvs,h⟩:=H.ex_out;exact ⟨kvs,h.open_ (Bs:=[Ih b (kvs.map Jc),Hq t kvs]) fun F hF=>hF⟩
theorem Sb (kvs:List (Int×Nat)) (H:Hd w0 F0 w (Ih b (kvs.map Jc)::Hq t kvs::As) Rs):Hd w0 F0 w (Px t b::As) Rs:=
 (Hd.shut (Bs:=[Ih b (kvs.map Jc),Hq t kvs]) H fun F hF=>hF).ex_in kvs
theorem eA (H:Hd w0 F0 w As Rs):Hd w0 F0 w (Hq t []::As) Rs:=Hd.shut (Bs:=[]) H fun F hF=>hF
theorem fH {A:SP} (H:Hd w0 F0 w (A::Ih b []::As) Rs):Hd w0 F0 w (A::Px t b::As) Rs:=by
 have h1:Hd w0 F0 w (Ih b []::A::As) Rs:=H.perm (List.Perm.swap _ _ _);have h2:=(eA (t:=t) h1).perm (List.Perm.swap _ _ _);exact (Sb [] h2).perm (List.Perm.swap _ _ _)
theorem yV {A B C:SP} (H:Hd w0 F0 w (A::B::C::As) Rs):Hd w0 F0 w (C::A::B::As) Rs:=H.perm (((List.Perm.swap C B As).cons A).trans (List.Perm.swap C A _))
theorem Vn {n:Int}:∀ {kvs:List (Int×Nat)} {v:Value},GU n (kvs.map Jc)=some v→∃ c,v=zP (some ⟨c,0,none⟩)∧(n,c)∈kvs
 |[],_,h=>by simp [GU] at h
 |p::kvs,v,h=>by
  simp only [pf,GU,Jc] at h
  split at h
  rename_i e
  refine ⟨p.2,(Option.some.inj h).symm,?_⟩
  rw [e]
  exact od ..
  obtain ⟨c,h1,h2⟩:=Vn h
  exact ⟨c,h1,ow _ h2⟩
theorem Vo {n:Int} {v:Value}:∀ {kvs:List (Int×Value)},GU n kvs=none→GU n (kvs++[(n,v)])=some v
 |[],_=>by simp [GU]
 |p::kvs,h=>by
  simp only [wk,GU] at h ⊢
  split at h
  cases h
  rename_i e
  rw [if_neg e]
  exact Vo h
theorem oR (kvs:List (Int×Nat)) (n:Int) (b:Nat):(kvs++[(n,b)]).map Jc=kvs.map Jc++[(n,zP (some ⟨b,0,none⟩))]:=by simp [Jc]
theorem eC {kvs:List (Int×Nat)} {n:Int} {c:Nat} (hm:(n,c)∈kvs) (H:Hd w0 F0 w (Hq t kvs::As) Rs):∃ rest:List (Int×Nat),Hd w0 F0 w (Hp n c t::Hq t rest::As) Rs∧∀ {w1:World} {F1:BD} {w2:World} {Bs Rs':List SP},Hd w1 F1 w2 (Hp n c t::Hq t rest::Bs) Rs'→Hd w1 F1 w2 (Hq t kvs::Bs) Rs':=by
 obtain ⟨s,u,rfl⟩:=List.append_of_mem hm;have hp:((s++(n,c)::u).map fun p=>Hp p.1 p.2 t).Perm (Hp n c t::((s++u).map fun p=>Hp p.1 p.2 t)):=by
  rw [oa,pf,oa];exact List.perm_middle
 refine ⟨s++u,?_,?_⟩;have h1:Hd w0 F0 w (Fo (Hp n c t::((s++u).map fun p=>Hp p.1 p.2 t))::As) Rs:=H.turn fun F hF=>DF.perm hp hF;refine h1.open_ (Bs:=[Hp n c t,Hq t (s++u)]) fun F hF=>?_;obtain ⟨F1,F2,d,a2,a3,a,b⟩:=hF;exact ⟨F1,F2,d,a2,a3,a,F2,none_,fun _ h=>h,fun _ h=>h.elim,fun _ _ h=>h,b,trivial⟩;intro w1 F1 w2 Bs Rs' e;refine Hd.shut (Bs:=[Hp n c t,Hq t (s++u)]) e fun F hF=>?_;obtain ⟨F1,F2,d,a2,a3,a,g,i,f,j,k,b,_⟩:=hF;exact DF.perm hp.symm ⟨F1,F2,d,a2,a3,a,DF.mono b f⟩
theorem eB {kvs:List (Int×Nat)} {n:Int} {c:Nat} (H:Hd w0 F0 w (Hp n c t::Hq t kvs::As) Rs):Hd w0 F0 w (Hq t (kvs++[(n,c)])::As) Rs:=by
 have hp:((kvs++[(n,c)]).map fun p=>Hp p.1 p.2 t).Perm (Hp n c t::(kvs.map fun p=>Hp p.1 p.2 t)):=by
  rw [oa,pf,List.map_nil];exact List.perm_append_singleton ..
 refine Hd.shut (Bs:=[Hp n c t,Hq t kvs]) H fun F hF=>?_;obtain ⟨F1,F2,d,a2,a3,a,f,g,e,h,i,b,_⟩:=hF;exact DF.perm hp.symm ⟨F1,F2,d,a2,a3,a,DF.mono b e⟩
end
section
variable {P:Program} {n:Nat} {l:Cb} {w w0:World} {F0:BD} {o:Oper} {x y:Operand} {t kt et:TypeId} {As Rs:List SP} {b:Nat} {kvs:List (Int×Value)} {v:Value}
theorem QR (ho:o.op=.lookup t x y false) (hm:P.underlying t=some (.map kt et)) (hk:P.underlying kt=some (.int .i64)) {z:Value} (hz:DO P et=some z) (hx:ev l x=some (.map (some b))) {k:Int} (hy:ev l y=some (Y Z k))
  (H:Hd w0 F0 w As Rs) (j:Nat) (hj:As[j]?=some (Ih b kvs)) (hv:(GU k kvs).getD z=v):BT P n l w o v w:=hv▸t7 ho hm hk hz hx hy H j hj
end
theorem fV {told:List Au} {k v:ByteArray} (h:told.length≤40):(Gb told k v).2.length≤40:=by
 unfold Gb;split;exact h;split;exact h;simp only [nr,nz,ny];omega
theorem YC (m:VM):(Li m).1.told=m.told:=by
 rw [YD]
def TL (r:VM×Int):Prop:=r.1.told.length≤40
theorem FK {c:Prop} [Decidable c] {x y:VM×Int} (hx:TL x) (hy:TL y):TL (if c then x else y):=by
 split;exact hx;exact hy
theorem cL {D:B5} {key:ByteArray} {m:VM} {i:Cr} {v:List BS} (h:m.told.length≤40):(Dl D key m i v).1.told.length≤40:=by
 have hn:TL (Li m):=by unfold TL;rw [YC];exact h
 have b:TL (if (v.getD 0 DU).n≠0 then {m with pos:=i.a} else m,0):=by
  unfold TL;dsimp only;split<;>exact h
 exact FK h (FK h (FK h (FK h (FK h (FK h (FK hn (FK h (FK h (FK h (FK h (FK h (FK h (FK h (FK h (FK h (FK b (FK h (FK h (FK (fV h) h)))))))))))))))))))
theorem V4 {D:B5} {key:ByteArray} {m:VM} {i:Cr} (h:m.told.length≤40):(CY D key m i).1.told.length≤40:=by
 unfold CY;split;exact h;exact cL h
theorem Y5 {D:B5} {p:List Cr} {key:ByteArray}:∀ (k:Nat) {m:VM},m.told.length≤40→(Eo D p key k m).1.told.length≤40
 |0,m,h=>by
  unfold Eo
  split<;>exact h
 |k+1,m,h=>by
  unfold Eo
  split
  split
  split
  exact V4 h
  exact Y5 k (V4 h)
  exact h
  exact h
theorem Z1 (D:B5) (p:List Cr) (key:ByteArray) (vals:List ByteArray) (fuel:Int):(CJ D p key vals fuel).1.length≤40:=by
 unfold CJ;split;exact oc _;split;exact oc _;exact Y5 _ (oc _)
def OI (k:ByteArray) (l:List Au):Bool:=l.any fun x=>decide (x.key≠k)
def GZ (D:B5) (p:List Cr) (ps:List Au) (fuel:Int) (own:Bool):List ByteArray→List Au→List Au×Int
 |[],out=>(out,0)
 |k::ks,out=>
  if (CJ D p k (Dt ps k) fuel).2≠0 then ([],(CJ D p k (Dt ps k) fuel).2)
  else if own=true∧OI k (CJ D p k (Dt ps k) fuel).1=true then ([],6)
  else if 40<out.length+(CJ D p k (Dt ps k) fuel).1.length then ([],5)
  else GZ D p ps fuel own ks (out++(CJ D p k (Dt ps k) fuel).1)
def FJ (D:B5) (p:List Cr) (ps:List Au) (fuel:Int) (own:Bool):List Au×Int:=GZ D p ps fuel own (G9 ps) []
def Jz (D:B5) (p:List Cr) (ps:List Au) (fuel:Int):List Au×Int:=if p.length=0 then (srt ps,0) else FJ D p ps fuel true
section
variable {D:B5} {p:List Cr} {ps:List Au} {fuel:Int} {own:Bool} {ks:List ByteArray} {k:ByteArray} {out:List Au} {i:Nat}
theorem iB (h:ks.length≤i):GZ D p ps fuel own (ks.drop i) out=(out,0):=by
 rw [sk h];rfl
theorem iD (hk:ks[i]?=some k) (h:(CJ D p k (Dt ps k) fuel).2≠0):GZ D p ps fuel own (ks.drop i) out=([],(CJ D p k (Dt ps k) fuel).2):=by
 rw [GY hk];exact if_pos h
theorem iC (hk:ks[i]?=some k) (h:¬ (CJ D p k (Dt ps k) fuel).2≠0) (h2:own=true) (h3:OI k (CJ D p k (Dt ps k) fuel).1=true):GZ D p ps fuel own (ks.drop i) out=([],6):=by
 rw [GY hk];unfold GZ;rw [if_neg h,if_pos ⟨h2,h3⟩]
theorem WJ (hk:ks[i]?=some k) (h:¬ (CJ D p k (Dt ps k) fuel).2≠0) (h2:¬ (own=true∧OI k (CJ D p k (Dt ps k) fuel).1=true)) (h3:40<out.length+(CJ D p k (Dt ps k) fuel).1.length):GZ D p ps fuel own (ks.drop i) out=([],5):=by
 rw [GY hk];unfold GZ;rw [if_neg h,if_neg h2,if_pos h3]
theorem WK (hk:ks[i]?=some k) (h:¬ (CJ D p k (Dt ps k) fuel).2≠0) (h2:¬ (own=true∧OI k (CJ D p k (Dt ps k) fuel).1=true)) (h3:¬ 40<out.length+(CJ D p k (Dt ps k) fuel).1.length):
  GZ D p ps fuel own (ks.drop (i+1)) (out++(CJ D p k (Dt ps k) fuel).1)=GZ D p ps fuel own (ks.drop i) out:=by
 rw [GY hk];conv=>rhs;unfold GZ;rw [if_neg h,if_neg h2,if_neg h3]
end
theorem V6 (D:B5) (p:List Cr) (ps:List Au) (fuel:Int) (own:Bool):∀ (ks:List ByteArray) (out:List Au),out.length≤40→(GZ D p ps fuel own ks out).1.length≤40
 |[],out,h=>h
 |k::ks,out,h=>by
  unfold GZ
  split
  exact oc _
  split
  exact oc _
  split
  exact oc _
  exact V6 D p _ _ _ _ _ (by simp only [nr];omega)
def Wk:List Cr:=[⟨6,0,⟨#[]⟩⟩,⟨7,0,⟨#[]⟩⟩,⟨4,0,⟨#[]⟩⟩,⟨23,0,⟨#[]⟩⟩]
theorem jF:∀ i∈Wk,Aw i.a:=by
 intro i hi;simp only [Wk,pn,qx,or_false] at hi;rcases hi with rfl|rfl|rfl|rfl<;>exact MU
theorem jG:∀ i∈[(⟨0,0,⟨#[]⟩⟩:Cr)],Aw i.a:=by
 intro i hi;rw [pc.1 hi];exact MU
/-! ### What is told is small -/
def TS (r:VM×Int):Prop:=∀ q∈r.1.told,D3 q
theorem FL {c:Prop} [Decidable c] {x y:VM×Int} (hx:TS x) (hy:TS y):TS (if c then x else y):=by
 split;exact hx;exact hy
theorem fY {told:List Au} {k v:ByteArray} (h:∀ q∈told,D3 q) (hv:v.size≤64):∀ q∈(Gb told k v).2,D3 q:=by
 unfold Gb;split;exact h;split;exact h;intro q hq;rcases pj.1 hq with h1|h1
 exact h q h1;rw [pc.1 h1];exact ⟨by (try dsimp only);omega,hv⟩
theorem cK {D:B5} {key:ByteArray} {m:VM} {i:Cr} {v:List BS} (h:∀ q∈m.told,D3 q) (hv:(v.getD 1 DU).b.size≤64):TS (Dl D key m i v):=by
 have hn:TS (Li m):=by unfold TS;rw [YC];exact h
 have c:TS (if (v.getD 0 DU).n≠0 then {m with pos:=i.a} else m,0):=by
  unfold TS;dsimp only;split<;>exact h
 exact FL h (FL h (FL h (FL h (FL h (FL h (FL hn (FL h (FL h (FL h (FL h (FL h (FL h (FL h (FL h (FL h (FL c (FL h (FL h (FL (fY h hv) h)))))))))))))))))))
theorem V3 {D:B5} {key:ByteArray} {n:Int} {m:VM} {i:Cr} (hm:GT n m) (h:∀ q∈m.told,D3 q):TS (CY D key m i):=by
 by_cases hN:(BN i.op m.stk).1≠0;rw [Sf hN];exact h;rw [EQ hN];obtain ⟨b,l2,a,c⟩:=TQ (oq.1 hN);exact cK h (TY (fun x hx=>hm.ok.1 x (a x hx)) 1).2
theorem Pr {p:List Cr} (h:Fa p<0):p.length≤40∧∀ i∈p,Cz i p.length:=by
 have hl:p.length≤40:=by
  apply qq;intro hn;unfold Fa at h;split at h;omega;rw [if_pos (by omega)] at h;omega
 exact ⟨hl,(Vq hl).1 h⟩
theorem Y4 {D:B5} (hD:∀ s:ByteArray,Aw (D.num s)) {p:List Cr} {key:ByteArray} (hp:Fa p<0) (ha:∀ i∈p,Aw i.a):∀ (k:Nat) {m:VM},GT p.length m→(∀ q∈m.told,D3 q)→TS (Eo D p key k m)
 |0,m,hm,h=>by
  unfold Eo
  split<;>exact h
 |k+1,m,hm,h=>by
  by_cases hc:m.pos<p.length∧m.halted=false
  obtain ⟨i,hi⟩:∃ i,p[m.pos.toNat]?=some i:=⟨_,ol (by have:=hm.pos;omega)⟩
  have him:=CU hi
  have b:GT p.length {m with pos:=m.pos+1}:=⟨hm.ok,hm.len,hm.told,(by have h9:=hm.pos;constructor<;>(try dsimp only)<;>omega)⟩
  by_cases hw:(CY D key {m with pos:=m.pos+1} i).2≠0
  rw [Y1 hc hi hw]
  exact V3 b h
  rw [Y2 hc hi hw]
  exact Y4 hD hp ha k (Xe hD b ((Pr hp).2 i him) (ha i him) (oq.1 hw)) (V3 b h)
  rw [T7 hc];exact h
theorem jP {n:Int} (hn:0≤n) {vals:List ByteArray}:GT n (F5 vals):=⟨⟨(fun v hv=>by cases hv),fun _=>T0⟩,oc _,oc _,⟨sl 0,hn⟩⟩
theorem Z0 {D:B5} (hD:∀ s:ByteArray,Aw (D.num s)) {p:List Cr} (ha:∀ i∈p,Aw i.a) (key:ByteArray) (vals:List ByteArray) (fuel:Int):∀ q∈(CJ D p key vals fuel).1,D3 q:=by
 unfold CJ;split;intro q hq;cases hq;rename_i hn;split;intro q hq;cases hq;exact Y4 hD (by omega) ha _ (jP (by omega)) (fun q hq=>by cases hq)
theorem yH {xs:List Au} (h:∀ q∈xs,D3 q):∀ q∈srt xs,D3 q:=fun q hq=>h q ((JQ xs).symm.mem hq)
theorem V5 {D:B5} (hD:∀ s:ByteArray,Aw (D.num s)) {p:List Cr} (ha:∀ i∈p,Aw i.a) {ps:List Au} {fuel:Int} {own:Bool}:∀ (ks:List ByteArray) (out:List Au),(∀ q∈out,D3 q)→∀ q∈(GZ D p ps fuel own ks out).1,D3 q
 |[],out,h=>h
 |k::ks,out,h=>by
  unfold GZ
  split
  intro q hq;cases hq
  split
  intro q hq;cases hq
  split
  intro q hq;cases hq
  refine V5 hD ha _ _ fun q hq=>?_
  rcases pj.1 hq with h1|h1
  exact h q h1
  exact Z0 hD ha _ _ _ q h1
/-! ### In order -/
theorem eU {D:B5} (hD:∀ s:ByteArray,Aw (D.num s)) {p:List Cr} (ha:∀ i∈p,Aw i.a) {ps:List Au} {fuel:Int} (h:∀ q∈ps,D3 q):∀ q∈(Jz D p ps fuel).1,D3 q:=by
 unfold Jz;split;exact yH h;exact V5 hD ha _ _ fun q hq=>by cases hq
theorem eT {D:B5} {p:List Cr} {ps:List Au} {fuel:Int} (h:ps.length≤40):(Jz D p ps fuel).1.length≤40:=by
 unfold Jz;split;show (srt ps).length≤40;rw [JP];exact h;exact V6 D p _ _ _ _ _ (oc _)
/-! ### Jobs -/
structure AS where
 us:List (Value×List Au)
 parts:Int
 map:List Cr
 comb:List Cr
 red:List Cr
 chunk:Int
 window:Int
 fuel:Int
 marks:List Int
def Lk (x:List Au):Prop:=x.length≤8∧Lb x
instance (x:List Au):Decidable (Lk x):=inferInstanceAs (Decidable (_∧_))
def Kl (n:Int):Int→List Int→Prop
 |_,[]=>True
 |l,m::ms=>(l+1≤m∧m≤n)∧Kl n m ms
instance marksUpD (n:Int):∀ (l:Int) (ms:List Int),Decidable (Kl n l ms)
 |_,[]=>isTrue trivial
 |_,m::ms=>haveI:=marksUpD n m ms;inferInstanceAs (Decidable (_∧_))
def Gg (J:AS):Prop:=
 (1≤(J.us.length:Int)∧(J.us.length:Int)≤6)∧(1≤J.parts∧J.parts≤4)∧J.marks.length≤4∧(∀ u∈J.us,Lk u.2)∧Kl J.us.length 0 J.marks∧
 (0<J.map.length∧Fa J.map<0)∧(0<J.red.length∧Fa J.red<0)∧Fa J.comb<0∧(1≤J.chunk∧J.chunk≤7)∧(1≤J.window∧J.window≤4)∧1≤J.fuel∧J.fuel≤2000
instance mayJD (J:AS):Decidable (Gg J):=by unfold Gg;infer_instance
structure Cy (J:AS):Prop where
 may:Gg J
 map:∀ i∈J.map,Aw i.a
 comb:∀ i∈J.comb,Aw i.a
 red:∀ i∈J.red,Aw i.a
theorem Cy.us {J:AS} (h:Cy J):1≤J.us.length∧J.us.length≤6:=by have:=h.may.1;omega
theorem Cy.parts {J:AS} (h:Cy J):1≤J.parts∧J.parts≤4:=h.may.2.1
theorem Cy.fuel {J:AS} (h:Cy J):1≤J.fuel∧J.fuel≤2000:=h.may.2.2.2.2.2.2.2.2.2.2
theorem Cy.split {J:AS} (h:Cy J):∀ u∈J.us,Lk u.2:=h.may.2.2.2.1
theorem Cy.f64 {J:AS} (h:Cy J):Aw J.fuel:=by have:=h.fuel;unfold Aw;omega
def Hx (D:B5) (p:List Cr) (fuel:Int):List Au→List Au→List Au×Int
 |[],out=>(out,0)
 |r::rs,out=>
  if (CJ D p r.key [r.val] fuel).2≠0 then ([],(CJ D p r.key [r.val] fuel).2)
  else if 40<out.length+(CJ D p r.key [r.val] fuel).1.length then ([],5)
  else Hx D p fuel rs (out++(CJ D p r.key [r.val] fuel).1)
section
variable {D:B5} {p:List Cr} {fuel:Int} {rs:List Au} {r:Au} {out:List Au} {i:Nat}
theorem oN (h:rs.length≤i):Hx D p fuel (rs.drop i) out=(out,0):=by
 rw [sk h];rfl
theorem oS (hr:rs[i]?=some r) (h:(CJ D p r.key [r.val] fuel).2≠0):Hx D p fuel (rs.drop i) out=([],(CJ D p r.key [r.val] fuel).2):=by
 rw [GY hr];exact if_pos h
theorem oO (hr:rs[i]?=some r) (h:¬ (CJ D p r.key [r.val] fuel).2≠0) (h3:40<out.length+(CJ D p r.key [r.val] fuel).1.length):Hx D p fuel (rs.drop i) out=([],5):=by
 rw [GY hr];unfold Hx;rw [if_neg h,if_pos h3]
theorem oQ (hr:rs[i]?=some r) (h:¬ (CJ D p r.key [r.val] fuel).2≠0) (h3:¬ 40<out.length+(CJ D p r.key [r.val] fuel).1.length):
  Hx D p fuel (rs.drop (i+1)) (out++(CJ D p r.key [r.val] fuel).1)=Hx D p fuel (rs.drop i) out:=by
 rw [GY hr];conv=>rhs;unfold Hx;rw [if_neg h,if_neg h3]
theorem Yn (hD:∀ s:ByteArray,Aw (D.num s)) (ha:∀ i∈p,Aw i.a):∀ (rs out:List Au),(∀ q∈out,D3 q)→∀ q∈(Hx D p fuel rs out).1,D3 q
 |[],out,h=>h
 |r::rs,out,h=>by
  unfold Hx
  split
  intro q hq;cases hq
  split
  intro q hq;cases hq
  refine Yn hD ha _ _ fun q hq=>?_
  rcases pj.1 hq with h1|h1
  exact h q h1
  exact Z0 hD ha _ _ _ q h1
theorem Ym:∀ (rs out:List Au),out.length≤40→(Hx D p fuel rs out).1.length≤40
 |[],out,h=>h
 |r::rs,out,h=>by
  unfold Hx
  split
  exact oc _
  split
  exact oc _
  exact Ym _ _ (by simp only [nr];omega)
end
def recs (J:AS) (s:Nat):List Au:=match J.us[s]? with
 |some u=>u.2
 |none=>[]
theorem vD {J:AS} {s:Nat} {u:Value×List Au} (h:J.us[s]?=some u):recs J s=u.2:=by unfold recs;rw [h]
def mapM (D:B5) (J:AS) (s:Nat):List Au×Int:=Hx D J.map J.fuel (recs J s) []
def BV (D:B5) (J:AS) (s:Nat):List Au×Int:=if (mapM D J s).2≠0 then ([],(mapM D J s).2) else Jz D J.comb (mapM D J s).1 J.fuel
theorem Yl (D:B5) (J:AS) (s:Nat):(mapM D J s).1.length≤40:=Ym _ _ (oc _)
theorem NA (D:B5) (J:AS) (s:Nat):(BV D J s).1.length≤40:=by
 unfold BV;split;exact oc _;exact eT (Yl _ _ _)
theorem O8 {D:B5} (hD:∀ s:ByteArray,Aw (D.num s)) {J:AS} (h:Cy J) (s:Nat):∀ q∈(BV D J s).1,D3 q:=by
 unfold BV;split;intro q hq;cases hq;exact eU hD h.comb (Yn hD h.map _ _ fun q hq=>by cases hq)
def FS (D:B5) (J:AS) (s:Nat) (p:Int):List Au:=Ja (BV D J s).1 J.parts p
def NU (D:B5) (J:AS) (p:Int):Nat→List Au
 |0=>[]
 |k+1=>NU D J p k++FS D J k p
theorem OG (D:B5) (J:AS) (s:Nat) (p:Int):(FS D J s p).length≤40:=ot (YR _ _ _) (NA _ _ _)
def Nj (D:B5) (J:AS) (p:Int):List Au×Int:=FJ D J.red (srt (NU D J p J.us.length)) J.fuel false
def partsGo (D:B5) (J:AS):Nat→Nat→List (List Au)→List (List Au)×Int×Int
 |0,_,out=>(out,0,0)
 |k+1,p,out=>if (Nj D J p).2≠0 then ([],(Nj D J p).2,p) else partsGo D J k (p+1) (out++[(Nj D J p).1])
def wholeGo (D:B5) (J:AS):Nat→Nat→List (List Au)×Int×Int
 |0,_=>partsGo D J J.parts.toNat 0 []
 |k+1,s=>if (BV D J s).2≠0 then ([],(BV D J s).2,s) else wholeGo D J k (s+1)
def US (D:B5) (J:AS):List (List Au)×Int×Int:=wholeGo D J J.us.length 0
section
variable {D:B5} {J:AS} {s p:Nat} {out:List (List Au)}
end
def Uo (D:B5) (J:AS) (s:Nat) (p:Int):List Au×Int:=if (BV D J s).2≠0 then ([],(BV D J s).2) else (FS D J s p,0)
def Ic (J:AS):Bool:=decide (¬ (J.us.length≤8∧∀ u∈J.us,G4 u.2 10=false))||decide (10<(J.marks.length:Int))||Hv J.map||Hv J.comb||Hv J.red
theorem iH {J:AS} {A:Value} {x:List Au} (hx:J.us[k]?=some (A,x)) (h:G4 x 10=true):true=Ic J:=by
 unfold Ic;rw [decide_eq_true (show ¬ (J.us.length≤8∧∀ u∈J.us,G4 u.2 10=false) from fun g=>by have:=g.2 _ (CU hx);rw [h] at this;cases this)];simp
theorem K0 {J:AS} (h:8<J.us.length∨10<J.marks.length∨Hv J.map=true∨Hv J.comb=true):true=Ic J:=by
 unfold Ic;rcases h with h|h|h|h
 rw [decide_eq_true (show ¬ (J.us.length≤8∧∀ u∈J.us,G4 u.2 10=false) from fun g=>by omega)];simp;rw [decide_eq_true (show 10<(J.marks.length:Int) by omega)];simp;rw [h];simp;rw [h];simp
theorem WO {J:AS} (hn:∀ u∈J.us.take k,G4 u.2 10=false) (h1:J.us.length≤k) (h2:J.us.length≤8) (h3:J.marks.length≤10) (h4:Hv J.map=false) (h5:Hv J.comb=false):Hv J.red=Ic J:=by
 unfold Ic;rw [oe h1] at hn;rw [decide_eq_false (show ¬ ¬ (J.us.length≤8∧∀ u∈J.us,G4 u.2 10=false) from fun g=>g ⟨h2,hn⟩),decide_eq_false (show ¬ 10<(J.marks.length:Int) by omega),h4,h5];simp
theorem Cn.heads0 {d:Kd α} {P:Program} {f:FuncId} {ss:List (List α)} {Rs:List SP} {T:Value→List SP→Prop}
  (h:∀ us:List (Value×List α),us.map (·.2)=ss→Cn P f args [] (An (Bd d) v us::An (CO d) v ss::Rs) T):Cn P f args [] (An (CO d) v ss::Rs) T:=by
 intro w F H;obtain ⟨us,hus,a⟩:=H.heads 0 rfl;refine (h us hus w F a).mono ?_;rintro e W' ⟨v,rfl,Bs,t,H⟩;exact ⟨v,U,Bs,t,H.dropR⟩
theorem rU {P:Program} {t s i c m:TypeId} {a:List (List Au)→Prop} {W2:List Cr→Prop} {b:List Int→Prop}
  (hs:He P t=some [(s,0,1),(i,1,1),(c,2,1),(c,3,1),(c,4,1),(i,5,1),(i,6,1),(i,7,1),(m,8,1)]) (hc:P.cellsOf t=9) (hi:P.underlying i=some (.int .i64))
  (h1:Hk P s (CO (CO Ak)) a) (h2:Hk P c (CO At) W2) (h3:Hk P m (CO (Av .i64)) b)
  {H:Type} (enc:TypeId×Value→H) (w:World) (fuel:Nat) (cs:List Value) (x:DataW H×List MemPlace) (h:DataW.trod enc P w 0 (fun _=>true) true fuel t cs=some x):
  ∃ (vS:Value) (ss:List (List Au)) (n1:Int) (vM:Value) (map:List Cr) (vC:Value) (comb:List Cr) (vR:Value) (red:List Cr) (g j k:Int) (vK:Value) (marks:List Int),
   cs=[vS,n1,vM,vC,vR,g,j,k,vK]∧((An (CO Ak) vS ss).P w (Hj w)∧(An At vM map).P w (Hj w)∧(An At vC comb).P w (Hj w)∧(An At vR red).P w (Hj w)∧(An (Av .i64) vK marks).P w (Hj w))∧
   (a ss∧W2 map∧W2 comb∧W2 red∧b marks)∧(Aw n1∧Aw g∧Aw j∧Aw k):=by
 obtain ⟨hl,n,hf⟩:=L7 hs h;rw [hc] at hl;match cs,hl with
 |[c0,c1,c2,c3,c4,c5,c6,c7,r],_=>
  obtain ⟨J,g0⟩:=hf 0 _ _ _ rfl;obtain ⟨K,g1⟩:=hf 1 _ _ _ rfl;obtain ⟨L,g2⟩:=hf 2 _ _ _ rfl;obtain ⟨M,g3⟩:=hf 3 _ _ _ rfl;obtain ⟨N,g4⟩:=hf 4 _ _ _ rfl;obtain ⟨O,g5⟩:=hf 5 _ _ _ rfl;obtain ⟨Q,g6⟩:=hf 6 _ _ _ rfl;obtain ⟨R,g7⟩:=hf 7 _ _ _ rfl;obtain ⟨S,g8⟩:=hf 8 _ _ _ rfl;obtain ⟨a0,r0,w0⟩:=h1 enc w n _ _ g0;obtain ⟨d,r1,w1⟩:=Fe hi enc w n _ _ g1;obtain ⟨a2,r2,w2⟩:=h2 enc w n _ _ g2;obtain ⟨a3,u,C⟩:=h2 enc w n _ _ g3;obtain ⟨a4,v,D⟩:=h2 enc w n _ _ g4;obtain ⟨a5,y,E⟩:=Fe hi enc w n _ _ g5;obtain ⟨e,z,F⟩:=Fe hi enc w n _ _ g6;obtain ⟨f,A,G⟩:=Fe hi enc w n _ _ g7;obtain ⟨q,B,I⟩:=h3 enc w n _ _ g8;have q1:[c1]=[ph .i64 d]:=r1;have l:[c5]=[ph .i64 a5]:=y;have o:[c6]=[ph .i64 e]:=z;have p:[c7]=[ph .i64 f]:=A;simp only [List.cons.injEq,and_true] at q1 l o p;subst q1 l o p;exact ⟨c0,a0,d,c2,a2,c3,a3,c4,a4,a5,e,f,r,q,U,⟨r0,r2,u,v,B⟩,⟨w0,w2,C,D,I⟩,w1,E,F,G⟩
structure B0 (A B:AS):Prop where
 us:A.us.map (·.2)=B.us.map (·.2)
 rest:A={ B with us:=A.us }
theorem B0.refl (A:AS):B0 A A:=⟨rfl,rfl⟩
theorem B0.symm {A B:AS} (h:B0 A B):B0 B A:=by
 obtain ⟨h1,h2⟩:=h;refine ⟨h1.symm,?_⟩;rw [h2]
theorem B0.trans {A B C:AS} (h:B0 A B) (k:B0 B C):B0 A C:=by
 obtain ⟨h1,h2⟩:=h;obtain ⟨k1,k2⟩:=k;refine ⟨h1.trans k1,?_⟩;rw [h2,k2]
section
variable {A B:AS} (h:B0 A B)
include h
theorem B0.parts:A.parts=B.parts:=by rw [h.rest]
theorem B0.map:A.map=B.map:=by rw [h.rest]
theorem B0.comb:A.comb=B.comb:=by rw [h.rest]
theorem B0.red:A.red=B.red:=by rw [h.rest]
theorem B0.chunk:A.chunk=B.chunk:=by rw [h.rest]
theorem B0.window:A.window=B.window:=by rw [h.rest]
theorem B0.fuel:A.fuel=B.fuel:=by rw [h.rest]
theorem B0.marks:A.marks=B.marks:=by rw [h.rest]
theorem B0.len:A.us.length=B.us.length:=by have:=congrArg List.length h.us;simpa using this
theorem B0.recs (s:Nat):recs A s=recs B s:=by
 have e:∀ J:AS,X.recs J s=((J.us.map (·.2))[s]?).getD []:=by
  intro J;unfold X.recs;rw [om];cases J.us[s]?<;>rfl
 rw [e,e,h.us]
theorem B0.split (D:B5) (s:Nat):BV D A s=BV D B s:=by
 unfold BV mapM;rw [h.recs,h.map,h.comb,h.fuel]
theorem B0.only (D:B5) (s:Nat) (p:Int):FS D A s p=FS D B s p:=by
 unfold FS;rw [h.split,h.parts]
theorem B0.all (D:B5) (p:Int):∀ k,NU D A p k=NU D B p k
 |0=>rfl
 |k+1=>by unfold NU;rw [B0.all D p k,h.only]
theorem B0.part (D:B5) (p:Int):Nj D A p=Nj D B p:=by
 unfold Nj;rw [h.all,h.red,h.fuel,h.len]
theorem B0.run (D:B5) (s:Nat) (p:Int):Uo D A s p=Uo D B s p:=by
 unfold Uo;rw [h.split,h.only]
theorem B0.partsGo (D:B5):∀ k p out,partsGo D A k p out=partsGo D B k p out
 |0,_,_=>rfl
 |k+1,p,out=>by unfold X.partsGo;rw [h.part,B0.partsGo D k]
theorem B0.wholeGo (D:B5):∀ k s,wholeGo D A k s=wholeGo D B k s
 |0,_=>by unfold X.wholeGo;rw [h.partsGo,h.parts]
 |k+1,s=>by unfold X.wholeGo;rw [h.split,B0.wholeGo D k]
theorem B0.whole (D:B5):US D A=US D B:=by
 unfold US;rw [h.wholeGo,h.len]
theorem B0.may (m:Gg A):Gg B:=by
 obtain ⟨m1,m2,m3,m4,m5,m6,m7,m8,m9,m10,m11⟩:=m;have hs:∀ u∈B.us,Lk u.2:=by
  intro u hu;have:u.2∈B.us.map (·.2):=List.mem_map_of_mem hu;rw [←h.us] at this;obtain ⟨v,hv,e⟩:=List.mem_map.1 this;rw [←e];exact m4 v hv
 rw [h.len,h.marks] at m5;rw [h.parts] at m2;rw [h.marks] at m3;rw [h.map] at m6;rw [h.red] at m7;rw [h.comb] at m8;rw [h.chunk] at m9;rw [h.window] at m10;rw [h.fuel] at m11;exact ⟨by rw [←h.len];exact m1,m2,m3,hs,m5,m6,m7,m8,m9,m10,m11⟩
theorem B0.ok (k:Cy A):Cy B:=⟨h.may k.may,by have:=k.map;rwa [h.map] at this,by have:=k.comb;rwa [h.comb] at this,by have:=k.red;rwa [h.red] at this⟩
end
theorem Cy.chunk1 {J:AS} (h:Cy J):1≤J.chunk∧J.chunk≤7:=h.may.2.2.2.2.2.2.2.2.1
theorem Cy.window1 {J:AS} (h:Cy J):1≤J.window∧J.window≤4:=h.may.2.2.2.2.2.2.2.2.2.1
structure Cf where
 J:AS
 w:Int
 t:Int
 o:Int
def CD (C:Cf):Prop:=Gg C.J∧(1≤C.w∧C.w≤4)∧(1≤C.t∧C.t≤3)∧1≤C.o∧C.o≤50
instance mayCD (C:Cf):Decidable (CD C):=by unfold CD;infer_instance
structure E9 (A B:Cf):Prop where
 J:B0 A.J B.J
 w:A.w=B.w
 t:A.t=B.t
 o:A.o=B.o
theorem E9.refl (A:Cf):E9 A A:=⟨B0.refl _,rfl,rfl,rfl⟩
theorem E9.symm {A B:Cf} (h:E9 A B):E9 B A:=⟨h.J.symm,h.w.symm,h.t.symm,h.o.symm⟩
theorem E9.trans {A B C:Cf} (h:E9 A B) (k:E9 B C):E9 A C:=⟨h.J.trans k.J,h.w.trans k.w,h.t.trans k.t,h.o.trans k.o⟩
structure Mw (C:Cf):Prop where
 may:CD C
 ok:Cy C.J
theorem E9.may {A B:Cf} (h:E9 A B) (m:CD A):CD B:=⟨h.J.may m.1,by rw [←h.w];exact m.2.1,by rw [←h.t];exact m.2.2.1,by rw [←h.o];exact m.2.2.2⟩
theorem Mw.w {C:Cf} (h:Mw C):1≤C.w∧C.w≤4:=h.may.2.1
theorem Mw.t {C:Cf} (h:Mw C):1≤C.t∧C.t≤3:=h.may.2.2.1
theorem Mw.o {C:Cf} (h:Mw C):1≤C.o∧C.o≤50:=h.may.2.2.2
def Fs (C:Cf) (p:Int):Int:=if ¬ CD C∨¬ (0≤p∧p≤C.J.parts - 1) then 0 else 1+p.tmod C.w
/-! ### Records and messages in plain words -/
structure Bp where
 kind:Int
 part:Int
 sp:Int
 att:Int
 why:Int
 set:List Int
 pairs:List Au
def Ao.p (r:Ao):Bp:=⟨r.kind,r.part,r.sp,r.att,r.why,r.set,r.pairs⟩
structure Bu where
 kind:Int
 sp:Int
 att:Int
 part:Int
 seq:Int
 next:Int
 ep:Int
 why:Int
 set:List Int
 pairs:List Au
def OA:Bu:=⟨0,0,0,0,0,0,0,0,[],[]⟩
def IY (c n:Int):Int:=min (max n 0) c
def JY (c e x ep n:Int):Bool:=decide (max e 1≤ep∧¬ (ep=e∧IY c n≤x))
def My (c e x ep n:Int):Int:=if JY c e x ep n=true then ep else e
def Mz (c e x ep n:Int):Int:=if JY c e x ep n=true then IY c n else x
theorem RM {c e x ep n:Int} (h:max e 1≤ep∧¬ (ep=e∧IY c n≤x)):JY c e x ep n=true∧My c e x ep n=ep∧Mz c e x ep n=IY c n:=by
 have hb:JY c e x ep n=true:=decide_eq_true h;exact ⟨hb,if_pos hb,if_pos hb⟩
theorem RL {c e x ep n:Int} (h:¬ (max e 1≤ep∧¬ (ep=e∧IY c n≤x))):JY c e x ep n=false∧My c e x ep n=e∧Mz c e x ep n=x:=by
 have hb:JY c e x ep n=false:=decide_eq_false h;exact ⟨hb,if_neg (by rw [hb];decide),if_neg (by rw [hb];decide)⟩
theorem cJ {c e x ep n:Int} (hc:0≤c) (hx:0≤x∧x≤c) (he:0≤e) (h1:e≤9223372036854775807) (h2:Aw ep):
  (0≤Mz c e x ep n∧Mz c e x ep n≤c)∧0≤My c e x ep n∧My c e x ep n≤9223372036854775807:=by
 unfold Aw at h2;by_cases h:max e 1≤ep∧¬ (ep=e∧IY c n≤x);obtain ⟨_,a,b⟩:=RM h;rw [a,b];unfold IY at *;omega;obtain ⟨_,a,b⟩:=RL h;rw [a,b];omega
def LA (x:Int) (k:Nat):List Int:=(qa k).map fun (i:Nat)=>x+(i:Int)
theorem bN (x:Int) (k:Nat):(LA x k).length=k:=by simp [LA]
theorem AaC (x:Int) (k:Nat):LA x (k+1)=LA x k++[x+(k:Int)]:=by simp [LA,List.range_succ]
def GK (c s x:Int):List Int:=LA x (min s (c - x)).toNat
theorem rP (c s x:Int):(GK c s x).length=(min s (c - x)).toNat:=bN _ _
end Go.Proofs.YthhajcnbjiiclaaGreatDoor.X
