/- MapperScript: texts XA, XW, XO, XS, XP, XQ, XR, XK, XN, XC, XSy, XD, XD2, XMin, XMap, XMap2, XF, XL, XL3, XU, joined by a program of ours; what nothing names is left out. -/
import Derived.Tactics
import Derived.Deep.Quiet
import Derived.Below
import Derived.WalkKit
import Derived.ChangeArms
import Derived.ChangeOld
import Derived.Laws.LoneSync
import Derived.OrdersHeld
import Derived.MapKept
import Derived.Maps.RangeRun
import Derived.Test.YthgehekecfpikaaGreatDoorProg
import Derived.KernelRfl
import Derived.Sort.Row
import Derived.Sort.Grow
import Derived.Sort.EncStr
import Derived.Lib.SlicesCompact
set_option linter.unusedVariables false
set_option linter.unusedSimpArgs false
set_option maxHeartbeats 8000000
namespace Go.Proofs.YthgehekecfpikaaGreatDoor.X
open Go
theorem U.{u} {α:Sort u} {a:α}:a=a:=rfl
abbrev AV:=Nat→Prop
def none_:AV:=fun _=>False
structure Cb (S:AV) (w w':World):Prop where
 os:w'.os=w.os
 tape:w'.tape=w.tape
 output:w'.output=w.output
 size:w.heap.size≤w'.heap.size
 block:∀ k,k<w.heap.size→¬ S k→w'.heap[k]?=w.heap[k]?
theorem Cb.refl (S:AV) (w:World):Cb S w w:=⟨rfl,rfl,rfl,Nat.le_refl _,fun _ _ _=>rfl⟩
theorem Cb.trans {S S1:AV} {a b c:World} (h:Cb S a b) (k:Cb S1 b c) (hs:∀ i,i<a.heap.size→S1 i→S i):Cb S a c:=
 ⟨k.os.trans h.os,k.tape.trans h.tape,k.output.trans h.output,Nat.le_trans h.size k.size,
  fun i hi hn=>(k.block i (Nat.lt_of_lt_of_le hi h.size) (fun x=>hn (hs i hi x))).trans (h.block i hi hn)⟩
theorem Cb.below {w w':World} (h:Cb none_ w w'):Go.RowKit.Below w.heap.size w w':=
 ⟨h.os,h.tape,h.output,h.size,fun k hk=>h.block k hk id⟩
theorem Cb.drewN (S:AV) (w:World) (n:Nat):Cb S w (w.drewN n):=⟨rfl,rfl,rfl,Nat.le_refl _,fun _ _ _=>rfl⟩
theorem Cb.alloc (S:AV) (w:World) (o:Obj):Cb S w (w.alloc o):=
 ⟨rfl,rfl,rfl,by simp,fun k hk _=>Go.RowKit.Below.heap_alloc w o k hk⟩
theorem Cb.setCell {S:AV} (w:World) (a:Addr) (v:Value) (h:S a.block):Cb S w (w.setCell a v):=
 ⟨rfl,rfl,rfl,by simp,fun k _ hn=>Go.RowKit.Below.heap_setCell w a v k (fun e=>hn (e▸h))⟩
structure SP where
 P:World→AV→Prop
 loc:∀ {w w':World} {F:AV},P w F→(∀ k,F k→w'.heap[k]?=w.heap[k]?)→P w' F
 mono:∀ {w:World} {F F':AV},P w F→(∀ k,F k→F' k)→P w F'
def Cj:List SP→World→AV→Prop
 |[],_,_=>True
 |A::As,w,F=>∃ F1 F2:AV,(∀ k,F1 k→F k)∧(∀ k,F2 k→F k)∧(∀ k,F1 k→¬ F2 k)∧A.P w F1∧Cj As w F2
theorem Cj.loc:∀ {As:List SP} {w w':World} {F:AV},Cj As w F→(∀ k,F k→w'.heap[k]?=w.heap[k]?)→Cj As w' F
 |[],_,_,_,_,_=>trivial
 |_::_,_,_,_,⟨F1,F2,h1,h2,h3,a,s⟩,h=>⟨F1,F2,h1,h2,h3,SP.loc _ a (fun k hk=>h k (h1 k hk)),Cj.loc s (fun k hk=>h k (h2 k hk))⟩
theorem Cj.mono:∀ {As:List SP} {w:World} {F F':AV},Cj As w F→(∀ k,F k→F' k)→Cj As w F'
 |[],_,_,_,_,_=>trivial
 |_::_,_,_,_,⟨F1,F2,h1,h2,h3,a,s⟩,h=>⟨F1,F2,fun k hk=>h k (h1 k hk),fun k hk=>h k (h2 k hk),h3,a,s⟩
theorem Cj.append_out:∀ {As Bs:List SP} {w:World} {F:AV},Cj (As++Bs) w F→
  ∃ F1 F2:AV,(∀ k,F1 k→F k)∧(∀ k,F2 k→F k)∧(∀ k,F1 k→¬ F2 k)∧Cj As w F1∧Cj Bs w F2
 |[],_,_,F,h=>⟨none_,F,fun _ h=>h.elim,fun _ h=>h,fun _ h=>h.elim,trivial,h⟩
 |_::As,Bs,w,F,⟨F1,F2,h1,h2,h3,a,s⟩=>by
  obtain ⟨G1,G2,g1,g2,g3,sa,sb⟩:=Cj.append_out (As:=As) (Bs:=Bs) s
  refine ⟨fun k=>F1 k∨G1 k,G2,fun k hk=>hk.elim (h1 k) (fun x=>h2 k (g1 k x)),fun k hk=>h2 k (g2 k hk),?_,⟨F1,G1,fun _=>.inl,fun _=>.inr,fun k a b=>h3 k a (g1 k b),a,sa⟩,sb⟩
  intro k hk hg
  exact hk.elim (fun x=>h3 k x (g2 k hg)) (fun x=>g3 k x hg)
theorem Cj.append_in:∀ {As Bs:List SP} {w:World} {F F1 F2:AV},(∀ k,F1 k→F k)→(∀ k,F2 k→F k)→(∀ k,F1 k→¬ F2 k)→Cj As w F1→Cj Bs w F2→Cj (As++Bs) w F
 |[],_,_,_,_,_,_,h2,_,_,b=>Cj.mono b h2
 |_::As,Bs,_,F,F1,F2,h1,h2,h3,⟨G1,G2,g1,g2,g3,a,s⟩,b=>by
  refine ⟨G1,fun k=>G2 k∨F2 k,fun k hk=>h1 k (g1 k hk),fun k hk=>hk.elim (fun x=>h1 k (g2 k x)) (h2 k),?_,a,
   Cj.append_in (fun _=>.inl) (fun _=>.inr) (fun k x y=>h3 k (g2 k x) y) s b⟩
  intro k hk hg
  exact hg.elim (fun x=>g3 k hk x) (fun x=>h3 k (g1 k hk) x)
theorem Cj.perm {As Bs:List SP} (p:As.Perm Bs):∀ {w:World} {F:AV},Cj As w F→Cj Bs w F:=by
 induction p with
 |nil=>exact fun h=>h
 |cons x _ ih=>exact fun ⟨F1,F2,h1,h2,h3,a,s⟩=>⟨F1,F2,h1,h2,h3,a,ih s⟩
 |swap x y l=>
  rintro w F ⟨F1,F2,h1,h2,h3,a,G1,G2,g1,g2,g3,b,s⟩
  refine ⟨G1,fun k=>F1 k∨G2 k,fun k hk=>h2 k (g1 k hk),fun k hk=>hk.elim (h1 k) (fun x=>h2 k (g2 k x)),?_,b,F1,G2,fun _=>.inl,fun _=>.inr,fun k x y=>h3 k x (g2 k y),a,s⟩
  intro k hk hg
  exact hg.elim (fun x=>h3 k x (g1 k hk)) (fun x=>g3 k hk x)
 |trans _ _ ih1 ih2=>exact fun h=>ih2 (ih1 h)
theorem Cj.mem:∀ {As:List SP} {w:World} {F:AV} {A:SP},Cj As w F→A∈As→A.P w F
 |_::_,_,_,_,⟨_,_,h1,h2,_,a,s⟩,h=>by
  cases h with
  |head=>exact SP.mono _ a h1
  |tail _ hm=>exact SP.mono _ (Cj.mem s hm) h2
def Hd (w0:World) (F0:AV) (w:World) (As Rs:List SP):Prop:=
 ∃ F G:AV,Cj As w F∧(∀ R∈Rs,R.P w G)∧(∀ k,F k→¬ G k)∧(∀ k,F k→k<w.heap.size∧(F0 k∨w0.heap.size≤k))∧(∀ k,G k→k<w.heap.size)∧Cb F0 w0 w
section
variable {w0 w:World} {F0:AV} {As Bs Rs:List SP} {A B R:SP}
theorem Hd.upd (h:Hd w0 F0 w As Rs):Cb F0 w0 w:=by obtain ⟨_,_,_,_,_,_,_,u⟩:=h;exact u
theorem Hd.perm (p:As.Perm Bs) (h:Hd w0 F0 w As Rs):Hd w0 F0 w Bs Rs:=by
 obtain ⟨F,G,s,r,d,f,g,u⟩:=h
 exact ⟨F,G,s.perm p,r,d,f,g,u⟩
theorem Hd.subR {Ss:List SP} (h:Hd w0 F0 w As Rs) (hs:∀ R∈Ss,R∈Rs):Hd w0 F0 w As Ss:=by
 obtain ⟨F,G,s,r,d,f,g,u⟩:=h
 exact ⟨F,G,s,fun R hR=>r R (hs R hR),d,f,g,u⟩
theorem Hd.drop (h:Hd w0 F0 w (A::As) Rs):Hd w0 F0 w As Rs:=by
 obtain ⟨F,G,⟨F1,F2,h1,h2,h3,a,s⟩,r,d,f,g,u⟩:=h
 exact ⟨F2,G,s,r,fun k hk=>d k (h2 k hk),fun k hk=>f k (h2 k hk),g,u⟩
theorem Hd.nil (h:Hd w0 F0 w As Rs):Hd w0 F0 w [] Rs:=by
 obtain ⟨F,G,s,r,d,f,g,u⟩:=h
 exact ⟨F,G,trivial,r,d,f,g,u⟩
theorem Hd.turn (h:Hd w0 F0 w (A::As) Rs) (hab:∀ F,A.P w F→B.P w F):Hd w0 F0 w (B::As) Rs:=by
 obtain ⟨F,G,⟨F1,F2,h1,h2,h3,a,s⟩,r,d,f,g,u⟩:=h
 exact ⟨F,G,⟨F1,F2,h1,h2,h3,hab _ a,s⟩,r,d,f,g,u⟩
theorem Hd.turn2 {C:SP} (h:Hd w0 F0 w (A::B::As) Rs) (hab:∀ F1 F2,(∀ k,F1 k→¬ F2 k)→A.P w F1→B.P w F2→C.P w (fun k=>F1 k∨F2 k)):Hd w0 F0 w (C::As) Rs:=by
 obtain ⟨F,G,⟨F1,F2,h1,h2,h3,a,G1,G2,g1,g2,g3,b,s⟩,r,d,f,g,u⟩:=h
 refine ⟨F,G,⟨fun k=>F1 k∨G1 k,G2,fun k hk=>hk.elim (h1 k) (fun x=>h2 k (g1 k x)),fun k hk=>h2 k (g2 k hk),?_,hab F1 G1 (fun k x y=>h3 k x (g1 k y)) a b,s⟩,r,d,f,g,u⟩
 intro k hk hg
 exact hk.elim (fun x=>h3 k x (g2 k hg)) (fun x=>g3 k x hg)
theorem Hd.open_ (h:Hd w0 F0 w (A::As) Rs) (hab:∀ F,A.P w F→Cj Bs w F):Hd w0 F0 w (Bs++As) Rs:=by
 obtain ⟨F,G,⟨F1,F2,h1,h2,h3,a,s⟩,r,d,f,g,u⟩:=h
 exact ⟨F,G,Cj.append_in h1 h2 h3 (hab _ a) s,r,d,f,g,u⟩
theorem Hd.shut (h:Hd w0 F0 w (Bs++As) Rs) (hab:∀ F,Cj Bs w F→A.P w F):Hd w0 F0 w (A::As) Rs:=by
 obtain ⟨F,G,s,r,d,f,g,u⟩:=h
 obtain ⟨F1,F2,h1,h2,h3,sa,sb⟩:=s.append_out
 exact ⟨F,G,⟨F1,F2,h1,h2,h3,hab _ sa,sb⟩,r,d,f,g,u⟩
theorem Hd.lend (h:Hd w0 F0 w (A::As) Rs) (hab:∀ F,A.P w F→R.P w F):Hd w0 F0 w As (R::Rs):=by
 obtain ⟨F,G,⟨F1,F2,h1,h2,h3,a,s⟩,r,d,f,g,u⟩:=h
 refine ⟨F2,fun k=>F1 k∨G k,s,?_,?_,fun k hk=>f k (h2 k hk),?_,u⟩
 ·intro R' hR
  cases hR with
  |head=>exact SP.mono _ (hab _ a) (fun _=>.inl)
  |tail _ hm=>exact SP.mono _ (r R' hm) (fun _=>.inr)
 ·intro k hk hg
  exact hg.elim (fun x=>h3 k x hk) (fun x=>d k (h2 k hk) x)
 ·intro k hk
  exact hk.elim (fun x=>(f k (h1 k x)).1) (g k)
theorem Hd.addR (h:Hd w0 F0 w As Rs) (hab:∀ G,(∀ R∈Rs,R.P w G)→R.P w G):Hd w0 F0 w As (R::Rs):=by
 obtain ⟨F,G,s,r,d,f,g,u⟩:=h
 refine ⟨F,G,s,?_,d,f,g,u⟩
 intro R' hR
 cases hR with
 |head=>exact hab G r
 |tail _ hm=>exact r R' hm
theorem Hd.read {p:Prop} (h:Hd w0 F0 w As Rs) (hA:∀ F,(∀ A∈As,A.P w F)→(∀ R∈Rs,R.P w F)→p):p:=by
 obtain ⟨F,G,s,r,d,f,g,u⟩:=h
 exact hA (fun k=>F k∨G k) (fun A hm=>SP.mono _ (s.mem hm) (fun _=>.inl)) (fun R hm=>SP.mono _ (r R hm) (fun _=>.inr))
theorem Hd.fact {p:Prop} (h:Hd w0 F0 w As Rs) (hm:A∈As) (hA:∀ F,A.P w F→p):p:=h.read fun F a _=>hA F (a A hm)
theorem Hd.factR {p:Prop} (h:Hd w0 F0 w As Rs) (hm:R∈Rs) (hA:∀ F,R.P w F→p):p:=h.read fun F _ r=>hA F (r R hm)
theorem Hd.drewN (h:Hd w0 F0 w As Rs) (n:Nat):Hd w0 F0 (w.drewN n) As Rs:=by
 obtain ⟨F,G,s,r,d,f,g,u⟩:=h
 exact ⟨F,G,s.loc (fun _ _=>rfl),fun R hR=>SP.loc _ (r R hR) (fun _ _=>rfl),d,f,g,u.trans (Cb.drewN none_ w n) (fun _ _ x=>x.elim)⟩
theorem Hd.frame {Cs Ss:List SP} (h:Hd w0 F0 w (Cs++As) Rs) (hS:∀ S∈Ss,∀ F,(∀ A∈As,A.P w F)→(∀ R∈Rs,R.P w F)→S.P w F):
  ∃ Fc,Hd w Fc w Cs Ss∧∀ w' Cs',Hd w Fc w' Cs' Ss→Hd w0 F0 w' (Cs'++As) Rs:=by
 obtain ⟨F,G,s,r,d,f,g,u⟩:=h
 obtain ⟨F1,F2,h1,h2,h3,sc,sa⟩:=s.append_out
 refine ⟨F1,⟨F1,fun k=>F2 k∨G k,sc,?_,?_,fun k hk=>⟨(f k (h1 k hk)).1,.inl hk⟩,?_,Cb.refl _ _⟩,?_⟩
 ·intro S hm
  exact hS S hm _ (fun A ha=>SP.mono _ (sa.mem ha) (fun _=>.inl)) (fun R hr=>SP.mono _ (r R hr) (fun _=>.inr))
 ·intro k hk hg
  exact hg.elim (h3 k hk) (d k (h1 k hk))
 ·intro k hk
  exact hk.elim (fun x=>(f k (h2 k x)).1) (g k)
 ·rintro w' Cs' ⟨F',G',s',_,_,f',_,u'⟩
  refine ⟨fun k=>F' k∨F2 k,G,Cj.append_in (fun _=>.inl) (fun _=>.inr) ?_ s' (sa.loc ?_),?_,?_,?_,?_,?_⟩
  ·intro k hk hg
   have hlt:=(f k (h2 k hg)).1
   exact (f' k hk).2.elim (fun x=>h3 k x hg) (fun x=>by omega)
  ·intro k hk
   exact u'.block k (f k (h2 k hk)).1 (fun x=>h3 k x hk)
  ·intro R hm
   exact SP.loc _ (r R hm) (fun k hk=>u'.block k (g k hk) (fun x=>d k (h1 k x) hk))
  ·intro k hk hg
   refine hk.elim (fun x=>?_) (fun x=>d k (h2 k x) hg)
   have hlt:=g k hg
   exact (f' k x).2.elim (fun y=>d k (h1 k y) hg) (fun y=>by omega)
  ·intro k hk
   refine hk.elim (fun x=>⟨(f' k x).1,?_⟩) (fun x=>⟨Nat.lt_of_lt_of_le (f k (h2 k x)).1 u'.size,(f k (h2 k x)).2⟩)
   exact (f' k x).2.elim (fun y=>(f k (h1 k y)).2) (fun y=>.inr (Nat.le_trans u.size y))
  ·intro k hk
   exact Nat.lt_of_lt_of_le (g k hk) u'.size
  ·exact u.trans u' (fun i hi x=>(f i (h1 i x)).2.elim id (fun y=>by omega))
end
def blk (b:Nat) (cs:List Value) (t:TypeId):SP where
 P w F:=F b∧w.heap[b]?=some (.cells cs.toArray t (0,0))
 loc h hk:=⟨h.1,(hk b h.1).trans h.2⟩
 mono h hs:=⟨hs b h.1,h.2⟩
def CH (p:Prop):SP where
 P _ _:=p
 loc h _:=h
 mono h _:=h
def Cz (As:List SP):SP where
 P:=Cj As
 loc:=Cj.loc
 mono:=Cj.mono
def ex {α:Sort _} (A:α→SP):SP where
 P w F:=∃ a,(A a).P w F
 loc h hk:=h.elim fun a ha=>⟨a,SP.loc _ ha hk⟩
 mono h hs:=h.elim fun a ha=>⟨a,SP.mono _ ha hs⟩
section
variable {w0 w:World} {F0:AV} {As Rs:List SP} {b:Nat} {cs:List Value} {t:TypeId}
theorem Lh {F:AV} (h:(blk b cs t).P w F) {i:Nat} {v:Value} (hv:cs[i]?=some v):w.cell? ⟨b,i,none⟩=some v:=by
 simp [World.cell?,h.2,hv]
theorem NM {F:AV} (h:(blk b cs t).P w F) (i:Nat):w.frozen? ⟨b,i,none⟩=false:=by
 simp [World.frozen?,h.2]
theorem Lj {F:AV} (h:(blk b cs t).P w F) (i:Nat) (v:Value):(blk b (cs.set i v) t).P (w.setCell ⟨b,i,none⟩ v) F:=by
 refine ⟨h.1,?_⟩
 have h2:=h.2
 simp only [World.setCell,Array.getElem?_modify,↓reduceIte,h2,Option.map_some]
 simp
theorem Hd.cell (h:Hd w0 F0 w As Rs) (hm:blk b cs t∈As) {i:Nat} {v:Value} (hv:cs[i]?=some v):w.cell? ⟨b,i,none⟩=some v:=h.fact hm fun _ x=>Lh x hv
theorem Hd.cellR (h:Hd w0 F0 w As Rs) (hm:blk b cs t∈Rs) {i:Nat} {v:Value} (hv:cs[i]?=some v):w.cell? ⟨b,i,none⟩=some v:=h.factR hm fun _ x=>Lh x hv
theorem Hd.free (h:Hd w0 F0 w As Rs) (hm:blk b cs t∈As) (i:Nat):w.frozen? ⟨b,i,none⟩=false:=h.fact hm fun _ x=>NM x i
theorem Hd.write {A B:SP} {w':World} (h:Hd w0 F0 w (A::As) Rs) (hab:∀ F,A.P w F→B.P w' F∧Cb F w w'):Hd w0 F0 w' (B::As) Rs:=by
 obtain ⟨F,G,⟨F1,F2,h1,h2,h3,a,s⟩,r,d,f,g,u⟩:=h
 obtain ⟨hb,ub⟩:=hab _ a
 refine ⟨F,G,⟨F1,F2,h1,h2,h3,hb,s.loc ?_⟩,?_,d,?_,?_,?_⟩
 ·exact fun k hk=>ub.block k (f k (h2 k hk)).1 (fun x=>h3 k x hk)
 ·exact fun R hm=>SP.loc _ (r R hm) (fun k hk=>ub.block k (g k hk) (fun x=>d k (h1 k x) hk))
 ·exact fun k hk=>⟨Nat.lt_of_lt_of_le (f k hk).1 ub.size,(f k hk).2⟩
 ·exact fun k hk=>Nat.lt_of_lt_of_le (g k hk) ub.size
 ·exact u.trans ub (fun i hi x=>(f i (h1 i x)).2.elim id (fun y=>by omega))
theorem Hd.grow {A B:SP} {w':World} (h:Hd w0 F0 w (A::As) Rs) (hab:∀ F,A.P w F→(∀ k,F k→k<w.heap.size)→∃ F',B.P w' F'∧Cb F w w'∧∀ k,F' k→k<w'.heap.size∧(F k∨w.heap.size≤k)):Hd w0 F0 w' (B::As) Rs:=by
 obtain ⟨F,G,⟨F1,F2,h1,h2,h3,a,s⟩,r,d,f,g,u⟩:=h
 obtain ⟨F',hb,ub,hF'⟩:=hab _ a (fun k hk=>(f k (h1 k hk)).1)
 refine ⟨fun k=>F' k∨F2 k,G,⟨F',F2,fun _=>.inl,fun _=>.inr,?_,hb,s.loc ?_⟩,?_,?_,?_,?_,?_⟩
 ·intro k hk hg
  have:=(f k (h2 k hg)).1
  exact (hF' k hk).2.elim (fun x=>h3 k x hg) (fun x=>by omega)
 ·exact fun k hk=>ub.block k (f k (h2 k hk)).1 (fun x=>h3 k x hk)
 ·exact fun R hm=>SP.loc _ (r R hm) (fun k hk=>ub.block k (g k hk) (fun x=>d k (h1 k x) hk))
 ·intro k hk hg
  have:=g k hg
  exact hk.elim (fun x=>(hF' k x).2.elim (fun y=>d k (h1 k y) hg) (fun y=>by omega)) (fun x=>d k (h2 k x) hg)
 ·intro k hk
  have:=u.size
  refine hk.elim (fun x=>⟨(hF' k x).1,?_⟩) (fun x=>⟨Nat.lt_of_lt_of_le (f k (h2 k x)).1 ub.size,(f k (h2 k x)).2⟩)
  exact (hF' k x).2.elim (fun y=>(f k (h1 k y)).2) (fun y=>.inr (by omega))
 ·exact fun k hk=>Nat.lt_of_lt_of_le (g k hk) ub.size
 ·exact u.trans ub (fun i hi x=>(f i (h1 i x)).2.elim id (fun y=>by omega))
theorem Hd.new {B:SP} {w':World} (h:Hd w0 F0 w As Rs) (ub:Cb none_ w w') {F':AV} (hb:B.P w' F') (hF':∀ k,F' k→k<w'.heap.size∧w.heap.size≤k):Hd w0 F0 w' (B::As) Rs:=by
 obtain ⟨F,G,s,r,d,f,g,u⟩:=h
 have h':Hd w0 F0 w (CH True::As) Rs:=⟨F,G,⟨none_,F,fun _ x=>x.elim,fun _ x=>x,fun _ x=>x.elim,trivial,s⟩,r,d,f,g,u⟩
 exact h'.grow fun F1 _ _=>⟨F',hb,⟨ub.os,ub.tape,ub.output,ub.size,fun k hk _=>ub.block k hk id⟩,fun k hk=>⟨(hF' k hk).1,.inr (hF' k hk).2⟩⟩
theorem Hd.alloc (h:Hd w0 F0 w As Rs) (cs:List Value) (t:TypeId):Hd w0 F0 (w.alloc (.cells cs.toArray t)) (blk w.heap.size cs t::As) Rs:=by
 refine h.new (Cb.alloc _ _ _) (F':=fun k=>k=w.heap.size) ⟨rfl,?_⟩ ?_
 ·show (w.heap.push _)[w.heap.size]?=_
  simp
 ·intro k hk
  subst hk
  simp
theorem Hd.store (h:Hd w0 F0 w (blk b cs t::As) Rs) (i:Nat) (v:Value):Hd w0 F0 (w.setCell ⟨b,i,none⟩ v) (blk b (cs.set i v) t::As) Rs:=
 h.write fun _ hb=>⟨Lj hb i v,Cb.setCell _ _ _ hb.1⟩
theorem Hd.le (h:Hd w0 F0 w As Rs):w0.heap.size≤w.heap.size:=h.upd.size
end
theorem Hd.begin {w:World} {As Rs:List SP} {F G:AV} (s:Cj As w F) (r:∀ R∈Rs,R.P w G) (d:∀ k,F k→¬ G k) (f:∀ k,F k→k<w.heap.size) (g:∀ k,G k→k<w.heap.size):Hd w F w As Rs:=
 ⟨F,G,s,r,d,fun k hk=>⟨f k hk,.inl hk⟩,g,Cb.refl _ _⟩
abbrev BA:=List (Nat×Value)
def lk:BA→Nat→Option Value
 |[],_=>none
 |(k,v)::l,s=>match Nat.decEq k s with |.isTrue _=>some v|.isFalse _=>lk l s
def ev (l:BA):Operand→Option Value
 |.tmp t=>lk l t
 |.const v=>some v
 |.global g=>some (.pointer (some ⟨g,0,none⟩))
 |.func f=>some (.func (.func f) #[] #[])
def Cp (l:BA):Option Tmp→Value→BA
 |some d,v=>(d,v)::l
 |none,_=>l
def CB (n:Nat):Option Tmp→Bool
 |some d=>Nat.ble (d+1) n
 |none=>true
structure Cq (n:Nat) (l:BA) (a:Act):Prop where
 defers:a.defers=[]
 size:a.tmps.size=n
 get:∀ s v,lk l s=some v→a.tmps.getD s undef=v∧s<n
theorem Cq.eval {n:Nat} {l:BA} {a:Act} (h:Cq n l a) {x:Operand} {v:Value} (hx:ev l x=some v):a.eval x=v:=by
 cases x with
 |tmp t=>exact (h.get t v hx).1
 |const c=>exact Option.some.inj hx
 |global g=>exact Option.some.inj hx
 |func f=>exact Option.some.inj hx
theorem Cq.put {n:Nat} {l:BA} {a:Act} (h:Cq n l a) (d:Option Tmp) (v:Value) (hd:CB n d=true):Cq n (Cp l d v) (a.put d v):=by
 cases d with
 |none=>exact h
 |some d=>
  have hd':d<n:=by simp only [CB] at hd;exact Nat.le_of_ble_eq_true hd
  refine ⟨h.defers,by simp [Act.put,h.size],fun s u hs=>?_⟩
  simp only [Cp,lk] at hs
  split at hs
  ·rename_i e _
   obtain rfl:v=u:=by simpa using hs
   subst e
   exact ⟨by simp [Act.put,h.size,hd'],hd'⟩
  ·rename_i e _
   obtain ⟨g,hn⟩:=h.get s u hs
   refine ⟨?_,hn⟩
   simp only [Act.put,Array.getD_eq_getD_getElem?] at *
   rw [Array.getElem?_setIfInBounds_ne (by omega)]
   exact g
theorem Cq.sub {n:Nat} {l l':BA} {a:Act} (h:Cq n l a) (hs:∀ s v,lk l' s=some v→lk l s=some v):Cq n l' a:=
 ⟨h.defers,h.size,fun s v x=>h.get s v (hs s v x)⟩
def Ht (l:BA):BA→Prop
 |[]=>True
 |(s,v)::l'=>lk l s=some v∧Ht l l'
theorem Ht.out {l:BA}:∀ {l':BA},Ht l l'→∀ s v,lk l' s=some v→lk l s=some v
 |[],_,s,v,h=>by simp [lk] at h
 |(k,u)::l',⟨h1,h2⟩,s,v,h=>by
  simp only [lk] at h
  split at h
  ·rename_i e _
   obtain rfl:u=v:=by simpa using h
   exact e▸h1
  ·exact h2.out s v h
/-! ### A list of operations -/
def WL (P:Program) (ops:Array Oper) (Q:Exit→Act→World→Prop) (rest:List Oper) (n:Nat) (l:BA) (w:World):Prop:=∀ a,Cq n l a→wpList P ops Q rest a w
def WC (P:Program) (c:Code) (Q:Exit→Act→World→Prop) (n:Nat) (l:BA) (w:World):Prop:=∀ a,Cq n l a→c.wp P Q a w
def WQ (Q:Exit→Act→World→Prop) (e:Exit) (n:Nat) (l:BA) (w:World):Prop:=∀ a,Cq n l a→Q e a w
def gd (ops:Array Oper) (l:BA) (o:Oper):Option Bool:=
 match o.guard with
 |none=>some true
 |some (j,want)=>
  match (ops[j]?).bind (·.dst) with
  |none=>some false
  |some d=>
   match lk l d with
   |some (.bool b)=>some (b==want)
   |some _=>some false
   |none=>none
theorem EH {n:Nat} {ops:Array Oper} {l:BA} {o:Oper} {a:Act} {b:Bool} (h:Cq n l a) (hg:gd ops l o=some b):Region.wanted o (yielded ops a.tmps)=b:=by
 unfold gd at hg
 unfold Region.wanted
 split at hg
 ·rename_i e
  simp only [e]
  simpa using hg
 ·rename_i j want e
  simp only [e]
  unfold yielded
  split at hg
  ·rename_i e1
   simp only [e1,Option.bind_none]
   cases b<;>cases want<;>simp_all
  ·rename_i d e1
   have key:∀ v,lk l d=some v→a.tmps[d]?=some v:=by
    intro v hv
    obtain ⟨g,hn⟩:=h.get d v hv
    have hlt:d<a.tmps.size:=by rw [h.size];exact hn
    rw [Array.getElem?_eq_getElem hlt]
    simp [Array.getD,hlt] at g
    rw [g]
   simp only [e1,Option.bind_some]
   split at hg
   ·rename_i b' e2
    simp only [key _ e2]
    have hg':(b'==want)=b:=by simpa using hg
    subst hg'
    cases b'<;>cases want<;>rfl
   ·rename_i v hv e2
    simp only [key _ e2]
    have hg':false=b:=by simpa using hg
    subst hg'
    cases v<;>simp_all
   ·simp at hg
section
variable {P:Program} {ops:Array Oper} {Q:Exit→Act→World→Prop} {rest:List Oper} {n:Nat} {l:BA} {w w':World} {o:Oper} {v:Value}
def Bw (P:Program) (n:Nat) (l:BA) (w:World) (o:Oper) (v:Value) (w':World):Prop:=∀ a,Cq n l a→(execOp a.eval o).run P w=.ok (.value v) w'
theorem V (hg:gd ops l o=some true) (hd:CB n o.dst=true) (hr:Bw P n l w o v w') (h:WL P ops Q rest n (Cp l o.dst v) w'):WL P ops Q (o::rest) n l w:=by
 intro a ha
 refine wpList_step fun K hK=>?_
 rw [if_pos (EH ha hg)]
 unfold Oper.wp
 rw [hr a ha]
 exact hK _ _ (h _ (ha.put _ _ hd))
theorem RL (hg:gd ops l o=some true) (hd:o.dst=none) (hr:∀ a,Cq n l a→(execOp a.eval o).run P w=.ok .skip w') (h:WL P ops Q rest n l w'):WL P ops Q (o::rest) n l w:=by
 intro a ha
 refine wpList_step fun K hK=>?_
 rw [if_pos (EH ha hg)]
 unfold Oper.wp
 rw [hr a ha]
 refine hK _ _ ?_
 rw [hd]
 exact h _ ha
theorem Zq (hg:gd ops l o=some false) (hd:CB n o.dst=true) (h:WL P ops Q rest n (Cp l o.dst undef) w):WL P ops Q (o::rest) n l w:=by
 intro a ha
 refine wpList_step fun K hK=>?_
 rw [if_neg (by rw [EH ha hg];simp)]
 exact hK _ _ (h _ (ha.put _ _ hd))
theorem Aa (h:WQ Q .normal n l w):WL P ops Q [] n l w:=h
def Hv (T:Value→World→Prop):Ending→World→Prop:=fun e w'=>∃ v,e=.returned v∧T v w'
def Ij (P:Program) (n:Nat) (l:BA) (w:World) (o:Oper) (f:FuncId) (args:Array Value):Prop:=∀ a,Cq n l a→(execOp a.eval o).run P w=.ok (.enter f args) w
theorem Zk {f:FuncId} {args:Array Value} {T:Value→World→Prop} (hg:gd ops l o=some true) (hd:CB n o.dst=true) (hr:Ij P n l w o f args)
  (hc:Calls P f args w (Hv T)) (h:∀ v w',T v w'→WL P ops Q rest n (Cp l o.dst v) w'):WL P ops Q (o::rest) n l w:=by
 intro a ha
 refine wpList_step fun K hK=>?_
 rw [if_pos (EH ha hg)]
 unfold Oper.wp
 rw [hr a ha]
 refine hc.mono ?_
 rintro e w' ⟨v,rfl,hT⟩
 exact hK _ _ (h v w' hT _ (ha.put _ _ hd))
/-! ### Code -/
theorem Z {x y:Code} (h:WC P x (Exit.then (y.wp P Q) Q) n l w):WC P (.seq x y) Q n l w:=fun a ha=>wp_seq (h a ha)
theorem Ac {id:Nat} {os:List Oper} (h:WL P os.toArray Q os n l w):WC P (.region id os.toArray false) Q n l w:=fun a ha=>wp_region_lit (h a ha)
theorem Av (h:WQ Q .normal n l w):WC P .skip Q n l w:=fun a ha=>wp_skip (h a ha)
theorem Bj {id:Nat} (h:WQ Q (.exit id) n l w):WC P (.exit id) Q n l w:=fun a ha=>wp_exit (h a ha)
theorem Ai (h:WQ Q .ret n l w):WC P .ret Q n l w:=fun a ha=>wp_ret (h a ha)
theorem AK {id:Nat} {c:Code} (h:WC P c (Exit.inBlock id Q) n l w):WC P (.block id c) Q n l w:=fun a ha=>wp_block (h a ha)
theorem DJ {c:Operand} {x y:Code} {b:Bool} (hc:ev l c=some (.bool b)) (ht:b=true→WC P x Q n l w) (hf:b=false→WC P y Q n l w):WC P (.cond c x y) Q n l w:=
 fun a ha=>wp_cond_split (ha.eval hc) (fun e=>ht e a ha) (fun e=>hf e a ha)
theorem Aq {c:Operand} {x y:Code} {p:Prop} {_:Decidable p} (hc:ev l c=some (.bool (decide p))) (ht:p→WC P x Q n l w) (hf:¬ p→WC P y Q n l w):WC P (.cond c x y) Q n l w:=
 DJ hc (fun e=>ht (of_decide_eq_true e)) (fun e=>hf (of_decide_eq_false e))
theorem BM {c:Operand} {x y:Code} (hc:ev l c=some (.bool true)) (h:WC P x Q n l w):WC P (.cond c x y) Q n l w:=fun a ha=>wp_cond_true (ha.eval hc) (h a ha)
theorem B0 {c:Operand} {x y:Code} (hc:ev l c=some (.bool false)) (h:WC P y Q n l w):WC P (.cond c x y) Q n l w:=fun a ha=>wp_cond_false (ha.eval hc) (h a ha)
theorem AD {d:Nat} {p:Prop} {_:Decidable p} (hc:lk l d=some (.bool (decide p))) (ht:p→WL P ops Q rest n ((d,.bool true)::l) w) (hf:¬ p→WL P ops Q rest n ((d,.bool false)::l) w):WL P ops Q rest n l w:=by
 intro a ha
 by_cases hp:p
 ·refine ht hp a ⟨ha.defers,ha.size,fun s v hs=>?_⟩
  simp only [lk] at hs
  split at hs
  ·rename_i e _
   obtain rfl:Value.bool true=v:=by simpa using hs
   subst e
   have:=ha.get _ _ hc
   simpa [hp] using this
  ·exact ha.get _ _ hs
 ·refine hf hp a ⟨ha.defers,ha.size,fun s v hs=>?_⟩
  simp only [lk] at hs
  split at hs
  ·rename_i e _
   obtain rfl:Value.bool false=v:=by simpa using hs
   subst e
   have:=ha.get _ _ hc
   simpa [hp] using this
  ·exact ha.get _ _ hs
theorem Y {y:Code} (h:WC P y Q n l w):WQ (Exit.then (y.wp P Q) Q) .normal n l w:=h
theorem Ao {K:Act→World→Prop} (h:WQ Q .ret n l w):WQ (Exit.then K Q) .ret n l w:=h
theorem AE {K:Act→World→Prop} {id:Nat} (h:WQ Q (.exit id) n l w):WQ (Exit.then K Q) (.exit id) n l w:=h
theorem AS {id:Nat} (h:WQ Q .normal n l w):WQ (Exit.inBlock id Q) .normal n l w:=h
theorem Ax {id:Nat} (h:WQ Q .ret n l w):WQ (Exit.inBlock id Q) .ret n l w:=h
theorem Bk {id:Nat} (h:WQ Q .normal n l w):WQ (Exit.inBlock id Q) (.exit id) n l w:=fun a ha=>by simp only [Exit.inBlock,if_true];exact h a ha
theorem X6 {id id':Nat} (hne:id'≠id) (h:WQ Q (.exit id') n l w):WQ (Exit.inBlock id Q) (.exit id') n l w:=fun a ha=>by simp only [Exit.inBlock,if_neg hne];exact h a ha
theorem Br {σ:Type} {c:Code} (L:σ→BA) (I:σ→World→Prop) (μ:σ→Nat) (s0:σ) (h0:Ht l (L s0)) (hI:I s0 w)
  (round:∀ s w,I s w→WC P c (Exit.then (fun a' w'=>∃ s',Cq n (L s') a'∧I s' w'∧μ s'<μ s) Q) n (L s) w):WC P (.loop c) Q n l w:=by
 intro a ha
 refine wp_loop (fun a w=>∃ s,Cq n (L s) a∧I s w) (fun a w=>?_) ?_ ?_ (c:=c)
 ·exact Classical.epsilon fun m=>∃ s,Cq n (L s) a∧I s w∧μ s=m∧∀ s',Cq n (L s') a→I s' w→m≤μ s'
 ·exact ⟨s0,ha.sub h0.out,hI⟩
 ·have key:∀ a w,(∃ s,Cq n (L s) a∧I s w)→∃ m,∃ s,Cq n (L s) a∧I s w∧μ s=m∧∀ s',Cq n (L s') a→I s' w→m≤μ s':=by
   intro a w ⟨s,hf,hi⟩
   have:∀ k,∀ s,Cq n (L s) a→I s w→μ s=k→∃ m,∃ s,Cq n (L s) a∧I s w∧μ s=m∧∀ s',Cq n (L s') a→I s' w→m≤μ s':=by
    intro k
    induction k using Nat.strongRecOn with
    |_ k ih=>
     intro s hf hi hk
     by_cases hall:∀ s',Cq n (L s') a→I s' w→μ s≤μ s'
     ·exact ⟨_,s,hf,hi,rfl,hall⟩
     ·have ⟨s',h'⟩:=Classical.not_forall.1 hall
      have ⟨hf',h''⟩:=Classical.not_imp.1 h'
      have ⟨hi',hlt⟩:=Classical.not_imp.1 h''
      exact ih (μ s') (by omega) s' hf' hi' U
   exact this _ s hf hi U
  rintro a w ⟨s,hf,hi⟩
  obtain ⟨s1,hf1,hi1,hm1,hmin1⟩:=Classical.epsilon_spec (key a w ⟨s,hf,hi⟩)
  refine Code.wp_mono ?_ (round s1 w hi1 a hf1)
  intro e a' w' hq
  cases e<;>try exact hq
  obtain ⟨s',hf',hi',hlt⟩:=hq
  refine ⟨⟨s',hf',hi'⟩,?_⟩
  obtain ⟨_,_,_,_,hmin2⟩:=Classical.epsilon_spec (key a' w' ⟨s',hf',hi'⟩)
  have:=hmin2 s' hf' hi'
  show _<Classical.epsilon _
  rw [←hm1]
  exact Nat.lt_of_le_of_lt this hlt
theorem Bb {σ:Type} {L:σ→BA} {I:σ→World→Prop} {μ:σ→Nat} {s:σ} (s':σ) (hk:Ht l (L s')) (hI:I s' w) (hm:μ s'<μ s):
  WQ (Exit.then (fun a' w'=>∃ s',Cq n (L s') a'∧I s' w'∧μ s'<μ s) Q) .normal n l w:=fun _ ha=>⟨s',ha.sub hk.out,hI,hm⟩
theorem Jk {σ:Type} {x y:Code} (L:σ→BA) (I:σ→World→Prop) (hx:WC P x (Exit.then (fun a' w'=>∃ s,Cq n (L s) a'∧I s w') Q) n l w)
  (hy:∀ s w,I s w→WC P y Q n (L s) w):WC P (.seq x y) Q n l w:=by
 intro a ha
 refine wp_seq (Code.wp_mono ?_ (hx a ha))
 intro e a' w' hq
 cases e<;>try exact hq
 obtain ⟨s,hf,hi⟩:=hq
 exact hy s w' hi a' hf
theorem Fq {σ:Type} {L:σ→BA} {I:σ→World→Prop} (s:σ) (hk:Ht l (L s)) (hI:I s w):WQ (Exit.then (fun a' w'=>∃ s,Cq n (L s) a'∧I s w') Q) .normal n l w:=fun _ ha=>⟨s,ha.sub hk.out,hI⟩
/-! ### The function's ends -/
def HF:Nat→List Value→BA
 |_,[]=>[]
 |i,v::vs=>(i,v)::HF (i+1) vs
theorem Mj:∀ (vs:List Value) (i s:Nat) (v:Value),lk (HF i vs) s=some v→i≤s∧vs[s - i]?=some v
 |[],i,s,v,h=>by simp [HF,lk] at h
 |u::vs,i,s,v,h=>by
  simp only [HF,lk] at h
  split at h
  ·rename_i e _
   subst e
   exact ⟨Nat.le_refl _,by simpa using h⟩
  ·rename_i e _
   obtain ⟨h1,h2⟩:=Mj vs (i+1) s v h
   refine ⟨by omega,?_⟩
   have:s - i=(s - (i+1))+1:=by omega
   rw [this]
   simpa using h2
theorem enter {f:FuncId} {fn:Func} {c:Code} {args:List Value} {R:Ending→World→Prop} (hf:P.funcs[f]?=some fn) (hb:fn.body=some c) (hn:fn.ntmps=n) (hl:args.length≤n)
  (h:WC P c (bodyPost P fn R) n (HF 0 args) w):Calls P f args.toArray w R:=by
 refine calls_of_wp hf hb (h _ ⟨rfl,?_,?_⟩)
 ·simp only [Array.size_append,List.size_toArray,Array.size_replicate,hn]
  omega
 ·intro s v hs
  obtain ⟨_,h2⟩:=Mj args 0 s v hs
  have hlt:s<args.length:=by
   rcases Nat.lt_or_ge s args.length with h'|h'
   ·exact h'
   ·simp [List.getElem?_eq_none h'] at h2
  refine ⟨?_,by omega⟩
  have h3:args[s]?=some v:=by simpa using h2
  simp [Array.getD_eq_getD_getElem?,Array.getElem?_append,hlt]
  simpa [List.getElem?_eq_getElem hlt] using h3
theorem Am {fn:Func} {R:Ending→World→Prop} {t:Tmp} (hr:fn.results=#[.tmp t]) (hv:lk l t=some v) (h:R (.returned v) w):WQ (bodyPost P fn R) .ret n l w:=
 fun a ha=>bodyPost_ret (v:=v) (by rw [results_tmp hr];rw [(ha.get t v hv).1]) ha.defers h
theorem Bg {fn:Func} {R:Ending→World→Prop} {t u:Tmp} {v':Value} (hr:fn.results=#[.tmp t,.tmp u]) (hv:lk l t=some v) (hu:lk l u=some v') (h:R (.returned (.tuple #[v,v'])) w):WQ (bodyPost P fn R) .ret n l w:=
 fun a ha=>bodyPost_ret (v:=.tuple #[v,v']) (by rw [results_tmp2 hr];rw [(ha.get t v hv).1,(ha.get u v' hu).1]) ha.defers h
theorem EV {fn:Func} {R:Ending→World→Prop} {t u s:Tmp} {v' v'':Value} (hr:fn.results=#[.tmp t,.tmp u,.tmp s]) (hv:lk l t=some v) (hu:lk l u=some v') (hs:lk l s=some v'')
  (h:R (.returned (.tuple #[v,v',v''])) w):WQ (bodyPost P fn R) .ret n l w:=
 fun a ha=>bodyPost_ret (v:=.tuple #[v,v',v'']) (by simp [results,hr];simp [(ha.get t v hv).1,(ha.get u v' hu).1,(ha.get s v'' hs).1,←Array.getD_eq_getD_getElem?]) ha.defers h
theorem Dg {fn:Func} {R:Ending→World→Prop} (hr:fn.results=#[]) (h:R (.returned (.tuple #[])) w):WQ (bodyPost P fn R) .normal n l w:=
 fun a ha=>bodyPost_end (v:=.tuple #[]) (by rw [results_none hr]) ha.defers h
theorem MI {fn:Func} {R:Ending→World→Prop} (hr:fn.results=#[]) (h:R (.returned (.tuple #[])) w):WQ (bodyPost P fn R) .ret n l w:=
 fun a ha=>bodyPost_ret (v:=.tuple #[]) (by rw [results_none hr]) ha.defers h
end
/-! ### Contracts -/
def Cn (P:Program) (f:FuncId) (args:List Value) (As Rs:List SP) (T:Value→List SP→Prop):Prop:=
 ∀ w F,Hd w F w As Rs→Calls P f args.toArray w (Hv fun v w'=>∃ Bs,T v Bs∧Hd w F w' Bs Rs)
section
variable {P:Program} {ops:Array Oper} {Q:Exit→Act→World→Prop} {rest:List Oper} {n:Nat} {l:BA} {w0 w w':World} {F0:AV} {o:Oper} {v:Value} {As Rs Cs Ss:List SP}
def Fg (w:World) (As Rs Ss:List SP):Prop:=∀ S∈Ss,∀ F,(∀ A∈As,A.P w F)→(∀ R∈Rs,R.P w F)→S.P w F
theorem l0:Fg w As Rs []:=fun _ h=>by cases h
theorem lR {S:SP} (i:Nat) (hm:Rs[i]?=some S) (h:Fg w As Rs Ss):Fg w As Rs (S::Ss):=by
 intro S' hS F hA hR
 cases hS with
 |head=>exact hR _ (List.mem_of_getElem? hm)
 |tail _ h'=>exact h S' h' F hA hR
theorem lA {A S:SP} (i:Nat) (hm:As[i]?=some A) (hs:∀ F,A.P w F→S.P w F) (h:Fg w As Rs Ss):Fg w As Rs (S::Ss):=by
 intro S' hS F hA hR
 cases hS with
 |head=>exact hs F (hA _ (List.mem_of_getElem? hm))
 |tail _ h'=>exact h S' h' F hA hR
theorem lX {S:SP} (hs:∀ F,(∀ A∈As,A.P w F)→(∀ R∈Rs,R.P w F)→S.P w F) (h:Fg w As Rs Ss):Fg w As Rs (S::Ss):=by
 intro S' hS F hA hR
 cases hS with
 |head=>exact hs F hA hR
 |tail _ h'=>exact h S' h' F hA hR
theorem Mi:Fg w As Rs Rs:=fun _ hS _ _ hR=>hR _ hS
theorem Fz {f:FuncId} {args:List Value} {T:Value→List SP→Prop} (hc:Cn P f args Cs Ss T) (H:Hd w0 F0 w (Cs++As) Rs) (hl:Fg w As Rs Ss):
  Calls P f args.toArray w (Hv fun v w'=>∃ Bs,T v Bs∧Hd w0 F0 w' (Bs++As) Rs):=by
 obtain ⟨Fc,h1,h2⟩:=H.frame hl
 refine (hc w Fc h1).mono ?_
 rintro e w' ⟨v,rfl,Bs,hT,hB⟩
 exact ⟨v,rfl,Bs,hT,h2 w' Bs hB⟩
theorem Zl {f:FuncId} {args:List Value} {T:Value→List SP→Prop} (hg:gd ops l o=some true) (hd:CB n o.dst=true) (hr:Ij P n l w o f args.toArray)
  (hc:Cn P f args Cs Ss T) (H:Hd w0 F0 w (Cs++As) Rs) (hl:Fg w As Rs Ss)
  (h:∀ v Bs w',T v Bs→Hd w0 F0 w' (Bs++As) Rs→WL P ops Q rest n (Cp l o.dst v) w'):WL P ops Q (o::rest) n l w:=
 Zk hg hd hr (Fz hc H hl) fun v w' ⟨Bs,hT,hB⟩=>h v Bs w' hT hB
theorem Cn.mono {f:FuncId} {args:List Value} {T T':Value→List SP→Prop} (h:Cn P f args Cs Ss T) (hT:∀ v Bs,T v Bs→T' v Bs):Cn P f args Cs Ss T':=
 fun w F H=>(h w F H).mono fun e w' ⟨v,he,Bs,t,hb⟩=>⟨v,he,Bs,hT v Bs t,hb⟩
theorem QB {A:SP}:∀ (As:List SP) (i:Nat),As[i]?=some A→As.Perm (A::As.eraseIdx i)
 |[],_,h=>by simp at h
 |B::As,0,h=>by
  obtain rfl:B=A:=by simpa using h
  exact List.Perm.refl _
 |B::As,i+1,h=>by
  have:=QB As i (by simpa using h)
  exact (this.cons B).trans (List.Perm.swap _ _ _)
theorem Hd.pick {A:SP} (i:Nat) (hi:As[i]?=some A) (h:Hd w0 F0 w As Rs):Hd w0 F0 w (A::As.eraseIdx i) Rs:=by
 exact h.perm (QB _ i hi)
end
/-! ### A region that draws its order, and only reads -/
section
variable {P:Program} {ops:Array Oper} {C:World→Prop} {Q:Act→Prop} {rest:List Oper} {n:Nat} {l:BA} {o:Oper} {v:Value}
def WU (P:Program) (ops:Array Oper) (C:World→Prop) (Q:Act→Prop) (rest:List Oper) (n:Nat) (l:BA):Prop:=∀ a,Cq n l a→wpQuiet P ops C Q rest a
theorem Ba (hg:gd ops l o=some true) (hd:CB n o.dst=true) (hr:∀ w,C w→Bw P n l w o v w) (h:WU P ops C Q rest n (Cp l o.dst v)):WU P ops C Q (o::rest) n l:=by
 intro a ha
 refine wpQuiet_step fun K hK=>?_
 rw [if_pos (EH ha hg)]
 refine ⟨v,fun w hw=>?_,hK _ (h _ (ha.put _ _ hd))⟩
 unfold Oper.quietAt
 rw [hr w hw a ha]
 exact ⟨rfl,rfl⟩
theorem Z_ (hg:gd ops l o=some false) (hd:CB n o.dst=true) (h:WU P ops C Q rest n (Cp l o.dst undef)):WU P ops C Q (o::rest) n l:=by
 intro a ha
 refine wpQuiet_step fun K hK=>?_
 rw [if_neg (by rw [EH ha hg];simp)]
 exact hK _ (h _ (ha.put _ _ hd))
theorem Z9 (h:∀ a,Cq n l a→Q a):WU P ops C Q [] n l:=h
theorem Ni {d:Nat} {p:Prop} {_:Decidable p} (hc:lk l d=some (.bool (decide p))) (ht:p→WU P ops C Q rest n ((d,.bool true)::l)) (hf:¬ p→WU P ops C Q rest n ((d,.bool false)::l)):WU P ops C Q rest n l:=by
 intro a ha
 by_cases hp:p
 ·refine ht hp a ⟨ha.defers,ha.size,fun s v hs=>?_⟩
  simp only [lk] at hs
  split at hs
  ·rename_i e _
   obtain rfl:Value.bool true=v:=by simpa using hs
   subst e
   have:=ha.get _ _ hc
   simpa [hp] using this
  ·exact ha.get _ _ hs
 ·refine hf hp a ⟨ha.defers,ha.size,fun s v hs=>?_⟩
  simp only [lk] at hs
  split at hs
  ·rename_i e _
   obtain rfl:Value.bool false=v:=by simpa using hs
   subst e
   have:=ha.get _ _ hc
   simpa [hp] using this
  ·exact ha.get _ _ hs
end
section
variable {P:Program} {Q:Exit→Act→World→Prop} {n:Nat} {l:BA} {w0 w:World} {F0:AV} {As Rs:List SP}
theorem Et {id:Nat} {os:List Oper} (hm:P.follows .mixedOrders=true) (hB:Region.lexB .any os.toArray=true) (H:Hd w0 F0 w As Rs)
  (h:WU P os.toArray (fun w=>Hd w0 F0 w As Rs) (fun a=>∀ w',Hd w0 F0 w' As Rs→Q .normal a w') os n l):WC P (.region id os.toArray true) Q n l w:=by
 intro a ha
 exact wp_region_quiet hm hB (H.drewN 1) (by simpa using h a ha)
theorem El {ops:Array Oper} (h:∀ w,Hd w0 F0 w As Rs→WQ Q .normal n l w):WU P ops (fun w=>Hd w0 F0 w As Rs) (fun a=>∀ w',Hd w0 F0 w' As Rs→Q .normal a w') [] n l:=
 Z9 fun a ha w' H=>h w' H a ha
end
/-! ### What is asked of the types' table -/
def C0 (P:Program) (t:TypeId):Option (TypeId×Nat×Nat):=
 match P.underlying t with
 |some (.slice e)=>(P.info? e).map fun i=>(e,i.size,i.bytes)
 |_=>none
def B9 (P:Program) (t:TypeId):Option (Bool×Nat):=
 match P.underlying t,P.info? t with
 |some d,some i=>some ((match d with |.struct _|.array _ _=>true|_=>false),i.size)
 |_,_=>none
def Bo (P:Program) (s:TypeId) (k:Nat):Option Nat:=
 match P.underlying s with
 |some (.struct fs)=>match fs[k]? with
  |some f=>match P.info? f.type with
   |some i=>if i.size=0 then none else some f.offset
   |none=>none
  |none=>none
 |_=>none
def C8 (P:Program) (t:TypeId):Option Value:=(P.info? t).bind (·.zero)
section
variable {P:Program} {n:Nat} {l:BA} {w w':World} {o:Oper} {v u:Value} {x y:Operand} {t:TypeId}
theorem Fa {e size bytes:Nat} (h:C0 P t=some (e,size,bytes)):P.underlying t=some (.slice e)∧∃ i,P.info? e=some i∧i.size=size∧i.bytes=bytes:=by
 unfold C0 at h
 split at h
 ·rename_i e' he
  cases hi:P.info? e' with
  |none=>simp [hi] at h
  |some i=>
   simp [hi] at h
   obtain ⟨rfl,h1,h2⟩:=h
   exact ⟨he,i,hi,h1,h2⟩
 ·simp at h
theorem R_ {b:Bool} {size:Nat} (h:B9 P t=some (b,size)):∃ d i,P.underlying t=some d∧P.info? t=some i∧(match d with |.struct _|.array _ _=>true|_=>false)=b∧i.size=size:=by
 unfold B9 at h
 split at h
 ·rename_i d i hd hi
  simp only [Option.some.injEq,Prod.mk.injEq] at h
  exact ⟨d,i,hd,hi,h.1,h.2⟩
 ·simp at h
theorem Kp {b:Bool} {size:Nat} (h:B9 P t=some (b,size)):(isAgg t).run P w=.ok b w:=by
 obtain ⟨d,i,hd,hi,hb,hs⟩:=R_ h
 unfold isAgg
 rw [Sem.run_bind,run_underlying hd w]
 subst hb
 cases d<;>simp
theorem MV {b:Bool} {size:Nat} (h:B9 P t=some (b,size)):(sizeOf t).run P w=.ok size w:=by
 obtain ⟨d,i,hd,hi,hb,hs⟩:=R_ h
 simp [sizeOf,typeInfo,hi,hs]
/-! ### Operations that touch no memory -/
theorem YD (ho:o.op=.move x) (hx:ev l x=some v):Bw P n l w o v w:=by
 intro a ha;simp [execOp,ho,ha.eval hx]
theorem Yv (ho:o.op=.assign x) (hx:ev l x=some v):Bw P n l w o v w:=by
 intro a ha;simp [execOp,ho,ha.eval hx]
theorem YH {c:Operand} (ho:o.op=.pick c x y) (hc:ev l c=some (.bool true)) (hx:ev l x=some v):Bw P n l w o v w:=by
 intro a ha;simp [execOp,ho,ha.eval hx,ha.eval hc,asBool]
theorem YG {c:Operand} (ho:o.op=.pick c x y) (hc:ev l c=some (.bool false)) (hy:ev l y=some v):Bw P n l w o v w:=by
 intro a ha;simp [execOp,ho,ha.eval hy,ha.eval hc,asBool]
theorem AI {a:Addr} (ho:o.op=.nilCheck x) (hx:ev l x=some (.pointer (some a))):Bw P n l w o (.pointer (some a)) w:=by
 intro a' ha;simp [execOp,ho,ha.eval hx]
theorem E9 {b c:Bool} (ho:o.op=.unOp .not t x) (hx:ev l x=some (.bool b)) (hc:(!b)=c):Bw P n l w o (.bool c) w:=by
 intro a ha;simp [execOp,ho,ha.eval hx,Op.unary,hc]
theorem CX {p:Prop} {_:Decidable p} (ho:o.op=.unOp .not t x) (hx:ev l x=some (.bool (decide p))):Bw P n l w o (.bool (decide ¬ p)) w:=by
 refine E9 ho hx ?_
 simp
theorem IP {k:IntKind} {i z:Int} (ho:o.op=.unOp .neg t x) (hx:ev l x=some (.int k i)) (hz:k.wrap (0 - i)=z):Bw P n l w o (.int k z) w:=by
 intro a ha;simp [execOp,ho,ha.eval hx,Op.unary,Op.intArith,←hz]
theorem AP {k:IntKind} {i j z:Int} {t':TypeId} (ho:o.op=.binOp .add t x y t') (hx:ev l x=some (.int k i)) (hy:ev l y=some (.int k j)) (hz:k.wrap (i+j)=z):Bw P n l w o (.int k z) w:=by
 intro a ha;simp [execOp,ho,ha.eval hx,ha.eval hy,eqGuard,binOp,Op.intArith,hz]
theorem Cm {k:IntKind} {i j z:Int} {t':TypeId} (ho:o.op=.binOp .sub t x y t') (hx:ev l x=some (.int k i)) (hy:ev l y=some (.int k j)) (hz:k.wrap (i - j)=z):Bw P n l w o (.int k z) w:=by
 intro a ha;simp [execOp,ho,ha.eval hx,ha.eval hy,eqGuard,binOp,Op.intArith,hz]
theorem Fs {k:IntKind} {i j z:Int} {t':TypeId} (ho:o.op=.binOp .mul t x y t') (hx:ev l x=some (.int k i)) (hy:ev l y=some (.int k j)) (hz:k.wrap (i*j)=z):Bw P n l w o (.int k z) w:=by
 intro a ha;simp [execOp,ho,ha.eval hx,ha.eval hy,eqGuard,binOp,Op.intArith,hz]
theorem IQ {k:IntKind} {i j z:Int} {t':TypeId} (ho:o.op=.binOp .rem t x y t') (hx:ev l x=some (.int k i)) (hy:ev l y=some (.int k j)) (h0:j≠0) (hz:i.tmod j=z):Bw P n l w o (.int k z) w:=by
 intro a ha;simp [execOp,ho,ha.eval hx,ha.eval hy,eqGuard,binOp,Op.intDiv,h0,hz]
theorem MO {k:IntKind} {i j z:Int} {t':TypeId} (ho:o.op=.binOp .quo t x y t') (hx:ev l x=some (.int k i)) (hy:ev l y=some (.int k j)) (h0:j≠0) (hz:k.wrap (i.tdiv j)=z):Bw P n l w o (.int k z) w:=by
 intro a ha;simp [execOp,ho,ha.eval hx,ha.eval hy,eqGuard,binOp,Op.intDiv,h0,hz]
theorem YI {k k':IntKind} {i j z:Int} {t':TypeId} (ho:o.op=.binOp .shl t x y t') (hx:ev l x=some (.int k i)) (hy:ev l y=some (.int k' j)) (h0:0≤j) (hz:k.wrap (i*2^(min j.toNat k.bits))=z):Bw P n l w o (.int k z) w:=by
 intro a ha;simp [execOp,ho,ha.eval hx,ha.eval hy,eqGuard,binOp,Op.shift,Int.not_lt.2 h0,hz]
theorem H_ {k k':IntKind} {i j z:Int} {t':TypeId} (ho:o.op=.binOp .shr t x y t') (hx:ev l x=some (.int k i)) (hy:ev l y=some (.int k' j)) (h0:0≤j) (hz:i.fdiv (2^(min j.toNat k.bits))=z):Bw P n l w o (.int k z) w:=by
 intro a ha;simp [execOp,ho,ha.eval hx,ha.eval hy,eqGuard,binOp,Op.shift,Int.not_lt.2 h0,hz]
theorem Yx {k:IntKind} {i j z:Int} {t':TypeId} {op:BinOp} (ho:o.op=.binOp op t x y t') (hop:op=.and∨op=.or∨op=.xor∨op=.andNot) (hx:ev l x=some (.int k i)) (hy:ev l y=some (.int k j))
  (hz:(Op.intBits op k i j).run P w=.ok (.int k z) w):Bw P n l w o (.int k z) w:=by
 intro a ha
 rcases hop with rfl|rfl|rfl|rfl<;>simp [execOp,ho,ha.eval hx,ha.eval hy,eqGuard,binOp,hz]
theorem AQ {k:IntKind} {i j:Int} {t':TypeId} (ho:o.op=.binOp .lss t x y t') (hx:ev l x=some (.int k i)) (hy:ev l y=some (.int k j)):Bw P n l w o (.bool (decide (i<j))) w:=by
 intro a ha;simp [execOp,ho,ha.eval hx,ha.eval hy,eqGuard,binOp,Op.intCmp]
theorem BX {k:IntKind} {i j:Int} {t':TypeId} (ho:o.op=.binOp .leq t x y t') (hx:ev l x=some (.int k i)) (hy:ev l y=some (.int k j)):Bw P n l w o (.bool (decide (i≤j))) w:=by
 intro a ha;simp [execOp,ho,ha.eval hx,ha.eval hy,eqGuard,binOp,Op.intCmp]
theorem BP {k:IntKind} {i j:Int} {t':TypeId} (ho:o.op=.binOp .gtr t x y t') (hx:ev l x=some (.int k i)) (hy:ev l y=some (.int k j)):Bw P n l w o (.bool (decide (j<i))) w:=by
 intro a ha;simp [execOp,ho,ha.eval hx,ha.eval hy,eqGuard,binOp,Op.intCmp]
theorem BN {k:IntKind} {i j:Int} {t':TypeId} (ho:o.op=.binOp .geq t x y t') (hx:ev l x=some (.int k i)) (hy:ev l y=some (.int k j)):Bw P n l w o (.bool (decide (j≤i))) w:=by
 intro a ha;simp [execOp,ho,ha.eval hx,ha.eval hy,eqGuard,binOp,Op.intCmp]
theorem NL (i j:Int):(i==j)=decide (i=j):=by rw [Bool.eq_iff_iff];simp
theorem AT {k:IntKind} {i j:Int} {t':TypeId} (ho:o.op=.binOp .eql t x y t') (hx:ev l x=some (.int k i)) (hy:ev l y=some (.int k j)):Bw P n l w o (.bool (decide (i=j))) w:=by
 intro a ha;simp [execOp,ho,ha.eval hx,ha.eval hy,eqGuard,binOp,Op.intCmp,NL]
theorem CL {k:IntKind} {i j:Int} {t':TypeId} (ho:o.op=.binOp .neq t x y t') (hx:ev l x=some (.int k i)) (hy:ev l y=some (.int k j)):Bw P n l w o (.bool (decide (i≠j))) w:=by
 intro a ha;simp [execOp,ho,ha.eval hx,ha.eval hy,eqGuard,binOp,Op.intCmp,bne,NL]
theorem CW {k:IntKind} {src dst:TypeId} {i z:Int} {k':IntKind} {d:TypeDesc} (ho:o.op=.convert src dst x) (hx:ev l x=some (.int k i)) (hs:P.underlying src=some d) (hd:P.underlying dst=some (.int k')) (hz:k'.wrap i=z):Bw P n l w o (.int k' z) w:=by
 intro a ha;simp [execOp,ho,ha.eval hx,convert,run_underlying hs,run_underlying hd,Conv.intToInt,hz]
theorem Yy {vs:Array Value} {i:Nat} (ho:o.op=.extract x i) (hx:ev l x=some (.tuple vs)) (hi:vs[i]?=some v):Bw P n l w o v w:=by
 intro a ha;simp [execOp,ho,ha.eval hx,Instr.extract,hi]
theorem Hh {f:FuncId} {first captured:Array Operand} {fs cs:Array Value} (ho:o.op=.makeFunc (.func f) first captured) (hf:first.toList.map (ev l)=fs.toList.map some) (hc:captured.toList.map (ev l)=cs.toList.map some):Bw P n l w o (.func (.func f) fs cs) w:=by
 have key:∀ (a:Act),Cq n l a→∀ (xs:List Operand) (vs:List Value),xs.map (ev l)=vs.map some→xs.map a.eval=vs:=by
  intro a ha xs
  induction xs with
  |nil=>intro vs h;cases vs<;>simp_all
  |cons x xs ih=>
   intro vs h
   cases vs with
   |nil=>simp at h
   |cons v vs=>
    simp only [List.map_cons,List.cons.injEq] at h ⊢
    exact ⟨ha.eval h.1,ih vs h.2⟩
 intro a ha
 have h1:=key a ha _ _ hf
 have h2:=key a ha _ _ hc
 have e1:first.map a.eval=fs:=by rw [←Array.toList_inj];simpa using h1
 have e2:captured.map a.eval=cs:=by rw [←Array.toList_inj];simpa using h2
 simp [execOp,ho,Instr.makeFunc,e1,e2]
theorem Fr {k:IntKind} {i j z:Int} {ts:Array TypeId} (ho:o.op=.call { callee:=.builtin .min,args:=#[x,y],argTypes:=ts }) (hx:ev l x=some (.int k i)) (hy:ev l y=some (.int k j)) (hz:min i j=z):Bw P n l w o (.int k z) w:=by
 intro a ha
 subst hz
 simp [execOp,ho,resolve,ha.eval hx,ha.eval hy,invoke,builtin,Builtin.min_,Builtin.min2]
 omega
theorem Hi {k:IntKind} {i j z:Int} {ts:Array TypeId} (ho:o.op=.call { callee:=.builtin .max,args:=#[x,y],argTypes:=ts }) (hx:ev l x=some (.int k i)) (hy:ev l y=some (.int k j)) (hz:max i j=z):Bw P n l w o (.int k z) w:=by
 intro a ha
 subst hz
 simp [execOp,ho,resolve,ha.eval hx,ha.eval hy,invoke,builtin,Builtin.max_,Builtin.max2]
 omega
theorem AO {tt:TypeId} {A:Option Addr} {m c:Nat} {e:TypeId} (ho:o.op=.call { callee:=.builtin .len,args:=#[x],argTypes:=#[tt] }) (ht:P.underlying tt=some (.slice e)) (hx:ev l x=some (.slice A m c)):Bw P n l w o (.int .i64 (m:Int)) w:=by
 intro a ha
 simp [execOp,ho,resolve,ha.eval hx,invoke,builtin,Builtin.len_,run_underlying ht,goInt]
theorem Cl {tt:TypeId} {s:ByteArray} (ho:o.op=.call { callee:=.builtin .len,args:=#[x],argTypes:=#[tt] }) (ht:P.underlying tt=some .string) (hx:ev l x=some (.string s)):Bw P n l w o (.int .i64 (s.size:Int)) w:=by
 intro a ha
 simp [execOp,ho,resolve,ha.eval hx,invoke,builtin,Builtin.len_,run_underlying ht,goInt]
/-! ### Nil or not -/
theorem Of (d:Nat) {q:Option Addr} {e:TypeId} (ht:P.underlying t=some (.pointer e)):(Op.equalIn (d+1) t (.pointer q) (.pointer none)).run P w=.ok q.isNone w:=by
 cases q<;>simp [Op.equalIn,run_underlying ht]
theorem TX (d:Nat) {f:Fn} {fs cs:Array Value} {ps rs:Array TypeId} {b:Bool} (ht:P.underlying t=some (.func ps rs b)):(Op.equalIn (d+1) t (.func f fs cs) .nilFunc).run P w=.ok false w:=by
 simp [Op.equalIn,run_underlying ht]
theorem TY (d:Nat) {A:Option Addr} {m c:Nat} {e:TypeId} (ht:P.underlying t=some (.slice e)):(Op.equalIn (d+1) t (.slice A m c) (.slice none 0 0)).run P w=.ok A.isNone w:=by
 cases A<;>simp [Op.equalIn,run_underlying ht]
theorem ML {t':TypeId} {u v:Value} {b:Bool} (ho:o.op=.binOp .eql t x y t') (hx:ev l x=some u) (hy:ev l y=some v) (h1:binOp .eql t u v=(do pure (.bool (←Op.equal t u v)))) (h2:eqGuard .eql t x y u v=pure ())
  (hb:(Op.equalIn (9999+1) t u v).run P w=.ok b w):Bw P n l w o (.bool b) w:=by
 intro a ha
 have hb':(Op.equal t u v).run P w=.ok b w:=hb
 unfold execOp
 simp only [ho,ha.eval hx,ha.eval hy,h1,h2,Sem.run_bind,Sem.run_pure,Result.andThen_ok,hb']
theorem MM {t':TypeId} {u v:Value} {b:Bool} (ho:o.op=.binOp .neq t x y t') (hx:ev l x=some u) (hy:ev l y=some v) (h1:binOp .neq t u v=(do pure (.bool (!(←Op.equal t u v))))) (h2:eqGuard .neq t x y u v=pure ())
  (hb:(Op.equalIn (9999+1) t u v).run P w=.ok b w):Bw P n l w o (.bool !b) w:=by
 intro a ha
 have hb':(Op.equal t u v).run P w=.ok b w:=hb
 unfold execOp
 simp only [ho,ha.eval hx,ha.eval hy,h1,h2,Sem.run_bind,Sem.run_pure,Result.andThen_ok,hb']
theorem Dh {q:Option Addr} {e t':TypeId} (ho:o.op=.binOp .eql t x y t') (ht:P.underlying t=some (.pointer e)) (hx:ev l x=some (.pointer q)) (hy:ev l y=some (.pointer none)):Bw P n l w o (.bool q.isNone) w:=
 ML ho hx hy rfl rfl (Of _ ht)
theorem MN {q:Option Addr} {e t':TypeId} (ho:o.op=.binOp .neq t x y t') (ht:P.underlying t=some (.pointer e)) (hx:ev l x=some (.pointer q)) (hy:ev l y=some (.pointer none)):Bw P n l w o (.bool !q.isNone) w:=
 MM ho hx hy rfl rfl (Of _ ht)
theorem Q3 {f:Fn} {fs cs:Array Value} {t':TypeId} {ps rs:Array TypeId} {b:Bool} (ho:o.op=.binOp .neq t x y t') (ht:P.underlying t=some (.func ps rs b)) (hx:ev l x=some (.func f fs cs)) (hy:ev l y=some .nilFunc):Bw P n l w o (.bool true) w:=
 MM (b:=false) ho hx hy rfl rfl (TX _ ht)
theorem Ki {A:Option Addr} {m c:Nat} {e t':TypeId} (ho:o.op=.binOp .eql t x y t') (ht:P.underlying t=some (.slice e)) (hx:ev l x=some (.slice A m c)) (hy:ev l y=some (.slice none 0 0)):Bw P n l w o (.bool A.isNone) w:=
 ML ho hx hy rfl rfl (TY _ ht)
theorem Oe (d:Nat) {p q:Bool} (ht:P.underlying t=some .bool):(Op.equalIn (d+1) t (.bool p) (.bool q)).run P w=.ok (decide (p=q)) w:=by
 have:(p==q)=decide (p=q):=by cases p<;>cases q<;>rfl
 simp [Op.equalIn,run_underlying ht,this]
theorem Yw {p q:Bool} {t':TypeId} (ho:o.op=.binOp .eql t x y t') (ht:P.underlying t=some .bool) (hx:ev l x=some (.bool p)) (hy:ev l y=some (.bool q)):Bw P n l w o (.bool (decide (p=q))) w:=
 ML ho hx hy rfl rfl (Oe _ ht)
theorem Ke {p q:Bool} {t':TypeId} (ho:o.op=.binOp .neq t x y t') (ht:P.underlying t=some .bool) (hx:ev l x=some (.bool p)) (hy:ev l y=some (.bool q)):Bw P n l w o (.bool (decide (p≠q))) w:=by
 have:=MM (w:=w) (n:=n) ho hx hy rfl rfl (Oe _ ht)
 simpa using this
/-! ### Addresses -/
theorem Eo (b off k:Nat):(⟨b,off,none⟩:Addr).add k=⟨b,off+k,none⟩:=by unfold Addr.add;split<;>simp_all
theorem Ah {s:TypeId} {b off k fo:Nat} (ho:o.op=.fieldAddr s x k) (hf:Bo P s k=some fo) (hx:ev l x=some (.pointer (some ⟨b,off,none⟩))):Bw P n l w o (.pointer (some ⟨b,off+fo,none⟩)) w:=by
 intro a ha
 unfold Bo at hf
 split at hf
 ·rename_i fs hu
  split at hf
  ·rename_i f hk
   split at hf
   ·rename_i i hi
    split at hf
    ·simp at hf
    ·rename_i hn
     obtain rfl:f.offset=fo:=by simpa using hf
     simp [execOp,ho,ha.eval hx,Instr.fieldAt,run_underlying hu,hk,Instr.sureAddr,fieldPlace,sizeOf,typeInfo,hi,hn,Eo]
   ·simp at hf
  ·simp at hf
 ·simp at hf
theorem YA {tt e size bytes:TypeId} {b off m c:Nat} {k:IntKind} {i:Int} {p:Nat} (ho:o.op=.indexAddr tt x y) (hs:C0 P tt=some (e,size,bytes)) (hx:ev l x=some (.slice (some ⟨b,off,none⟩) m c)) (hy:ev l y=some (.int k i))
  (h0:0≤i) (h1:i<(m:Int)) (hp:off+i.toNat*size=p):Bw P n l w o (.pointer (some ⟨b,p,none⟩)) w:=by
 intro a ha
 obtain ⟨hu,inf,hi,hz,_⟩:=Fa hs
 subst hp
 simp [execOp,ho,ha.eval hx,ha.eval hy,Instr.indexAt,run_underlying hu,asIntOf,sizeOf,typeInfo,hi,hz,Eo,h0,h1]
theorem YB {tt e:TypeId} {size len:Nat} {b off:Nat} {k:IntKind} {i:Int} {p:Nat} {inf:TypeInfo} (ho:o.op=.indexAddr tt x y) (hu:P.underlying tt=some (.array len e)) (hi:P.info? e=some inf) (hz:inf.size=size)
  (hx:ev l x=some (.pointer (some ⟨b,off,none⟩))) (hy:ev l y=some (.int k i)) (h0:0≤i) (h1:i<(len:Int)) (hp:off+i.toNat*size=p):Bw P n l w o (.pointer (some ⟨b,p,none⟩)) w:=by
 intro a ha
 subst hp
 simp [execOp,ho,ha.eval hx,ha.eval hy,Instr.indexAt,run_underlying hu,asIntOf,Instr.sureAddr,sizeOf,typeInfo,hi,hz,Eo,h0,h1]
/-! ### Loads -/
theorem Aj {sz:Nat} {p:Addr} (ho:o.op=.load t x) (ht:B9 P t=some (false,sz)) (hx:ev l x=some (.pointer (some p))) (hc:w.cell? p=some v):Bw P n l w o v w:=by
 intro a ha
 simp [execOp,ho,ha.eval hx,Instr.loadAt,Instr.sureAddr,loadVar,Kp ht,hc]
theorem Bp {sz:Nat} {p:Addr} {cs:List Value} (ho:o.op=.load t x) (ht:B9 P t=some (true,sz)) (hx:ev l x=some (.pointer (some p))) (hz:cs.length=sz) (hc:∀ j v,cs[j]?=some v→w.cell? (p.add j)=some v):Bw P n l w o (.agg cs.toArray) w:=by
 intro a ha
 have hl:=run_loadCells_list (P:=P) w p cs hc
 simp [execOp,ho,ha.eval hx,Instr.loadAt,Instr.sureAddr,loadVar,Kp ht,MV ht,←hz,hl]
/-! ### Aggregates as values -/
theorem E8 {tt:TypeId} {s:ByteArray} {k:IntKind} {i:Int} {b:UInt8} (ho:o.op=.index tt x y) (ht:P.underlying tt=some .string) (hx:ev l x=some (.string s)) (hy:ev l y=some (.int k i)) (h0:0≤i) (hb:s[i.toNat]?=some b):Bw P n l w o (.int .u8 (b.toNat:Int)) w:=by
 intro a ha
 simp [execOp,ho,ha.eval hx,ha.eval hy,Instr.index,run_underlying ht,asIntOf,h0,hb]
/-! ### Cuts -/
/-! ### Calls -/
def AJ (P:Program) (f:FuncId):Prop:=∀ args w,(callFunc f args).run P w=.ok (.enter f args) w
theorem AM {f:FuncId} {fn:Func} (hf:P.funcs[f]?=some fn) (hn:(fn.name== "runtime.NumGoroutine")=false) (hb:fn.body.isNone=false):AJ P f:=by
 intro args w
 unfold callFunc
 simp only [Sem.run_bind,run_program,Result.andThen_ok,hf,hn,hb]
 simp
theorem Lz {a:Act} (ha:Cq n l a):∀ (xs:List Operand) (vs:List Value),xs.map (ev l)=vs.map some→xs.map a.eval=vs:=by
 intro xs
 induction xs with
 |nil=>intro vs h;cases vs<;>simp_all
 |cons x xs ih=>
  intro vs h
  cases vs with
  |nil=>simp at h
  |cons v vs=>
   simp only [List.map_cons,List.cons.injEq] at h ⊢
   exact ⟨ha.eval h.1,ih vs h.2⟩
theorem At {f:FuncId} {xs:List Operand} {vs:List Value} {ts:Array TypeId} (hk:AJ P f) (ho:o.op=.call { callee:=.value (.func f),args:=xs.toArray,argTypes:=ts }) (hx:xs.map (ev l)=vs.map some):Ij P n l w o f vs.toArray:=by
 intro a ha
 have:=Lz ha xs vs hx
 simp [execOp,ho,resolve,Act.eval,Deferred.ofValue,invoke,this,hk _ w]
theorem Gk {f:FuncId} {xs:List Operand} {vs:List Value} {fs cs:Array Value} {ts:Array TypeId} (hk:AJ P f) (ho:o.op=.call { callee:=.value x,args:=xs.toArray,argTypes:=ts }) (hf:ev l x=some (.func (.func f) fs cs)) (hx:xs.map (ev l)=vs.map some):Ij P n l w o f (fs.toList++vs++cs.toList).toArray:=by
 intro a ha
 have:=Lz ha xs vs hx
 have e:(fs.toList++vs++cs.toList).toArray=fs++vs.toArray++cs:=by apply Array.toList_inj.1;simp
 rw [e]
 simp [execOp,ho,resolve,ha.eval hf,Deferred.ofValue,invoke,this,hk _ w]
end
/-! ### Texts -/
theorem toList_inj {a b:ByteArray} (h:a.data.toList=b.data.toList):a=b:=by
 cases a;cases b;simp at h;subst h;rfl
theorem Ji (a b:ByteArray):(a.toList==b.toList)=decide (a=b):=by
 rw [Bool.eq_iff_iff]
 simp only [beq_iff_eq,decide_eq_true_eq]
 constructor
 ·intro h
  rw [ByteArray.toList_eq,ByteArray.toList_eq] at h
  exact toList_inj h
 ·rintro rfl;rfl
def Bi (a b:ByteArray):Bool:=Op.bytesLess a.data.toList b.data.toList
section
variable {P:Program} {n:Nat} {l:BA} {w w':World} {o:Oper} {v u:Value} {x y:Operand} {t:TypeId} {a b:ByteArray} {t':TypeId}
theorem EB (ho:o.op=.binOp .eql t x y t') (hx:ev l x=some (.string a)) (hy:ev l y=some (.string b)):Bw P n l w o (.bool (decide (a=b))) w:=by
 intro a' ha;simp [execOp,ho,ha.eval hx,ha.eval hy,eqGuard,binOp,Op.stringOp,Ji]
theorem Kh (ho:o.op=.binOp .neq t x y t') (hx:ev l x=some (.string a)) (hy:ev l y=some (.string b)):Bw P n l w o (.bool (decide (a≠b))) w:=by
 intro a' ha;simp [execOp,ho,ha.eval hx,ha.eval hy,eqGuard,binOp,Op.stringOp,Ji]
theorem Q5 (ho:o.op=.binOp .lss t x y t') (hx:ev l x=some (.string a)) (hy:ev l y=some (.string b)):Bw P n l w o (.bool (decide (Bi a b=true))) w:=by
 intro a' ha
 rw [show decide (Bi a b=true)=Bi a b from Bool.decide_eq_true]
 simp [execOp,ho,ha.eval hx,ha.eval hy,eqGuard,binOp,Op.stringOp,Bi,ByteArray.toList_eq]
theorem Yz (ho:o.op=.binOp .gtr t x y t') (hx:ev l x=some (.string a)) (hy:ev l y=some (.string b)):Bw P n l w o (.bool (!(Bi a b||decide (a=b)))) w:=by
 intro a' ha;simp [execOp,ho,ha.eval hx,ha.eval hy,eqGuard,binOp,Op.stringOp,Bi,←ByteArray.toList_eq,Ji]
theorem Kc (ho:o.op=.binOp .add t x y t') (hx:ev l x=some (.string a)) (hy:ev l y=some (.string b)) (hb:a.size+b.size≤9223372036854775807):Bw P n l w o (.string (a++b)) w:=by
 intro a' ha;simp [execOp,ho,ha.eval hx,ha.eval hy,eqGuard,binOp,run_string_add_sum w a b hb]
end
/-! ### Kinds of data -/
structure Kd (α:Type) where
 sz:Nat
 O:World→AV→α→List Value→Prop
 R:World→AV→α→List Value→Prop
 O_loc:∀ {w w':World} {F:AV} {x:α} {cs:List Value},O w F x cs→(∀ k,F k→w'.heap[k]?=w.heap[k]?)→O w' F x cs
 O_mono:∀ {w:World} {F F':AV} {x:α} {cs:List Value},O w F x cs→(∀ k,F k→F' k)→O w F' x cs
 R_loc:∀ {w w':World} {F:AV} {x:α} {cs:List Value},R w F x cs→(∀ k,F k→w'.heap[k]?=w.heap[k]?)→R w' F x cs
 R_mono:∀ {w:World} {F F':AV} {x:α} {cs:List Value},R w F x cs→(∀ k,F k→F' k)→R w F' x cs
 O_R:∀ {w:World} {F:AV} {x:α} {cs:List Value},O w F x cs→R w F x cs
 len:∀ {w:World} {F:AV} {x:α} {cs:List Value},R w F x cs→cs.length=sz
 one:∀ {w:World} {F:AV} {x:α} {cs:List Value},R w F x cs→∀ c∈cs,c.oneCell'=true
 pos:0<sz
def flat {α:Type} (enc:α→List Value) (sz:Nat) (hp:0<sz) (hl:∀ x,(enc x).length=sz) (h1:∀ x,∀ c∈enc x,c.oneCell'=true):Kd α where
 sz:=sz
 O _ _ x cs:=cs=enc x
 R _ _ x cs:=cs=enc x
 O_loc h _:=h
 O_mono h _:=h
 R_loc h _:=h
 R_mono h _:=h
 O_R h:=h
 len h:=h▸hl _
 one h:=h▸h1 _
 pos:=hp
def AN (k:IntKind):Kd Int:=flat (fun x=>[.int k x]) 1 (by omega) (fun _=>rfl) (fun _ c h=>by simp at h;subst h;rfl)
def Pb:Kd Bool:=flat (fun x=>[.bool x]) 1 (by omega) (fun _=>rfl) (fun _ c h=>by simp at h;subst h;rfl)
def AZ:Kd ByteArray:=flat (fun x=>[.string x]) 1 (by omega) (fun _=>rfl) (fun _ c h=>by simp at h;subst h;rfl)
section
variable {α:Type} (d:Kd α)
def AX (w:World) (F:AV):List α→List Value→Prop
 |[],cs=>cs=[]
 |x::xs,cs=>∃ c cs',cs=c++cs'∧d.R w F x c∧AX w F xs cs'
def Cr (w:World):AV→List α→List Value→Prop
 |_,[],cs=>cs=[]
 |F,x::xs,cs=>∃ (F1 F2:AV) (c cs':List Value),(∀ k,F1 k→F k)∧(∀ k,F2 k→F k)∧(∀ k,F1 k→¬ F2 k)∧cs=c++cs'∧d.O w F1 x c∧Cr w F2 xs cs'
variable {d} {w w':World} {F F':AV} {xs ys:List α} {cs ds:List Value}
theorem AX.loc:∀ {xs:List α} {cs:List Value},AX d w F xs cs→(∀ k,F k→w'.heap[k]?=w.heap[k]?)→AX d w' F xs cs
 |[],_,h,_=>h
 |_::_,_,⟨c,cs',e,h1,h2⟩,hk=>⟨c,cs',e,d.R_loc h1 hk,AX.loc h2 hk⟩
theorem AX.mono:∀ {xs:List α} {cs:List Value},AX d w F xs cs→(∀ k,F k→F' k)→AX d w F' xs cs
 |[],_,h,_=>h
 |_::_,_,⟨c,cs',e,h1,h2⟩,hk=>⟨c,cs',e,d.R_mono h1 hk,AX.mono h2 hk⟩
theorem Cr.loc:∀ {xs:List α} {F:AV} {cs:List Value},Cr d w F xs cs→(∀ k,F k→w'.heap[k]?=w.heap[k]?)→Cr d w' F xs cs
 |[],_,_,h,_=>h
 |_::_,_,_,⟨F1,F2,c,cs',s1,s2,dj,e,h1,h2⟩,hk=>⟨F1,F2,c,cs',s1,s2,dj,e,d.O_loc h1 (fun k x=>hk k (s1 k x)),Cr.loc h2 (fun k x=>hk k (s2 k x))⟩
theorem Cr.mono:∀ {xs:List α} {F F':AV} {cs:List Value},Cr d w F xs cs→(∀ k,F k→F' k)→Cr d w F' xs cs
 |[],_,_,_,h,_=>h
 |_::_,_,_,_,⟨F1,F2,c,cs',s1,s2,dj,e,h1,h2⟩,hk=>⟨F1,F2,c,cs',fun k x=>hk k (s1 k x),fun k x=>hk k (s2 k x),dj,e,h1,h2⟩
theorem Cr.toR:∀ {xs:List α} {F:AV} {cs:List Value},Cr d w F xs cs→AX d w F xs cs
 |[],_,_,h=>h
 |_::_,_,_,⟨F1,F2,c,cs',s1,s2,_,e,h1,h2⟩=>⟨c,cs',e,d.R_mono (d.O_R h1) s1,(Cr.toR h2).mono s2⟩
theorem AX.len:∀ {xs:List α} {cs:List Value},AX d w F xs cs→cs.length=xs.length*d.sz
 |[],_,h=>by subst h;simp
 |_::_,_,⟨c,cs',e,h1,h2⟩=>by
  subst e
  rw [List.length_append,d.len h1,AX.len h2,List.length_cons,Nat.succ_mul,Nat.add_comm]
theorem AX.one:∀ {xs:List α} {cs:List Value},AX d w F xs cs→∀ c∈cs,c.oneCell'=true
 |[],_,h,c,hc=>by subst h;cases hc
 |_::_,_,⟨c,cs',e,h1,h2⟩,c',hc=>by
  subst e
  exact (List.mem_append.1 hc).elim (d.one h1 c') (AX.one h2 c')
theorem AX.append:∀ {xs:List α} {cs:List Value},AX d w F xs cs→AX d w F ys ds→AX d w F (xs++ys) (cs++ds)
 |[],_,h,k=>by subst h;exact k
 |_::_,_,⟨c,cs',e,h1,h2⟩,k=>⟨c,cs'++ds,by rw [e,List.append_assoc],h1,AX.append h2 k⟩
theorem Cr.append:∀ {xs:List α} {F F1 F2:AV} {cs:List Value},(∀ k,F1 k→F k)→(∀ k,F2 k→F k)→(∀ k,F1 k→¬ F2 k)→Cr d w F1 xs cs→Cr d w F2 ys ds→Cr d w F (xs++ys) (cs++ds)
 |[],_,_,_,_,_,s2,_,h,k=>by subst h;exact k.mono s2
 |_::_,F,F1,F2,_,s1,s2,dj,⟨G1,G2,c,cs',g1,g2,gd,e,h1,h2⟩,k=>
  ⟨G1,fun j=>G2 j∨F2 j,c,cs'++ds,fun j hj=>s1 j (g1 j hj),fun j hj=>hj.elim (fun x=>s1 j (g2 j x)) (s2 j),fun j hj hg=>hg.elim (gd j hj) (dj j (g1 j hj)),by rw [e,List.append_assoc],h1,
   Cr.append (fun _=>.inl) (fun _=>.inr) (fun j x=>dj j (g2 j x)) h2 k⟩
theorem AX.get:∀ {xs:List α} {cs:List Value} {i:Nat} {x:α},AX d w F xs cs→xs[i]?=some x→∃ c,d.R w F x c∧(cs.drop (i*d.sz)).take d.sz=c
 |[],_,_,_,_,h=>by simp at h
 |y::xs,_,0,x,⟨c,cs',e,h1,h2⟩,h=>by
  obtain rfl:y=x:=by simpa using h
  refine ⟨c,h1,?_⟩
  subst e
  have:=d.len h1
  simp [←this]
 |y::xs,_,i+1,x,⟨c,cs',e,h1,h2⟩,h=>by
  obtain ⟨c',h3,h4⟩:=AX.get h2 (by simpa using h)
  refine ⟨c',h3,?_⟩
  subst e
  have:=d.len h1
  rw [←h4,Nat.succ_mul,Nat.add_comm,←List.drop_drop]
  congr 2
  rw [←this,List.drop_left]
theorem AX.take:∀ {xs:List α} {cs:List Value} (i:Nat),AX d w F xs cs→AX d w F (xs.take i) (cs.take (i*d.sz))
 |[],_,i,h=>by subst h;simp [AX]
 |_::_,_,0,h=>by simp [AX]
 |y::xs,_,i+1,⟨c,cs',e,h1,h2⟩=>by
  have h3:=AX.take i h2
  have:=d.len h1
  refine ⟨c,cs'.take (i*d.sz),?_,h1,h3⟩
  subst e
  rw [Nat.succ_mul,Nat.add_comm,←this,List.take_length_add_append]
theorem AX.drop:∀ {xs:List α} {cs:List Value} (i:Nat),AX d w F xs cs→AX d w F (xs.drop i) (cs.drop (i*d.sz))
 |[],_,i,h=>by subst h;simp [AX]
 |_::_,_,0,h=>by simpa using h
 |y::xs,_,i+1,⟨c,cs',e,h1,h2⟩=>by
  have h3:=AX.drop i h2
  have:=d.len h1
  subst e
  rw [Nat.succ_mul,Nat.add_comm (i*d.sz),←this,List.drop_length_add_append,this]
  exact h3
theorem Cr.take:∀ {xs:List α} {F:AV} {cs:List Value} (i:Nat),Cr d w F xs cs→Cr d w F (xs.take i) (cs.take (i*d.sz))
 |[],_,_,i,h=>by subst h;simp [Cr]
 |_::_,_,_,0,h=>by simp [Cr]
 |y::xs,_,_,i+1,⟨F1,F2,c,cs',s1,s2,dj,e,h1,h2⟩=>by
  have h3:=Cr.take i h2
  have:=d.len (d.O_R h1)
  refine ⟨F1,F2,c,cs'.take (i*d.sz),s1,s2,dj,?_,h1,h3⟩
  subst e
  rw [Nat.succ_mul,Nat.add_comm,←this,List.take_length_add_append]
end
theorem Cr.flatR {α:Type} {enc:α→List Value} {sz:Nat} {hp:0<sz} {hl:∀ x,(enc x).length=sz} {h1:∀ x,∀ c∈enc x,c.oneCell'=true} {w:World} {F G:AV}:∀ {xs:List α} {cs:List Value},
  AX (flat enc sz hp hl h1) w F xs cs→Cr (flat enc sz hp hl h1) w G xs cs
 |[],_,h=>h
 |_::_,_,⟨c,cs',e,h1,h2⟩=>⟨none_,G,c,cs',fun _ h=>h.elim,fun _ h=>h,fun _ h=>h.elim,e,h1,Cr.flatR h2⟩
theorem AX.flat_eq {α:Type} {enc:α→List Value} {sz:Nat} {hp:0<sz} {hl:∀ x,(enc x).length=sz} {h1:∀ x,∀ c∈enc x,c.oneCell'=true} {w:World} {F:AV}:∀ {xs:List α} {cs:List Value},
  AX (flat enc sz hp hl h1) w F xs cs↔cs=xs.flatMap enc
 |[],_=>by simp [AX]
 |x::xs,cs=>by
  constructor
  ·rintro ⟨c,cs',rfl,hc,h2⟩
   rw [AX.flat_eq] at h2
   have:c=enc x:=hc
   simp [h2,this]
  ·rintro rfl
   exact ⟨enc x,xs.flatMap enc,by simp,rfl,AX.flat_eq.2 rfl⟩
/-! ### Slices -/
def Plain (_:Option Addr):Prop:=True
def ED (w:World) (F:AV) (A:Option Addr) (cs:List Value):Prop:=
 Plain A∧(cs=[]∨∃ b off C t fr,A=some ⟨b,off,none⟩∧F b∧w.heap[b]?=some (.cells C t fr)∧(C.toList.drop off).take cs.length=cs)
def Fh (w:World) (F:AV) (sz:Nat) (A:Option Addr) (n c:Nat) (cs:List Value):Prop:=
 n≤c∧c≤9223372036854775807∧cs.length=n*sz∧((c=0∧Plain A)∨∃ b C t,A=some ⟨b,0,none⟩∧F b∧w.heap[b]?=some (.cells C t (0,0))∧C.size=c*sz∧C.toList.take (n*sz)=cs)
section
variable {w w':World} {F F':AV} {A:Option Addr} {n c sz:Nat} {cs:List Value}
theorem ED.loc (h:ED w F A cs) (hk:∀ k,F k→w'.heap[k]?=w.heap[k]?):ED w' F A cs:=
 ⟨h.1,h.2.imp id fun ⟨b,off,C,t,fr,e,hb,hh,ht⟩=>⟨b,off,C,t,fr,e,hb,(hk b hb).trans hh,ht⟩⟩
theorem ED.mono (h:ED w F A cs) (hk:∀ k,F k→F' k):ED w F' A cs:=
 ⟨h.1,h.2.imp id fun ⟨b,off,C,t,fr,e,hb,hh,ht⟩=>⟨b,off,C,t,fr,e,hk b hb,hh,ht⟩⟩
theorem Fh.loc (h:Fh w F sz A n c cs) (hk:∀ k,F k→w'.heap[k]?=w.heap[k]?):Fh w' F sz A n c cs:=
 ⟨h.1,h.2.1,h.2.2.1,h.2.2.2.imp id fun ⟨b,C,t,e,hb,hh,hs,ht⟩=>⟨b,C,t,e,hb,(hk b hb).trans hh,hs,ht⟩⟩
theorem Fh.mono (h:Fh w F sz A n c cs) (hk:∀ k,F k→F' k):Fh w F' sz A n c cs:=
 ⟨h.1,h.2.1,h.2.2.1,h.2.2.2.imp id fun ⟨b,C,t,e,hb,hh,hs,ht⟩=>⟨b,C,t,e,hk b hb,hh,hs,ht⟩⟩
theorem Fh.toR (h:Fh w F sz A n c cs):ED w F A cs:=by
 obtain ⟨h1,h2,h3,h4⟩:=h
 rcases h4 with ⟨hc,hp⟩|⟨b,C,t,e,hb,hh,hs,ht⟩
 ·have:n=0:=by omega
  subst this
  exact ⟨hp,.inl (List.eq_nil_of_length_eq_zero (by simpa using h3))⟩
 ·refine ⟨trivial,.inr ⟨b,0,C,t,(0,0),e,hb,hh,?_⟩⟩
  rw [h3]
  simpa using ht
theorem ED.cell (h:ED w F A cs) {j:Nat} {v:Value} (hv:cs[j]?=some v):∃ b off,A=some ⟨b,off,none⟩∧w.cell? ⟨b,off+j,none⟩=some v:=by
 rcases h.2 with rfl|⟨b,off,C,t,fr,e,hb,hh,ht⟩
 ·simp at hv
 ·refine ⟨b,off,e,?_⟩
  have hlt:j<cs.length:=by
   rcases Nat.lt_or_ge j cs.length with h'|h'
   ·exact h'
   ·simp [List.getElem?_eq_none h'] at hv
  rw [←ht,List.getElem?_take,if_pos hlt,List.getElem?_drop] at hv
  simp [World.cell?,hh]
  simpa using hv
end
def M4 {α:Type} (d:Kd α) (w:World) (F:AV) (xs:List α) (A:Option Addr) (n c:Nat):Prop:=
 xs.length=n∧n≤c∧c≤9223372036854775807∧∃ cs,ED w F A cs∧AX d w F xs cs
def Zy {α:Type} (d:Kd α) (w:World) (F:AV) (xs:List α) (A:Option Addr) (n c:Nat):Prop:=
 xs.length=n∧∃ cs F1 F2,(∀ k,F1 k→F k)∧(∀ k,F2 k→F k)∧(∀ k,F1 k→¬ F2 k)∧Fh w F1 d.sz A n c cs∧Cr d w F2 xs cs
def BK {α:Type} (d:Kd α):Kd (List α) where
 sz:=1
 O w F xs cs:=∃ A n c,cs=[.slice A n c]∧Zy d w F xs A n c
 R w F xs cs:=∃ A n c,cs=[.slice A n c]∧M4 d w F xs A n c
 O_loc:=fun ⟨A,n,c,e,h1,cs,F1,F2,s1,s2,dj,h2,h3⟩ hk=>⟨A,n,c,e,h1,cs,F1,F2,s1,s2,dj,h2.loc (fun k x=>hk k (s1 k x)),h3.loc (fun k x=>hk k (s2 k x))⟩
 O_mono:=fun ⟨A,n,c,e,h1,cs,F1,F2,s1,s2,dj,h2,h3⟩ hk=>⟨A,n,c,e,h1,cs,F1,F2,fun k x=>hk k (s1 k x),fun k x=>hk k (s2 k x),dj,h2,h3⟩
 R_loc:=fun ⟨A,n,c,e,h1,h2,h3,cs,h4,h5⟩ hk=>⟨A,n,c,e,h1,h2,h3,cs,h4.loc hk,h5.loc hk⟩
 R_mono:=fun ⟨A,n,c,e,h1,h2,h3,cs,h4,h5⟩ hk=>⟨A,n,c,e,h1,h2,h3,cs,h4.mono hk,h5.mono hk⟩
 O_R:=fun ⟨A,n,c,e,h1,cs,F1,F2,s1,s2,dj,h2,h3⟩=>⟨A,n,c,e,h1,h2.1,h2.2.1,cs,h2.toR.mono s1,h3.toR.mono s2⟩
 len:=fun ⟨A,n,c,e,_⟩=>by subst e;rfl
 one:=fun ⟨A,n,c,e,_⟩ x hx=>by subst e;simp at hx;subst hx;rfl
 pos:=by omega
def own {α:Type} (d:Kd α) (x:α) (cs:List Value):SP:=⟨fun w F=>d.O w F x cs,d.O_loc,d.O_mono⟩
def rd {α:Type} (d:Kd α) (x:α) (cs:List Value):SP:=⟨fun w F=>d.R w F x cs,d.R_loc,d.R_mono⟩
abbrev Ae {α:Type} (d:Kd α) (v:Value) (xs:List α):SP:=own (BK d) xs [v]
abbrev Af {α:Type} (d:Kd α) (v:Value) (xs:List α):SP:=rd (BK d) xs [v]
theorem BI {α:Type} {d:Kd α} {x:α} {cs:List Value} {w:World} (F:AV) (h:(own d x cs).P w F):(rd d x cs).P w F:=d.O_R h
section
variable {α:Type} {d:Kd α} {w0 w w':World} {F F0:AV} {xs ys:List α} {v:Value} {As Rs:List SP}
theorem MT (h:(Af d v xs).P w F):∃ A c,v=.slice A xs.length c∧xs.length≤c∧c≤9223372036854775807∧Plain A∧∃ cs,ED w F A cs∧AX d w F xs cs:=by
 obtain ⟨A,n,c,e,h1,h2,h3,cs,h4,h5⟩:=h
 obtain rfl:v=.slice A n c:=by simpa using e
 subst h1
 exact ⟨A,c,rfl,h2,h3,h4.1,cs,h4,h5⟩
theorem FM (h:(Af d v xs).P w F):∃ A c,v=.slice A xs.length c∧xs.length≤c∧c≤9223372036854775807∧Plain A:=by
 obtain ⟨A,c,e,h1,h2,h3,_⟩:=MT h
 exact ⟨A,c,e,h1,h2,h3⟩
theorem Hd.form (H:Hd w0 F0 w As Rs) (hm:Af d v xs∈Rs):∃ A c,v=.slice A xs.length c∧xs.length≤c∧c≤9223372036854775807∧Plain A:=H.factR hm fun _ h=>FM h
theorem Hd.formO (H:Hd w0 F0 w As Rs) (hm:Ae d v xs∈As):∃ A c,v=.slice A xs.length c∧xs.length≤c∧c≤9223372036854775807∧Plain A:=H.fact hm fun F h=>FM (BI F h)
theorem Kn {A:Option Addr} {m c:Nat} (h:(Af d (.slice A m c) xs).P w F) {i:Nat} {x:α} (hx:xs[i]?=some x):
  ∃ (b off:Nat) (cs:List Value),A=some ⟨b,off,none⟩∧cs.length=d.sz∧(∀ j u,cs[j]?=some u→w.cell? ⟨b,off+i*d.sz+j,none⟩=some u)∧d.R w F x cs:=by
 obtain ⟨A',c',e,_,_,_,cs,h4,h5⟩:=MT h
 cases e
 obtain ⟨c0,h6,h7⟩:=h5.get hx
 have hl:=d.len h6
 have hp:=d.pos
 have key:∀ j u,c0[j]?=some u→cs[i*d.sz+j]?=some u:=by
  intro j u hu
  rw [←h7,List.getElem?_take] at hu
  split at hu
  ·rwa [List.getElem?_drop] at hu
  ·cases hu
 have h0:∃ u,c0[0]?=some u:=⟨c0[0],by simp [List.getElem?_eq_getElem (show 0<c0.length by omega)]⟩
 obtain ⟨u0,hu0⟩:=h0
 obtain ⟨b,off,e,_⟩:=h4.cell (key 0 u0 hu0)
 refine ⟨b,off,c0,e,hl,fun j u hu=>?_,h6⟩
 obtain ⟨b',off',e',hc⟩:=h4.cell (key j u hu)
 rw [e] at e'
 cases e'
 rwa [←Nat.add_assoc] at hc
theorem Hd.at_ {A:Option Addr} {m c:Nat} (H:Hd w0 F0 w As Rs) (hm:Af d (.slice A m c) xs∈Rs) {i:Nat} {x:α} (hx:xs[i]?=some x):
  ∃ (b off:Nat) (cs:List Value),A=some ⟨b,off,none⟩∧cs.length=d.sz∧(∀ j u,cs[j]?=some u→w.cell? ⟨b,off+i*d.sz+j,none⟩=some u):=H.factR hm fun _ h=>by
 obtain ⟨b,off,cs,h1,h2,h3,_⟩:=Kn h hx
 exact ⟨b,off,cs,h1,h2,h3⟩
theorem RE {enc:α→List Value} {sz:Nat} {hp:0<sz} {hl:∀ x,(enc x).length=sz} {h1:∀ x,∀ c∈enc x,c.oneCell'=true} {A:Option Addr} {m c:Nat} (h:(Af (flat enc sz hp hl h1) (.slice A m c) xs).P w F) {i:Nat} {x:α} (hx:xs[i]?=some x):
  ∃ b off,A=some ⟨b,off,none⟩∧∀ j u,(enc x)[j]?=some u→w.cell? ⟨b,off+i*sz+j,none⟩=some u:=by
 obtain ⟨b,off,cs,h1,h2,h3,h4⟩:=Kn h hx
 obtain rfl:cs=enc x:=h4
 exact ⟨b,off,h1,h3⟩
end
/-! ### What is written: a block's cells -/
def EL:List Value→Nat→List Value→List Value
 |cs,_,[]=>cs
 |cs,i,v::vs=>EL (cs.set i v) (i+1) vs
section
variable {P:Program} {w:World} {F:AV}
theorem IZ {b:Nat} {t:TypeId}:∀ (vs cs:List Value) (off i:Nat) (w:World),(blk b cs t).P w F→off+i+vs.length≤cs.length→(∀ v∈vs,v.oneCell'=true)→
  ∃ w',(storeCells ⟨b,off,none⟩ vs i).run P w=.ok () w'∧(blk b (EL cs (off+i) vs) t).P w' F∧Cb F w w'
 |[],cs,off,i,w,h,_,_=>⟨w,by simp [storeCells],h,Cb.refl _ _⟩
 |v::vs,cs,off,i,w,h,hl,h1=>by
  simp only [List.length_cons] at hl
  have hlt:off+i<cs.length:=by omega
  have hc:w.cell? ⟨b,off+i,none⟩=some cs[off+i]:=Lh h (by simp [List.getElem?_eq_getElem hlt])
  obtain ⟨w',hr,hb,hu⟩:=IZ vs (cs.set (off+i) v) off (i+1) (w.setCell ⟨b,off+i,none⟩ v) (Lj h _ _) (by simp;omega) (fun v' hv=>h1 v' (List.mem_cons_of_mem _ hv))
  refine ⟨w',?_,by rw [EL];exact Nat.add_assoc off i 1▸hb,(Cb.setCell w ⟨b,off+i,none⟩ v h.1).trans hu (fun _ _ x=>x)⟩
  simp only [storeCells,Eo,Sem.run_bind]
  rw [run_store P w _ v _ (h1 v (List.mem_cons_self ..))]
  simp only [stored,hc,NM h]
  exact hr
end
section
variable {P:Program} {ops:Array Oper} {Q:Exit→Act→World→Prop} {rest:List Oper} {n:Nat} {l:BA} {w0 w:World} {F0:AV} {o:Oper} {v:Value} {As Rs:List SP} {x y:Operand} {t:TypeId}
theorem By {b off sz:Nat} {B:Bool} {cs:List Value} {bt:TypeId} (hg:gd ops l o=some true) (hd:o.dst=none) (ho:o.op=.store t x y) (ht:B9 P t=some (B,sz)) (hx:ev l x=some (.pointer (some ⟨b,off,none⟩))) (hy:ev l y=some v)
  (H:Hd w0 F0 w (blk b cs bt::As) Rs) (hs:v.cells.size=sz) (hl:off+sz≤cs.length) (h1:∀ u∈v.cells.toList,u.oneCell'=true) (h:∀ w',Hd w0 F0 w' (blk b (EL cs off v.cells.toList) bt::As) Rs→WL P ops Q rest n l w'):WL P ops Q (o::rest) n l w:=by
 obtain ⟨F,hb⟩:∃ F,(blk b cs bt).P w F:=H.fact (List.mem_cons_self ..) fun F hb=>⟨F,hb⟩
 obtain ⟨w',hr,_,_⟩:=IZ (P:=P) v.cells.toList cs off 0 w hb (by simp [hs];omega) h1
 refine RL hg hd (w':=w') (fun a ha=>?_) (h w' (H.write fun F' hb'=>?_))
 ·simp [execOp,ho,ha.eval hx,ha.eval hy,Instr.storeAt,Instr.sureAddr,storeVar,MV ht,hs,hr]
 ·obtain ⟨w'',hr',h2,h3⟩:=IZ (P:=P) v.cells.toList cs off 0 w hb' (by simp [hs];omega) h1
  rw [hr] at hr'
  cases hr'
  exact ⟨h2,h3⟩
theorem B4 (hg:gd ops l o=some true) (hd:CB n o.dst=true) (ho:o.op=.box t x) (hx:ev l x=some v) (H:Hd w0 F0 w As Rs)
  (h:∀ b w',Hd w0 F0 w' (blk b v.cells.toList t::As) Rs→WL P ops Q rest n (Cp l o.dst (.pointer (some ⟨b,0,none⟩))) w'):WL P ops Q (o::rest) n l w:=by
 refine V (w':=w.alloc (.cells v.cells t)) hg hd (v:=.pointer (some ⟨w.heap.size,0,none⟩)) (fun a ha=>?_) (h _ _ ?_)
 ·simp [execOp,ho,ha.eval hx,Instr.box,newVar,newRow]
 ·have:=H.alloc v.cells.toList t
  simpa using this
theorem Do {z:Value} (hg:gd ops l o=some true) (hd:CB n o.dst=true) (ho:o.op=.alloc t) (hz:C8 P t=some z) (H:Hd w0 F0 w As Rs)
  (h:∀ b w',Hd w0 F0 w' (blk b z.cells.toList t::As) Rs→WL P ops Q rest n (Cp l o.dst (.pointer (some ⟨b,0,none⟩))) w'):WL P ops Q (o::rest) n l w:=by
 obtain ⟨i,hi,hz'⟩:=Option.bind_eq_some_iff.1 hz
 refine V (w':=w.alloc (.cells z.cells t)) hg hd (v:=.pointer (some ⟨w.heap.size,0,none⟩)) (fun a ha=>?_) (h _ _ ?_)
 ·simp [execOp,ho,Instr.alloc,zeroValue,typeInfo,hi,hz',newVar,newRow]
 ·have:=H.alloc z.cells.toList t
  simpa using this
def HG (place:Nat→Option (Nat×Nat)):List Value→List (Nat×Value)→Option (List Value)
 |cs,[]=>some cs
 |cs,(i,v)::rest=>
  match place i with
  |none=>none
  |some (off,size)=>match Nat.decEq v.cells.size size,Nat.decLe (off+size) cs.length with
   |.isTrue _,.isTrue _=>HG place (EL cs off v.cells.toList) rest
   |_,_=>none
theorem OQ:∀ (vs:List Value) (k off:Nat) (A:Array Value),((vs.zipIdx k).foldl (fun cs (p:Value×Nat)=>cs.setIfInBounds (off+p.2) p.1) A).toList=EL A.toList (off+k) vs
 |[],_,_,_=>rfl
 |v::vs,k,off,A=>by
  rw [List.zipIdx_cons,List.foldl_cons,OQ vs (k+1) off]
  simp [EL,Nat.add_assoc]
theorem LB {place:Nat→Option (Nat×Nat)}:∀ {parts:List (Nat×Value)} {A:Array Value} {cs:List Value},HG place A.toList parts=some cs→Instr.fill place A parts=some cs.toArray
 |[],A,cs,h=>by
  have:A.toList=cs:=by simpa [HG] using h
  subst this
  simp [Instr.fill]
 |(i,v)::rest,A,cs,h=>by
  simp only [HG] at h
  simp only [Instr.fill]
  split at h
  ·cases h
  ·rename_i off size hp
   simp only [hp]
   split at h
   ·rename_i e1 _ e2 _
    have e3:A.toList.length=A.size:=Array.length_toList
    rw [if_neg (by simp at e2 ⊢;omega)]
    refine LB ?_
    have:=OQ v.cells.toList 0 off A
    rw [Nat.add_zero] at this
    rw [←h,←this]
    congr 2
    rw [←Array.foldl_toList]
    simp
   ·cases h
theorem bG {z:List Value} {sz:Nat} (hz:z.length=sz) (hp:0<sz) (c:Nat):(List.range (c*sz)).map (fun j=>z[j%z.length]!)=(List.replicate c ()).flatMap fun _=>z:=by
 have hfl:∀ c,((List.replicate c ()).flatMap fun _=>z).length=c*sz:=by
  intro c
  induction c with
  |zero=>simp
  |succ c ih=>rw [List.replicate_succ,List.flatMap_cons,List.length_append,ih,hz,Nat.succ_mul,Nat.add_comm]
 have hd:∀ c i,((List.replicate c ()).flatMap fun _=>z).drop (i*sz)=(List.replicate (c - i) ()).flatMap fun _=>z:=by
  intro c i
  induction i generalizing c with
  |zero=>simp
  |succ i ih=>
   cases c with
   |zero=>simp
   |succ c=>
    rw [List.replicate_succ,List.flatMap_cons,Nat.succ_mul,Nat.add_comm (i*sz),←hz,List.drop_length_add_append,hz,ih]
    congr 2
    omega
 apply List.ext_getElem
 ·rw [hfl];simp
 ·intro j h1 h2
  simp only [List.getElem_map,List.getElem_range]
  simp at h1
  have hdj:j=j / sz*sz+j%sz:=by rw [Nat.mul_comm];exact (Nat.div_add_mod j sz).symm
  have hjd:j / sz<c:=Nat.div_lt_of_lt_mul (by rw [Nat.mul_comm];exact h1)
  have hjm:j%sz<sz:=Nat.mod_lt _ hp
  have h4:(((List.replicate c ()).flatMap fun _=>z).drop (j / sz*sz))[j%sz]?=z[j%sz]?:=by
   obtain ⟨r,hr⟩:∃ r,c - j / sz=r+1:=⟨c - j / sz - 1,by omega⟩
   rw [hd,hr,List.replicate_succ,List.flatMap_cons,List.getElem?_append_left (by omega)]
  rw [List.getElem?_drop,←hdj,List.getElem?_eq_getElem h2,List.getElem?_eq_getElem (by omega)] at h4
  rw [hz,getElem!_pos z _ (by omega)]
  exact (Option.some.inj h4).symm
def Es (P:Program) (t:TypeId):Option (Array Value×Array (Nat×Nat)):=
 match P.underlying t with
 |some (.struct fs)=>match C8 P t,fs.mapM fun f=>(P.info? f.type).map fun i=>(f.offset,i.size) with
  |some z,some ps=>some (z.cells,ps)
  |_,_=>none
 |_=>none
theorem Y4 (w:World):∀ (fs:List Field) (ps:List (Nat×Nat)),(fs.mapM fun f=>(P.info? f.type).map fun i=>(f.offset,i.size))=some ps→(fs.mapM fun f=>(do pure (f.offset,←sizeOf f.type):Sem (Nat×Nat))).run P w=.ok ps w:=by
 intro fs
 induction fs with
 |nil=>intro ps h;simp at h;subst h;rfl
 |cons f fs ih=>
  intro ps h
  simp only [List.mapM_cons,Option.bind_eq_bind,Option.bind_eq_some_iff,Option.pure_def,Option.some.injEq] at h
  obtain ⟨p,hp,qs,hq,rfl⟩:=h
  obtain ⟨i,hi,rfl⟩:=Option.map_eq_some_iff.1 hp
  simp [List.mapM_cons,sizeOf,typeInfo,hi] at ih ⊢
  simp [ih qs hq]
theorem CV {parts:List (Nat×Operand)} {vs:List Value} {z:Array Value} {ps:Array (Nat×Nat)} {cs:List Value} (ho:o.op=.build t parts.toArray) (hb:Es P t=some (z,ps)) (hx:(parts.map fun p=>ev l p.2)=vs.map some)
  (hf:HG (ps[·]?) z.toList ((parts.map (·.1)).zip vs)=some cs):Bw P n l w o (.agg cs.toArray) w:=by
 replace hf:=LB hf
 unfold Es at hb
 split at hb
 ·rename_i fs hu
  split at hb
  ·rename_i z' ps' hz hp
   simp only [Option.some.injEq,Prod.mk.injEq] at hb
   obtain ⟨rfl,rfl⟩:=hb
   obtain ⟨i,hi,hz'⟩:=Option.bind_eq_some_iff.1 hz
   intro a ha
   have hx':∀ (ps:List (Nat×Operand)) (vs:List Value),(ps.map fun p=>ev l p.2)=vs.map some→(ps.map fun p=>(p.1,a.eval p.2))=(ps.map (·.1)).zip vs:=by
    intro ps
    induction ps with
    |nil=>intro vs h;cases vs<;>simp_all
    |cons p ps ih=>
     intro vs h
     cases vs with
     |nil=>simp at h
     |cons v vs=>
      simp only [List.map_cons,List.cons.injEq,List.zip_cons_cons] at h ⊢
      exact ⟨by rw [ha.eval h.1],ih vs h.2⟩
   have hm:(fs.mapM fun f=>(do pure (f.offset,←sizeOf f.type):Sem (Nat×Nat))).run P w=.ok ps' w:=by
    have h1:fs.toList.mapM (fun f=>(P.info? f.type).map fun i=>(f.offset,i.size))=some ps'.toList:=by
     have:=congrArg (Option.map Array.toList) hp
     rw [Array.mapM_eq_mapM_toList] at hp
     cases h:fs.toList.mapM (fun f=>(P.info? f.type).map fun i=>(f.offset,i.size)) with
     |none=>simp [h] at hp
     |some q=>simp [h] at hp;simp [←hp]
    rw [Array.mapM_eq_mapM_toList]
    have h2:=Y4 (P:=P) w fs.toList ps'.toList h1
    simp only [Sem.run_map,h2,Result.andThen_ok]
   have hx2:=hx' parts vs hx
   have hm2:(parts.toArray.map fun (x:Nat×Operand)=>match x with |(i,x)=>(i,a.eval x)).toList=(parts.map (·.1)).zip vs:=by
    rw [←hx2]
    simp
   unfold execOp
   simp only [ho,Instr.build,Sem.run_bind,zeroValue,typeInfo,run_program,hi,hz',run_underlying hu,hm,Sem.run_pure,Result.andThen_ok,hm2,hf]
  ·simp at hb
 ·simp at hb
theorem Bv {parts:List (Nat×Operand)} {vs:List Value} {m e size bytes:Nat} {z:Value} {cs:List Value} (hg:gd ops l o=some true) (hd:CB n o.dst=true) (ho:o.op=.buildSlice t m parts.toArray)
  (hs:C0 P t=some (e,size,bytes)) (hz:C8 P e=some z) (hzs:z.cells.toList.length=size) (h0:m*size≠0) (h1:¬ m*size>2^24) (hx:(parts.map fun p=>ev l p.2)=vs.map some)
  (hf:HG (fun i=>some (i*size,size)) ((List.replicate m ()).flatMap fun _=>z.cells.toList) ((parts.map (·.1)).zip vs)=some cs) (H:Hd w0 F0 w As Rs)
  (h:∀ b w',Hd w0 F0 w' (blk b cs e::As) Rs→WL P ops Q rest n (Cp l o.dst (.slice (some ⟨b,0,none⟩) m m)) w'):WL P ops Q (o::rest) n l w:=by
 obtain ⟨hu,inf,hi,hsz,_⟩:=Fa hs
 obtain ⟨i,hi',hz'⟩:=Option.bind_eq_some_iff.1 hz
 rw [hi] at hi'
 cases hi'
 have hpos:0<size:=by
  rcases Nat.eq_zero_or_pos size with h|h
  ·rw [h] at h0;simp at h0
  ·exact h
 have hz2:((Array.range (m*size)).map (z.cells[·%z.cells.size]!)).toList=(List.replicate m ()).flatMap fun _=>z.cells.toList:=by
  rw [←bG hzs hpos m]
  simp
  intro a _
  rw [getElem!_def]
  cases z.cells[a%z.cells.size]?<;>rfl
 rw [←hz2] at hf
 replace hf:=LB hf
 refine V (w':=w.alloc (.cells cs.toArray e)) hg hd (v:=.slice (some ⟨w.heap.size,0,none⟩) m m) (fun a ha=>?_) (h _ _ ?_)
 ·have hx':∀ (ps:List (Nat×Operand)) (vs:List Value),(ps.map fun p=>ev l p.2)=vs.map some→(ps.map fun p=>(p.1,a.eval p.2))=(ps.map (·.1)).zip vs:=by
   intro ps
   induction ps with
   |nil=>intro vs h;cases vs<;>simp_all
   |cons p ps ih=>
    intro vs h
    cases vs with
    |nil=>simp at h
    |cons v vs=>
     simp only [List.map_cons,List.cons.injEq,List.zip_cons_cons] at h ⊢
     exact ⟨by rw [ha.eval h.1],ih vs h.2⟩
  have hm2:(parts.toArray.map fun (x:Nat×Operand)=>match x with |(i,x)=>(i,a.eval x)).toList=(parts.map (·.1)).zip vs:=by
   rw [←hx' parts vs hx]
   simp
  unfold execOp
  simp only [ho,Instr.buildSlice,Sem.run_bind,run_underlying hu,sizeOf,zeroValue,typeInfo,run_program,hi,hz',hsz,if_neg h1,if_neg h0,Sem.run_pure,Result.andThen_ok,hm2,hf,newRow,run_newObj]
  simp
 ·exact H.alloc cs e
end
section
variable {P:Program} {w:World} {F:AV}
theorem MU {t tx ty e size bytes:Nat} {dx:TypeDesc} {z:Value} {A:Option Addr} {n c m:Nat} {cs news:List Value} {x:Value} (hs:C0 P t=some (e,size,bytes)) (hz:C8 P e=some z) (hzs:z.cells.size=size)
  (htx:P.underlying tx=some dx) (hni:(∃ q,dx=.slice q)∨dx=.string) (h:Fh w F size A n c cs) (hF:∀ k,F k→k<w.heap.size)
  (hlen:(Builtin.lenOf x).run P w=.ok m w) (hfc:∀ w':World,w'.heap=w.heap→(Builtin.firstCells size m x).run P w'=.ok news.toArray w') (hnl:news.length=m*size) (h1:∀ u∈news,u.oneCell'=true)
  (hb0:0<bytes) (hb:(n+m)*bytes≤140737488355328):
  ∃ A' c' w' F',(Builtin.append_ #[t,tx] ty #[.slice A n c,x]).run P w=.ok (.slice A' (n+m) c') w'∧Fh w' F' size A' (n+m) c' (cs++news)∧Cb F w w'∧(∀ k,F' k→k<w'.heap.size∧(F k∨w.heap.size≤k)):=by
 obtain ⟨hu,i,hi,rfl,rfl⟩:=Fa hs
 obtain ⟨i',hi',hz'⟩:=Option.bind_eq_some_iff.1 hz
 rw [hi] at hi'
 cases hi'
 obtain ⟨hnc,hcm,hcl,hrow⟩:=h
 have hsmall:n+m≤140737488355328:=Nat.le_trans (Nat.le_mul_of_pos_right _ hb0) hb
 by_cases hroom:n+m≤c
 ·rcases hrow with ⟨hc0,hp⟩|⟨b,C,bt,hA,hFb,hh,hCs,htake⟩
  ·obtain rfl:n=0:=by omega
   obtain rfl:m=0:=by omega
   obtain rfl:cs=[]:=List.eq_nil_of_length_eq_zero (by simpa using hcl)
   obtain rfl:news=[]:=List.eq_nil_of_length_eq_zero (by simpa using hnl)
   refine ⟨A,c,w,F,?_,⟨hnc,hcm,by simp,.inl ⟨hc0,hp⟩⟩,Cb.refl _ _,fun k hk=>⟨hF k hk,.inl hk⟩⟩
   rcases hni with ⟨q,rfl⟩|rfl<;>cases A<;>simp [Builtin.append_,run_underlying hu,run_underlying htx,sizeOf,typeInfo,hi,hlen,hfc w rfl,hc0,storeCells]
  ·have hfit:n*i.size+news.length≤C.size:=by rw [hnl,hCs,←Nat.add_mul];exact Nat.mul_le_mul_right _ hroom
   have hst:=run_storeCells_at P b (n*i.size) bt news 0 C w hh (by simpa using hfit) h1
   simp only [Nat.add_zero] at hst
   refine ⟨A,c,w.setRow b (C.toList.take (n*i.size)++news++C.toList.drop (n*i.size+news.length)).toArray,F,?_,⟨hroom,hcm,by simp [hcl,hnl,Nat.add_mul],.inr ⟨b,_,bt,hA,hFb,setRow_heap w b C _ bt _ hh,?_,?_⟩⟩,⟨rfl,rfl,rfl,by simp,fun k _ hk=>setRow_other w b k _ (fun e=>hk (e▸hFb))⟩,fun k hk=>⟨by simpa using hF k hk,.inl hk⟩⟩
   ·subst hA
    rcases hni with ⟨q,rfl⟩|rfl<;>simp [Builtin.append_,run_underlying hu,run_underlying htx,sizeOf,typeInfo,hi,hlen,hfc w rfl,hroom,Eo,hst]
   ·simp only [List.size_toArray,List.length_append,List.length_take,List.length_drop,Array.length_toList]
    omega
   ·rw [htake]
    have:(cs++news).length=(n+m)*i.size:=by simp [hcl,hnl,Nat.add_mul]
    rw [←this]
    exact List.take_left
 ·have hbz:i.bytes≠0:=by omega
  have hold:∀ w':World,w'.heap=w.heap→(Builtin.firstCells i.size n (.slice A n c)).run P w'=.ok cs.toArray w':=by
   intro w' hw'
   rcases hrow with ⟨hc0,hp⟩|⟨b,C,bt,hA,hFb,hh,hCs,htake⟩
   ·obtain rfl:n=0:=by omega
    obtain rfl:cs=[]:=List.eq_nil_of_length_eq_zero (by simpa using hcl)
    cases A<;>simp [Builtin.firstCells,loadCells,loadCellsFrom]
   ·subst hA
    refine run_firstCells_some w' i.size n ⟨b,0,none⟩ n c cs hcl (fun j v hv=>?_)
    have hR:ED w F (some ⟨b,0,none⟩) cs:=Fh.toR (c:=c) ⟨hnc,hcm,hcl,.inr ⟨b,C,bt,rfl,hFb,hh,hCs,htake⟩⟩
    obtain ⟨b',off',e',hcell⟩:=hR.cell hv
    cases e'
    have:w'.cell? ⟨b,0+j,none⟩=w.cell? ⟨b,0+j,none⟩:=by simp [World.cell?,hw']
    rw [Eo,this]
    exact hcell
  have hbig:¬ (9223372036854775807<((n+m:Nat):Int)):=by omega
  have hfit:¬ 281474976710656<Builtin.nextslicecap (n+m) c*i.bytes:=by
   have:=growslice_fits (need:=n+m) (old:=c) (bytes:=i.bytes) (by omega) hb
   omega
  have hge:=grownCap_ge w (n+m) c e
  have hle:grownCap w (n+m) c e≤9223372036854775807:=by
   have:=grownCap_le_maxLen w (n+m) c e (by simp only [maxLen];omega)
   simpa [maxLen] using this
  refine ⟨some ⟨w.heap.size,0,none⟩,grownCap w (n+m) c e,w.drew.alloc (.cells (cs.toArray++news.toArray++Builtin.zeroCells z.cells (grownCap w (n+m) c e - (n+m))) e),fun k=>k=w.heap.size,?_,⟨hge,hle,by simp [hcl,hnl,Nat.add_mul],.inr ⟨w.heap.size,_,e,rfl,rfl,heap_alloc_new w.drew _,?_,?_⟩⟩,?_,?_⟩
  ·rcases hni with ⟨q,rfl⟩|rfl<;>simp [Builtin.append_,run_underlying hu,run_underlying htx,sizeOf,zeroValue,typeInfo,hi,hz',hlen,hfc w.drew rfl,hold w.drew rfl,hroom,hbz,hfit,newRow,grownCap,Question.forced]<;>(rw [←Array.append_assoc];simp)
  ·simp only [Array.size_append,List.size_toArray,size_zeroCells,hzs,hcl,hnl,←Nat.add_mul]
   congr 1
   omega
  ·simp only [Array.toList_append]
   have:(cs++news).length=(n+m)*i.size:=by simp [hcl,hnl,Nat.add_mul]
   rw [←this]
   exact List.take_left
  ·exact (Cb.alloc F w.drew _).trans (Cb.refl F _) (fun _ _ x=>x)|>fun u=>⟨u.os,u.tape,u.output,u.size,u.block⟩
  ·intro k hk
   subst hk
   simp
end
section
variable {P:Program} {ops:Array Oper} {Q:Exit→Act→World→Prop} {rest:List Oper} {n:Nat} {l:BA} {w0 w:World} {F0:AV} {o:Oper} {v:Value} {As Rs:List SP} {x y:Operand} {t:TypeId}
theorem LD {size m c:Nat} {B:Option Addr} {news:List Value} {F:AV} (h:ED w F B news) (hnl:news.length=m*size) (hm:B=none→m=0):
  ∀ w':World,w'.heap=w.heap→(Builtin.firstCells size m (.slice B m c)).run P w'=.ok news.toArray w':=by
 intro w' hw'
 cases B with
 |none=>
  obtain rfl:=hm rfl
  obtain rfl:news=[]:=List.eq_nil_of_length_eq_zero (by simpa using hnl)
  simp [Builtin.firstCells]
 |some a=>
  refine run_firstCells_some w' size m a m c news hnl (fun j v hv=>?_)
  obtain ⟨b,off,e,hc⟩:=h.cell hv
  cases e
  have:w'.cell? ⟨b,off+j,none⟩=w.cell? ⟨b,off+j,none⟩:=by simp [World.cell?,hw']
  rw [Eo,this]
  exact hc
theorem BY {α:Type} {enc:α→List Value} {sz:Nat} {hp:0<sz} {hl:∀ x,(enc x).length=sz} {h1:∀ x,∀ c∈enc x,c.oneCell'=true} {e bytes:Nat} {z u:Value} {xs ys:List α} {B:Option Addr} {m c2:Nat}
  (hg:gd ops l o=some true) (hd:CB n o.dst=true) (ho:o.op=.call { callee:=.builtin .append,args:=#[x,y],argTypes:=#[t,t] }) (hs:C0 P t=some (e,sz,bytes)) (hz:C8 P e=some z) (hzs:z.cells.size=sz) (hb0:0<bytes)
  (hx:ev l x=some u) (hy:ev l y=some (.slice B m c2)) (H:Hd w0 F0 w (Ae (flat enc sz hp hl h1) u xs::As) Rs) (hb:(xs.length+m)*bytes≤140737488355328)
  (hn:∀ F,(∀ A∈As,A.P w F)→(∀ R∈Rs,R.P w F)→(Af (flat enc sz hp hl h1) (.slice B m c2) ys).P w F)
  (h:∀ u' w',Hd w0 F0 w' (Ae (flat enc sz hp hl h1) u' (xs++ys)::As) Rs→WL P ops Q rest n (Cp l o.dst u') w'):WL P ops Q (o::rest) n l w:=by
 obtain ⟨F,hF1,hF2⟩:∃ F,(∀ A∈As,A.P w F)∧(∀ R∈Rs,R.P w F):=H.read fun F a r=>⟨F,fun A hA=>a A (List.mem_cons_of_mem _ hA),r⟩
 obtain ⟨hyl,_,_,news,hnr,hnR⟩:M4 (flat enc sz hp hl h1) w F ys B m c2:=by
  obtain ⟨A',n',c',e',h'⟩:=hn F hF1 hF2
  cases e'
  exact h'
 have hnl:news.length=m*sz:=by rw [hnR.len,hyl];rfl
 have hm0:B=none→m=0:=by
  intro hB
  rcases hnr.2 with rfl|⟨b,off,C,t',fr,e',_⟩
  ·have:m*sz=0:=by rw [←hnl];rfl
   exact (Nat.mul_eq_zero.1 this).resolve_right (by omega)
  ·rw [hB] at e';cases e'
 obtain ⟨hu,i,hi,hi1,hi2⟩:=Fa hs
 have hfc:=LD (P:=P) (c:=c2) hnr hnl hm0
 have key:∀ F1,(Ae (flat enc sz hp hl h1) u xs).P w F1→(∀ k,F1 k→k<w.heap.size)→∃ A c A' c' w' F',u=.slice A xs.length c∧(Builtin.append_ #[t,t] o.type #[u,.slice B m c2]).run P w=.ok (.slice A' (xs.length+m) c') w'∧(Ae (flat enc sz hp hl h1) (.slice A' (xs.length+m) c') (xs++ys)).P w' F'∧Cb F1 w w'∧(∀ k,F' k→k<w'.heap.size∧(F1 k∨w.heap.size≤k)):=by
  rintro F1 ⟨A,n',c,e',hxl,cs,G1,G2,g1,g2,gd,hr,hR⟩ hlt
  cases e'
  subst hxl
  obtain ⟨A',c',w',F',hrun,hrow,hupd,hF'⟩:=MU (P:=P) (tx:=t) (ty:=o.type) (x:=.slice B m c2) (m:=m) (news:=news) hs hz hzs hu (.inl ⟨e,rfl⟩) hr (fun k hk=>hlt k (g1 k hk)) (by simp [Builtin.lenOf]) hfc hnl hnR.one hb0 hb
  refine ⟨A,c,A',c',w',F',rfl,hrun,?_,⟨hupd.os,hupd.tape,hupd.output,hupd.size,fun k hk hn'=>hupd.block k hk (fun q=>hn' (g1 k q))⟩,fun k hk=>⟨(hF' k hk).1,(hF' k hk).2.imp (g1 k) id⟩⟩
  exact ⟨A',_,c',rfl,by simp [hyl],cs++news,F',none_,fun _ q=>q,fun _ q=>q.elim,fun _ _ q=>q,hrow,Cr.flatR (F:=none_) (AX.flat_eq.2 (by rw [AX.flat_eq.1 hR.toR,AX.flat_eq.1 hnR];simp))⟩
 have hall:∃ F1,(Ae (flat enc sz hp hl h1) u xs).P w F1∧∀ k,F1 k→k<w.heap.size:=by
  obtain ⟨F,G,⟨F1,F2,a1,a2,a3,a,s⟩,r,d,f,g,u⟩:=H
  exact ⟨F1,a,fun k hk=>(f k (a1 k hk)).1⟩
 obtain ⟨F1,hO,hlt⟩:=hall
 obtain ⟨A,c,A',c',w',F',hue,hrun,_,_,_⟩:=key F1 hO hlt
 refine V hg hd (v:=.slice A' (xs.length+m) c') (w':=w') (fun a ha=>?_) (h _ _ (H.grow fun F2 hO2 hlt2=>?_))
 ·simp [execOp,ho,resolve,ha.eval hx,ha.eval hy,invoke,builtin,hrun]
 ·obtain ⟨A3,c3,A4,c4,w4,F4,_,hrun4,h4,h5,h6⟩:=key F2 hO2 hlt2
  rw [hrun] at hrun4
  cases hrun4
  exact ⟨F4,h4,h5,h6⟩
theorem Zi {α:Type} {d:Kd α} {E:SP} {e bytes:Nat} {z u:Value} {xs ys:List α} {B:Option Addr} {m c2:Nat}
  (hg:gd ops l o=some true) (hd:CB n o.dst=true) (ho:o.op=.call { callee:=.builtin .append,args:=#[x,y],argTypes:=#[t,t] }) (hs:C0 P t=some (e,d.sz,bytes)) (hz:C8 P e=some z) (hzs:z.cells.size=d.sz) (hb0:0<bytes)
  (hx:ev l x=some u) (hy:ev l y=some (.slice B m c2)) (H:Hd w0 F0 w (Ae d u xs::E::As) Rs) (hb:(xs.length+m)*bytes≤140737488355328)
  (hyl:ys.length=m) (hE:∀ F,E.P w F→∃ news,ED w F B news∧Cr d w F ys news)
  (h:∀ u' w',Hd w0 F0 w' (Ae d u' (xs++ys)::As) Rs→WL P ops Q rest n (Cp l o.dst u') w'):WL P ops Q (o::rest) n l w:=by
 have H2:Hd w0 F0 w (Cz [Ae d u xs,E]::As) Rs:=H.shut (Bs:=[Ae d u xs,E]) (fun F hF=>hF)
 obtain ⟨hu,i,hi,hi1,hi2⟩:=Fa hs
 have hpos:=d.pos
 have key:∀ F1,(Cz [Ae d u xs,E]).P w F1→(∀ k,F1 k→k<w.heap.size)→∃ A' c' w' F',(Builtin.append_ #[t,t] o.type #[u,.slice B m c2]).run P w=.ok (.slice A' (xs.length+m) c') w'∧(Ae d (.slice A' (xs.length+m) c') (xs++ys)).P w' F'∧Cb F1 w w'∧(∀ k,F' k→k<w'.heap.size∧(F1 k∨w.heap.size≤k)):=by
  rintro F1 ⟨K1,K2,k1,k2,kd,⟨A,n',c,e',hxl,cs,G1,G2,g1,g2,gd,hr,hR⟩,K3,K4,k3,k4,kd',hEP,_⟩ hlt
  cases e'
  subst hxl
  obtain ⟨news,hnr,hnO⟩:=hE K3 hEP
  have hnl:news.length=m*d.sz:=by rw [hnO.toR.len,hyl]
  have hm0:B=none→m=0:=by
   intro hB
   rcases hnr.2 with rfl|⟨b,off,C,t',fr,e',_⟩
   ·have:m*d.sz=0:=by rw [←hnl];rfl
    exact (Nat.mul_eq_zero.1 this).resolve_right (by omega)
   ·rw [hB] at e';cases e'
  have hfc:=LD (P:=P) (c:=c2) hnr hnl hm0
  obtain ⟨A',c',w',F',hrun,hrow,hupd,hF'⟩:=MU (P:=P) (tx:=t) (ty:=o.type) (x:=.slice B m c2) (m:=m) (news:=news) hs hz hzs hu (.inl ⟨e,rfl⟩) hr (fun k hk=>hlt k (k1 k (g1 k hk))) (by simp [Builtin.lenOf]) hfc hnl hnO.toR.one hb0 hb
  have hsz:=hupd.size
  refine ⟨A',c',w',fun k=>F' k∨G2 k∨K3 k,hrun,?_,⟨hupd.os,hupd.tape,hupd.output,hupd.size,fun k hk hn'=>hupd.block k hk (fun q=>hn' (k1 k (g1 k q)))⟩,?_⟩
  ·refine ⟨A',_,c',rfl,by simp [hyl],cs++news,F',fun k=>G2 k∨K3 k,fun _=>.inl,fun _=>.inr,?_,hrow,Cr.append (F1:=G2) (F2:=K3) (fun _=>.inl) (fun _=>.inr) ?_ (hR.loc ?_) (hnO.loc ?_)⟩
   ·intro k hk hq
    have hold:k<w.heap.size:=hq.elim (fun q=>hlt k (k1 k (g2 k q))) (fun q=>hlt k (k2 k (k3 k q)))
    rcases (hF' k hk).2 with hg|hg
    ·exact hq.elim (gd k hg) (fun q=>kd k (g1 k hg) (k3 k q))
    ·omega
   ·exact fun k a b=>kd k (g2 k a) (k3 k b)
   ·exact fun k hk=>hupd.block k (hlt k (k1 k (g2 k hk))) (fun q=>gd k q hk)
   ·exact fun k hk=>hupd.block k (hlt k (k2 k (k3 k hk))) (fun q=>kd k (g1 k q) (k3 k hk))
  ·intro k hk
   rcases hk with hk|hk|hk
   ·exact ⟨(hF' k hk).1,(hF' k hk).2.imp (fun q=>k1 k (g1 k q)) id⟩
   ·exact ⟨Nat.lt_of_lt_of_le (hlt k (k1 k (g2 k hk))) hsz,.inl (k1 k (g2 k hk))⟩
   ·exact ⟨Nat.lt_of_lt_of_le (hlt k (k2 k (k3 k hk))) hsz,.inl (k2 k (k3 k hk))⟩
 have hall:∃ F1,(Cz [Ae d u xs,E]).P w F1∧∀ k,F1 k→k<w.heap.size:=by
  obtain ⟨F,G,⟨F1,F2,a1,a2,a3,a,s⟩,r,d,f,g,u⟩:=H2
  exact ⟨F1,a,fun k hk=>(f k (a1 k hk)).1⟩
 obtain ⟨F1,hO,hlt⟩:=hall
 obtain ⟨A',c',w',F',hrun,_,_,_⟩:=key F1 hO hlt
 refine V hg hd (v:=.slice A' (xs.length+m) c') (w':=w') (fun a ha=>?_) (h _ _ (H2.grow fun F2 hO2 hlt2=>?_))
 ·simp [execOp,ho,resolve,ha.eval hx,ha.eval hy,invoke,builtin,hrun]
 ·obtain ⟨A4,c4,w4,F4,hrun4,h4,h5,h6⟩:=key F2 hO2 hlt2
  rw [hrun] at hrun4
  cases hrun4
  exact ⟨F4,h4,h5,h6⟩
theorem BZ {α:Type} {d:Kd α} {b:Nat} {cs:List Value} {e:TypeId} {xs:List α} {F:AV} {m:Nat} (h:(blk b cs e).P w F) (hx:xs.length=m) (hm:m≤9223372036854775807) (hr:AX d w F xs cs):(Af d (.slice (some ⟨b,0,none⟩) m m) xs).P w F:=by
 refine ⟨_,_,_,rfl,hx,Nat.le_refl _,hm,cs,⟨trivial,.inr ⟨b,0,_,_,_,rfl,h.1,h.2,by simp⟩⟩,hr⟩
theorem Ds {α:Type} {enc:α→List Value} {sz:Nat} {hp:0<sz} {hl:∀ x,(enc x).length=sz} {h1:∀ x,∀ c∈enc x,c.oneCell'=true} {b:Nat} {cs:List Value} {e:TypeId} {xs:List α} {F:AV} {m:Nat} (h:(blk b cs e).P w F) (hx:xs.length=m) (hm:m≤9223372036854775807)
  (hr:cs=xs.flatMap enc):(Ae (flat enc sz hp hl h1) (.slice (some ⟨b,0,none⟩) m m) xs).P w F:=by
 have hlen:cs.length=m*sz:=by
  have:=(AX.flat_eq (enc:=enc) (hp:=hp) (hl:=hl) (h1:=h1) (w:=w) (F:=F)).2 hr
  rw [this.len,hx]
  rfl
 refine ⟨_,_,_,rfl,hx,cs,F,none_,fun _ q=>q,fun _ q=>q.elim,fun _ _ q=>q,⟨Nat.le_refl _,hm,hlen,.inr ⟨b,_,_,rfl,h.1,h.2,by simp [hlen];rfl,by show cs.take (m*sz)=cs;rw [←hlen];exact List.take_length⟩⟩,Cr.flatR (F:=none_) (AX.flat_eq.2 hr)⟩
theorem Qu {α:Type} (d:Kd α) (w:World) (F:AV) {A:Option Addr} (hA:Plain A):(Ae d (.slice A 0 0) ([]:List α)).P w F:=
 ⟨A,0,0,rfl,rfl,[],none_,none_,fun _ q=>q.elim,fun _ q=>q.elim,fun _ q=>q.elim,⟨Nat.le_refl _,by omega,by simp,.inl ⟨rfl,hA⟩⟩,rfl⟩
theorem IY {α:Type} (d:Kd α) (w:World) (F:AV) {A:Option Addr} {c:Nat} (hA:Plain A) (hc:c≤9223372036854775807):(Af d (.slice A 0 c) ([]:List α)).P w F:=
 ⟨A,0,c,rfl,rfl,Nat.zero_le _,hc,[],⟨hA,.inl rfl⟩,rfl⟩
theorem Hd.newnil {α:Type} (d:Kd α) (H:Hd w0 F0 w As Rs):Hd w0 F0 w (Ae d (.slice none 0 0) []::As) Rs:=
 H.new (Cb.refl _ _) (F':=none_) (Qu d w none_ trivial) (fun _ q=>q.elim)
end
theorem Ay {x:Int} (h0: -9223372036854775808≤x) (h1:x≤9223372036854775807):IntKind.i64.wrap x=x:=by
 simp only [IntKind.wrap,IntKind.bits,IntKind.signed]
 simp
 omega
theorem D5 {x:Int} (h0:0≤x) (h1:x≤18446744073709551615):IntKind.u64.wrap x=x:=by
 simp only [IntKind.wrap,IntKind.bits,IntKind.signed]
 simp
 omega
def Er:Option Addr→Nat
 |some a=>a.block
 |none=>0
def AA:Option Addr→Nat
 |some a=>a.off
 |none=>0
def FW (A:Option Addr):Prop:=A=some ⟨Er A,AA A,none⟩
theorem Z2 {A:Option Addr} {b off:Nat} (h:A=some ⟨b,off,none⟩):FW A:=by subst h;rfl
section
variable {P:Program} {n:Nat} {l:BA} {w0 w:World} {F0:AV} {o:Oper} {v u:Value} {x y:Operand} {t:TypeId} {As Rs:List SP}
theorem Hd.cellI {b:Nat} {cs:List Value} {bt:TypeId} (H:Hd w0 F0 w As Rs) (i:Nat) (hi:As[i]?=some (blk b cs bt)) {j:Nat} (hv:cs[j]?=some v):w.cell? ⟨b,j,none⟩=some v:=H.cell (List.mem_of_getElem? hi) hv
theorem Hd.cellRI {b:Nat} {cs:List Value} {bt:TypeId} (H:Hd w0 F0 w As Rs) (i:Nat) (hi:Rs[i]?=some (blk b cs bt)) {j:Nat} (hv:cs[j]?=some v):w.cell? ⟨b,j,none⟩=some v:=H.cellR (List.mem_of_getElem? hi) hv
theorem Hd.cellsI {b:Nat} {cs ds:List Value} {bt:TypeId} (H:Hd w0 F0 w As Rs) (i:Nat) (hi:As[i]?=some (blk b cs bt)) {off:Nat} (hv:(cs.drop off).take ds.length=ds):∀ j v,ds[j]?=some v→w.cell? ((⟨b,off,none⟩:Addr).add j)=some v:=by
 intro j v hj
 rw [Eo]
 refine H.cellI i hi ?_
 rw [←hv,List.getElem?_take] at hj
 split at hj
 ·rwa [List.getElem?_drop] at hj
 ·cases hj
theorem Hd.cellsRI {b:Nat} {cs ds:List Value} {bt:TypeId} (H:Hd w0 F0 w As Rs) (i:Nat) (hi:Rs[i]?=some (blk b cs bt)) {off:Nat} (hv:(cs.drop off).take ds.length=ds):∀ j v,ds[j]?=some v→w.cell? ((⟨b,off,none⟩:Addr).add j)=some v:=by
 intro j v hj
 rw [Eo]
 refine H.cellRI i hi ?_
 rw [←hv,List.getElem?_take] at hj
 split at hj
 ·rwa [List.getElem?_drop] at hj
 ·cases hj
theorem AG {tt e size bytes:TypeId} {A:Option Addr} {m c:Nat} {k:IntKind} {i:Int} {p:Nat} (ho:o.op=.indexAddr tt x y) (hs:C0 P tt=some (e,size,bytes)) (hx:ev l x=some (.slice A m c)) (hy:ev l y=some (.int k i))
  (h0:0≤i) (h1:i<(m:Int)) (hA:FW A) (hp:AA A+i.toNat*size=p):Bw P n l w o (.pointer (some ⟨Er A,p,none⟩)) w:=by
 exact YA (b:=Er A) (off:=AA A) (c:=c) ho hs (hx.trans (congrArg (fun q=>some (Value.slice q m c)) hA)) hy h0 h1 hp
variable {α:Type} {enc:α→List Value} {sz:Nat} {hp:0<sz} {hl:∀ x,(enc x).length=sz} {h1:∀ x,∀ c∈enc x,c.oneCell'=true} {xs:List α} {A:Option Addr} {m c:Nat}
theorem LG {F:AV} (h:(Af (flat enc sz hp hl h1) (.slice A m c) xs).P w F) {i:Nat} {x:α} (hx:xs[i]?=some x) {j p:Nat} {u:Value} (hu:(enc x)[j]?=some u) (hpj:AA A+i*sz+j=p):w.cell? ⟨Er A,p,none⟩=some u:=by
 obtain ⟨b,off,e,hc⟩:=RE h hx
 subst e
 subst hpj
 exact hc j u hu
theorem LJ {F:AV} (h:(Af (flat enc sz hp hl h1) (.slice A m c) xs).P w F) {i:Nat} {x:α} (hx:xs[i]?=some x):FW A:=by
 obtain ⟨b,off,e,hc⟩:=RE h hx
 exact Z2 e
theorem Hd.thR (H:Hd w0 F0 w As Rs) (j:Nat) (hj:Rs[j]?=some (Af (flat enc sz hp hl h1) (.slice A m c) xs)) {i:Nat} {x:α} (hx:xs[i]?=some x):FW A:=H.factR (List.mem_of_getElem? hj) fun _ h=>LJ h hx
theorem Hd.thA (H:Hd w0 F0 w As Rs) (j:Nat) (hj:As[j]?=some (Ae (flat enc sz hp hl h1) (.slice A m c) xs)) {i:Nat} {x:α} (hx:xs[i]?=some x):FW A:=H.fact (List.mem_of_getElem? hj) fun F h=>LJ (BI F h) hx
theorem Hd.elR (H:Hd w0 F0 w As Rs) (j:Nat) (hj:Rs[j]?=some (Af (flat enc sz hp hl h1) (.slice A m c) xs)) {i:Nat} {x:α} (hx:xs[i]?=some x) {q p:Nat} {u:Value} (hu:(enc x)[q]?=some u) (hpj:AA A+i*sz+q=p):w.cell? ⟨Er A,p,none⟩=some u:=
 H.factR (List.mem_of_getElem? hj) fun _ h=>LG h hx hu hpj
theorem Hd.elA (H:Hd w0 F0 w As Rs) (j:Nat) (hj:As[j]?=some (Ae (flat enc sz hp hl h1) (.slice A m c) xs)) {i:Nat} {x:α} (hx:xs[i]?=some x) {q p:Nat} {u:Value} (hu:(enc x)[q]?=some u) (hpj:AA A+i*sz+q=p):w.cell? ⟨Er A,p,none⟩=some u:=
 H.fact (List.mem_of_getElem? hj) fun F h=>LG (BI F h) hx hu hpj
theorem Hd.elsR (H:Hd w0 F0 w As Rs) (j:Nat) (hj:Rs[j]?=some (Af (flat enc sz hp hl h1) (.slice A m c) xs)) {i:Nat} {x:α} (hx:xs[i]?=some x) {p:Nat} (hpj:AA A+i*sz=p):∀ q v,(enc x)[q]?=some v→w.cell? ((⟨Er A,p,none⟩:Addr).add q)=some v:=by
 intro q v hq
 rw [Eo]
 exact H.elR j hj hx hq (by rw [hpj])
theorem Hd.elsA (H:Hd w0 F0 w As Rs) (j:Nat) (hj:As[j]?=some (Ae (flat enc sz hp hl h1) (.slice A m c) xs)) {i:Nat} {x:α} (hx:xs[i]?=some x) {p:Nat} (hpj:AA A+i*sz=p):∀ q v,(enc x)[q]?=some v→w.cell? ((⟨Er A,p,none⟩:Addr).add q)=some v:=by
 intro q v hq
 rw [Eo]
 exact H.elA j hj hx hq (by rw [hpj])
theorem Hd.keep:∀ (k:Nat) {As:List SP},Hd w0 F0 w As Rs→Hd w0 F0 w (As.take k) Rs
 |k,As,h=>by
  have:Hd w0 F0 w (As.take k++As.drop k) Rs:=by rwa [List.take_append_drop]
  obtain ⟨Fc,h1,h2⟩:=this.frame (Ss:=Rs) (fun S hS F _ hR=>hR S hS)
  have h3:=this
  obtain ⟨F,G,s,r,d,f,g,u⟩:=h3
  obtain ⟨F1,F2,a1,a2,a3,s1,s2⟩:=s.append_out
  exact ⟨F1,G,s1,r,fun k hk=>d k (a1 k hk),fun k hk=>f k (a1 k hk),g,u⟩
theorem Uq {α:Type} (l:List α) (d:α):(List.range l.length).map (fun i=>l.getD i d)=l:=by
 apply List.ext_getElem?
 intro k
 rw [List.getElem?_map]
 rcases Nat.lt_or_ge k l.length with h|h
 ·rw [List.getElem?_range h,Option.map_some,List.getElem?_eq_getElem h]
  simp [h]
 ·rw [List.getElem?_eq_none (by simpa using h),List.getElem?_eq_none h]
  rfl
theorem Hd.sel {As:List SP} (n:Nat) (is js:List Nat) (hn:As.length=n) (h:(is++js).isPerm (List.range n)=true) (H:Hd w0 F0 w As Rs):Hd w0 F0 w (is.map fun i=>As.getD i (CH True)) Rs:=by
 subst hn
 have p1:=(List.isPerm_iff.1 h).map fun i=>As.getD i (CH True)
 rw [Uq,List.map_append] at p1
 have h1:=(H.perm p1.symm).keep (is.map fun i=>As.getD i (CH True)).length
 rwa [List.take_left] at h1
theorem Hd.fR (H:Hd w0 F0 w As Rs) (j:Nat) {d:Kd α} (hj:Rs[j]?=some (Af d v xs)):∃ A c,v=.slice A xs.length c∧xs.length≤c∧c≤9223372036854775807∧Plain A:=H.form (List.mem_of_getElem? hj)
theorem Hd.fA (H:Hd w0 F0 w As Rs) (j:Nat) {d:Kd α} (hj:As[j]?=some (Ae d v xs)):∃ A c,v=.slice A xs.length c∧xs.length≤c∧c≤9223372036854775807∧Plain A:=H.formO (List.mem_of_getElem? hj)
theorem EC {P:Program} {ops:Array Oper} {Q:Exit→Act→World→Prop} {rest:List Oper} {d:Nat} {b:Bool} (hc:lk l d=some (.bool b)) (ht:b=true→WL P ops Q rest n ((d,.bool true)::l) w) (hf:b=false→WL P ops Q rest n ((d,.bool false)::l) w):WL P ops Q rest n l w:=by
 have hc':lk l d=some (.bool (decide (b=true))):=by cases b<;>exact hc
 exact AD hc' ht (fun h=>hf (by simpa using h))
end
theorem sc {P:Program} {ops:Array Oper} {Q:Exit→Act→World→Prop} {rest:List Oper} {n:Nat} {l:BA} {w0 w:World} {F0:AV} {o:Oper} {As Rs Cs Ss:List SP} {f:FuncId} {args:List Value} {T:Value→List SP→Prop}
  (hc:Cn P f args Cs Ss T) (H:Hd w0 F0 w (Cs++As) Rs) (hl:Fg w As Rs Ss) (hg:gd ops l o=some true) (hd:CB n o.dst=true) (hr:Ij P n l w o f args.toArray)
  (h:∀ v Bs w',T v Bs→Hd w0 F0 w' (Bs++As) Rs→WL P ops Q rest n (Cp l o.dst v) w'):WL P ops Q (o::rest) n l w:=Zl hg hd hr hc H hl h
theorem Ag {T:Value→List SP→Prop} {w0 w:World} {F0:AV} {v:Value} {Bs Rs:List SP} (ht:T v Bs) (H:Hd w0 F0 w Bs Rs):Hv (fun v w'=>∃ Bs,T v Bs∧Hd w0 F0 w' Bs Rs) (.returned v) w:=⟨v,rfl,Bs,ht,H⟩
/-! ### Lists -/
theorem R4 {α:Type} {xs ys:List α} {k:Nat} {x:α} (hx:xs[k]?=some x) (hy:ys[k]?=some x) (h:xs.take k=ys.take k):xs.take (k+1)=ys.take (k+1):=by
 rw [List.take_add_one,List.take_add_one,hx,hy,h]
theorem DV {α:Type} {xs:List α} {k:Nat} {x:α} (hx:xs[k]?=some x):xs.take (k+1)=xs.take k++[x]:=by
 rw [List.take_add_one,hx];rfl
theorem Gy {α:Type} {xs:List α} {k:Nat} (h:xs.length≤k):xs.take k=xs:=List.take_of_length_le h
theorem Gt {α:Type} {xs:List α} {k:Nat} {x:α} (hx:xs[k]?=some x):k<xs.length:=by
 rcases Nat.lt_or_ge k xs.length with h|h
 ·exact h
 ·simp [List.getElem?_eq_none h] at hx
def E0 (w:World):AV:=fun k=>k<w.heap.size
def Gi {α:Type} (P:Program) (t:TypeId) (d:Kd α) (W:α→Prop):Prop:=
 ∀ {H:Type} (enc:TypeId×Value→H) (w:World) (fuel:Nat) (cs:List Value) (x:DataW H×List MemPlace),DataW.trod enc P w 0 (fun _=>true) true fuel t cs=some x→∃ a,d.R w (E0 w) a cs∧W a
def AF (x:Int):Prop:= -9223372036854775808≤x∧x≤9223372036854775807
section
variable {P:Program} {t:TypeId}
theorem EK (hu:P.underlying t=some (.int .i64)):Gi P t (AN .i64) AF:=by
 intro H enc w fuel cs x h
 obtain ⟨n,rfl,_,hw⟩:=DataW.trod_int hu h
 refine ⟨n,rfl,?_⟩
 simp [Lit.wf,IntKind.min,IntKind.max,IntKind.bits,IntKind.signed] at hw
 exact hw
theorem S6 {w:World} {a:Addr}:∀ {n:Nat} {cs:List Value},w.cells? 0 a n=some cs→cs.length=n∧∀ j v,cs[j]?=some v→w.cell? (a.add j)=some v:=by
 intro n cs h
 simp only [World.cells?,Nat.zero_le,if_true] at h
 have hl:=mapM_some_length h
 refine ⟨by simpa using hl,fun j v hj=>?_⟩
 have hlt:j<n:=by
  rcases Nat.lt_or_ge j cs.length with h'|h'
  ·simp at hl;omega
  ·simp [List.getElem?_eq_none h'] at hj
 have:=mapM_some_get h j j (by simp [hlt])
 rw [this,hj]
theorem NP {w:World} {a:Addr} {v:Value} (h:w.cell? a=some v):a.spot=none∧∃ C t fr,w.heap[a.block]?=some (.cells C t fr)∧C[a.off]?=some v:=by
 unfold World.cell? at h
 split at h
 ·rename_i C t fr hb
  split at h
  ·cases h
  ·rename_i hs
   exact ⟨by simpa using hs,C,t,fr,hb,h⟩
 ·cases h
theorem YZ {w:World} {a:Addr} {cs:List Value} (h:∀ j v,cs[j]?=some v→w.cell? (a.add j)=some v):ED w (E0 w) (some a) cs:=by
 refine ⟨trivial,?_⟩
 cases cs with
 |nil=>exact .inl rfl
 |cons c cs=>
  right
  have h0:=h 0 c rfl
  have ha0:a.add 0=a:=by simp [Addr.add]
  rw [ha0] at h0
  obtain ⟨hs,C,t,fr,hb,hc⟩:=NP h0
  obtain ⟨b,off,sp⟩:=a
  simp only at hs hb hc
  subst hs
  refine ⟨b,off,C,t,fr,rfl,(Array.getElem?_eq_some_iff.1 hb).1,hb,?_⟩
  apply List.ext_getElem?
  intro j
  rw [List.getElem?_take]
  split
  ·rename_i hj
   rw [List.getElem?_drop]
   have hv:=h j (c::cs)[j] (by simp [List.getElem?_eq_getElem hj])
   rw [Eo] at hv
   obtain ⟨_,C',t',fr',hb',hc'⟩:=NP hv
   simp only at hb' hc'
   rw [hb] at hb'
   cases hb'
   rw [List.getElem?_eq_getElem hj,←hc']
   simp
  ·rename_i hj
   rw [List.getElem?_eq_none (by omega)]
theorem IG {α:Type} {d:Kd α} {W:α→Prop} {e size bytes:Nat} (hs:C0 P t=some (e,size,bytes)) (hd:d.sz=size) (he:Gi P e d W):Gi P t (BK d) (fun xs=>(∀ x∈xs,W x)∧xs.length≤9223372036854775807):=by
 intro H enc w fuel cs x h
 obtain ⟨hu,i,hi,hsz,_⟩:=Fa hs
 have hc:P.cellsOf e=d.sz:=by simp [Program.cellsOf,hi,hsz,hd]
 rcases DataW.trod_slice hu h with ⟨rfl,_⟩|⟨a,len,cap,elems,rest,n,_,rfl,_,_,hl,hm,hlen,hel,_,_⟩
 ·refine ⟨[],⟨none,0,0,rfl,rfl,Nat.le_refl _,by omega,[],⟨trivial,.inl rfl⟩,rfl⟩,by simp,by simp⟩
 ·have hm':cap≤9223372036854775807:=by simpa [maxLen] using hm
  have each:∀ k,k<len→∃ (y:α) (c:List Value),d.R w (E0 w) y c∧W y∧c.length=d.sz∧∀ j v,c[j]?=some v→w.cell? (a.add (k*d.sz+j))=some v:=by
   intro k hk
   have h1:=hel k hk
   rw [List.getElem?_eq_getElem (by omega),Option.bind_eq_some_iff] at h1
   obtain ⟨c,hc1,hc2⟩:=h1
   obtain ⟨y,hy,hW⟩:=he enc w n c _ hc2
   obtain ⟨hcl,hcc⟩:=S6 hc1
   refine ⟨y,c,hy,hW,by rw [hcl,hc],fun j v hj=>?_⟩
   have h2:=hcc j v hj
   have h3:(a.add (k*P.cellsOf e)).add j=a.add (k*d.sz+j):=by
    rw [hc]
    unfold Addr.add
    by_cases h4:k*d.sz=0<;>by_cases h5:j=0<;>simp [h4,h5,Nat.add_assoc]
   rwa [h3] at h2
  have all:∀ k,k≤len→∃ (ys:List α) (cs:List Value),ys.length=k∧AX d w (E0 w) ys cs∧cs.length=k*d.sz∧(∀ y∈ys,W y)∧∀ j v,cs[j]?=some v→w.cell? (a.add j)=some v:=by
   intro k
   induction k with
   |zero=>exact fun _=>⟨[],[],rfl,rfl,by simp,by simp,by simp⟩
   |succ k ih=>
    intro hk
    obtain ⟨ys,cs,h1,h2,h3,h4,h5⟩:=ih (by omega)
    obtain ⟨y,c,g1,g2,g3,g4⟩:=each k (by omega)
    refine ⟨ys++[y],cs++c,by simp [h1],h2.append ⟨c,[],by simp,g1,rfl⟩,by simp [h3,g3,Nat.succ_mul],?_,?_⟩
    ·intro z hz
     simp at hz
     exact hz.elim (h4 z) (fun e=>e▸g2)
    ·intro j v hj
     rcases Nat.lt_or_ge j cs.length with hlt|hge
     ·exact h5 j v (by rwa [List.getElem?_append_left hlt] at hj)
     ·rw [List.getElem?_append_right hge] at hj
      have:=g4 _ v hj
      rwa [show k*d.sz+(j - cs.length)=j by omega] at this
  obtain ⟨ys,cs,h1,h2,h3,h4,h5⟩:=all len (Nat.le_refl _)
  exact ⟨ys,⟨some a,len,cap,rfl,h1,hl,hm',cs,YZ h5,h2⟩,h4,by omega⟩
def Ft (P:Program) (t:TypeId):Option (List (TypeId×Nat×Nat)):=
 match P.underlying t with
 |some (.struct fs)=>some (fs.toList.map fun f=>(f.type,f.offset,P.cellsOf f.type))
 |_=>none
theorem IF {H:Type} {enc:TypeId×Value→H} {w:World} {fuel:Nat} {cs:List Value} {x:DataW H×List MemPlace} {l:List (TypeId×Nat×Nat)} (hs:Ft P t=some l) (h:DataW.trod enc P w 0 (fun _=>true) true fuel t cs=some x):
  cs.length=P.cellsOf t∧∃ n,∀ (i:Nat) (ty off sz:Nat),l[i]?=some (ty,off,sz)→∃ y,DataW.trod enc P w 0 (fun _=>true) true n ty ((cs.drop off).take sz)=some y:=by
 unfold Ft at hs
 split at hs
 ·rename_i fs hu
  obtain ⟨xs,n,_,_,hl,hxl,hf⟩:=DataW.trod_struct hu h
  refine ⟨hl,n,fun i ty off sz hi=>?_⟩
  have hl':l=fs.toList.map fun f=>(f.type,f.offset,P.cellsOf f.type):=by simpa using hs.symm
  subst hl'
  simp only [List.getElem?_map,Option.map_eq_some_iff] at hi
  obtain ⟨f,hf1,hf2⟩:=hi
  simp only [Prod.mk.injEq] at hf2
  obtain ⟨rfl,rfl,rfl⟩:=hf2
  have:=hf i f (by simpa using hf1)
  rw [this]
  have hlt:i<xs.length:=by
   rw [hxl]
   rcases Nat.lt_or_ge i fs.size with h'|h'
   ·exact h'
   ·simp [h'] at hf1
  exact ⟨_,List.getElem?_eq_getElem hlt⟩
 ·cases hs
end
theorem Wg {P:Program} {f:FuncId} {args:List Value} {Rs:List SP} {T:Value→List SP→Prop} {u:Value} {W:World} (hc:Cn P f args [] Rs T) (hR:∀ R∈Rs,R.P W (E0 W)) (hT:∀ v Bs,T v Bs→v=u):
  Calls P f args.toArray W fun e W'=>e=.returned u∧Go.RowKit.Below W.heap.size W W':=by
 refine (hc W none_ (Hd.begin (G:=E0 W) trivial hR (fun _ h=>h.elim) (fun _ h=>h.elim) (fun _ h=>h))).mono ?_
 rintro e W' ⟨v,rfl,Bs,t,H⟩
 exact ⟨by rw [hT v Bs t],H.upd.below⟩
/-! ### Structs that lead nowhere -/
structure An where
 key:ByteArray
 val:ByteArray
deriving DecidableEq
def HD (p:An):List Value:=[.string p.key,.string p.val]
def Al:Kd An:=flat HD 2 (by omega) (fun _=>rfl) (fun _ c h=>by simp [HD] at h;rcases h with rfl|rfl<;>rfl)
theorem Xv {P:Program} {t s:TypeId} (hs:Ft P t=some [(s,0,1),(s,1,1)]) (hc:P.cellsOf t=2) (hu:P.underlying s=some .string):Gi P t Al (fun p=>p.key.size≤9223372036854775807∧p.val.size≤9223372036854775807):=by
 intro H enc w fuel cs x h
 obtain ⟨hl,n,hf⟩:=IF hs h
 rw [hc] at hl
 obtain ⟨y0,h0⟩:=hf 0 _ _ _ rfl
 obtain ⟨y1,h1⟩:=hf 1 _ _ _ rfl
 obtain ⟨a,b,rfl⟩:∃ a b,cs=[a,b]:=by
  match cs,hl with
  |[a,b],_=>exact ⟨a,b,rfl⟩
 obtain ⟨s0,e0,_,l0⟩:=DataW.trod_string hu h0
 obtain ⟨s1,e1,_,l1⟩:=DataW.trod_string hu h1
 simp at e0 e1
 subst e0 e1
 exact ⟨⟨s0,s1⟩,rfl,by simpa [maxLen] using l0,by simpa [maxLen] using l1⟩
structure Bm where
 op:Int
 a:Int
 s:ByteArray
deriving DecidableEq
def Oa (p:Bm):List Value:=[.int .i64 p.op,.int .i64 p.a,.string p.s]
def Au:Kd Bm:=flat Oa 3 (by omega) (fun _=>rfl) (fun _ c h=>by simp [Oa] at h;rcases h with rfl|rfl|rfl<;>rfl)
theorem Xt {P:Program} {t i s:TypeId} (hs:Ft P t=some [(i,0,1),(i,1,1),(s,2,1)]) (hc:P.cellsOf t=3) (hi:P.underlying i=some (.int .i64)) (hu:P.underlying s=some .string):
  Gi P t Au (fun p=>AF p.op∧AF p.a∧p.s.size≤9223372036854775807):=by
 intro H enc w fuel cs x h
 obtain ⟨hl,n,hf⟩:=IF hs h
 rw [hc] at hl
 obtain ⟨y0,h0⟩:=hf 0 _ _ _ rfl
 obtain ⟨y1,h1⟩:=hf 1 _ _ _ rfl
 obtain ⟨y2,h2⟩:=hf 2 _ _ _ rfl
 obtain ⟨a,b,c,rfl⟩:∃ a b c,cs=[a,b,c]:=by
  match cs,hl with
  |[a,b,c],_=>exact ⟨a,b,c,rfl⟩
 obtain ⟨s0,⟨e0⟩,l0⟩:=EK hi enc w n _ _ h0
 obtain ⟨s1,⟨e1⟩,l1⟩:=EK hi enc w n _ _ h1
 obtain ⟨s2,e2,_,l2⟩:=DataW.trod_string hu h2
 simp at e2
 subst e2
 exact ⟨⟨s0,s1,s2⟩,rfl,l0,l1,by simpa [maxLen] using l2⟩
structure bM where
 x:Int
 y:Int
deriving DecidableEq
/-! ### '==' of structs that lead nowhere -/
section
variable {P:Program} {w:World} {t:TypeId}
theorem Od {d:Nat} {xs ys:Array Value} {f:Field} {fs:List Field} {sz:Nat} {u v:Value} {b:Bool} (hn:f.name≠ "_") (ha:B9 P f.type=some (false,sz)) (hx:xs[f.offset]?=some u) (hy:ys[f.offset]?=some v)
  (he:(Op.equalIn d f.type u v).run P w=.ok b w):(Op.eqFields d xs ys (f::fs)).run P w=if b then (Op.eqFields d xs ys fs).run P w else .ok false w:=by
 simp only [Op.eqFields,if_pos hn,Sem.run_bind]
 simp only [part,Sem.run_bind,Kp ha,Result.andThen_ok,hx,hy,Sem.run_pure,Bool.false_eq_true,if_false,he,Sem.run_ite]
 cases b<;>simp
theorem Og (d:Nat) {a b:ByteArray} (h:P.underlying t=some .string):(Op.equalIn (d+1) t (.string a) (.string b)).run P w=.ok (decide (a=b)) w:=by rw [run_equalIn_string w d t a b h,Ji]
structure GZ (P:Program) (t:TypeId) (fs:List Field):Prop where
 und:P.underlying t=some (.struct fs.toArray)
 stood:P.stoodInHeld t=false
 guard:P.eqGuardType P.depth t=false
theorem GZ.run {fs:List Field} (h:GZ P t fs) (d:Nat) (xs ys:Array Value):(Op.equalIn (d+1) t (.agg xs) (.agg ys)).run P w=(Op.eqFields d xs ys fs).run P w:=by
 have hf:P.fieldsOf t=fs.toArray:=by simp [Program.fieldsOf,h.und]
 rw [run_equalIn_struct w d t xs ys (by rw [hf];exact h.und) h.stood,hf]
section
variable {n:Nat} {l:BA} {o:Oper} {x y:Operand} {t':TypeId} {xs ys:Array Value} {fs:List Field} {b:Bool}
theorem YF (ho:o.op=.binOp .neq t x y t') (h:GZ P t fs) (hx:ev l x=some (.agg xs)) (hy:ev l y=some (.agg ys)) (hb:(Op.eqFields (9998+1) xs ys fs).run P w=.ok b w):Bw P n l w o (.bool !b) w:=by
 intro a ha
 have h1:(Op.equal t (.agg xs) (.agg ys)).run P w=.ok b w:=(h.run (9998+1) xs ys).trans hb
 have h2:=run_eqGuard_agg (P:=P) w .neq t x y xs ys h.guard
 unfold execOp
 simp only [ho,ha.eval hx,ha.eval hy,Sem.run_bind,h2,Result.andThen_ok]
 simp only [binOp,Sem.run_bind,h1,Result.andThen_ok,Sem.run_pure]
end
structure Nt (P:Program) (t s:TypeId):Prop where
 ex:∃ f0 f1:Field,GZ P t [f0,f1]∧f0.name≠ "_" ∧f1.name≠ "_" ∧f0.type=s∧f1.type=s∧f0.offset=0∧f1.offset=1
 str:P.underlying s=some .string
 one:B9 P s=some (false,1)
theorem TW {s:TypeId} {f0 f1:Field} (d:Nat) (p q:An) (h1:f0.name≠ "_") (h2:f1.name≠ "_") (h3:f0.type=s) (h4:f1.type=s) (h5:f0.offset=0) (h6:f1.offset=1) (hs:P.underlying s=some .string) (ho:B9 P s=some (false,1)):
  (Op.eqFields (d+1) (HD p).toArray (HD q).toArray [f0,f1]).run P w=.ok (decide (p=q)) w:=by
 rw [Od (u:=.string p.key) (v:=.string q.key) (b:=decide (p.key=q.key)) h1 (by rw [h3];exact ho) (by rw [h5];rfl) (by rw [h5];rfl) (by rw [h3];exact Og d hs)]
 rw [Od (u:=.string p.val) (v:=.string q.val) (b:=decide (p.val=q.val)) h2 (by rw [h4];exact ho) (by rw [h6];rfl) (by rw [h6];rfl) (by rw [h4];exact Og d hs)]
 obtain ⟨a,b⟩:=p
 obtain ⟨c,e⟩:=q
 by_cases e1:a=c<;>by_cases e2:b=e<;>simp [e1,e2,Op.eqFields]
variable {n:Nat} {l:BA} {o:Oper} {x y:Operand} {t' s:TypeId}
theorem YE {p q:An} (ho:o.op=.binOp .neq t x y t') (h:Nt P t s) (hx:ev l x=some (.agg (HD p).toArray)) (hy:ev l y=some (.agg (HD q).toArray)):Bw P n l w o (.bool (decide (p≠q))) w:=by
 obtain ⟨f0,f1,he,h1,h2,h3,h4,h5,h6⟩:=h.ex
 have:=YF (n:=n) (w:=w) ho he hx hy (TW 9998 p q h1 h2 h3 h4 h5 h6 h.str h.one)
 rwa [show decide (p≠q)=!decide (p=q) from by simp]
structure bN (P:Program) (t i s:TypeId):Prop where
 ex:∃ f0 f1 f2:Field,GZ P t [f0,f1,f2]∧f0.name≠ "_" ∧f1.name≠ "_" ∧f2.name≠ "_" ∧f0.type=i∧f1.type=i∧f2.type=s∧f0.offset=0∧f1.offset=1∧f2.offset=2
 str:P.underlying s=some .string
 int:P.underlying i=some (.int .i64)
 one:B9 P s=some (false,1)
 onei:B9 P i=some (false,1)
end
/-! ### Rows of known length -/
section
variable {α:Type} {enc:α→List Value} {sz:Nat} (hl:∀ x,(enc x).length=sz)
include hl
theorem Gl (xs:List α):(xs.flatMap enc).length=xs.length*sz:=by
 induction xs with
 |nil=>simp
 |cons x xs ih=>simp [hl,ih,Nat.succ_mul,Nat.add_comm]
theorem Jv:∀ (xs:List α) (i:Nat),(xs.flatMap enc).drop (i*sz)=(xs.drop i).flatMap enc
 |[],i=>by simp
 |x::xs,0=>by simp
 |x::xs,i+1=>by
  rw [List.flatMap_cons,List.drop_succ_cons,Nat.succ_mul,Nat.add_comm (i*sz),←hl x,List.drop_length_add_append,hl x]
  exact Jv xs i
theorem LI:∀ (xs:List α) (i:Nat),(xs.flatMap enc).take (i*sz)=(xs.take i).flatMap enc
 |[],i=>by simp
 |x::xs,0=>by simp
 |x::xs,i+1=>by
  rw [List.flatMap_cons,List.take_succ_cons,List.flatMap_cons,Nat.succ_mul,Nat.add_comm (i*sz),←hl x,List.take_length_add_append,hl x]
  rw [LI xs i]
end
theorem IM:∀ (vs cs:List Value) (i:Nat),i+vs.length≤cs.length→EL cs i vs=cs.take i++vs++cs.drop (i+vs.length)
 |[],cs,i,h=>by simp [EL]
 |v::vs,cs,i,h=>by
  simp only [List.length_cons] at h
  rw [EL,IM vs _ (i+1) (by simp;omega)]
  have h1:(cs.set i v).take (i+1)=cs.take i++[v]:=by
   rw [List.take_add_one,List.take_set_of_le (by omega)]
   simp [List.getElem?_set,show i<cs.length by omega]
  have h2:(cs.set i v).drop (i+1+vs.length)=cs.drop (i+(vs.length+1)):=by
   rw [List.drop_set_of_lt (by omega)]
   congr 1
   omega
  rw [h1,h2]
  simp
theorem X5 {α:Type} {enc:α→List Value} {sz:Nat} (hl:∀ x,(enc x).length=sz) {xs:List α} {i:Nat} {x:α} (hi:i<xs.length):EL (xs.flatMap enc) (i*sz) (enc x)=(xs.set i x).flatMap enc:=by
 have h1:i*sz+sz≤xs.length*sz:=by rw [←Nat.succ_mul];exact Nat.mul_le_mul_right _ hi
 rw [IM _ _ _ (by rw [hl,Gl hl];exact h1),hl,LI hl,←Nat.succ_mul,Jv hl,List.set_eq_take_append_cons_drop,if_pos hi]
 simp
def IX {α:Type} (enc:α→List Value) (b:Nat) (t:TypeId) (xs:List α):SP:=blk b (xs.flatMap enc) t
section
variable {P:Program} {ops:Array Oper} {Q:Exit→Act→World→Prop} {rest:List Oper} {n:Nat} {l:BA} {w0 w:World} {F F0:AV} {o:Oper} {v:Value} {As Rs:List SP} {x y:Operand} {t:TypeId}
variable {α:Type} {enc:α→List Value} {sz:Nat} {hp:0<sz} {hl:∀ x,(enc x).length=sz} {h1:∀ x,∀ c∈enc x,c.oneCell'=true}
theorem YY {b:Nat} {bt:TypeId} {xs ys:List α} {m c:Nat} (h:(IX enc b bt xs).P w F) (hy:xs.take m=ys) (hm:ys.length=m) (hc:c=xs.length) (hcm:c≤9223372036854775807):(Ae (flat enc sz hp hl h1) (.slice (some ⟨b,0,none⟩) m c) ys).P w F:=by
 have hmc:m≤c:=by rw [←hm,←hy,hc];simp;omega
 have hml:m≤xs.length:=by omega
 refine ⟨_,_,_,rfl,hm,ys.flatMap enc,F,none_,fun _ q=>q,fun _ q=>q.elim,fun _ _ q=>q,⟨hmc,hcm,by rw [Gl hl,hm];rfl,.inr ⟨b,_,bt,rfl,h.1,h.2,?_,?_⟩⟩,Cr.flatR (F:=none_) (AX.flat_eq.2 U)⟩
 ·simp only [List.size_toArray]
  rw [Gl hl,hc]
  rfl
 ·simp only [List.toList_toArray]
  show (xs.flatMap enc).take (m*sz)=_
  rw [LI hl,hy]
theorem Zn {e bytes:Nat} {z:Value} {a0:α} {m c:Nat} (hg:gd ops l o=some true) (hd:CB n o.dst=true) (ho:o.op=.makeSlice t x y) (hs:C0 P t=some (e,sz,bytes)) (hz:C8 P e=some z) (hz0:z.cells.toList=enc a0) (hp:0<sz) (hl:∀ x,(enc x).length=sz)
  (hx:ev l x=some (.int .i64 (m:Int))) (hy:ev l y=some (.int .i64 (c:Int))) (hmc:m≤c) (hc:c*bytes≤140737488355328) (hcs:c≤140737488355328) (H:Hd w0 F0 w As Rs)
  (h:∀ b w',Hd w0 F0 w' (IX enc b e (List.replicate c a0)::As) Rs→WL P ops Q rest n (Cp l o.dst (.slice (some ⟨b,0,none⟩) m c)) w'):WL P ops Q (o::rest) n l w:=by
 obtain ⟨hu,inf,hi,hsz,hby⟩:=Fa hs
 obtain ⟨i,hi',hz'⟩:=Option.bind_eq_some_iff.1 hz
 rw [hi] at hi'
 cases hi'
 have hwc:IntKind.i64.wrap (c:Int)=c:=Ay (by omega) (by omega)
 have hwm:IntKind.i64.wrap (m:Int)=m:=Ay (by omega) (by omega)
 have hcells:(List.range (c*sz)).map (fun j=>z.cells[j%z.cells.size]!)=(List.replicate c a0).flatMap enc:=by
  have hzs:z.cells.size=sz:=by rw [←Array.length_toList,hz0,hl]
  apply List.ext_getElem
  ·rw [Gl hl];simp
  ·intro j h1 h2
   simp only [List.getElem_map,List.getElem_range]
   simp at h1
   have hd:j=j / sz*sz+j%sz:=by rw [Nat.mul_comm];exact (Nat.div_add_mod j sz).symm
   have hjd:j / sz<c:=Nat.div_lt_of_lt_mul (by rw [Nat.mul_comm];exact h1)
   have hjm:j%sz<sz:=Nat.mod_lt _ hp
   have h3:((List.replicate c a0).flatMap enc)[j]?=(enc a0)[j%sz]?:=by
    have h4:(((List.replicate c a0).flatMap enc).drop (j / sz*sz))[j%sz]?=(enc a0)[j%sz]?:=by
     rw [Jv hl,List.drop_replicate]
     obtain ⟨r,hr⟩:∃ r,c - j / sz=r+1:=⟨c - j / sz - 1,by omega⟩
     rw [hr,List.replicate_succ,List.flatMap_cons,List.getElem?_append_left (by rw [hl];exact hjm)]
    rw [List.getElem?_drop,←hd] at h4
    exact h4
   have h5:((List.replicate c a0).flatMap enc)[j]=z.cells[j%z.cells.size]! :=by
    rw [List.getElem?_eq_getElem h2] at h3
    rw [hzs]
    have h6:j%sz<z.cells.size:=by rw [hzs];exact hjm
    rw [getElem!_pos z.cells _ h6]
    have h7:(enc a0)[j%sz]?=some z.cells[j%sz]:=by rw [←hz0];simp [h6]
    rw [h7] at h3
    exact Option.some.inj h3
   exact h5.symm
 refine V (w':=w.alloc (.cells ((List.replicate c a0).flatMap enc).toArray e)) hg hd (v:=.slice (some ⟨w.heap.size,0,none⟩) m c) (fun a ha=>?_) (h _ _ (H.alloc _ e))
 have hb:inf.bytes*c≤281474976710656:=by rw [hby,Nat.mul_comm];omega
 have hb':¬ ((281474976710656:Int)<(inf.bytes:Int)*(c:Int)):=by
  have:((inf.bytes*c:Nat):Int)≤281474976710656:=Int.le_trans (Int.ofNat_le.2 hb) (by decide)
  rw [Int.natCast_mul] at this
  omega
 have hmc':¬ ((c:Int)<(m:Int)):=by omega
 have hcn:¬ ((c:Int)<0):=by omega
 have hmn:¬ ((m:Int)<0):=by omega
 have hcell2:(Array.range (c*sz)).map (fun x=>z.cells[x%z.cells.size]!)=((List.replicate c a0).flatMap enc).toArray:=by
  apply Array.toList_inj.1
  rw [←hcells]
  simp
 by_cases hc0:c*sz=0
 ·obtain rfl:c=0:=by
   rcases Nat.mul_eq_zero.1 hc0 with h|h
   ·exact h
   ·omega
  obtain rfl:m=0:=by omega
  simp [execOp,ho,ha.eval hx,ha.eval hy,Instr.makeSlice,run_underlying hu,asInt,asIntOf,sizeOf,zeroValue,typeInfo,hi,hz',hsz,hwc,newRow,IntKind.wrap,IntKind.bits,IntKind.signed]
  exact congrArg (fun q=>w.alloc (Obj.cells q e)) (by apply Array.toList_inj.1;simp)
 ·simp [execOp,ho,ha.eval hx,ha.eval hy,Instr.makeSlice,run_underlying hu,asInt,asIntOf,sizeOf,zeroValue,typeInfo,hi,hz',hsz,hwc,hwm,hb',hmc',hcn,hmn,newRow,hc0,hcell2]
end
def encStr (x:ByteArray):List Value:=[.string x]
section
variable {w w0:World} {F0:AV} {As Rs:List SP} {α:Type} {enc:α→List Value} {sz:Nat} {hp:0<sz} {hl:∀ x,(enc x).length=sz} {h1:∀ x,∀ c∈enc x,c.oneCell'=true} {A:Option Addr} {m c:Nat} {xs:List α}
theorem YT {F:AV} {cs:List Value} (h:Cr (flat enc sz hp hl h1) w F xs cs):cs=xs.flatMap enc:=AX.flat_eq.1 h.toR
theorem Hd.toBlk (H:Hd w0 F0 w (Ae (flat enc sz hp hl h1) (.slice A m c) xs::As) Rs) (hc:0<xs.length):
  ∃ b t rest,A=some ⟨b,0,none⟩∧xs.length=m∧m≤c∧c≤9223372036854775807∧rest.length+m*sz=c*sz∧Hd w0 F0 w (blk b (xs.flatMap enc++rest) t::As) Rs:=by
 obtain ⟨b,C,t,hA,hm,hle,hmax,hh,hs,ht⟩:∃ b C t,A=some ⟨b,0,none⟩∧xs.length=m∧m≤c∧c≤9223372036854775807∧w.heap[b]?=some (.cells C t (0,0))∧C.size=c*sz∧C.toList.take (m*sz)=xs.flatMap enc:=by
  refine H.fact (List.mem_cons_self ..) ?_
  rintro F ⟨A',n,c',e,hn,cs,F1,F2,s1,s2,dj,⟨r1,r2,r3,r4⟩,hr⟩
  simp only [List.cons.injEq,Value.slice.injEq,and_true] at e
  obtain ⟨rfl,rfl,rfl⟩:=e
  have hcs:=YT hr
  rcases r4 with ⟨h0,_⟩|⟨b,C,t,e,hb,hh,hs,ht⟩
  ·omega
  ·exact ⟨b,C,t,e,hn,r1,r2,hh,hs,by rw [←hcs];exact ht⟩
 have hCl:C.toList.length=c*sz:=by simpa using hs
 have hle':m*sz≤c*sz:=Nat.mul_le_mul_right _ hle
 refine ⟨b,t,C.toList.drop (m*sz),hA,hm,hle,hmax,by rw [List.length_drop];omega,H.turn fun F hF=>?_⟩
 obtain ⟨A',n,c',e,hn,cs,F1,F2,s1,s2,dj,⟨r1,r2,r3,r4⟩,hr⟩:=hF
 simp only [List.cons.injEq,Value.slice.injEq,and_true] at e
 obtain ⟨rfl,rfl,rfl⟩:=e
 rcases r4 with ⟨h0,_⟩|⟨b',C',t',e,hb,hh',hs',ht'⟩
 ·omega
 ·rw [hA] at e
  obtain rfl:b=b':=by simpa using e
  refine ⟨s1 b hb,?_⟩
  rw [hh,←ht,List.take_append_drop]
theorem Hd.ofBlk {b t:Nat} {rest:List Value} (H:Hd w0 F0 w (blk b (xs.flatMap enc++rest) t::As) Rs) (hm:xs.length=m) (hle:m≤c) (hmax:c≤9223372036854775807) (hr:rest.length+m*sz=c*sz):
  Hd w0 F0 w (Ae (flat enc sz hp hl h1) (.slice (some ⟨b,0,none⟩) m c) xs::As) Rs:=by
 refine H.turn fun F hF=>?_
 have hfl:(xs.flatMap enc).length=m*sz:=by rw [Gl hl,hm]
 refine ⟨_,_,_,rfl,hm,xs.flatMap enc,F,none_,fun _ q=>q,fun _ q=>q.elim,fun _ _ q=>q,⟨hle,hmax,hfl,.inr ⟨b,_,_,rfl,hF.1,hF.2,by show (xs.flatMap enc++rest).toArray.size=c*sz;simp only [List.size_toArray,List.length_append];omega,?_⟩⟩,Cr.flatR (F:=none_) (AX.flat_eq.2 U)⟩
 show ((xs.flatMap enc++rest).toArray.toList).take (m*sz)=_
 rw [List.toList_toArray,List.take_left' hfl]
variable {P:Program} {ops:Array Oper} {Q:Exit→Act→World→Prop} {rest:List Oper} {n:Nat} {l:BA} {o:Oper} {v:Value} {x y:Operand} {t:TypeId}
theorem Hd.nilR {β:Type} {d:Kd β} {ys:List β} {A:Option Addr} {m c:Nat} (H:Hd w0 F0 w As Rs) (j:Nat) (hj:Rs[j]?=some (Af d (.slice A m c) ys)) (hA:A.isNone=true):ys=[]:=by
 refine H.factR (List.mem_of_getElem? hj) ?_
 rintro F ⟨A',n,c',e,hn,h1,h2,cs,hr,hrep⟩
 simp only [List.cons.injEq,Value.slice.injEq,and_true] at e
 obtain ⟨rfl,rfl,rfl⟩:=e
 rcases hr.2 with rfl|⟨b,off,C,t,fr,e,_⟩
 ·have:=hrep.len
  have hp:=d.pos
  rcases Nat.eq_zero_or_pos ys.length with h0|h0
  ·exact List.eq_nil_of_length_eq_zero h0
  ·have:=Nat.mul_pos h0 hp
   simp at *
   omega
 ·rw [e] at hA
  cases hA
theorem Hd.newnilA {β:Type} (d:Kd β) (A:Option Addr) (H:Hd w0 F0 w As Rs):Hd w0 F0 w (Ae d (.slice A 0 0) []::As) Rs:=by
 obtain ⟨F,G,s,r⟩:=H
 exact ⟨F,G,⟨none_,F,fun _ h=>h.elim,fun _ h=>h,fun _ h=>h.elim,Qu d w none_ trivial,s⟩,r⟩
theorem Ks {e size bytes:Nat} (hg:gd ops l o=some true) (hd:CB n o.dst=true) (ho:o.op=.buildSlice t 0 #[]) (hs:C0 P t=some (e,size,bytes)) (H:Hd w0 F0 w As Rs)
  (h:∀ b w',Hd w0 F0 w' (blk b [] e::As) Rs→WL P ops Q rest n (Cp l o.dst (.slice (some ⟨b,0,none⟩) 0 0)) w'):WL P ops Q (o::rest) n l w:=by
 obtain ⟨hu,inf,hi,hsz,_⟩:=Fa hs
 refine V (w':=w.alloc (.cells #[] e)) hg hd (v:=.slice (some ⟨w.heap.size,0,none⟩) 0 0) (fun a ha=>?_) (h _ _ ?_)
 ·unfold execOp
  simp only [ho,Instr.buildSlice,Sem.run_bind,run_underlying hu,sizeOf,typeInfo,run_program,hi,Nat.zero_mul,if_true,Sem.run_pure,Result.andThen_ok,newRow]
  have hz:∀ f:Nat→Value,(Array.range 0).map f=#[]:=fun f=>Array.toList_inj.1 (by simp)
  simp [Instr.fill,hz]
 ·have:=H.alloc [] e
  simpa using this
theorem FN {i p:Nat} {a:α} {B:Bool} (hg:gd ops l o=some true) (hd:o.dst=none) (ho:o.op=.store t x y) (ht:B9 P t=some (B,sz)) (hx:ev l x=some (.pointer (some ⟨Er A,p,none⟩))) (hy:ev l y=some v) (hv:v.cells.toList=enc a)
  (H:Hd w0 F0 w (Ae (flat enc sz hp hl h1) (.slice A m c) xs::As) Rs) (hi:i<xs.length) (hpi:AA A+i*sz=p) (h:∀ w',Hd w0 F0 w' (Ae (flat enc sz hp hl h1) (.slice A m c) (xs.set i a)::As) Rs→WL P ops Q rest n l w'):WL P ops Q (o::rest) n l w:=by
 obtain ⟨b,bt,spare,rfl,hm,hle,hmax,hr,H'⟩:=H.toBlk (by omega)
 simp only [Er,AA,Nat.zero_add] at hx hpi
 subst hpi
 have hfl:(xs.flatMap enc).length=xs.length*sz:=Gl hl xs
 have hfit:i*sz+sz≤(xs.flatMap enc).length:=by rw [Gl hl,←Nat.succ_mul];exact Nat.mul_le_mul_right _ hi
 refine By hg hd ho ht hx hy H' (by rw [←Array.length_toList,hv,hl]) (by rw [List.length_append];omega) (by rw [hv];exact h1 a) (fun w' H2=>h w' ?_)
 rw [hv] at H2
 have hp2:EL (xs.flatMap enc++spare) (i*sz) (enc a)=(xs.set i a).flatMap enc++spare:=by
  rw [←X5 hl hi,IM _ _ _ (by rw [List.length_append,hl];omega),IM _ _ _ (by rw [hl];exact hfit)]
  rw [List.take_append_of_le_length (by omega),List.drop_append_of_le_length (by rw [hl];omega)]
  simp [List.append_assoc]
 rw [hp2] at H2
 exact H2.ofBlk (by rw [List.length_set];exact hm) hle hmax hr
end
section
variable {P:Program} {n:Nat} {l:BA} {w:World} {o:Oper} {x y:Operand} {t:TypeId}
theorem WE (A:Option Addr):A.map (fun a=>a.add 0)=A:=by
 cases A with
 |none=>rfl
 |some a=>cases a;simp [Addr.add]
theorem H7 {tt e size bytes:TypeId} {A:Option Addr} {m c m':Nat} {k:IntKind} {j:Int} (ho:o.op=.slice tt x none (some y) none) (hs:C0 P tt=some (e,size,bytes)) (hx:ev l x=some (.slice A m c)) (hy:ev l y=some (.int k j))
  (h0:0≤j) (h1:j≤(c:Int)) (hm:j.toNat=m'):Bw P n l w o (.slice A m' c) w:=by
 intro a ha
 obtain ⟨hu,inf,hi,hz,_⟩:=Fa hs
 subst hm
 have hb:(Instr.sliceBounds true m c none (some (.int k j)) none).run P w=.ok (0,j.toNat,c) w:=by
  simp [Instr.sliceBounds,Instr.sliceBound,asIntOf,h0,h1]
 simp [execOp,ho,ha.eval hx,ha.eval hy,Instr.sliceAt,Instr.slice,hb,run_underlying hu,sizeOf,typeInfo,hi,hz,WE]
end
section
variable {w:World} {F:AV} {α:Type} {d:Kd α} {A:Option Addr} {m c:Nat} {xs:List α}
theorem Ib (h:(Af d (.slice A m c) xs).P w F) {i:Nat} (hi:i≤m):(Af d (.slice A i c) (xs.take i)).P w F:=by
 obtain ⟨A',m',c',e,hl,h1,h2,cs,hr,hrep⟩:=h
 simp only [List.cons.injEq,Value.slice.injEq,and_true] at e
 obtain ⟨rfl,rfl,rfl⟩:=e
 refine ⟨_,_,_,rfl,by rw [List.length_take];omega,by omega,h2,cs.take (i*d.sz),⟨trivial,?_⟩,hrep.take i⟩
 rcases hr.2 with rfl|⟨b,off,C,t,fr,e,hb,hh,ht⟩
 ·exact .inl (by simp)
 ·refine .inr ⟨b,off,C,t,fr,e,hb,hh,?_⟩
  rw [List.length_take,←List.take_take,ht]
def EF (A:Option Addr) (c i sz:Nat):Option Addr:=if c=i then A else A.map fun a=>a.add (i*sz)
theorem F_ (h:(Af d (.slice A m c) xs).P w F) {i:Nat} (hi:i≤m):(Af d (.slice (EF A c i d.sz) (m - i) (c - i)) (xs.drop i)).P w F:=by
 obtain ⟨A',m',c',e,hl,h1,h2,cs,hr,hrep⟩:=h
 simp only [List.cons.injEq,Value.slice.injEq,and_true] at e
 obtain ⟨rfl,rfl,rfl⟩:=e
 refine ⟨_,_,_,rfl,by rw [List.length_drop];omega,by omega,by omega,cs.drop (i*d.sz),⟨trivial,?_⟩,hrep.drop i⟩
 have hlen:=hrep.len
 by_cases hc:c=i
 ·refine .inl ?_
  rw [List.drop_eq_nil_iff]
  rw [hlen]
  exact Nat.mul_le_mul_right _ (by omega)
 ·rcases hr.2 with rfl|⟨b,off,C,t,fr,e,hb,hh,ht⟩
  ·exact .inl (by simp)
  ·refine .inr ⟨b,off+i*d.sz,C,t,fr,?_,hb,hh,?_⟩
   ·unfold EF
    rw [if_neg hc,e,Option.map_some,Eo]
   ·have:=congrArg (List.drop (i*d.sz)) ht
    rw [List.drop_take,List.drop_drop] at this
    rw [List.length_drop]
    exact this
end
section
variable {P:Program} {n:Nat} {l:BA} {w:World} {o:Oper} {x y:Operand} {t:TypeId}
theorem H8 {tt e size bytes:TypeId} {A:Option Addr} {m c i':Nat} {k:IntKind} {i:Int} (ho:o.op=.slice tt x (some y) none none) (hs:C0 P tt=some (e,size,bytes)) (hx:ev l x=some (.slice A m c)) (hy:ev l y=some (.int k i))
  (h0:0≤i) (h1:i≤(m:Int)) (hi':i.toNat=i'):Bw P n l w o (.slice (EF A c i' size) (m - i') (c - i')) w:=by
 intro a ha
 obtain ⟨hu,inf,hi,hz,_⟩:=Fa hs
 subst hi'
 have hb:(Instr.sliceBounds true m c (some (.int k i)) none none).run P w=.ok (i.toNat,m,c) w:=by
  simp [Instr.sliceBounds,Instr.sliceBound,asIntOf,h0,h1]
 unfold EF
 by_cases e1:c=i.toNat
 ·rw [if_pos e1]
  rw [e1] at hb
  simp [execOp,ho,ha.eval hx,ha.eval hy,Instr.sliceAt,Instr.slice,hb,run_underlying hu,sizeOf,typeInfo,hi,hz,e1]
 ·rw [if_neg e1]
  simp [execOp,ho,ha.eval hx,ha.eval hy,Instr.sliceAt,Instr.slice,hb,run_underlying hu,sizeOf,typeInfo,hi,hz,e1]
end
section
variable {P:Program} {n:Nat} {l:BA} {w:World} {o:Oper} {x y:Operand} {t:TypeId} {t':TypeId} {a b:ByteArray}
end
def Em (P:Program) (f:FuncId) (g:Array Value→Sem Value):Prop:=∃ fn,P.funcs[f]?=some fn∧(fn.name== "runtime.NumGoroutine")=false∧fn.body.isNone=true∧Extern.findNext fn=none∧Extern.find fn=some g
section
variable {P:Program} {ops:Array Oper} {Q:Exit→Act→World→Prop} {rest:List Oper} {n:Nat} {l:BA} {w0 w w':World} {F0:AV} {o:Oper} {v:Value} {As Rs:List SP} {f:FuncId} {xs:List Operand} {vs:List Value} {ts:Array TypeId} {b off:Nat} {cs:List Value} {t:TypeId}
theorem H9 (ho:o.op=.call { callee:=.value (.func f),args:=xs.toArray,argTypes:=ts }) (hx:xs.map (ev l)=vs.map some) (hr:(callFunc f vs.toArray).run P w=.ok (.value v) w'):Bw P n l w o v w':=by
 intro a ha
 have:=Lz ha xs vs hx
 simp [execOp,ho,resolve,Act.eval,Deferred.ofValue,invoke,this,hr]
theorem MJ {k:IntKind} {x:Int} (he:Em P f (Extern.Atomic.loadT (.int k))) (ho:o.op=.call { callee:=.value (.func f),args:=xs.toArray,argTypes:=ts }) (hx:xs.map (ev l)=[some (.pointer (some ⟨b,off,none⟩))]) (hc:w.cell? ⟨b,off,none⟩=some (.int k x)):Bw P n l w o (.int k x) w:=by
 obtain ⟨fn,h1,h2,h3,h4,h5⟩:=he
 exact H9 (vs:=[.pointer (some ⟨b,off,none⟩)]) ho hx (run_call_load h1 h2 h3 h4 k h5 hc)
theorem MZ {w:World} {F:AV} (h:(blk b cs t).P w F) (i:Nat) (v:Value):(blk b (cs.set i v) t).P (w.setCell ⟨b,i,none⟩ v) F∧Cb F w (w.setCell ⟨b,i,none⟩ v):=⟨Lj h i v,Cb.setCell w _ v h.1⟩
theorem RK {k:IntKind} {y:Int} {u:Value} (he:Em P f Extern.Atomic.storeT) (hg:gd ops l o=some true) (hd:CB n o.dst=true) (ho:o.op=.call { callee:=.value (.func f),args:=xs.toArray,argTypes:=ts }) (hx:xs.map (ev l)=[some (.pointer (some ⟨b,off,none⟩)),some (.int k y)])
  (H:Hd w0 F0 w (blk b cs t::As) Rs) (hc:cs[off]?=some u) (h:∀ w',Hd w0 F0 w' (blk b (cs.set off (.int k y)) t::As) Rs→WL P ops Q rest n (Cp l o.dst (.tuple #[])) w'):WL P ops Q (o::rest) n l w:=by
 obtain ⟨fn,h1,h2,h3,h4,h5⟩:=he
 exact V hg hd (H9 (vs:=[.pointer (some ⟨b,off,none⟩),.int k y]) ho hx (run_call_store h1 h2 h3 h4 h5 (H.cell (List.mem_cons_self ..) hc) (H.free (List.mem_cons_self ..) off))) (h _ (H.write fun F hF=>MZ hF off _))
theorem RJ {k:IntKind} {x y:Int} (he:Em P f (Extern.Atomic.casT (.int k))) (hg:gd ops l o=some true) (hd:CB n o.dst=true) (ho:o.op=.call { callee:=.value (.func f),args:=xs.toArray,argTypes:=ts }) (hx:xs.map (ev l)=[some (.pointer (some ⟨b,off,none⟩)),some (.int k x),some (.int k y)])
  (H:Hd w0 F0 w (blk b cs t::As) Rs) (hc:cs[off]?=some (.int k x)) (h:∀ w',Hd w0 F0 w' (blk b (cs.set off (.int k y)) t::As) Rs→WL P ops Q rest n (Cp l o.dst (.bool true)) w'):WL P ops Q (o::rest) n l w:=by
 obtain ⟨fn,h1,h2,h3,h4,h5⟩:=he
 exact V hg hd (H9 (vs:=[.pointer (some ⟨b,off,none⟩),.int k x,.int k y]) ho hx (run_call_cas_hit h1 h2 h3 h4 k h5 (H.cell (List.mem_cons_self ..) hc) (H.free (List.mem_cons_self ..) off))) (h _ (H.write fun F hF=>MZ hF off _))
theorem Zg {k:IntKind} {x y z:Int} (he:Em P f (Extern.Atomic.update (Op.intArith .add) k true)) (hg:gd ops l o=some true) (hd:CB n o.dst=true) (ho:o.op=.call { callee:=.value (.func f),args:=xs.toArray,argTypes:=ts }) (hx:xs.map (ev l)=[some (.pointer (some ⟨b,off,none⟩)),some (.int k y)])
  (H:Hd w0 F0 w (blk b cs t::As) Rs) (hc:cs[off]?=some (.int k x)) (hz:k.wrap (x+y)=z) (h:∀ w',Hd w0 F0 w' (blk b (cs.set off (.int k z)) t::As) Rs→WL P ops Q rest n (Cp l o.dst (.int k z)) w'):WL P ops Q (o::rest) n l w:=by
 obtain ⟨fn,h1,h2,h3,h4,h5⟩:=he
 refine V hg hd (H9 (vs:=[.pointer (some ⟨b,off,none⟩),.int k y]) ho hx (run_call_add h1 h2 h3 h4 k h5 (s:=z) (H.cell (List.mem_cons_self ..) hc) (H.free (List.mem_cons_self ..) off) ?_)) (h _ (H.write fun F hF=>MZ hF off _))
 subst hz
 simp [Op.intArith]
theorem Kg {m:Mark} (he:Em P f (fun _=>do mark m;pure Extern.Race.none_)) (ho:o.op=.call { callee:=.value (.func f),args:=xs.toArray,argTypes:=ts }) (hx:xs.map (ev l)=[]):Bw P n l w o (.tuple #[]) w:=by
 obtain ⟨fn,h1,h2,h3,h4,h5⟩:=he
 exact H9 (vs:=[]) ho hx (run_call_mark0 h1 h2 h3 h4 m h5 w)
theorem Q6 {m:Addr→Mark} (he:Em P f (Extern.Race.marked m)) (ho:o.op=.call { callee:=.value (.func f),args:=xs.toArray,argTypes:=ts }) {A:Addr} (hx:xs.map (ev l)=[some (.pointer (some A))]):Bw P n l w o (.tuple #[]) w:=by
 obtain ⟨fn,h1,h2,h3,h4,h5⟩:=he
 exact H9 (vs:=[.pointer (some A)]) ho hx (run_call_marked h1 h2 h3 h4 m h5 A w)
end
inductive ER
 |z
 |e (i:Nat) (s:ER)
 |m (i:Nat) (s:ER)
 |p (i j:Nat) (s:ER)
 |b (i j:Nat) (s t:ER)
def Fu:ER→Nat
 |.z=>0
 |.e _ s=>Fu s+1
 |.m _ s=>Fu s+1
 |.p _ _ s=>Fu s+2
 |.b _ _ s _=>Fu s+1
def E6 (ops:Array Oper):ER→Array Bool→Bool
 |.z,listed=>(Region.ready .any ops listed).isEmpty
 |.m i s,listed=>decide (Region.ready .any ops listed=[i]) && E6 ops s (listed.setIfInBounds i true)
 |.e i s,listed=>(Region.ready .any ops listed).contains i && Region.free .any ops listed i && E6 ops s (listed.setIfInBounds i true)
 |.p i j s,listed=>decide (Region.ready .any ops listed=[i,j]) && decide (Region.ready .any ops (listed.setIfInBounds i true)=[j]) && decide (Region.ready .any ops (listed.setIfInBounds j true)=[i]) && Nat.blt i j && E6 ops s ((listed.setIfInBounds i true).setIfInBounds j true)
 |.b i j s t,listed=>decide (Region.ready .any ops listed=[i,j]) && Nat.beq (Fu s) (Fu t) && E6 ops s (listed.setIfInBounds i true) && E6 ops t (listed.setIfInBounds j true)
section
variable {P:Program} {ops:Array Oper} {Q:Exit→Act→World→Prop} {S:World→Prop}
def DT (K:Act→World→Prop):Exit→Act→World→Prop
 |.normal,a,w=>K a w
 |_,_,_=>False
def EZ (P:Program) (ops:Array Oper) (Q:Exit→Act→World→Prop) (S:World→Prop):ER→Act→World→Prop
 |.z,a,w=>Q .normal a w
 |.p i j s,a,w=>∃ oi oj vi vj,ops[i]?=some oi∧ops[j]?=some oj∧(∀ a',(a'=a∨a'=a.put oj.dst vj)→Region.wanted oi (yielded ops a'.tmps)=true∧(execOp a'.eval oi).run P w=.ok (.value vi) w)∧
   (∀ a',(a'=a∨a'=a.put oi.dst vi)→Region.wanted oj (yielded ops a'.tmps)=true∧(execOp a'.eval oj).run P w=.ok (.value vj) w)∧EZ P ops Q S s ((a.put oi.dst vi).put oj.dst vj) w∧EZ P ops Q S s ((a.put oj.dst vj).put oi.dst vi) w
 |.b i j s t,a,w=>(∃ o,ops[i]?=some o∧wpList P ops (DT fun a w=>S w∧EZ P ops Q S s a w) [o] a w)∧∃ o,ops[j]?=some o∧wpList P ops (DT fun a w=>S w∧EZ P ops Q S t a w) [o] a w
 |.m i s,a,w=>∃ o,ops[i]?=some o∧wpList P ops (DT fun a w=>S w∧EZ P ops Q S s a w) [o] a w
 |.e i s,a,w=>∃ o v,ops[i]?=some o∧YieldsIf P ops S o v a∧EZ P ops Q S s (a.put o.dst v) w
theorem Sm {o:Oper} {a:Act} {w:World} {K:Act→World→Prop} {Q':Exit→Act→World→Prop} (hh:o.wp P a w K (DT K)):o.wp P a w K Q':=by
 unfold Oper.wp at *
 generalize (execOp a.eval o).run P w=r at *
 cases r with
 |ok n w'=>
  cases n<;>simp only [Oper.upon] at hh ⊢<;>
   first
    |exact hh
    |exact Calls.mono hh (fun e w'' he=>by cases e<;>first |exact he|exact he.elim|exact (let ⟨_,_,h⟩:=he;h.elim))
 |halt x w'=>cases x<;>simp only [Oper.upon] at hh ⊢<;>first |exact hh|exact hh.elim
theorem Nq {i:Nat} {o:Oper} {a:Act} {w:World} {K K2:Act→World→Prop} (ho:ops[i]?=some o) (hS:S w) (h:wpList P ops (DT fun a w=>S w∧K a w) [o] a w) (hk:∀ a' w',S w'→K a' w'→K2 a' w'):
  wpOp P ops (DT fun a w=>Q .normal a w) i (fun a' w'=>S w'∧K2 a' w') a w:=by
 unfold wpOp
 simp only [ho]
 simp only [wpList] at h
 split
 ·rename_i hw
  rw [if_pos hw] at h
  rcases h with h|⟨_,a',w',h⟩
  ·exact .inl (Oper.wp_mono (fun a' w' (h':S w'∧K a' w')=>⟨h'.1,hk a' w' h'.1 h'.2⟩) (Sm h))
  ·exact h.elim
 ·rename_i hw
  rw [if_neg hw] at h
  exact ⟨h.1,hk _ w h.1 h.2⟩
theorem GX (hs:Region.noSelect ops=true):∀ (s:ER) (listed:Array Bool) (a:Act) (w:World),E6 ops s listed=true→S w→EZ P ops Q S s a w→
  wpAnyH P .any ops (DT fun a w=>Q .normal a w) S (Fu s) listed a w
 |.z,listed,a,w,hB,_,h=>⟨by simpa [E6] using hB,h⟩
 |.b i j s t,listed,a,w,hB,hS,h=>by
  simp only [E6,Bool.and_eq_true,decide_eq_true_eq] at hB
  obtain ⟨⟨⟨b1,b2⟩,b3⟩,b4⟩:=hB
  have b2:Fu s=Fu t:=Nat.eq_of_beq_eq_true b2
  obtain ⟨⟨oi,hi,h1⟩,oj,hj,h2⟩:=h
  refine wpAnyH_all b1 (by simp) fun q hq=>?_
  simp only [List.mem_cons,List.not_mem_nil,or_false] at hq
  rcases hq with rfl|rfl
  ·exact Nq hi hS h1 fun a' w' hS' h'=>GX hs s _ a' w' b3 hS' h'
  ·refine Nq hj hS h2 fun a' w' hS' h'=>?_
   have:=GX hs t _ a' w' b4 hS' h'
   rwa [←b2] at this
 |.m i s,listed,a,w,hB,hS,h=>by
  simp only [E6,Bool.and_eq_true,decide_eq_true_eq] at hB
  obtain ⟨o,ho,h⟩:=h
  refine wpAnyH_all hB.1 (by simp) fun j hj=>?_
  obtain rfl:j=i:=by simpa using hj
  exact Nq ho hS h fun a' w' hS' h'=>GX hs s _ a' w' hB.2 hS' h'
 |.p i j s,listed,a,w,hB,hS,h=>by
  simp only [E6,Bool.and_eq_true,decide_eq_true_eq] at hB
  obtain ⟨⟨⟨⟨b1,b2⟩,b3⟩,b4⟩,b5⟩:=hB
  obtain ⟨oi,oj,vi,vj,hi,hj,ri,rj,k1,k2⟩:=h
  have hij:j≠i:=by
   have:i+1≤j:=by simpa [Nat.blt] using b4
   omega
  have one:∀ (k:Nat) (o:Oper) (v:Value) (a:Act) (K:Act→World→Prop),ops[k]?=some o→Region.wanted o (yielded ops a.tmps)=true→(execOp a.eval o).run P w=.ok (.value v) w→K (a.put o.dst v) w→wpOp P ops (DT fun a w=>Q .normal a w) k K a w:=by
   intro k o v a K hk hw hr hK
   unfold wpOp
   simp only [hk,hw,if_true,Oper.wp,hr,Oper.upon]
   exact .inl hK
  refine wpAnyH_all b1 (by simp) fun q hq=>?_
  simp only [List.mem_cons,List.not_mem_nil,or_false] at hq
  rcases hq with rfl|rfl
  ·obtain ⟨w1,e1⟩:=ri a (.inl rfl)
   obtain ⟨w2,e2⟩:=rj _ (.inr rfl)
   refine one _ _ _ _ _ hi w1 e1 ⟨hS,wpAnyH_all b2 (by simp) fun r hr=>?_⟩
   obtain rfl:r=j:=by simpa using hr
   exact one _ _ _ _ _ hj w2 e2 ⟨hS,GX hs s _ _ w b5 hS k1⟩
  ·obtain ⟨w1,e1⟩:=rj a (.inl rfl)
   obtain ⟨w2,e2⟩:=ri _ (.inr rfl)
   refine one _ _ _ _ _ hj w1 e1 ⟨hS,wpAnyH_all b3 (by simp) fun r hr=>?_⟩
   obtain rfl:r=i:=by simpa using hr
   refine one _ _ _ _ _ hi w2 e2 ⟨hS,?_⟩
   rw [Array.setIfInBounds_comm _ _ hij]
   exact GX hs s _ _ w b5 hS k2
 |.e i s,listed,a,w,hB,hS,h=>by
  simp only [E6,Bool.and_eq_true] at hB
  obtain ⟨o,v,ho,hy,h⟩:=h
  exact wpAnyH_take ho hs hB.1.2 hB.1.1 (fun _ _ _ h=>h) hy hS (GX hs s _ _ w hB.2 hS h)
end
section
variable {P:Program} {Q:Exit→Act→World→Prop} {S:World→Prop} {n:Nat} {l:BA} {w0 w:World} {F0:AV} {As Rs:List SP} {s t:ER} {os:List Oper} {o:Oper} {v:Value} {i:Nat}
def WD (P:Program) (os:List Oper) (Q:Exit→Act→World→Prop) (S:World→Prop) (s:ER) (n:Nat) (l:BA) (w:World):Prop:=∀ a,Cq n l a→EZ P os.toArray Q S s a w
theorem BD {id:Nat} (s:ER) (S:World→Prop) (hm:P.follows .mixedOrders=true) (hB:(Region.noSelect os.toArray && E6 os.toArray s (Array.replicate os.length false) && Nat.beq (Fu s) os.length)=true)
  (hS:∀ w',Hd w0 F0 w' As Rs→S w') (H:Hd w0 F0 w As Rs) (h:∀ w',Hd w0 F0 w' As Rs→WD P os Q S s n l w'):WC P (.region id os.toArray true) Q n l w:=by
 intro a ha
 simp only [Bool.and_eq_true] at hB
 have H':Hd w0 F0 { w with drawn:=w.drawn+1 } As Rs:=H.drewN 1
 have h1:=GX (Q:=Q) hB.1.1 s _ a _ (by simpa using hB.1.2) (hS _ H') (h _ H' a ha)
 rw [Nat.eq_of_beq_eq_true hB.2,show os.length=os.toArray.size by simp] at h1
 exact wp_mono (wp_region_held hm (by simpa using h1)) fun e a w h=>by
  cases e<;>first |exact h|exact h.elim
theorem Ak (hi:os[i]?=some o) (hg:gd os.toArray l o=some true) (hd:CB n o.dst=true) (hr:∀ w,S w→Bw P n l w o v w) (h:WD P os Q S s n (Cp l o.dst v) w):WD P os Q S (.e i s) n l w:=by
 intro a ha
 exact ⟨o,v,by simpa using hi,.inl ⟨EH ha hg,fun w hw=>hr w hw a ha⟩,h _ (ha.put _ _ hd)⟩
theorem Tz (hi:os[i]?=some o) (hg:gd os.toArray l o=some false) (hd:CB n o.dst=true) (h:WD P os Q S s n (Cp l o.dst undef) w):WD P os Q S (.e i s) n l w:=by
 intro a ha
 exact ⟨o,undef,by simpa using hi,.inr ⟨EH ha hg,rfl⟩,h _ (ha.put _ _ hd)⟩
theorem AL (hi:os[i]?=some o) (h:WL P os.toArray (DT fun a w=>S w∧EZ P os.toArray Q S s a w) [o] n l w):WD P os Q S (.m i s) n l w:=by
 intro a ha
 exact ⟨o,by simpa using hi,h a ha⟩
theorem Jn {oi oj:Oper} {j:Nat} (hi:os[i]?=some oi) (hj:os[j]?=some oj) (h1:WL P os.toArray (DT fun a w=>S w∧EZ P os.toArray Q S s a w) [oi] n l w)
  (h2:WL P os.toArray (DT fun a w=>S w∧EZ P os.toArray Q S t a w) [oj] n l w):WD P os Q S (.b i j s t) n l w:=by
 intro a ha
 exact ⟨⟨oi,by simpa using hi,h1 a ha⟩,oj,by simpa using hj,h2 a ha⟩
theorem AH (hS:S w) (h:WD P os Q S s n l w):WL P os.toArray (DT fun a w=>S w∧EZ P os.toArray Q S s a w) [] n l w:=by
 intro a ha
 exact ⟨hS,h a ha⟩
theorem Ty (hi:os[i]?=some o) (hS:S w) (hg:gd os.toArray l o=some false) (hd:CB n o.dst=true) (h:WD P os Q S s n (Cp l o.dst undef) w):WD P os Q S (.m i s) n l w:=by
 intro a ha
 refine ⟨o,by simpa using hi,?_⟩
 simp only [wpList]
 rw [if_neg (by rw [EH ha hg];simp)]
 exact ⟨hS,h _ (ha.put _ _ hd)⟩
theorem IC {d:Option Tmp} {u:Value} {l:BA} {s:Nat} (h:d≠some s):lk (Cp l d u) s=lk l s:=by
 cases d with
 |none=>rfl
 |some d=>
  simp only [Cp,lk]
  split
  ·rename_i e _
   exact absurd (congrArg some e) h
  ·rfl
theorem JX {u:Value} {l:BA} {s:Nat}:lk (Cp l (some s) u) s=some u:=by
 simp only [Cp,lk]
 split
 ·rfl
 ·rename_i e _
  exact absurd U e
def J8 (l:BA):Option Tmp→Bool
 |some d=>(lk l d).isNone
 |none=>true
theorem On {a:Act} {d:Option Tmp} {u:Value} (ha:Cq n l a) (hd:CB n d=true) (hn:J8 l d=true):Cq n l (a.put d u):=by
 refine (ha.put d u hd).sub fun s v hs=>?_
 rw [IC ?_,hs]
 rintro rfl
 simp [J8,hs] at hn
theorem Jo {oi oj:Oper} {vi vj:Value} {j:Nat} (hi:os[i]?=some oi) (hj:os[j]?=some oj) (gi:gd os.toArray l oi=some true) (gj:gd os.toArray l oj=some true) (di:CB n oi.dst=true) (dj:CB n oj.dst=true)
  (ni:J8 l oi.dst=true) (nj:J8 l oj.dst=true) (hij:oi.dst≠oj.dst) (ri:Bw P n l w oi vi w) (rj:Bw P n l w oj vj w) (h:WD P os Q S s n (Cp (Cp l oi.dst vi) oj.dst vj) w):WD P os Q S (.p i j s) n l w:=by
 intro a ha
 have f1:=On (u:=vi) ha di ni
 have f2:=On (u:=vj) ha dj nj
 refine ⟨oi,oj,vi,vj,by simpa using hi,by simpa using hj,?_,?_,h _ ((ha.put _ _ di).put _ _ dj),h _ (((ha.put _ _ dj).put _ _ di).sub fun s v hs=>?_)⟩
 ·rintro a' (rfl|rfl)
  ·exact ⟨EH ha gi,ri _ ha⟩
  ·exact ⟨EH f2 gi,ri _ f2⟩
 ·rintro a' (rfl|rfl)
  ·exact ⟨EH ha gj,rj _ ha⟩
  ·exact ⟨EH f1 gj,rj _ f1⟩
 ·by_cases e1:oj.dst=some s
  ·rw [IC (by rw [←e1];exact hij)]
   rw [e1,JX] at hs
   rw [e1,JX]
   exact hs
  ·rw [IC e1] at hs
   by_cases e2:oi.dst=some s
   ·rw [e2,JX] at hs
    rw [e2,JX]
    exact hs
   ·rw [IC e2] at hs ⊢
    rw [IC e1]
    exact hs
theorem Bx (h:WQ Q .normal n l w):WD P os Q S .z n l w:=h
theorem Tx {d:Nat} {b:Bool} (hc:lk l d=some (.bool b)) (ht:b=true→WD P os Q S s n ((d,.bool true)::l) w) (hf:b=false→WD P os Q S s n ((d,.bool false)::l) w):WD P os Q S s n l w:=by
 intro a ha
 cases b
 ·refine hf U a ⟨ha.defers,ha.size,fun s v hs=>?_⟩
  simp only [lk] at hs
  split at hs
  ·rename_i e _
   obtain rfl:Value.bool false=v:=by simpa using hs
   subst e
   exact ha.get _ _ hc
  ·exact ha.get _ _ hs
 ·refine ht U a ⟨ha.defers,ha.size,fun s v hs=>?_⟩
  simp only [lk] at hs
  split at hs
  ·rename_i e _
   obtain rfl:Value.bool true=v:=by simpa using hs
   subst e
   exact ha.get _ _ hc
  ·exact ha.get _ _ hs
theorem G6 {d:Nat} {p:Prop} {_:Decidable p} (hc:lk l d=some (.bool (decide p))) (ht:p→WD P os Q S s n ((d,.bool true)::l) w) (hf:¬ p→WD P os Q S s n ((d,.bool false)::l) w):WD P os Q S s n l w:=
 Tx hc (fun h=>ht (of_decide_eq_true h)) (fun h=>hf (of_decide_eq_false h))
end
inductive Fi
 |e (i:Nat) (q:Fi)
 |m (i:Nat) (q:Fi)
 |w (i:Nat) (s:ER)
def I2:Fi→Nat
 |.e _ q=>I2 q+1
 |.m _ q=>I2 q+1
 |.w _ s=>Fu s+1
def Gg:Fi→Nat
 |.e _ q=>Gg q
 |.m _ q=>Gg q
 |.w i _=>i
def GW (ops:Array Oper) (k i:Nat):Bool:=match ops[k]? with
 |some o=>o.after.any fun e=>Region.binds .any e && Nat.beq e.on i
 |none=>false
def FT (ops:Array Oper):Nat→Nat→Nat→Bool
 |0,k,i=>GW ops k i
 |n+1,k,i=>GW ops k i||(List.range ops.size).any fun m=>GW ops k m && FT ops n m i
def Hw (ops:Array Oper) (listed:Array Bool):Prop:=∀ (k:Nat) (o:Oper),ops[k]?=some o→listed.getD k true=true→∀ e∈o.after,Region.binds .any e=true→listed.getD e.on true=true
theorem Nn {ops:Array Oper} {L:Array Bool} {k i:Nat} (h:GW ops k i=true) (hk:∀ o,ops[k]?=some o→∀ e∈o.after,Region.binds .any e=true→L.getD e.on true=true):L.getD i true=true:=by
 unfold GW at h
 split at h
 ·rename_i o ho
  obtain ⟨x,hx,hx2⟩:=Array.any_eq_true'.1 h
  rw [Bool.and_eq_true] at hx2
  have:=hk o ho x hx hx2.1
  rwa [Nat.eq_of_beq_eq_true hx2.2] at this
 ·cases h
theorem Si {ops:Array Oper} {L:Array Bool} (hL:Hw ops L) {i:Nat}:∀ (n k:Nat),FT ops n k i=true→(∀ o,ops[k]?=some o→∀ e∈o.after,Region.binds .any e=true→L.getD e.on true=true)→L.getD i true=true
 |0,k,h,hk=>Nn h hk
 |n+1,k,h,hk=>by
  unfold FT at h
  rw [Bool.or_eq_true] at h
  rcases h with h|h
  ·exact Nn h hk
  ·obtain ⟨m,_,hm⟩:=List.any_eq_true.1 h
   rw [Bool.and_eq_true] at hm
   have h1:=Nn hm.1 hk
   exact Si hL n m hm.2 fun o ho e he hb=>hL m o ho h1 e he hb
def FJ (ops:Array Oper):Fi→Array Bool→Bool
 |.e i q,listed=>(Region.ready .any ops listed).contains i && Region.free .any ops listed i && FT ops 2 (Gg q) i && FJ ops q (listed.setIfInBounds i true)
 |.m i q,listed=>decide (Region.ready .any ops listed=[i]) && FJ ops q (listed.setIfInBounds i true)
 |.w i s,listed=>decide (Region.ready .any ops listed=[i]) && E6 ops s (listed.setIfInBounds i true)
section
variable {P:Program} {ops:Array Oper} {Q:Exit→Act→World→Prop} {S S2:World→Prop} {W:Nat}
def Hs (P:Program) (ops:Array Oper) (Q:Exit→Act→World→Prop) (S S2:World→Prop) (W:Nat):Nat→Array Bool→Act→World→Prop
 |0,listed,a,w=>Region.ready .any ops listed=[]∧Q .normal a w
 |n+1,listed,a,w=>(Region.ready .any ops listed=[]→Q .normal a w)∧∀ i∈Region.ready .any ops listed,
   wpOp P ops Q i (fun a' w'=>(i≠W∧S w'∧Hs P ops Q S S2 W n (listed.setIfInBounds i true) a' w')∨(i=W∧wpAnyH P .any ops Q S2 n (listed.setIfInBounds i true) a' w')) a w
theorem Sk:∀ (n:Nat) (listed:Array Bool) (a:Act) (w:World),Hs P ops Q S S2 W n listed a w→wpAny P .any ops Q n listed a w
 |0,_,_,_,h=>h
 |n+1,_,_,_,h=>⟨h.1,fun i hi=>wpOp_mono (fun a' w' h'=>h'.elim (fun g=>Sk n _ a' w' g.2.2) fun g=>wpAny_of_held n _ a' w' g.2) (h.2 i hi)⟩
theorem Ku (i:Nat) {k:Nat} (L:Array Bool) (h:L.getD k true=true):(L.setIfInBounds i true).getD k true=true:=by
 by_cases e:i=k
 ·subst e
  rcases Nat.lt_or_ge i L.size with h'|h'
  ·simp [Array.getD_eq_getD_getElem?,h']
  ·simp [Array.getD_eq_getD_getElem?,Array.getElem?_eq_none,h']
 ·rw [getD_set_ne true e];exact h
theorem PU {L:Array Bool} {k:Nat} (h:L.getD k false=true):L.getD k true=true:=by
 rw [Array.getD_eq_getD_getElem?] at h ⊢
 cases hk:L[k]? with
 |none=>rfl
 |some b=>rw [hk] at h;exact h
theorem M3 {L:Array Bool} {j:Nat} (h:Hw ops L) (hj:j∈Region.ready .any ops L):Hw ops (L.setIfInBounds j true):=by
 intro k o ho hk e he hb
 obtain ⟨_,oj,hoj,hall⟩:=mem_ready.1 hj
 by_cases hjk:j=k
 ·subst hjk
  rw [hoj] at ho
  injection ho with ho
  subst ho
  exact Ku j L (PU (hall e he hb))
 ·rw [getD_set_ne true hjk] at hk
  exact Ku j L (h k o ho hk e he hb)
theorem T9 {i:Nat} {oi:Oper} {v:Value} (hi:ops[i]?=some oi) (hsel:∀ (j:Nat) (o:Oper) cs b,ops[j]?=some o→o.op≠.select cs b) (hQ:∀ c a w,Q (.panic c) (a.put oi.dst v) w→Q (.panic c) a w)
  (hw:FT ops 2 W i=true) (hiW:i≠W):∀ (n:Nat) (listed:Array Bool) (a:Act) (w:World),Hw ops listed→
   (∀ j oj,ops[j]?=some oj→j≠i→listed.getD j true=false→(∀ e∈oj.after,Region.binds .any e=true→e.on≠i)→oi.apart ops oj=true)→
   i∈Region.ready .any ops listed→YieldsIf P ops S oi v a→S w→Hs P ops Q S S2 W n (listed.setIfInBounds i true) (a.put oi.dst v) w→Hs P ops Q S S2 W (n+1) listed a w:=by
 intro n
 induction n with
 |zero=>
  intro listed a w hcl _ hr hy hS hH
  refine ⟨fun h=>(by rw [h] at hr;cases hr),fun j hj=>?_⟩
  by_cases hji:j=i
  ·subst hji;exact hy.wpOp hi hS (.inl ⟨hiW,hS,hH⟩)
  ·have:=ready_mono hj hji
   rw [hH.1] at this
   cases this
 |succ n ih=>
  intro listed a w hcl hfree hr hy hS hH
  refine ⟨fun h=>(by rw [h] at hr;cases hr),fun j hj=>?_⟩
  by_cases hji:j=i
  ·subst hji;exact hy.wpOp hi hS (.inl ⟨hiW,hS,hH⟩)
  ·have h1:=hH.2 j (ready_mono hj hji)
   obtain ⟨hjun,oj,hoj,hall⟩:=mem_ready.1 hj
   have hnot:∀ e∈oj.after,Region.binds .any e=true→e.on≠i:=by
    intro e he hb heq
    have g1:=hall e he hb
    have g0:=(mem_ready.1 hr).1
    rw [heq] at g1
    rcases Nat.lt_or_ge i listed.size with h'|h'
    ·simp [h'] at g0 g1;rw [g0] at g1;cases g1
    ·simp [Array.getElem?_eq_none h'] at g1
   have hjW:j≠W:=by
    intro e
    have g0:=(mem_ready.1 hr).1
    have g1:=Si hcl 2 W hw fun o ho x hx hb=>PU (hall x (by rw [←e,hoj] at ho;injection ho with ho;rw [ho];exact hx) hb)
    rw [g1] at g0
    cases g0
   have h2:=wpOp_putIf hoj (hfree j oj hoj hji hjun hnot) (fun cs b=>hsel i oi cs b hi) (fun cs b=>hsel j oj cs b hoj) hQ hy h1
   refine wpOp_mono (fun a' w' h3=>?_) h2
   obtain ⟨hy',h4|h4⟩:=h3
   ·refine .inl ⟨hjW,h4.2.1,ih (listed.setIfInBounds j true) a' w' (M3 hcl hj) (fun k ok hk hki hun hno=>?_) (ready_mono hr (Ne.symm hji)) hy' h4.2.1 ?_⟩
    ·refine hfree k ok hk hki ?_ hno
     by_cases hjk:j=k
     ·subst hjk;exact hjun
     ·rw [getD_set_ne true hjk] at hun;exact hun
    ·rw [Array.setIfInBounds_comm _ _ hji]
     exact h4.2.2
   ·exact absurd h4.1 hjW
def Ii (P:Program) (ops:Array Oper) (Q:Exit→Act→World→Prop) (S S2:World→Prop):Fi→Act→World→Prop
 |.e i q,a,w=>∃ o v,ops[i]?=some o∧YieldsIf P ops S o v a∧Ii P ops Q S S2 q (a.put o.dst v) w
 |.m i q,a,w=>∃ o,ops[i]?=some o∧wpList P ops (DT fun a w=>S w∧Ii P ops Q S S2 q a w) [o] a w
 |.w i s,a,w=>∃ o,ops[i]?=some o∧wpList P ops (DT fun a w=>S2 w∧EZ P ops Q S2 s a w) [o] a w
theorem Sl {i:Nat} {o:Oper} {a:Act} {w:World} {T:World→Prop} {K K2:Act→World→Prop} (ho:ops[i]?=some o) (h:wpList P ops (DT fun a w=>T w∧K a w) [o] a w) (hk:∀ a' w',T w'→K a' w'→K2 a' w'):
  wpOp P ops (DT fun a w=>Q .normal a w) i K2 a w:=by
 unfold wpOp
 simp only [ho]
 simp only [wpList] at h
 split
 ·rename_i hw
  rw [if_pos hw] at h
  rcases h with h|⟨_,a',w',h⟩
  ·exact .inl (Oper.wp_mono (fun a' w' (h':T w'∧K a' w')=>hk a' w' h'.1 h'.2) (Sm h))
  ·exact h.elim
 ·rename_i hw
  rw [if_neg hw] at h
  exact hk _ w h.1 h.2
theorem Np (hs:Region.noSelect ops=true):∀ (q:Fi) (listed:Array Bool) (a:Act) (w:World),FJ ops q listed=true→Hw ops listed→(∀ k,FT ops 2 k k=true→False)→listed.getD (Gg q) true=false→S w→Ii P ops Q S S2 q a w→
  Hs P ops (DT fun a w=>Q .normal a w) S S2 (Gg q) (I2 q) listed a w
 |.e i q,listed,a,w,hB,hcl,hno,hl,hS,h=>by
  simp only [FJ,Bool.and_eq_true] at hB
  obtain ⟨o,v,ho,hy,h⟩:=h
  have hne:i≠Gg q:=fun e=>hno i (by have:=hB.1.2;rw [←e] at this;exact this)
  exact T9 ho (Region.noSelect_spec hs) (fun _ _ _ h=>h) hB.1.2 hne _ listed a w hcl (Region.free_spec ho hB.1.1.2) (by simpa using hB.1.1.1) hy hS
   (Np hs q _ _ w hB.2 (M3 hcl (by simpa using hB.1.1.1)) hno (by rw [getD_set_ne true hne];exact hl) hS h)
 |.m i q,listed,a,w,hB,hcl,hno,hl,hS,h=>by
  simp only [FJ,Bool.and_eq_true,decide_eq_true_eq] at hB
  obtain ⟨o,ho,h⟩:=h
  show Hs P ops _ S S2 (Gg q) (I2 q+1) listed a w
  refine ⟨fun h0=>(by rw [hB.1] at h0;cases h0),fun j hj=>?_⟩
  rw [hB.1] at hj
  obtain rfl:j=i:=by simpa using hj
  by_cases hne:j=Gg q
  ·exfalso
   have:∀ (q:Fi) (L:Array Bool),L.getD (Gg q) true=true→FJ ops q L=true→False:=by
    intro q
    induction q with
    |e i q ih=>intro L hL hB;simp only [FJ,Bool.and_eq_true] at hB;exact ih _ (Ku i _ hL) hB.2
    |m i q ih=>intro L hL hB;simp only [FJ,Bool.and_eq_true] at hB;exact ih _ (Ku i _ hL) hB.2
    |w i s=>
     intro L hL hB
     simp only [FJ,Bool.and_eq_true,decide_eq_true_eq] at hB
     have hr:i∈Region.ready .any ops L:=by rw [hB.1];simp
     have:=(mem_ready.1 hr).1
     rw [show L.getD i true=true from hL] at this;cases this
   refine this q _ ?_ hB.2
   rw [←hne]
   rcases Nat.lt_or_ge j listed.size with h'|h'
   ·simp [Array.getD_eq_getD_getElem?,h']
   ·simp [Array.getD_eq_getD_getElem?,Array.getElem?_eq_none h',Array.getElem?_setIfInBounds_ne,h']
  ·exact Sl ho h fun a' w' hS' h'=>.inl ⟨hne,hS',Np hs q _ a' w' hB.2 (M3 hcl (by rw [hB.1];simp)) hno (by rw [getD_set_ne true hne];exact hl) hS' h'⟩
 |.w i s,listed,a,w,hB,hcl,hno,hl,hS,h=>by
  simp only [FJ,Bool.and_eq_true,decide_eq_true_eq] at hB
  obtain ⟨o,ho,h⟩:=h
  show Hs P ops _ S S2 i (Fu s+1) listed a w
  refine ⟨fun h0=>(by rw [hB.1] at h0;cases h0),fun j hj=>?_⟩
  rw [hB.1] at hj
  obtain rfl:j=i:=by simpa using hj
  exact Sl ho h fun a' w' hS' h'=>.inr ⟨rfl,GX hs s _ a' w' hB.2 hS' h'⟩
end
section
variable {P:Program} {Q:Exit→Act→World→Prop} {S S2:World→Prop} {n:Nat} {l:BA} {w0 w:World} {F0:AV} {As Rs:List SP} {s:ER} {q:Fi} {os:List Oper} {o:Oper} {v:Value} {i:Nat}
def WG (P:Program) (os:List Oper) (Q:Exit→Act→World→Prop) (S S2:World→Prop) (q:Fi) (n:Nat) (l:BA) (w:World):Prop:=∀ a,Cq n l a→Ii P os.toArray Q S S2 q a w
def Qf (ops:Array Oper):Bool:=(List.range ops.size).all fun k=>!FT ops 2 k k
theorem aZ {ops:Array Oper} {k i:Nat} (hk:ops[k]?=none):∀ n,FT ops n k i=false
 |0=>by unfold FT GW;rw [hk]
 |n+1=>by
  have h0:∀ m,GW ops k m=false:=fun m=>by unfold GW;rw [hk]
  unfold FT
  rw [h0,Bool.false_or,List.any_eq_false]
  intro m _
  rw [h0];simp
theorem Xh {ops:Array Oper} (h:Qf ops=true) (k:Nat) (hk:FT ops 2 k k=true):False:=by
 by_cases hl:k<ops.size
 ·have:=List.all_eq_true.1 h k (List.mem_range.2 hl)
  rw [hk] at this;cases this
 ·rw [aZ (Array.getElem?_eq_none (by omega))] at hk;cases hk
theorem Zx (ops:Array Oper):Hw ops (Array.replicate ops.size false):=by
 intro k o ho hk
 obtain ⟨hl,_⟩:=Array.getElem?_eq_some_iff.1 ho
 simp [Array.getD_eq_getD_getElem?,hl] at hk
theorem SX {id:Nat} (q:Fi) (S S2:World→Prop) (hm:P.follows .mixedOrders=true) (hB:(Region.noSelect os.toArray && Qf os.toArray && !((Array.replicate os.length false).getD (Gg q) true) && FJ os.toArray q (Array.replicate os.length false) && Nat.beq (I2 q) os.length)=true)
  (hS:∀ w',Hd w0 F0 w' As Rs→S w') (H:Hd w0 F0 w As Rs) (h:∀ w',Hd w0 F0 w' As Rs→WG P os Q S S2 q n l w'):WC P (.region id os.toArray true) Q n l w:=by
 intro a ha
 simp only [Bool.and_eq_true,Bool.not_eq_true'] at hB
 have H':Hd w0 F0 { w with drawn:=w.drawn+1 } As Rs:=H.drewN 1
 have h1:=Np (Q:=Q) (S2:=S2) hB.1.1.1.1 q _ a _ hB.1.2 (by have:=Zx os.toArray;simpa using this) (Xh hB.1.1.1.2) hB.1.1.2 (hS _ H') (h _ H' a ha)
 have h2:=Sk _ _ _ _ h1
 rw [Nat.eq_of_beq_eq_true hB.2,show os.length=os.toArray.size by simp] at h2
 exact wp_mono (wp_region_any hm (by simpa using h2)) fun e a w h=>by
  cases e<;>first |exact h|exact h.elim
theorem Fm (hi:os[i]?=some o) (hg:gd os.toArray l o=some true) (hd:CB n o.dst=true) (hr:∀ w,S w→Bw P n l w o v w) (h:WG P os Q S S2 q n (Cp l o.dst v) w):WG P os Q S S2 (.e i q) n l w:=by
 intro a ha
 exact ⟨o,v,by simpa using hi,.inl ⟨EH ha hg,fun w hw=>hr w hw a ha⟩,h _ (ha.put _ _ hd)⟩
theorem Uo (hi:os[i]?=some o) (hg:gd os.toArray l o=some false) (hd:CB n o.dst=true) (h:WG P os Q S S2 q n (Cp l o.dst undef) w):WG P os Q S S2 (.e i q) n l w:=by
 intro a ha
 exact ⟨o,undef,by simpa using hi,.inr ⟨EH ha hg,rfl⟩,h _ (ha.put _ _ hd)⟩
theorem LW (hi:os[i]?=some o) (h:WL P os.toArray (DT fun a w=>S w∧Ii P os.toArray Q S S2 q a w) [o] n l w):WG P os Q S S2 (.m i q) n l w:=by
 intro a ha
 exact ⟨o,by simpa using hi,h a ha⟩
theorem LV (hS:S w) (h:WG P os Q S S2 q n l w):WL P os.toArray (DT fun a w=>S w∧Ii P os.toArray Q S S2 q a w) [] n l w:=by
 intro a ha
 exact ⟨hS,h a ha⟩
theorem Up (hi:os[i]?=some o) (h:WL P os.toArray (DT fun a w=>S2 w∧EZ P os.toArray Q S2 s a w) [o] n l w):WG P os Q S S2 (.w i s) n l w:=by
 intro a ha
 exact ⟨o,by simpa using hi,h a ha⟩
end
def HU:List Value→Nat→Option Value
 |[],_=>none
 |v::_,0=>some v
 |_::r,i+1=>HU r i
theorem Qg:∀ (l:List Value) (i:Nat),HU l i=l[i]?
 |[],i=>by simp [HU]
 |v::r,0=>by simp [HU]
 |v::r,i+1=>by simp [HU,Qg r i]
def J4 (l:BA):Op→Option Value
 |.move x=>ev l x
 |.assign x=>ev l x
 |.pick c x y=>match ev l c with
  |some (.bool true)=>ev l x
  |some (.bool false)=>ev l y
  |_=>none
 |.extract x i=>match ev l x with
  |some (.tuple vs)=>HU vs.toList i
  |_=>none
 |_=>none
def Ie (ops:Array Oper) (n:Nat) (l:BA) (o:Oper):Option BA:=
 match CB n o.dst with
 |false=>none
 |true=>match gd ops l o with
  |some true=>match J4 l o.op with
   |some v=>some (Cp l o.dst v)
   |none=>none
  |some false=>some (Cp l o.dst undef)
  |none=>none
def Gx (ops:Array Oper) (n:Nat):Nat→List Oper→BA→Option (List Oper×BA)
 |0,r,l=>some (r,l)
 |k+1,o::r,l=>match Ie ops n l o with
  |some l'=>Gx ops n k r l'
  |none=>none
 |_+1,[],_=>none
theorem J5 {P:Program} {n:Nat} {l:BA} {w:World} {o:Oper} {v:Value} (h:J4 l o.op=some v):Bw P n l w o v w:=by
 unfold J4 at h
 split at h
 ·rename_i x ho;exact YD ho h
 ·rename_i x ho;exact Yv ho h
 ·rename_i c x y ho
  split at h
  ·rename_i hc;exact YH ho hc h
  ·rename_i hc;exact YG ho hc h
  ·cases h
 ·rename_i x i ho
  split at h
  ·rename_i vs hx;exact Yy ho hx (by rw [Qg] at h;simpa using h)
  ·cases h
 ·cases h
section
variable {P:Program} {ops:Array Oper} {Q:Exit→Act→World→Prop} {rest rest':List Oper} {n:Nat} {l l':BA} {w:World} {o:Oper}
theorem KA (h:Ie ops n l o=some l'):CB n o.dst=true∧((gd ops l o=some true∧∃ v,J4 l o.op=some v∧l'=Cp l o.dst v)∨(gd ops l o=some false∧l'=Cp l o.dst undef)):=by
 unfold Ie at h
 split at h
 ·cases h
 ·rename_i hd
  refine ⟨hd,?_⟩
  split at h
  ·rename_i hg
   split at h
   ·rename_i v hv;cases h;exact .inl ⟨hg,v,hv,rfl⟩
   ·cases h
  ·rename_i hg;cases h;exact .inr ⟨hg,rfl⟩
  ·cases h
theorem Ab (h:Ie ops n l o=some l') (hk:WL P ops Q rest n l' w):WL P ops Q (o::rest) n l w:=by
 obtain ⟨hd,⟨hg,v,hv,rfl⟩|⟨hg,rfl⟩⟩:=KA h
 ·exact V hg hd (J5 hv) hk
 ·exact Zq hg hd hk
theorem Ad (k:Nat) (h:Gx ops n k rest l=some (rest',l')) (hk:WL P ops Q rest' n l' w):WL P ops Q rest n l w:=by
 induction k generalizing rest l with
 |zero=>unfold Gx at h;cases h;exact hk
 |succ k ih=>
  cases rest with
  |nil=>unfold Gx at h;cases h
  |cons o r=>
   unfold Gx at h
   split at h
   ·rename_i l1 h1;exact Ab h1 (ih h)
   ·cases h
theorem C7 {C:World→Prop} {K:Act→Prop} (h:Ie ops n l o=some l') (hk:WU P ops C K rest n l'):WU P ops C K (o::rest) n l:=by
 obtain ⟨hd,⟨hg,v,hv,rfl⟩|⟨hg,rfl⟩⟩:=KA h
 ·exact Ba hg hd (fun _ _=>J5 hv) hk
 ·exact Z_ hg hd hk
theorem DW {C:World→Prop} {K:Act→Prop} (k:Nat) (h:Gx ops n k rest l=some (rest',l')) (hk:WU P ops C K rest' n l'):WU P ops C K rest n l:=by
 induction k generalizing rest l with
 |zero=>unfold Gx at h;cases h;exact hk
 |succ k ih=>
  cases rest with
  |nil=>unfold Gx at h;cases h
  |cons o r=>
   unfold Gx at h
   split at h
   ·rename_i l1 h1;exact C7 h1 (ih h)
   ·cases h
def KB (os:List Oper) (n:Nat) (l:BA) (i:Nat):Option BA:=match os[i]? with
 |some o=>Ie os.toArray n l o
 |none=>none
theorem Ap {os:List Oper} {S:World→Prop} {s:ER} {i:Nat} (h:KB os n l i=some l') (hk:WD P os Q S s n l' w):WD P os Q S (.e i s) n l w:=by
 unfold KB at h
 split at h
 ·rename_i o ho
  obtain ⟨hd,⟨hg,v,hv,rfl⟩|⟨hg,rfl⟩⟩:=KA h
  ·exact Ak ho hg hd (fun _ _=>J5 hv) hk
  ·exact Tz ho hg hd hk
 ·cases h
theorem bU {os:List Oper} {S S2:World→Prop} {q:Fi} {i:Nat} (h:KB os n l i=some l') (hk:WG P os Q S S2 q n l' w):WG P os Q S S2 (.e i q) n l w:=by
 unfold KB at h
 split at h
 ·rename_i o ho
  obtain ⟨hd,⟨hg,v,hv,rfl⟩|⟨hg,rfl⟩⟩:=KA h
  ·exact Fm ho hg hd (fun _ _=>J5 hv) hk
  ·exact Uo ho hg hd hk
 ·cases h
end
section
variable {w0 w:World} {F0:AV} {As Rs:List SP} {A B C D E F G I J K:SP}
theorem Hd.k1 (H:Hd w0 F0 w (A::As) Rs):Hd w0 F0 w [A] Rs:=H.keep 1
theorem Hd.k2 (H:Hd w0 F0 w (A::B::As) Rs):Hd w0 F0 w [A,B] Rs:=H.keep 2
theorem Hd.k3 (H:Hd w0 F0 w (A::B::C::As) Rs):Hd w0 F0 w [A,B,C] Rs:=H.keep 3
theorem Hd.k4 (H:Hd w0 F0 w (A::B::C::D::As) Rs):Hd w0 F0 w [A,B,C,D] Rs:=H.keep 4
theorem Hd.k5 (H:Hd w0 F0 w (A::B::C::D::E::As) Rs):Hd w0 F0 w [A,B,C,D,E] Rs:=H.keep 5
theorem Hd.k6 (H:Hd w0 F0 w (A::B::C::D::E::F::As) Rs):Hd w0 F0 w [A,B,C,D,E,F] Rs:=H.keep 6
theorem Hd.k7 (H:Hd w0 F0 w (A::B::C::D::E::F::G::As) Rs):Hd w0 F0 w [A,B,C,D,E,F,G] Rs:=H.keep 7
theorem Hd.k8 (H:Hd w0 F0 w (A::B::C::D::E::F::G::I::As) Rs):Hd w0 F0 w [A,B,C,D,E,F,G,I] Rs:=H.keep 8
theorem Hd.k9 (H:Hd w0 F0 w (A::B::C::D::E::F::G::I::J::As) Rs):Hd w0 F0 w [A,B,C,D,E,F,G,I,J] Rs:=H.keep 9
theorem Hd.k10 (H:Hd w0 F0 w (A::B::C::D::E::F::G::I::J::K::As) Rs):Hd w0 F0 w [A,B,C,D,E,F,G,I,J,K] Rs:=H.keep 10
theorem Hd.p1 (H:Hd w0 F0 w (A::B::As) Rs):Hd w0 F0 w (B::A::As) Rs:=H.pick 1 rfl
theorem Hd.p2 (H:Hd w0 F0 w (A::B::C::As) Rs):Hd w0 F0 w (C::A::B::As) Rs:=H.pick 2 rfl
theorem Hd.p3 (H:Hd w0 F0 w (A::B::C::D::As) Rs):Hd w0 F0 w (D::A::B::C::As) Rs:=H.pick 3 rfl
theorem Hd.p4 (H:Hd w0 F0 w (A::B::C::D::E::As) Rs):Hd w0 F0 w (E::A::B::C::D::As) Rs:=H.pick 4 rfl
theorem Hd.p5 (H:Hd w0 F0 w (A::B::C::D::E::F::As) Rs):Hd w0 F0 w (F::A::B::C::D::E::As) Rs:=H.pick 5 rfl
theorem Hd.p6 (H:Hd w0 F0 w (A::B::C::D::E::F::G::As) Rs):Hd w0 F0 w (G::A::B::C::D::E::F::As) Rs:=H.pick 6 rfl
theorem Hd.p7 (H:Hd w0 F0 w (A::B::C::D::E::F::G::I::As) Rs):Hd w0 F0 w (I::A::B::C::D::E::F::G::As) Rs:=H.pick 7 rfl
theorem Hd.p8 (H:Hd w0 F0 w (A::B::C::D::E::F::G::I::J::As) Rs):Hd w0 F0 w (J::A::B::C::D::E::F::G::I::As) Rs:=H.pick 8 rfl
theorem Hd.p9 (H:Hd w0 F0 w (A::B::C::D::E::F::G::I::J::K::As) Rs):Hd w0 F0 w (K::A::B::C::D::E::F::G::I::J::As) Rs:=H.pick 9 rfl
theorem Hd.h1 (H:Hd w0 F0 w (A::As) Rs):Hd w0 F0 w (A::As) Rs:=H
theorem Hd.h2 (H:Hd w0 F0 w (A::B::As) Rs):Hd w0 F0 w (A::B::As) Rs:=H
theorem Hd.h3 (H:Hd w0 F0 w (A::B::C::As) Rs):Hd w0 F0 w (A::B::C::As) Rs:=H
theorem Hd.h4 (H:Hd w0 F0 w (A::B::C::D::As) Rs):Hd w0 F0 w (A::B::C::D::As) Rs:=H
theorem Hd.h5 (H:Hd w0 F0 w (A::B::C::D::E::As) Rs):Hd w0 F0 w (A::B::C::D::E::As) Rs:=H
theorem Hd.h6 (H:Hd w0 F0 w (A::B::C::D::E::F::As) Rs):Hd w0 F0 w (A::B::C::D::E::F::As) Rs:=H
theorem Hd.h7 (H:Hd w0 F0 w (A::B::C::D::E::F::G::As) Rs):Hd w0 F0 w (A::B::C::D::E::F::G::As) Rs:=H
theorem Hd.h8 (H:Hd w0 F0 w (A::B::C::D::E::F::G::I::As) Rs):Hd w0 F0 w (A::B::C::D::E::F::G::I::As) Rs:=H
theorem Hd.h9 (H:Hd w0 F0 w (A::B::C::D::E::F::G::I::J::As) Rs):Hd w0 F0 w (A::B::C::D::E::F::G::I::J::As) Rs:=H
theorem Hd.h10 (H:Hd w0 F0 w (A::B::C::D::E::F::G::I::J::K::As) Rs):Hd w0 F0 w (A::B::C::D::E::F::G::I::J::K::As) Rs:=H
end
def GD (es:List MapEntry) (kvs:List (Int×Value)):Prop:=es.map (fun e=>(e.key,e.val))=kvs.map (fun p=>(Value.int .i64 p.1,p.2))
def Ep (k:Int):List (Int×Value)→Option Value
 |[]=>none
 |p::r=>if k=p.1 then some p.2 else Ep k r
def EJ (b:Nat) (kvs:List (Int×Value)):SP where
 P w F:=F b∧∃ es c,w.heap[b]?=some (.map es c)∧GD es.toList kvs
 loc:=fun ⟨h,es,c,e,h2⟩ hk=>⟨h,es,c,(hk b h).trans e,h2⟩
 mono:=fun ⟨h,h2⟩ hs=>⟨hs b h,h2⟩
theorem LC {k:Int}:∀ {es:List MapEntry} {kvs:List (Int×Value)} (i:Nat),GD es kvs→
  (Ep k kvs=none∧Instr.findNow (.int .i64) (.int .i64 k) es i=some none)∨∃ j v,Ep k kvs=some v∧Instr.findNow (.int .i64) (.int .i64 k) es i=some (some (j,v))
 |[],kvs,i,h=>by
  obtain rfl:kvs=[]:=by simpa [GD] using h.symm
  exact .inl ⟨rfl,rfl⟩
 |e::es,[],i,h=>by simp [GD] at h
 |e::es,p::kvs,i,h=>by
  simp only [GD,List.map_cons,List.cons.injEq,Prod.mk.injEq] at h
  obtain ⟨⟨h1,h2⟩,h3⟩:=h
  have ih:=LC (k:=k) (i+1) (show GD es kvs from h3)
  unfold Ep Instr.findNow
  rw [h1]
  simp only [Instr.sameNow,if_true]
  by_cases hk:k=p.1
  ·rw [if_pos hk]
   refine .inr ⟨i,p.2,rfl,?_⟩
   simp [hk,h2]
  ·rw [if_neg hk]
   have:(k==p.1)=false:=by simpa using hk
   rw [this]
   exact ih
section
variable {P:Program} {ops:Array Oper} {Q:Exit→Act→World→Prop} {rest:List Oper} {n:Nat} {l:BA} {w0 w:World} {F0:AV} {o:Oper} {v:Value} {As Rs:List SP} {x y:Operand} {t kt et:TypeId} {b:Nat} {kvs:List (Int×Value)}
theorem Y3 {F:AV} (hm:P.underlying t=some (.map kt et)) (hk:P.underlying kt=some (.int .i64)) {z:Value} (hz:C8 P et=some z) (k:Int) (h:(EJ b kvs).P w F):(Instr.lookup t (.map (some b)) (.int .i64 k) false).run P w=.ok ((Ep k kvs).getD z) w:=by
 obtain ⟨_,es,c,hb,he⟩:=h
 have hg:=MapKept.run_getObj_map (P:=P) hb
 have hc:=fun e=>MapKept.run_checkKey (P:=P) (w:=w) (k:=.int .i64 k) hk (by trivial) e 9999
 obtain ⟨i,hi,hz'⟩:=Option.bind_eq_some_iff.1 hz
 rcases LC (k:=k) 0 he with ⟨h1,h2⟩|⟨j,u,h1,h2⟩
 ·have hf:=MapKept.run_findKey (w:=w) hk h2
  simp [Instr.lookup,run_underlying hm,hg,hc,hf,h1,zeroValue,typeInfo,hi,hz']
 ·have hf:=MapKept.run_findKey (w:=w) hk h2
  simp [Instr.lookup,run_underlying hm,hg,hc,hf,h1]
theorem YC (ho:o.op=.lookup t x y false) (hm:P.underlying t=some (.map kt et)) (hk:P.underlying kt=some (.int .i64)) {z:Value} (hz:C8 P et=some z) (hx:ev l x=some (.map (some b))) {k:Int} (hy:ev l y=some (.int .i64 k))
  (H:Hd w0 F0 w As Rs) (j:Nat) (hj:As[j]?=some (EJ b kvs)):Bw P n l w o ((Ep k kvs).getD z) w:=by
 intro a ha
 refine H.fact (List.mem_of_getElem? hj) fun F h=>?_
 have:=Y3 hm hk hz k h
 simp [execOp,ho,ha.eval hx,ha.eval hy,this]
theorem Zp {z:Operand} (hg:gd ops l o=some true) (hd:o.dst=none) (ho:o.op=.mapUpdate t x y z) (hm:P.underlying t=some (.map kt et)) (hk:P.underlying kt=some (.int .i64)) (hx:ev l x=some (.map (some b))) {k:Int} (hy:ev l y=some (.int .i64 k)) (hz:ev l z=some v)
  (hn:Ep k kvs=none) (H:Hd w0 F0 w (EJ b kvs::As) Rs) (h:∀ w',Hd w0 F0 w' (EJ b (kvs++[(k,v)])::As) Rs→WL P ops Q rest n l w'):WL P ops Q (o::rest) n l w:=by
 obtain ⟨es,c,hb,he⟩:∃ es c,w.heap[b]?=some (.map es c)∧GD es.toList kvs:=H.fact (List.mem_cons_self ..) fun F h=>h.2
 have hgo:=MapKept.run_getObj_map (P:=P) hb
 have hc:=MapKept.run_checkKey (P:=P) (w:=w) (k:=.int .i64 k) hk (by trivial) false 9999
 have hf:(Instr.findKey kt (.int .i64 k) es.toList).run P w=.ok none w:=by
  rcases LC (k:=k) 0 he with ⟨h1,h2⟩|⟨j,u,h1,h2⟩
  ·exact MapKept.run_findKey (w:=w) hk h2
  ·rw [hn] at h1;cases h1
 have hs:=fun ob=>MapKept.run_setObj_map (P:=P) (o:=ob) hb
 refine RL hg hd (w':={ w with heap:=w.heap.setIfInBounds b (.map (es.push { key:=.int .i64 k,val:=v,born:=c }) (c+1)) }) (fun a ha=>?_) (h _ (H.write fun F hF=>?_))
 ·simp [execOp,ho,ha.eval hx,ha.eval hy,ha.eval hz,Instr.mapUpdate,run_underlying hm,hgo,hc,hf,hs]
 ·have hlt:b<w.heap.size:=(Array.getElem?_eq_some_iff.1 hb).1
  refine ⟨⟨hF.1,_,_,by simp [hlt];exact ⟨rfl,rfl⟩,?_⟩,⟨rfl,rfl,rfl,by simp,fun k hk hn'=>?_⟩⟩
  ·simp only [GD,Array.toList_push,List.map_append] at he ⊢
   rw [he]
   rfl
  ·have:b≠k:=fun e=>hn' (e▸hF.1)
   simp [this]
theorem Zo (hg:gd ops l o=some true) (hd:CB n o.dst=true) (ho:o.op=.makeMap t none) (H:Hd w0 F0 w As Rs)
  (h:∀ b w',Hd w0 F0 w' (EJ b []::As) Rs→WL P ops Q rest n (Cp l o.dst (.map (some b))) w'):WL P ops Q (o::rest) n l w:=by
 refine V (w':=w.alloc (.map #[] 0)) hg hd (v:=.map (some w.heap.size)) (fun a ha=>?_) (h _ _ ?_)
 ·simp [execOp,ho,Instr.makeMap]
 ·refine H.new (F':=fun k=>k=w.heap.size) (Cb.alloc _ _ _) ⟨rfl,#[],0,heap_alloc_new w _,rfl⟩ ?_
  intro k hk
  subst hk
  simp
end
/-! ### Lists of keys and values -/
theorem MY {α:Type} {l:List α} {j:Nat} {x:α} (h:l[j]?=some x):l.set j x=l:=by
 refine List.ext_getElem? fun i=>?_
 rw [List.getElem?_set]
 split
 ·rename_i e
  subst e
  split
  ·exact h.symm
  ·rename_i hl
   rw [List.getElem?_eq_none (by omega)] at h
   cases h
 ·rfl
section
variable {κ:Type} [DecidableEq κ] {kvs:List (κ×Value)} {k:κ} {v u:Value} {j:Nat}
end
/-! ### What a key's type must be -/
structure bP (P:Program) (kt:TypeId) {κ:Type} (enc:κ→Value):Prop where
 inj:∀ {a b:κ},enc a=enc b→a=b
 check:∀ (w:World) (e:Bool) (k:κ),(Instr.checkKey e 10000 kt (enc k)).run P w=.ok () w
 find:∀ (w:World) (k:κ) (es:List MapEntry),(∀ e∈es,∃ k',e.key=enc k')→((Instr.findKey kt (enc k) es).run P w=.ok none w∧∀ e∈es,e.key≠enc k)∨∃ j e,(Instr.findKey kt (enc k) es).run P w=.ok (some (j,e.val)) w∧es[j]?=some e∧e.key=enc k
 stays:∀ (w:World) (k:κ),(Instr.keyThatStays (enc k) (enc k)).run P w=.ok (enc k) w
structure bO (P:Program) (t i:TypeId):Prop where
 ex:∃ f0 f1:Field,GZ P t [f0,f1]∧f0.name≠ "_" ∧f1.name≠ "_" ∧f0.type=i∧f1.type=i∧f0.offset=0∧f1.offset=1
 int:P.underlying i=some (.int .i64)
 one:B9 P i=some (false,1)
/-! ### Maps held -/
section
variable {κ:Type} [DecidableEq κ] {enc:κ→Value} {es:List MapEntry} {kvs:List (κ×Value)} {e:MapEntry} {j:Nat}
end
section
variable {κ:Type} [DecidableEq κ] {enc:κ→Value} {P:Program} {ops:Array Oper} {Q:Exit→Act→World→Prop} {rest:List Oper} {n:Nat} {l:BA} {w0 w:World} {F0:AV} {o:Oper} {v:Value} {As Rs:List SP} {x y:Operand} {t kt et:TypeId} {b:Nat} {kvs:List (κ×Value)} {k:κ}
/-! ### A map that is gone through -/
end
theorem G4:Es Tryz.prog 106=some (#[.string ⟨#[]⟩,.string ⟨#[]⟩],#[(0,1),(1,1)]):=by kernel_rfl
theorem SA:Es Tryz.prog 164=some (#[.slice none 0 0,.int .i64 0,.slice none 0 0,.slice none 0 0,.slice none 0 0,.int .i64 0,.int .i64 0,.int .i64 0,.slice none 0 0,.int .i64 0,.int .i64 0,.int .i64 0,.int .i64 0,.int .i64 0,.int .i64 0,.pointer none,.slice none 0 0],#[(0,12),(12,1),(13,1),(14,1),(15,1),(16,1)]):=by kernel_rfl
theorem SB:Es Tryz.prog 175=some (#[.int .i64 0,.int .i64 0,.int .i64 0,.int .i64 0],#[(0,1),(1,1),(2,1),(3,1)]):=by kernel_rfl
theorem Jg:Es Tryz.prog 223=some (#[.int .i64 0,.int .i64 0,.string ⟨#[]⟩],#[(0,1),(1,1),(2,1)]):=by kernel_rfl
theorem NJ:Es Tryz.prog 234=some (#[.int .u32 0,.int .i32 0,.int .u32 0,.int .u32 0,.nilFunc,.string ⟨#[]⟩],#[(0,3),(3,1),(4,1),(5,1)]):=by kernel_rfl
theorem SC:Es Tryz.prog 239=some (#[.int .i64 0,.int .i64 0,.int .i64 0,.int .i64 0],#[(0,1),(1,1),(2,1),(3,1)]):=by kernel_rfl
theorem SD:Es Tryz.prog 26=some (#[.slice none 0 0,.int .i64 0,.slice none 0 0,.slice none 0 0,.slice none 0 0,.int .i64 0,.int .i64 0,.int .i64 0,.slice none 0 0],#[(0,1),(1,1),(2,1),(3,1),(4,1),(5,1),(6,1),(7,1),(8,1)]):=by kernel_rfl
theorem SE:Es Tryz.prog 28=some (#[.slice none 0 0,.int .i64 0,.slice none 0 0,.slice none 0 0,.slice none 0 0,.int .i64 0,.int .i64 0,.int .i64 0,.slice none 0 0,.int .i64 0,.int .i64 0,.int .i64 0],#[(0,9),(9,1),(10,1),(11,1)]):=by kernel_rfl
theorem Jh:Es Tryz.prog 284=some (#[.bool false,.int .i64 0,.string ⟨#[]⟩],#[(0,1),(1,1),(2,1)]):=by kernel_rfl
theorem SF:Es Tryz.prog 288=some (#[.slice none 0 0,.string ⟨#[]⟩,.slice none 0 0,.int .i64 0,.int .i64 0,.int .i64 0,.bool false,.slice none 0 0,.bool false,.int .i64 0,.string ⟨#[]⟩,.bool false,.int .i64 0,.string ⟨#[]⟩,.bool false,.int .i64 0,.string ⟨#[]⟩,.bool false,.int .i64 0,.string ⟨#[]⟩,.bool false,.int .i64 0,.string ⟨#[]⟩,.bool false,.int .i64 0,.string ⟨#[]⟩,.bool false,.int .i64 0,.string ⟨#[]⟩,.bool false,.int .i64 0,.string ⟨#[]⟩,.slice none 0 0,.map none],#[(0,1),(1,1),(2,1),(3,1),(4,1),(5,1),(6,1),(7,1),(8,24),(32,1),(33,1)]):=by kernel_rfl
theorem SH:Es Tryz.prog 322=some (#[.int .i64 0,.int .i64 0,.int .i64 0,.int .i64 0,.int .i64 0,.int .i64 0,.int .i64 0,.int .i64 0],#[(0,8)]):=by kernel_rfl
theorem NK:Es Tryz.prog 64=some (#[.int .i64 0,.int .i64 0,.int .i64 0,.int .i64 0,.int .i64 0,.int .i64 0,.int .i64 0,.int .i64 0,.slice none 0 0,.slice none 0 0],#[(0,1),(1,1),(2,1),(3,1),(4,1),(5,1),(6,1),(7,1),(8,1),(9,1)]):=by kernel_rfl
theorem SZ:Tryz.prog.cellsOf 106=2:=by kernel_rfl
theorem S0:Tryz.prog.cellsOf 223=3:=by kernel_rfl
theorem S3:Tryz.prog.cellsOf 26=9:=by kernel_rfl
theorem S4:Tryz.prog.cellsOf 28=12:=by kernel_rfl
theorem S5:Tryz.prog.cellsOf 66=3:=by kernel_rfl
theorem TV:GZ Tryz.prog 106 [⟨ "Key",9,0,false, "", "",0⟩,⟨ "Value",9,1,false, "", "",16⟩]:=⟨by kernel_rfl,by kernel_rfl,by kernel_rfl⟩
theorem Oh:Em Tryz.prog 186 (Extern.Atomic.storeT):=⟨_,Tryz.func186,by kernel_rfl,by kernel_rfl,by kernel_rfl,by kernel_rfl⟩
theorem Oi:Em Tryz.prog 188 (Extern.Atomic.loadT (.int .u32)):=⟨_,Tryz.func188,by kernel_rfl,by kernel_rfl,by kernel_rfl,by kernel_rfl⟩
theorem Oj:Em Tryz.prog 294 (fun _=>do mark .disable;pure Extern.Race.none_):=⟨_,Tryz.func294,by kernel_rfl,by kernel_rfl,by kernel_rfl,by kernel_rfl⟩
theorem T0:Em Tryz.prog 295 (Extern.Atomic.casT (.int .i32)):=⟨_,Tryz.func295,by kernel_rfl,by kernel_rfl,by kernel_rfl,by kernel_rfl⟩
theorem Ok:Em Tryz.prog 296 (fun _=>do mark .enable;pure Extern.Race.none_):=⟨_,Tryz.func296,by kernel_rfl,by kernel_rfl,by kernel_rfl,by kernel_rfl⟩
theorem T1:Em Tryz.prog 297 (Extern.Race.marked .acquire):=⟨_,Tryz.func297,by kernel_rfl,by kernel_rfl,by kernel_rfl,by kernel_rfl⟩
theorem T2:Em Tryz.prog 299 (Extern.Race.marked .releaseMerge):=⟨_,Tryz.func299,by kernel_rfl,by kernel_rfl,by kernel_rfl,by kernel_rfl⟩
theorem T3:Em Tryz.prog 300 (Extern.Atomic.update (Op.intArith .add) .i32 true):=⟨_,Tryz.func300,by kernel_rfl,by kernel_rfl,by kernel_rfl,by kernel_rfl⟩
theorem T4:Em Tryz.prog 316 (Extern.Atomic.loadT (.int .i64)):=⟨_,Tryz.func316,by kernel_rfl,by kernel_rfl,by kernel_rfl,by kernel_rfl⟩
theorem T5:Em Tryz.prog 317 (Extern.Atomic.casT (.int .i64)):=⟨_,Tryz.func317,by kernel_rfl,by kernel_rfl,by kernel_rfl,by kernel_rfl⟩
theorem DO:Bo Tryz.prog 106 0=some 0:=by kernel_rfl
theorem Gm:Bo Tryz.prog 106 1=some 1:=by kernel_rfl
theorem Jw:Bo Tryz.prog 164 0=some 0:=by kernel_rfl
theorem Ud:Bo Tryz.prog 164 1=some 12:=by kernel_rfl
theorem Ox:Bo Tryz.prog 164 2=some 13:=by kernel_rfl
theorem LK:Bo Tryz.prog 164 3=some 14:=by kernel_rfl
theorem Jx:Bo Tryz.prog 164 4=some 15:=by kernel_rfl
theorem GH:Bo Tryz.prog 164 5=some 16:=by kernel_rfl
theorem Jy:Bo Tryz.prog 175 0=some 0:=by kernel_rfl
theorem Ue:Bo Tryz.prog 175 1=some 1:=by kernel_rfl
theorem LL:Bo Tryz.prog 175 2=some 2:=by kernel_rfl
theorem It:Bo Tryz.prog 175 3=some 3:=by kernel_rfl
theorem Jz:Bo Tryz.prog 208 1=some 0:=by kernel_rfl
theorem Ce:Bo Tryz.prog 223 0=some 0:=by kernel_rfl
theorem Cg:Bo Tryz.prog 223 1=some 1:=by kernel_rfl
theorem Dx:Bo Tryz.prog 223 2=some 2:=by kernel_rfl
theorem LM:Bo Tryz.prog 228 0=some 0:=by kernel_rfl
theorem Oy:Bo Tryz.prog 230 1=some 0:=by kernel_rfl
theorem LN:Bo Tryz.prog 232 1=some 0:=by kernel_rfl
theorem LO:Bo Tryz.prog 234 0=some 0:=by kernel_rfl
theorem LP:Bo Tryz.prog 234 1=some 3:=by kernel_rfl
theorem JA:Bo Tryz.prog 234 2=some 4:=by kernel_rfl
theorem Iu:Bo Tryz.prog 234 3=some 5:=by kernel_rfl
theorem LQ:Bo Tryz.prog 239 0=some 0:=by kernel_rfl
theorem Uf:Bo Tryz.prog 239 1=some 1:=by kernel_rfl
theorem JB:Bo Tryz.prog 239 2=some 2:=by kernel_rfl
theorem HH:Bo Tryz.prog 239 3=some 3:=by kernel_rfl
theorem C4:Bo Tryz.prog 26 0=some 0:=by kernel_rfl
theorem G9:Bo Tryz.prog 26 1=some 1:=by kernel_rfl
theorem Gn:Bo Tryz.prog 26 2=some 2:=by kernel_rfl
theorem GI:Bo Tryz.prog 26 3=some 3:=by kernel_rfl
theorem G_:Bo Tryz.prog 26 4=some 4:=by kernel_rfl
theorem JC:Bo Tryz.prog 26 5=some 5:=by kernel_rfl
theorem JD:Bo Tryz.prog 26 6=some 6:=by kernel_rfl
theorem HI:Bo Tryz.prog 26 7=some 7:=by kernel_rfl
theorem FB:Bo Tryz.prog 26 8=some 8:=by kernel_rfl
theorem EG:Bo Tryz.prog 284 0=some 0:=by kernel_rfl
theorem CO:Bo Tryz.prog 284 1=some 1:=by kernel_rfl
theorem De:Bo Tryz.prog 284 2=some 2:=by kernel_rfl
theorem Ug:Bo Tryz.prog 288 1=some 1:=by kernel_rfl
theorem Iv:Bo Tryz.prog 288 10=some 33:=by kernel_rfl
theorem JE:Bo Tryz.prog 288 2=some 2:=by kernel_rfl
theorem Uh:Bo Tryz.prog 288 3=some 3:=by kernel_rfl
theorem HJ:Bo Tryz.prog 288 4=some 4:=by kernel_rfl
theorem LR:Bo Tryz.prog 288 5=some 5:=by kernel_rfl
theorem Oz:Bo Tryz.prog 288 6=some 6:=by kernel_rfl
theorem Gp:Bo Tryz.prog 288 7=some 7:=by kernel_rfl
theorem OA:Bo Tryz.prog 288 8=some 8:=by kernel_rfl
theorem JF:Bo Tryz.prog 288 9=some 32:=by kernel_rfl
theorem CP:Bo Tryz.prog 28 0=some 0:=by kernel_rfl
theorem OB:Bo Tryz.prog 28 1=some 9:=by kernel_rfl
theorem HK:Bo Tryz.prog 28 2=some 10:=by kernel_rfl
theorem OC:Bo Tryz.prog 28 3=some 11:=by kernel_rfl
theorem OF:Bo Tryz.prog 319 2=some 0:=by kernel_rfl
theorem Uj:Bo Tryz.prog 322 0=some 0:=by kernel_rfl
theorem OH:Bo Tryz.prog 64 0=some 0:=by kernel_rfl
theorem OI:Bo Tryz.prog 64 1=some 1:=by kernel_rfl
theorem OJ:Bo Tryz.prog 64 2=some 2:=by kernel_rfl
theorem OK:Bo Tryz.prog 64 3=some 3:=by kernel_rfl
theorem OL:Bo Tryz.prog 64 4=some 4:=by kernel_rfl
theorem OM:Bo Tryz.prog 64 5=some 5:=by kernel_rfl
theorem ON:Bo Tryz.prog 64 6=some 6:=by kernel_rfl
theorem OO:Bo Tryz.prog 64 7=some 7:=by kernel_rfl
theorem LT:Bo Tryz.prog 64 8=some 8:=by kernel_rfl
theorem LU:Bo Tryz.prog 64 9=some 9:=by kernel_rfl
theorem JI:Bo Tryz.prog 66 0=some 0:=by kernel_rfl
theorem OP:Bo Tryz.prog 66 1=some 1:=by kernel_rfl
theorem JJ:Bo Tryz.prog 66 2=some 2:=by kernel_rfl
theorem JO:(Tryz.prog.info? 284).map (·.size)=some 3:=by kernel_rfl
theorem UK:(Tryz.prog.info? 319).map (·.size)=some 1:=by kernel_rfl
theorem L7:AJ Tryz.prog 105:=AM Tryz.func105 rfl rfl
theorem L8:AJ Tryz.prog 106:=AM Tryz.func106 rfl rfl
theorem L9:AJ Tryz.prog 107:=AM Tryz.func107 rfl rfl
theorem UX:AJ Tryz.prog 108:=AM Tryz.func108 rfl rfl
theorem Iz:AJ Tryz.prog 109:=AM Tryz.func109 rfl rfl
theorem UZ:AJ Tryz.prog 111:=AM Tryz.func111 rfl rfl
theorem U1:AJ Tryz.prog 113:=AM Tryz.func113 rfl rfl
theorem U3:AJ Tryz.prog 115:=AM Tryz.func115 rfl rfl
theorem U5:AJ Tryz.prog 120:=AM Tryz.func120 rfl rfl
theorem L_:AJ Tryz.prog 123:=AM Tryz.func123 rfl rfl
theorem U6:AJ Tryz.prog 124:=AM Tryz.func124 rfl rfl
theorem U7:AJ Tryz.prog 125:=AM Tryz.func125 rfl rfl
theorem U8:AJ Tryz.prog 126:=AM Tryz.func126 rfl rfl
theorem U9:AJ Tryz.prog 129:=AM Tryz.func129 rfl rfl
theorem Ma:AJ Tryz.prog 142:=AM Tryz.func142 rfl rfl
theorem Mb:AJ Tryz.prog 144:=AM Tryz.func144 rfl rfl
theorem Ph:AJ Tryz.prog 153:=AM Tryz.func153 rfl rfl
theorem Mc:AJ Tryz.prog 154:=AM Tryz.func154 rfl rfl
theorem U_:AJ Tryz.prog 157:=AM Tryz.func157 rfl rfl
theorem Md:AJ Tryz.prog 158:=AM Tryz.func158 rfl rfl
theorem Pi:AJ Tryz.prog 159:=AM Tryz.func159 rfl rfl
theorem Pj:AJ Tryz.prog 160:=AM Tryz.func160 rfl rfl
theorem Vd:AJ Tryz.prog 167:=AM Tryz.func167 rfl rfl
theorem Ve:AJ Tryz.prog 168:=AM Tryz.func168 rfl rfl
theorem Me:AJ Tryz.prog 169:=AM Tryz.func169 rfl rfl
theorem Pm:AJ Tryz.prog 173:=AM Tryz.func173 rfl rfl
theorem Vf:AJ Tryz.prog 174:=AM Tryz.func174 rfl rfl
theorem Pn:AJ Tryz.prog 175:=AM Tryz.func175 rfl rfl
theorem Vg:AJ Tryz.prog 176:=AM Tryz.func176 rfl rfl
theorem Vh:AJ Tryz.prog 177:=AM Tryz.func177 rfl rfl
theorem Vi:AJ Tryz.prog 178:=AM Tryz.func178 rfl rfl
theorem Vj:AJ Tryz.prog 18:=AM Tryz.func18 rfl rfl
theorem Po:AJ Tryz.prog 187:=AM Tryz.func187 rfl rfl
theorem Pp:AJ Tryz.prog 19:=AM Tryz.func19 rfl rfl
theorem Vl:AJ Tryz.prog 195:=AM Tryz.func195 rfl rfl
theorem Vn:AJ Tryz.prog 200:=AM Tryz.func200 rfl rfl
theorem Pq:AJ Tryz.prog 203:=AM Tryz.func203 rfl rfl
theorem Pr:AJ Tryz.prog 204:=AM Tryz.func204 rfl rfl
theorem Ps:AJ Tryz.prog 205:=AM Tryz.func205 rfl rfl
theorem Vq:AJ Tryz.prog 206:=AM Tryz.func206 rfl rfl
theorem Pt:AJ Tryz.prog 207:=AM Tryz.func207 rfl rfl
theorem Vr:AJ Tryz.prog 208:=AM Tryz.func208 rfl rfl
theorem IA:AJ Tryz.prog 209:=AM Tryz.func209 rfl rfl
theorem Vs:AJ Tryz.prog 210:=AM Tryz.func210 rfl rfl
theorem Vt:AJ Tryz.prog 211:=AM Tryz.func211 rfl rfl
theorem Vu:AJ Tryz.prog 212:=AM Tryz.func212 rfl rfl
theorem Vv:AJ Tryz.prog 213:=AM Tryz.func213 rfl rfl
theorem Pu:AJ Tryz.prog 214:=AM Tryz.func214 rfl rfl
theorem Vw:AJ Tryz.prog 215:=AM Tryz.func215 rfl rfl
theorem Vx:AJ Tryz.prog 224:=AM Tryz.func224 rfl rfl
theorem Vy:AJ Tryz.prog 23:=AM Tryz.func23 rfl rfl
theorem Vz:AJ Tryz.prog 236:=AM Tryz.func236 rfl rfl
theorem Pv:AJ Tryz.prog 238:=AM Tryz.func238 rfl rfl
theorem Pw:AJ Tryz.prog 239:=AM Tryz.func239 rfl rfl
theorem VC:AJ Tryz.prog 243:=AM Tryz.func243 rfl rfl
theorem VD:AJ Tryz.prog 244:=AM Tryz.func244 rfl rfl
theorem VE:AJ Tryz.prog 245:=AM Tryz.func245 rfl rfl
theorem VF:AJ Tryz.prog 246:=AM Tryz.func246 rfl rfl
theorem VG:AJ Tryz.prog 247:=AM Tryz.func247 rfl rfl
theorem VH:AJ Tryz.prog 248:=AM Tryz.func248 rfl rfl
theorem VI:AJ Tryz.prog 249:=AM Tryz.func249 rfl rfl
theorem Px:AJ Tryz.prog 25:=AM Tryz.func25 rfl rfl
theorem VJ:AJ Tryz.prog 250:=AM Tryz.func250 rfl rfl
theorem JR:AJ Tryz.prog 26:=AM Tryz.func26 rfl rfl
theorem VL:AJ Tryz.prog 262:=AM Tryz.func262 rfl rfl
theorem VN:AJ Tryz.prog 263:=AM Tryz.func263 rfl rfl
theorem VO:AJ Tryz.prog 264:=AM Tryz.func264 rfl rfl
theorem D1:AJ Tryz.prog 265:=AM Tryz.func265 rfl rfl
theorem FD:AJ Tryz.prog 266:=AM Tryz.func266 rfl rfl
theorem HN:AJ Tryz.prog 267:=AM Tryz.func267 rfl rfl
theorem VP:AJ Tryz.prog 268:=AM Tryz.func268 rfl rfl
theorem JS:AJ Tryz.prog 269:=AM Tryz.func269 rfl rfl
theorem JT:AJ Tryz.prog 27:=AM Tryz.func27 rfl rfl
theorem Pz:AJ Tryz.prog 270:=AM Tryz.func270 rfl rfl
theorem VQ:AJ Tryz.prog 271:=AM Tryz.func271 rfl rfl
theorem VR:AJ Tryz.prog 272:=AM Tryz.func272 rfl rfl
theorem VS:AJ Tryz.prog 273:=AM Tryz.func273 rfl rfl
theorem VT:AJ Tryz.prog 274:=AM Tryz.func274 rfl rfl
theorem VU:AJ Tryz.prog 275:=AM Tryz.func275 rfl rfl
theorem VV:AJ Tryz.prog 276:=AM Tryz.func276 rfl rfl
theorem PA:AJ Tryz.prog 277:=AM Tryz.func277 rfl rfl
theorem HO:AJ Tryz.prog 278:=AM Tryz.func278 rfl rfl
theorem PB:AJ Tryz.prog 279:=AM Tryz.func279 rfl rfl
theorem VW:AJ Tryz.prog 281:=AM Tryz.func281 rfl rfl
theorem VX:AJ Tryz.prog 282:=AM Tryz.func282 rfl rfl
theorem JU:AJ Tryz.prog 30:=AM Tryz.func30 rfl rfl
theorem V2:AJ Tryz.prog 302:=AM Tryz.func302 rfl rfl
theorem V3:AJ Tryz.prog 303:=AM Tryz.func303 rfl rfl
theorem PF:AJ Tryz.prog 304:=AM Tryz.func304 rfl rfl
theorem PG:AJ Tryz.prog 305:=AM Tryz.func305 rfl rfl
theorem PH:AJ Tryz.prog 306:=AM Tryz.func306 rfl rfl
theorem PI:AJ Tryz.prog 31:=AM Tryz.func31 rfl rfl
theorem Mf:AJ Tryz.prog 32:=AM Tryz.func32 rfl rfl
theorem V4:AJ Tryz.prog 326:=AM Tryz.func326 rfl rfl
theorem Mg:AJ Tryz.prog 329:=AM Tryz.func329 rfl rfl
theorem JW:AJ Tryz.prog 33:=AM Tryz.func33 rfl rfl
theorem Mh:AJ Tryz.prog 37:=AM Tryz.func37 rfl rfl
theorem PK:AJ Tryz.prog 41:=AM Tryz.func41 rfl rfl
theorem PN:AJ Tryz.prog 44:=AM Tryz.func44 rfl rfl
theorem Wa:AJ Tryz.prog 53:=AM Tryz.func53 rfl rfl
theorem Wb:AJ Tryz.prog 63:=AM Tryz.func63 rfl rfl
theorem HQ:AJ Tryz.prog 87:=AM Tryz.func87 rfl rfl
theorem PO:AJ Tryz.prog 88:=AM Tryz.func88 rfl rfl
theorem Gs:AJ Tryz.prog 89:=AM Tryz.func89 rfl rfl
theorem PP:AJ Tryz.prog 93:=AM Tryz.func93 rfl rfl
theorem Wc:AJ Tryz.prog 94:=AM Tryz.func94 rfl rfl
theorem PQ:AJ Tryz.prog 95:=AM Tryz.func95 rfl rfl
theorem Wd:AJ Tryz.prog 96:=AM Tryz.func96 rfl rfl
theorem We:AJ Tryz.prog 97:=AM Tryz.func97 rfl rfl
theorem Wf:AJ Tryz.prog 98:=AM Tryz.func98 rfl rfl
theorem mo:Tryz.prog.follows .mixedOrders=true:=by kernel_rfl
theorem Qj:(Tryz.prog.info? 228).map (fun i=>decide (i.size=0))=some false:=by kernel_rfl
theorem Hj:C0 Tryz.prog 162=some (168,1,8):=by kernel_rfl
theorem Ei:C0 Tryz.prog 22=some (35,1,24):=by kernel_rfl
theorem FO:C0 Tryz.prog 23=some (223,3,32):=by kernel_rfl
theorem GV:C0 Tryz.prog 235=some (5,1,1):=by kernel_rfl
theorem CZ:C0 Tryz.prog 24=some (3,1,8):=by kernel_rfl
theorem Ck:C0 Tryz.prog 241=some (9,1,16):=by kernel_rfl
theorem A8:C0 Tryz.prog 282=some (284,3,32):=by kernel_rfl
theorem Bq:C0 Tryz.prog 35=some (106,2,32):=by kernel_rfl
theorem RQ:C0 Tryz.prog 43=some (66,3,24):=by kernel_rfl
theorem Hk:C0 Tryz.prog 53=some (64,10,112):=by kernel_rfl
theorem ZI:Ft Tryz.prog 106=some [(9,0,1),(9,1,1)]:=by kernel_rfl
theorem ZJ:Ft Tryz.prog 223=some [(3,0,1),(3,1,1),(9,2,1)]:=by kernel_rfl
theorem ZK:Ft Tryz.prog 26=some [(22,0,1),(3,1,1),(23,2,1),(23,3,1),(23,4,1),(3,5,1),(3,6,1),(3,7,1),(24,8,1)]:=by kernel_rfl
theorem ZL:Ft Tryz.prog 28=some [(26,0,9),(3,9,1),(3,10,1),(3,11,1)]:=by kernel_rfl
theorem ZM:Ft Tryz.prog 66=some [(3,0,1),(3,1,1),(3,2,1)]:=by kernel_rfl
theorem B8:B9 Tryz.prog 106=some (true,2):=by kernel_rfl
theorem DA:B9 Tryz.prog 161=some (false,1):=by kernel_rfl
theorem Gz:B9 Tryz.prog 162=some (false,1):=by kernel_rfl
theorem KD:B9 Tryz.prog 167=some (false,1):=by kernel_rfl
theorem Ng:B9 Tryz.prog 168=some (false,1):=by kernel_rfl
theorem Cw:B9 Tryz.prog 2=some (false,1):=by kernel_rfl
theorem Z6:B9 Tryz.prog 21=some (false,1):=by kernel_rfl
theorem CM:B9 Tryz.prog 22=some (false,1):=by kernel_rfl
theorem Gb:B9 Tryz.prog 223=some (true,3):=by kernel_rfl
theorem Dk:B9 Tryz.prog 23=some (false,1):=by kernel_rfl
theorem EY:B9 Tryz.prog 24=some (false,1):=by kernel_rfl
theorem Ig:B9 Tryz.prog 241=some (false,1):=by kernel_rfl
theorem Gc:B9 Tryz.prog 26=some (true,9):=by kernel_rfl
theorem Ej:B9 Tryz.prog 28=some (true,12):=by kernel_rfl
theorem D3:B9 Tryz.prog 282=some (false,1):=by kernel_rfl
theorem B5:B9 Tryz.prog 284=some (true,3):=by kernel_rfl
theorem I4:B9 Tryz.prog 286=some (false,1):=by kernel_rfl
theorem Aw:B9 Tryz.prog 3=some (false,1):=by kernel_rfl
theorem Db:B9 Tryz.prog 35=some (false,1):=by kernel_rfl
theorem Ek:B9 Tryz.prog 4=some (false,1):=by kernel_rfl
theorem Ho:B9 Tryz.prog 44=some (false,1):=by kernel_rfl
theorem Z8:B9 Tryz.prog 5=some (false,1):=by kernel_rfl
theorem Nh:B9 Tryz.prog 64=some (true,10):=by kernel_rfl
theorem R9:B9 Tryz.prog 66=some (true,3):=by kernel_rfl
theorem Bd:B9 Tryz.prog 9=some (false,1):=by kernel_rfl
theorem Sa:Tryz.prog.underlying 370=some (.interface (Tryz.prog.methodsAt 370)):=by kernel_rfl
theorem FR:Tryz.prog.underlying 158=some (.int .u64):=by kernel_rfl
theorem I5:Tryz.prog.underlying 161=some (.pointer 234):=by kernel_rfl
theorem KF:Tryz.prog.underlying 162=some (.slice 168):=by kernel_rfl
theorem Sb:Tryz.prog.underlying 167=some (.func #[] #[9] false):=by kernel_rfl
theorem Nj:Tryz.prog.underlying 168=some (.pointer 239):=by kernel_rfl
theorem Gd:Tryz.prog.underlying 2=some (.int .i64):=by kernel_rfl
theorem KG:Tryz.prog.underlying 206=some (.int .u32):=by kernel_rfl
theorem D4:Tryz.prog.underlying 22=some (.slice 35):=by kernel_rfl
theorem DX:Tryz.prog.underlying 23=some (.slice 223):=by kernel_rfl
theorem GA:Tryz.prog.underlying 235=some (.slice 5):=by kernel_rfl
theorem EO:Tryz.prog.underlying 24=some (.slice 3):=by kernel_rfl
theorem GB:Tryz.prog.underlying 241=some (.slice 9):=by kernel_rfl
theorem Fv:Tryz.prog.underlying 270=some (.int .u64):=by kernel_rfl
theorem EP:Tryz.prog.underlying 282=some (.slice 284):=by kernel_rfl
theorem KH:Tryz.prog.underlying 285=some (.array 8 284):=by kernel_rfl
theorem I6:Tryz.prog.underlying 286=some (.map 2 161):=by kernel_rfl
theorem aA:Tryz.prog.underlying 291=some (.pointer 322):=by kernel_rfl
theorem Dl:Tryz.prog.underlying 3=some (.int .i64):=by kernel_rfl
theorem aB:Tryz.prog.underlying 320=some (.array 8 319):=by kernel_rfl
theorem aC:Tryz.prog.underlying 326=some (.pointer 319):=by kernel_rfl
theorem B_:Tryz.prog.underlying 35=some (.slice 106):=by kernel_rfl
theorem Sc:Tryz.prog.underlying 362=some (.pointer 228):=by kernel_rfl
theorem I7:Tryz.prog.underlying 4=some (.bool):=by kernel_rfl
theorem Nk:Tryz.prog.underlying 43=some (.slice 66):=by kernel_rfl
theorem Fe:Tryz.prog.underlying 44=some (.pointer 164):=by kernel_rfl
theorem Ge:Tryz.prog.underlying 5=some (.int .u8):=by kernel_rfl
theorem I8:Tryz.prog.underlying 53=some (.slice 64):=by kernel_rfl
theorem BJ:Tryz.prog.underlying 9=some (.string):=by kernel_rfl
theorem Se:Tryz.prog.underlying 366=some .unsafePointer:=by kernel_rfl
theorem CJ:C8 Tryz.prog 106=some (.agg #[.string ⟨#[]⟩,.string ⟨#[]⟩]):=by kernel_rfl
theorem KN:C8 Tryz.prog 161=some (.pointer none):=by kernel_rfl
theorem KO:C8 Tryz.prog 168=some (.pointer none):=by kernel_rfl
theorem KP:C8 Tryz.prog 223=some (.agg #[.int .i64 0,.int .i64 0,.string ⟨#[]⟩]):=by kernel_rfl
theorem Sp:C8 Tryz.prog 28=some (.agg #[.slice none 0 0,.int .i64 0,.slice none 0 0,.slice none 0 0,.slice none 0 0,.int .i64 0,.int .i64 0,.int .i64 0,.slice none 0 0,.int .i64 0,.int .i64 0,.int .i64 0]):=by kernel_rfl
theorem BV:C8 Tryz.prog 284=some (.agg #[.bool false,.int .i64 0,.string ⟨#[]⟩]):=by kernel_rfl
theorem EQ:C8 Tryz.prog 3=some (.int .i64 0):=by kernel_rfl
theorem KQ:C8 Tryz.prog 35=some (.slice none 0 0):=by kernel_rfl
theorem bI:C8 Tryz.prog 44=some (.pointer none):=by kernel_rfl
theorem KR:C8 Tryz.prog 5=some (.int .u8 0):=by kernel_rfl
theorem KS:C8 Tryz.prog 64=some (.agg #[.int .i64 0,.int .i64 0,.int .i64 0,.int .i64 0,.int .i64 0,.int .i64 0,.int .i64 0,.int .i64 0,.slice none 0 0,.slice none 0 0]):=by kernel_rfl
theorem bJ:C8 Tryz.prog 66=some (.agg #[.int .i64 0,.int .i64 0,.int .i64 0]):=by kernel_rfl
theorem Dc:C8 Tryz.prog 9=some (.string ⟨#[]⟩):=by kernel_rfl
theorem TZ:Nt Tryz.prog 106 9:=⟨⟨_,_,TV,by decide,by decide,rfl,rfl,rfl,rfl⟩,BJ,Bd⟩
def FA {α:Type} (p:α→Bool) (xs:List α):Int:=match xs.findIdx? p with |some i=>(i:Int)|none=> -1
theorem Ol {α:Type} {p:α→Bool} {xs:List α} {k:Nat} {x:α} (h:∀ y∈xs.take k,p y=false) (hx:xs[k]?=some x) (hp:p x=true):FA p xs=(k:Int):=by
 have:xs.findIdx? p=some k:=by
  rw [List.findIdx?_eq_some_iff_getElem]
  have hlt:k<xs.length:=by
   rcases Nat.lt_or_ge k xs.length with h'|h'
   ·exact h'
   ·simp [List.getElem?_eq_none h'] at hx
  refine ⟨hlt,by rw [List.getElem?_eq_getElem hlt] at hx;rw [Option.some.inj hx];exact hp,fun j hj=>?_⟩
  have:=h xs[j] (by rw [List.mem_take_iff_getElem];exact ⟨j,by omega,rfl⟩)
  simp [this]
 simp [FA,this]
theorem LA {α:Type} {p:α→Bool} {xs:List α} (h:∀ y∈xs,p y=false):FA p xs= -1:=by
 have:xs.findIdx? p=none:=by
  rw [List.findIdx?_eq_none_iff]
  exact h
 simp [FA,this]
theorem Om {α:Type} (p:α→Bool) (xs:List α):decide (0≤FA p xs)=xs.any p:=by
 by_cases h:∃ y∈xs,p y=true
 ·have h1:xs.any p=true:=by simpa using h
  rw [h1,decide_eq_true_eq]
  unfold FA
  cases hf:xs.findIdx? p with
  |none=>
   rw [List.findIdx?_eq_none_iff] at hf
   obtain ⟨y,hy,hp⟩:=h
   rw [hf y hy] at hp
   cases hp
  |some i=>simp
 ·have h':∀ y∈xs,p y=false:=fun y hy=>by
   cases hp:p y with
   |false=>rfl
   |true=>exact (h ⟨y,hy,hp⟩).elim
  rw [LA h']
  have h1:xs.any p=false:=by
   rw [List.any_eq_false]
   intro y hy
   simp [h' y hy]
  rw [h1]
  decide
theorem R3 {α:Type} {p:α→Bool} {xs:List α} {k:Nat} {x:α} (h:∀ y∈xs.take k,p y=false) (hx:xs[k]?=some x) (hp:p x=false):∀ y∈xs.take (k+1),p y=false:=by
 intro y hy
 rw [List.take_add_one,hx] at hy
 simp at hy
 exact hy.elim (h y) (fun e=>e▸hp)
def cnt {α:Type} (p:α→Bool) (xs:List α):Nat:=(xs.filter p).length
section
variable {w w0:World} {F0:AV} {As Rs:List SP} {α:Type} [Inhabited α] {e1:α→Value}
theorem O1 {b t:Nat} {xs:List α} {rest:List Value} (H:Hd w0 F0 w (blk b (xs.map e1++rest) t::As) Rs):Sort.Holds e1 w b 0 xs.toArray:=by
 intro j hj
 simp only [List.size_toArray] at hj
 rw [Nat.zero_add]
 refine ⟨H.cell (List.mem_cons_self ..) ?_,H.free (List.mem_cons_self ..) j⟩
 rw [List.getElem?_append_left (by simpa using hj),List.getElem?_map,List.getElem?_eq_getElem hj]
 simp [hj]
theorem X4 {xs ys:List α} {rest:List Value} (hl:ys.length=xs.length):Sort.putCells e1 0 ys.toArray (xs.map e1++rest).toArray=(ys.map e1++rest).toArray:=by
 apply Array.toList_inj.1
 apply List.ext_getElem?
 intro i
 unfold Sort.putCells
 rw [Array.toList_mapIdx,List.getElem?_mapIdx]
 simp only [List.size_toArray,Nat.zero_le,true_and,Nat.zero_add,Nat.sub_zero,List.getElem!_toArray]
 rcases Nat.lt_or_ge i ys.length with h|h
 ·rw [List.getElem?_append_left (by simpa using (hl▸h)),List.getElem?_append_left (by simpa using h),List.getElem?_map,List.getElem?_map,List.getElem?_eq_getElem h,List.getElem?_eq_getElem (by omega)]
  simp [h]
 ·rw [List.getElem?_append_right (by simp;omega),List.getElem?_append_right (by simpa using h)]
  simp only [List.length_map,hl]
  cases rest[i - xs.length]? with
  |none=>rfl
  |some v=>simp;omega
theorem NN {b t n:Nat} {xs ys:List α} {rest:List Value} {os:Array Obj} (H:Hd w0 F0 w (blk b (xs.map e1++rest) t::As) Rs) (hl:ys.length=xs.length):
  Hd w0 F0 (Sort.grow (Sort.putRow e1 (Sort.ahead w n) b 0 ys.toArray) os) (blk b (ys.map e1++rest) t::As) Rs:=by
 refine H.write fun F hF=>?_
 have hb:b<w.heap.size:=by
  rcases Nat.lt_or_ge b w.heap.size with h|h
  ·exact h
  ·have:=hF.2
   rw [Array.getElem?_eq_none h] at this
   cases this
 have hh:∀ k,k<w.heap.size→(Sort.grow (Sort.putRow e1 (Sort.ahead w n) b 0 ys.toArray) os).heap[k]?=(w.heap.modify b (Sort.onCells (Sort.putCells e1 0 ys.toArray)))[k]?:=by
  intro k hk
  show ((w.heap.modify b (Sort.onCells (Sort.putCells e1 0 ys.toArray)))++os)[k]?=_
  rw [Array.getElem?_append_left (by simpa using hk)]
 refine ⟨⟨hF.1,?_⟩,rfl,rfl,rfl,?_,fun k hk hn=>?_⟩
 ·rw [hh b hb,Array.getElem?_modify,if_pos rfl,hF.2]
  simp only [Option.map_some,Sort.onCells,X4 hl]
 ·show w.heap.size≤((w.heap.modify b (Sort.onCells (Sort.putCells e1 0 ys.toArray)))++os).size
  simp
 ·rw [hh k hk,Array.getElem?_modify,if_neg (by rintro rfl;exact hn hF.1)]
theorem Uy (w:World):Sort.grow w #[]=w:=by
 unfold Sort.grow
 simp
end
theorem J3 {α:Type} {e1:α→Value} (xs:List α):xs.flatMap (fun x=>[e1 x])=xs.map e1:=by
 induction xs with
 |nil=>rfl
 |cons x xs ih=>simp [ih]
section
variable {P:Program} {α:Type} [Inhabited α] {e1:α→Value} {h1:∀ x,∀ c∈[e1 x],c.oneCell'=true} {f:FuncId}
theorem Tk {s:List α→List α} (hlen:∀ xs,(s xs).length=xs.length) (hnil:s []=[])
  (h0:∀ (p:Option Addr) (c:Nat) (w:World),Calls P f #[.slice p 0 c] w fun e w'=>e=.returned (.tuple #[])∧w'=w)
  (hc:∀ (b c:Nat) (xs:List α) (w:World),Sort.Holds e1 w b 0 xs.toArray→b<w.heap.size→xs.length≤1000000→Calls P f #[.slice (some ⟨b,0,none⟩) xs.length c] w fun e w'=>e=.returned (.tuple #[])∧∃ n os,w'=Sort.grow (Sort.putRow e1 (Sort.ahead w n) b 0 (s xs).toArray) os)
  (v:Value) (xs:List α) (hb:xs.length≤1000000):Cn P f [v] [Ae (flat (fun x=>[e1 x]) 1 (by omega) (fun _=>rfl) h1) v xs] [] (fun _ Bs=>Bs=[Ae (flat (fun x=>[e1 x]) 1 (by omega) (fun _=>rfl) h1) v (s xs)]):=by
 intro w F H
 obtain ⟨A,c,rfl,hle,hmax,hp⟩:=H.fA 0 rfl
 rcases Nat.eq_zero_or_pos xs.length with hx|hx
 ·obtain rfl:=List.eq_nil_of_length_eq_zero hx
  refine (h0 A c w).mono ?_
  rintro e w' ⟨rfl,rfl⟩
  exact ⟨_,rfl,_,rfl,by rw [hnil];exact H⟩
 ·obtain ⟨b,t,rest,rfl,hm,hle',hmax',hr,H'⟩:=H.toBlk hx
  rw [J3] at H'
  have hbl:b<w.heap.size:=H'.fact (List.mem_cons_self ..) fun F hF=>by
   rcases Nat.lt_or_ge b w.heap.size with h|h
   ·exact h
   ·have:=hF.2
    rw [Array.getElem?_eq_none h] at this
    cases this
  refine (hc b c xs w (O1 H') hbl hb).mono ?_
  rintro e w' ⟨rfl,n,os,rfl⟩
  refine ⟨_,rfl,_,rfl,?_⟩
  have H2:=NN (n:=n) (os:=os) H' (hlen xs)
  rw [←J3] at H2
  exact H2.ofBlk (hlen xs) hle' hmax' hr
theorem Tj {s:List α→List α} {z:α} (hlen:∀ xs,(s xs).length≤xs.length) (hnil:s []=[])
  (h0:∀ (p:Option Addr) (c:Nat) (w:World),Calls P f #[.slice p 0 c] w fun e w'=>e=.returned (.slice p 0 c)∧w'=w)
  (hc:∀ (b c:Nat) (xs:List α) (w:World),Sort.Holds e1 w b 0 xs.toArray→xs.length≤1000000→xs.length≤c→Calls P f #[.slice (some ⟨b,0,none⟩) xs.length c] w fun e w'=>e=.returned (.slice (some ⟨b,0,none⟩) (s xs).length c)∧∃ n,w'=Sort.putRow e1 (Sort.ahead w n) b 0 (s xs++List.replicate (xs.length - (s xs).length) z).toArray)
  (v:Value) (xs:List α) (hb:xs.length≤1000000):Cn P f [v] [Ae (flat (fun x=>[e1 x]) 1 (by omega) (fun _=>rfl) h1) v xs] [] (fun u Bs=>Bs=[Ae (flat (fun x=>[e1 x]) 1 (by omega) (fun _=>rfl) h1) u (s xs)]):=by
 intro w F H
 obtain ⟨A,c,rfl,hle,hmax,hp⟩:=H.fA 0 rfl
 rcases Nat.eq_zero_or_pos xs.length with hx|hx
 ·obtain rfl:=List.eq_nil_of_length_eq_zero hx
  refine (h0 A c w).mono ?_
  rintro e w' ⟨rfl,rfl⟩
  exact ⟨_,rfl,_,rfl,by rw [hnil];exact H⟩
 ·obtain ⟨b,t,rest,rfl,hm,hle',hmax',hr,H'⟩:=H.toBlk hx
  rw [J3] at H'
  refine (hc b c xs w (O1 H') hb hle).mono ?_
  rintro e w' ⟨rfl,n,rfl⟩
  refine ⟨_,rfl,_,rfl,?_⟩
  have hl:=hlen xs
  have H2:=NN (n:=n) (os:=#[]) H' (ys:=s xs++List.replicate (xs.length - (s xs).length) z) (by simp;omega)
  rw [Uy,List.map_append,List.append_assoc,←J3 (s xs)] at H2
  exact H2.ofBlk U (by omega) hmax' (by simp;omega)
end
theorem NX {α:Type} [Inhabited α] [DecidableEq α] (xs:List α):(Lib.compact xs).length≤xs.length:=by
 unfold Lib.compact Lib.compactUpTo
 rw [List.length_map]
 exact Nat.le_trans (List.length_filter_le _ _) (by simp)
def Eg (x:ByteArray):List UInt8:=x.data.toList
def EN (x:List UInt8):ByteArray:=⟨x.toArray⟩
theorem R7 (x:ByteArray):EN (Eg x)=x:=by simp [EN,Eg]
theorem Mt (x:List UInt8):Eg (EN x)=x:=by simp [EN,Eg]
def Fb (xs:List ByteArray):List ByteArray:=((xs.map Eg).mergeSort fun x y=>decide (x≤y)).map EN
def Fl (xs:List ByteArray):List ByteArray:=(Lib.compact (xs.map Eg)).map EN
theorem O0 {w:World} {b:Nat} {xs:List ByteArray} (h:Sort.Holds Value.string w b 0 xs.toArray):Sort.Holds Go.Proofs.encStr w b 0 (xs.map Eg).toArray:=by
 intro j hj
 have hj':j<xs.length:=by simpa using hj
 have:=h j (by simpa using hj')
 simp only [List.getElem!_toArray] at this ⊢
 rw [getElem!_pos _ j (by simpa using hj')]
 rw [getElem!_pos _ j hj'] at this
 rw [List.getElem_map]
 have e:Go.Proofs.encStr (Eg xs[j])=Value.string xs[j]:=by simp [Go.Proofs.encStr,Eg]
 rw [e]
 exact this
theorem QP {w:World} {b:Nat} {zs:List (List UInt8)}:Sort.putRow Go.Proofs.encStr w b 0 zs.toArray=Sort.putRow Value.string w b 0 (zs.map EN).toArray:=by
 unfold Sort.putRow
 congr 1
 funext c
 unfold Sort.putCells
 congr 1
 funext k x
 simp only [List.size_toArray,List.length_map,List.getElem!_toArray]
 split
 ·rename_i h
  have h':k - 0<zs.length:=by omega
  rw [getElem!_pos (zs.map EN) _ (by simpa using h'),getElem!_pos zs _ h',List.getElem_map]
  rfl
 ·rfl
end Go.Proofs.YthgehekecfpikaaGreatDoor.X
