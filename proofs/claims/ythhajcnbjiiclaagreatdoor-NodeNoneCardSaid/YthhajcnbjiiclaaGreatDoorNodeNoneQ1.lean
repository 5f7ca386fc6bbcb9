/- NodeNone: texts XA, XW, XO, XS, XP, XQ, XR, XK, XN, XC, XSy, XD, XD2, XMin, XMap, XMap2, XF, joined by a program of ours; what nothing names is left out. -/
import Derived.Tactics
import Derived.Deep.Quiet
import Derived.Below
import Derived.WalkKit
import Derived.ChangeArms
import Derived.ChangeOld
import Derived.Laws.LoneSync
import Derived.OrdersHeld
import Derived.MapKept
import Derived.Maps.RangeRun
import Derived.Test.YthhajcnbjiiclaaGreatDoorProg
import Derived.KernelRfl
set_option linter.unusedVariables false
set_option linter.unusedSimpArgs false
set_option maxHeartbeats 8000000
namespace Go.Proofs.YthhajcnbjiiclaaGreatDoor.X
open Go
theorem U.{u} {α:Sort u} {a:α}:a=a:=rfl
abbrev AU:=Nat→Prop
def none_:AU:=fun _=>False
structure Cv (S:AU) (w w':World):Prop where
 os:w'.os=w.os
 tape:w'.tape=w.tape
 output:w'.output=w.output
 size:w.heap.size≤w'.heap.size
 block:∀ k,k<w.heap.size→¬ S k→w'.heap[k]?=w.heap[k]?
theorem Cv.refl (S:AU) (w:World):Cv S w w:=⟨rfl,rfl,rfl,Nat.le_refl _,fun _ _ _=>rfl⟩
theorem Cv.trans {S S1:AU} {a b c:World} (h:Cv S a b) (k:Cv S1 b c) (hs:∀ i,i<a.heap.size→S1 i→S i):Cv S a c:=
 ⟨k.os.trans h.os,k.tape.trans h.tape,k.output.trans h.output,Nat.le_trans h.size k.size,
  fun i hi hn=>(k.block i (Nat.lt_of_lt_of_le hi h.size) (fun x=>hn (hs i hi x))).trans (h.block i hi hn)⟩
theorem Cv.below {w w':World} (h:Cv none_ w w'):Go.RowKit.Below w.heap.size w w':=
 ⟨h.os,h.tape,h.output,h.size,fun k hk=>h.block k hk id⟩
theorem Cv.drewN (S:AU) (w:World) (n:Nat):Cv S w (w.drewN n):=⟨rfl,rfl,rfl,Nat.le_refl _,fun _ _ _=>rfl⟩
theorem Cv.alloc (S:AU) (w:World) (o:Obj):Cv S w (w.alloc o):=
 ⟨rfl,rfl,rfl,by simp,fun k hk _=>Go.RowKit.Below.heap_alloc w o k hk⟩
theorem Cv.setCell {S:AU} (w:World) (a:Addr) (v:Value) (h:S a.block):Cv S w (w.setCell a v):=
 ⟨rfl,rfl,rfl,by simp,fun k _ hn=>Go.RowKit.Below.heap_setCell w a v k (fun e=>hn (e▸h))⟩
structure SP where
 P:World→AU→Prop
 loc:∀ {w w':World} {F:AU},P w F→(∀ k,F k→w'.heap[k]?=w.heap[k]?)→P w' F
 mono:∀ {w:World} {F F':AU},P w F→(∀ k,F k→F' k)→P w F'
def CF:List SP→World→AU→Prop
 |[],_,_=>True
 |A::As,w,F=>∃ F1 F2:AU,(∀ k,F1 k→F k)∧(∀ k,F2 k→F k)∧(∀ k,F1 k→¬ F2 k)∧A.P w F1∧CF As w F2
theorem CF.loc:∀ {As:List SP} {w w':World} {F:AU},CF As w F→(∀ k,F k→w'.heap[k]?=w.heap[k]?)→CF As w' F
 |[],_,_,_,_,_=>trivial
 |_::_,_,_,_,⟨F1,F2,h1,h2,h3,a,s⟩,h=>⟨F1,F2,h1,h2,h3,SP.loc _ a (fun k hk=>h k (h1 k hk)),CF.loc s (fun k hk=>h k (h2 k hk))⟩
theorem CF.mono:∀ {As:List SP} {w:World} {F F':AU},CF As w F→(∀ k,F k→F' k)→CF As w F'
 |[],_,_,_,_,_=>trivial
 |_::_,_,_,_,⟨F1,F2,h1,h2,h3,a,s⟩,h=>⟨F1,F2,fun k hk=>h k (h1 k hk),fun k hk=>h k (h2 k hk),h3,a,s⟩
theorem CF.append_out:∀ {As Bs:List SP} {w:World} {F:AU},CF (As++Bs) w F→
  ∃ F1 F2:AU,(∀ k,F1 k→F k)∧(∀ k,F2 k→F k)∧(∀ k,F1 k→¬ F2 k)∧CF As w F1∧CF Bs w F2
 |[],_,_,F,h=>⟨none_,F,fun _ h=>h.elim,fun _ h=>h,fun _ h=>h.elim,trivial,h⟩
 |_::As,Bs,w,F,⟨F1,F2,h1,h2,h3,a,s⟩=>by
  obtain ⟨G1,G2,g1,g2,g3,sa,sb⟩:=CF.append_out (As:=As) (Bs:=Bs) s
  refine ⟨fun k=>F1 k∨G1 k,G2,fun k hk=>hk.elim (h1 k) (fun x=>h2 k (g1 k x)),fun k hk=>h2 k (g2 k hk),?_,⟨F1,G1,fun _=>.inl,fun _=>.inr,fun k a b=>h3 k a (g1 k b),a,sa⟩,sb⟩
  intro k hk hg
  exact hk.elim (fun x=>h3 k x (g2 k hg)) (fun x=>g3 k x hg)
theorem CF.append_in:∀ {As Bs:List SP} {w:World} {F F1 F2:AU},(∀ k,F1 k→F k)→(∀ k,F2 k→F k)→(∀ k,F1 k→¬ F2 k)→CF As w F1→CF Bs w F2→CF (As++Bs) w F
 |[],_,_,_,_,_,_,h2,_,_,b=>CF.mono b h2
 |_::As,Bs,_,F,F1,F2,h1,h2,h3,⟨G1,G2,g1,g2,g3,a,s⟩,b=>by
  refine ⟨G1,fun k=>G2 k∨F2 k,fun k hk=>h1 k (g1 k hk),fun k hk=>hk.elim (fun x=>h1 k (g2 k x)) (h2 k),?_,a,
   CF.append_in (fun _=>.inl) (fun _=>.inr) (fun k x y=>h3 k (g2 k x) y) s b⟩
  intro k hk hg
  exact hg.elim (fun x=>g3 k hk x) (fun x=>h3 k (g1 k hk) x)
theorem CF.perm {As Bs:List SP} (p:As.Perm Bs):∀ {w:World} {F:AU},CF As w F→CF Bs w F:=by
 induction p with
 |nil=>exact fun h=>h
 |cons x _ ih=>exact fun ⟨F1,F2,h1,h2,h3,a,s⟩=>⟨F1,F2,h1,h2,h3,a,ih s⟩
 |swap x y l=>
  rintro w F ⟨F1,F2,h1,h2,h3,a,G1,G2,g1,g2,g3,b,s⟩
  refine ⟨G1,fun k=>F1 k∨G2 k,fun k hk=>h2 k (g1 k hk),fun k hk=>hk.elim (h1 k) (fun x=>h2 k (g2 k x)),?_,b,F1,G2,fun _=>.inl,fun _=>.inr,fun k x y=>h3 k x (g2 k y),a,s⟩
  intro k hk hg
  exact hg.elim (fun x=>h3 k x (g1 k hk)) (fun x=>g3 k hk x)
 |trans _ _ ih1 ih2=>exact fun h=>ih2 (ih1 h)
theorem CF.mem:∀ {As:List SP} {w:World} {F:AU} {A:SP},CF As w F→A∈As→A.P w F
 |_::_,_,_,_,⟨_,_,h1,h2,_,a,s⟩,h=>by
  cases h with
  |head=>exact SP.mono _ a h1
  |tail _ hm=>exact SP.mono _ (CF.mem s hm) h2
def Hd (w0:World) (F0:AU) (w:World) (As Rs:List SP):Prop:=
 ∃ F G:AU,CF As w F∧(∀ R∈Rs,R.P w G)∧(∀ k,F k→¬ G k)∧(∀ k,F k→k<w.heap.size∧(F0 k∨w0.heap.size≤k))∧(∀ k,G k→k<w.heap.size)∧Cv F0 w0 w
section
variable {w0 w:World} {F0:AU} {As Bs Rs:List SP} {A B R:SP}
theorem Hd.upd (h:Hd w0 F0 w As Rs):Cv F0 w0 w:=by obtain ⟨_,_,_,_,_,_,_,u⟩:=h;exact u
theorem Hd.perm (p:As.Perm Bs) (h:Hd w0 F0 w As Rs):Hd w0 F0 w Bs Rs:=by
 obtain ⟨F,G,s,r,d,f,g,u⟩:=h
 exact ⟨F,G,s.perm p,r,d,f,g,u⟩
theorem Hd.subR {Ss:List SP} (h:Hd w0 F0 w As Rs) (hs:∀ R∈Ss,R∈Rs):Hd w0 F0 w As Ss:=by
 obtain ⟨F,G,s,r,d,f,g,u⟩:=h
 exact ⟨F,G,s,fun R hR=>r R (hs R hR),d,f,g,u⟩
theorem Hd.drop (h:Hd w0 F0 w (A::As) Rs):Hd w0 F0 w As Rs:=by
 obtain ⟨F,G,⟨F1,F2,h1,h2,h3,a,s⟩,r,d,f,g,u⟩:=h
 exact ⟨F2,G,s,r,fun k hk=>d k (h2 k hk),fun k hk=>f k (h2 k hk),g,u⟩
theorem Hd.nil (h:Hd w0 F0 w As Rs):Hd w0 F0 w [] Rs:=by
 obtain ⟨F,G,s,r,d,f,g,u⟩:=h
 exact ⟨F,G,trivial,r,d,f,g,u⟩
theorem Hd.turn (h:Hd w0 F0 w (A::As) Rs) (hab:∀ F,A.P w F→B.P w F):Hd w0 F0 w (B::As) Rs:=by
 obtain ⟨F,G,⟨F1,F2,h1,h2,h3,a,s⟩,r,d,f,g,u⟩:=h
 exact ⟨F,G,⟨F1,F2,h1,h2,h3,hab _ a,s⟩,r,d,f,g,u⟩
theorem Hd.turn2 {C:SP} (h:Hd w0 F0 w (A::B::As) Rs) (hab:∀ F1 F2,(∀ k,F1 k→¬ F2 k)→A.P w F1→B.P w F2→C.P w (fun k=>F1 k∨F2 k)):Hd w0 F0 w (C::As) Rs:=by
 obtain ⟨F,G,⟨F1,F2,h1,h2,h3,a,G1,G2,g1,g2,g3,b,s⟩,r,d,f,g,u⟩:=h
 refine ⟨F,G,⟨fun k=>F1 k∨G1 k,G2,fun k hk=>hk.elim (h1 k) (fun x=>h2 k (g1 k x)),fun k hk=>h2 k (g2 k hk),?_,hab F1 G1 (fun k x y=>h3 k x (g1 k y)) a b,s⟩,r,d,f,g,u⟩
 intro k hk hg
 exact hk.elim (fun x=>h3 k x (g2 k hg)) (fun x=>g3 k x hg)
theorem Hd.open_ (h:Hd w0 F0 w (A::As) Rs) (hab:∀ F,A.P w F→CF Bs w F):Hd w0 F0 w (Bs++As) Rs:=by
 obtain ⟨F,G,⟨F1,F2,h1,h2,h3,a,s⟩,r,d,f,g,u⟩:=h
 exact ⟨F,G,CF.append_in h1 h2 h3 (hab _ a) s,r,d,f,g,u⟩
theorem Hd.shut (h:Hd w0 F0 w (Bs++As) Rs) (hab:∀ F,CF Bs w F→A.P w F):Hd w0 F0 w (A::As) Rs:=by
 obtain ⟨F,G,s,r,d,f,g,u⟩:=h
 obtain ⟨F1,F2,h1,h2,h3,sa,sb⟩:=s.append_out
 exact ⟨F,G,⟨F1,F2,h1,h2,h3,hab _ sa,sb⟩,r,d,f,g,u⟩
theorem Hd.lend (h:Hd w0 F0 w (A::As) Rs) (hab:∀ F,A.P w F→R.P w F):Hd w0 F0 w As (R::Rs):=by
 obtain ⟨F,G,⟨F1,F2,h1,h2,h3,a,s⟩,r,d,f,g,u⟩:=h
 refine ⟨F2,fun k=>F1 k∨G k,s,?_,?_,fun k hk=>f k (h2 k hk),?_,u⟩
 ·intro R' hR
  cases hR with
  |head=>exact SP.mono _ (hab _ a) (fun _=>.inl)
  |tail _ hm=>exact SP.mono _ (r R' hm) (fun _=>.inr)
 ·intro k hk hg
  exact hg.elim (fun x=>h3 k x hk) (fun x=>d k (h2 k hk) x)
 ·intro k hk
  exact hk.elim (fun x=>(f k (h1 k x)).1) (g k)
theorem Hd.addR (h:Hd w0 F0 w As Rs) (hab:∀ G,(∀ R∈Rs,R.P w G)→R.P w G):Hd w0 F0 w As (R::Rs):=by
 obtain ⟨F,G,s,r,d,f,g,u⟩:=h
 refine ⟨F,G,s,?_,d,f,g,u⟩
 intro R' hR
 cases hR with
 |head=>exact hab G r
 |tail _ hm=>exact r R' hm
theorem Hd.read {p:Prop} (h:Hd w0 F0 w As Rs) (hA:∀ F,(∀ A∈As,A.P w F)→(∀ R∈Rs,R.P w F)→p):p:=by
 obtain ⟨F,G,s,r,d,f,g,u⟩:=h
 exact hA (fun k=>F k∨G k) (fun A hm=>SP.mono _ (s.mem hm) (fun _=>.inl)) (fun R hm=>SP.mono _ (r R hm) (fun _=>.inr))
theorem Hd.fact {p:Prop} (h:Hd w0 F0 w As Rs) (hm:A∈As) (hA:∀ F,A.P w F→p):p:=h.read fun F a _=>hA F (a A hm)
theorem Hd.factR {p:Prop} (h:Hd w0 F0 w As Rs) (hm:R∈Rs) (hA:∀ F,R.P w F→p):p:=h.read fun F _ r=>hA F (r R hm)
theorem Hd.drewN (h:Hd w0 F0 w As Rs) (n:Nat):Hd w0 F0 (w.drewN n) As Rs:=by
 obtain ⟨F,G,s,r,d,f,g,u⟩:=h
 exact ⟨F,G,s.loc (fun _ _=>rfl),fun R hR=>SP.loc _ (r R hR) (fun _ _=>rfl),d,f,g,u.trans (Cv.drewN none_ w n) (fun _ _ x=>x.elim)⟩
theorem Hd.frame {Cs Ss:List SP} (h:Hd w0 F0 w (Cs++As) Rs) (hS:∀ S∈Ss,∀ F,(∀ A∈As,A.P w F)→(∀ R∈Rs,R.P w F)→S.P w F):
  ∃ Fc,Hd w Fc w Cs Ss∧∀ w' Cs',Hd w Fc w' Cs' Ss→Hd w0 F0 w' (Cs'++As) Rs:=by
 obtain ⟨F,G,s,r,d,f,g,u⟩:=h
 obtain ⟨F1,F2,h1,h2,h3,sc,sa⟩:=s.append_out
 refine ⟨F1,⟨F1,fun k=>F2 k∨G k,sc,?_,?_,fun k hk=>⟨(f k (h1 k hk)).1,.inl hk⟩,?_,Cv.refl _ _⟩,?_⟩
 ·intro S hm
  exact hS S hm _ (fun A ha=>SP.mono _ (sa.mem ha) (fun _=>.inl)) (fun R hr=>SP.mono _ (r R hr) (fun _=>.inr))
 ·intro k hk hg
  exact hg.elim (h3 k hk) (d k (h1 k hk))
 ·intro k hk
  exact hk.elim (fun x=>(f k (h2 k x)).1) (g k)
 ·rintro w' Cs' ⟨F',G',s',_,_,f',_,u'⟩
  refine ⟨fun k=>F' k∨F2 k,G,CF.append_in (fun _=>.inl) (fun _=>.inr) ?_ s' (sa.loc ?_),?_,?_,?_,?_,?_⟩
  ·intro k hk hg
   have hlt:=(f k (h2 k hg)).1
   exact (f' k hk).2.elim (fun x=>h3 k x hg) (fun x=>by omega)
  ·intro k hk
   exact u'.block k (f k (h2 k hk)).1 (fun x=>h3 k x hk)
  ·intro R hm
   exact SP.loc _ (r R hm) (fun k hk=>u'.block k (g k hk) (fun x=>d k (h1 k x) hk))
  ·intro k hk hg
   refine hk.elim (fun x=>?_) (fun x=>d k (h2 k x) hg)
   have hlt:=g k hg
   exact (f' k x).2.elim (fun y=>d k (h1 k y) hg) (fun y=>by omega)
  ·intro k hk
   refine hk.elim (fun x=>⟨(f' k x).1,?_⟩) (fun x=>⟨Nat.lt_of_lt_of_le (f k (h2 k x)).1 u'.size,(f k (h2 k x)).2⟩)
   exact (f' k x).2.elim (fun y=>(f k (h1 k y)).2) (fun y=>.inr (Nat.le_trans u.size y))
  ·intro k hk
   exact Nat.lt_of_lt_of_le (g k hk) u'.size
  ·exact u.trans u' (fun i hi x=>(f i (h1 i x)).2.elim id (fun y=>by omega))
end
def blk (b:Nat) (cs:List Value) (t:TypeId):SP where
 P w F:=F b∧w.heap[b]?=some (.cells cs.toArray t (0,0))
 loc h hk:=⟨h.1,(hk b h.1).trans h.2⟩
 mono h hs:=⟨hs b h.1,h.2⟩
def BT (p:Prop):SP where
 P _ _:=p
 loc h _:=h
 mono h _:=h
def BV (As:List SP):SP where
 P:=CF As
 loc:=CF.loc
 mono:=CF.mono
def ex {α:Sort _} (A:α→SP):SP where
 P w F:=∃ a,(A a).P w F
 loc h hk:=h.elim fun a ha=>⟨a,SP.loc _ ha hk⟩
 mono h hs:=h.elim fun a ha=>⟨a,SP.mono _ ha hs⟩
section
variable {w0 w:World} {F0:AU} {As Rs:List SP} {b:Nat} {cs:List Value} {t:TypeId}
theorem LL {F:AU} (h:(blk b cs t).P w F) {i:Nat} {v:Value} (hv:cs[i]?=some v):w.cell? ⟨b,i,none⟩=some v:=by
 simp [World.cell?,h.2,hv]
theorem Ot {F:AU} (h:(blk b cs t).P w F) (i:Nat):w.frozen? ⟨b,i,none⟩=false:=by
 simp [World.frozen?,h.2]
theorem LN {F:AU} (h:(blk b cs t).P w F) (i:Nat) (v:Value):(blk b (cs.set i v) t).P (w.setCell ⟨b,i,none⟩ v) F:=by
 refine ⟨h.1,?_⟩
 have h2:=h.2
 simp only [World.setCell,Array.getElem?_modify,↓reduceIte,h2,Option.map_some]
 simp
theorem Hd.cell (h:Hd w0 F0 w As Rs) (hm:blk b cs t∈As) {i:Nat} {v:Value} (hv:cs[i]?=some v):w.cell? ⟨b,i,none⟩=some v:=h.fact hm fun _ x=>LL x hv
theorem Hd.cellR (h:Hd w0 F0 w As Rs) (hm:blk b cs t∈Rs) {i:Nat} {v:Value} (hv:cs[i]?=some v):w.cell? ⟨b,i,none⟩=some v:=h.factR hm fun _ x=>LL x hv
theorem Hd.free (h:Hd w0 F0 w As Rs) (hm:blk b cs t∈As) (i:Nat):w.frozen? ⟨b,i,none⟩=false:=h.fact hm fun _ x=>Ot x i
theorem Hd.write {A B:SP} {w':World} (h:Hd w0 F0 w (A::As) Rs) (hab:∀ F,A.P w F→B.P w' F∧Cv F w w'):Hd w0 F0 w' (B::As) Rs:=by
 obtain ⟨F,G,⟨F1,F2,h1,h2,h3,a,s⟩,r,d,f,g,u⟩:=h
 obtain ⟨hb,ub⟩:=hab _ a
 refine ⟨F,G,⟨F1,F2,h1,h2,h3,hb,s.loc ?_⟩,?_,d,?_,?_,?_⟩
 ·exact fun k hk=>ub.block k (f k (h2 k hk)).1 (fun x=>h3 k x hk)
 ·exact fun R hm=>SP.loc _ (r R hm) (fun k hk=>ub.block k (g k hk) (fun x=>d k (h1 k x) hk))
 ·exact fun k hk=>⟨Nat.lt_of_lt_of_le (f k hk).1 ub.size,(f k hk).2⟩
 ·exact fun k hk=>Nat.lt_of_lt_of_le (g k hk) ub.size
 ·exact u.trans ub (fun i hi x=>(f i (h1 i x)).2.elim id (fun y=>by omega))
theorem Hd.grow {A B:SP} {w':World} (h:Hd w0 F0 w (A::As) Rs) (hab:∀ F,A.P w F→(∀ k,F k→k<w.heap.size)→∃ F',B.P w' F'∧Cv F w w'∧∀ k,F' k→k<w'.heap.size∧(F k∨w.heap.size≤k)):Hd w0 F0 w' (B::As) Rs:=by
 obtain ⟨F,G,⟨F1,F2,h1,h2,h3,a,s⟩,r,d,f,g,u⟩:=h
 obtain ⟨F',hb,ub,hF'⟩:=hab _ a (fun k hk=>(f k (h1 k hk)).1)
 refine ⟨fun k=>F' k∨F2 k,G,⟨F',F2,fun _=>.inl,fun _=>.inr,?_,hb,s.loc ?_⟩,?_,?_,?_,?_,?_⟩
 ·intro k hk hg
  have:=(f k (h2 k hg)).1
  exact (hF' k hk).2.elim (fun x=>h3 k x hg) (fun x=>by omega)
 ·exact fun k hk=>ub.block k (f k (h2 k hk)).1 (fun x=>h3 k x hk)
 ·exact fun R hm=>SP.loc _ (r R hm) (fun k hk=>ub.block k (g k hk) (fun x=>d k (h1 k x) hk))
 ·intro k hk hg
  have:=g k hg
  exact hk.elim (fun x=>(hF' k x).2.elim (fun y=>d k (h1 k y) hg) (fun y=>by omega)) (fun x=>d k (h2 k x) hg)
 ·intro k hk
  have:=u.size
  refine hk.elim (fun x=>⟨(hF' k x).1,?_⟩) (fun x=>⟨Nat.lt_of_lt_of_le (f k (h2 k x)).1 ub.size,(f k (h2 k x)).2⟩)
  exact (hF' k x).2.elim (fun y=>(f k (h1 k y)).2) (fun y=>.inr (by omega))
 ·exact fun k hk=>Nat.lt_of_lt_of_le (g k hk) ub.size
 ·exact u.trans ub (fun i hi x=>(f i (h1 i x)).2.elim id (fun y=>by omega))
theorem Hd.new {B:SP} {w':World} (h:Hd w0 F0 w As Rs) (ub:Cv none_ w w') {F':AU} (hb:B.P w' F') (hF':∀ k,F' k→k<w'.heap.size∧w.heap.size≤k):Hd w0 F0 w' (B::As) Rs:=by
 obtain ⟨F,G,s,r,d,f,g,u⟩:=h
 have h':Hd w0 F0 w (BT True::As) Rs:=⟨F,G,⟨none_,F,fun _ x=>x.elim,fun _ x=>x,fun _ x=>x.elim,trivial,s⟩,r,d,f,g,u⟩
 exact h'.grow fun F1 _ _=>⟨F',hb,⟨ub.os,ub.tape,ub.output,ub.size,fun k hk _=>ub.block k hk id⟩,fun k hk=>⟨(hF' k hk).1,.inr (hF' k hk).2⟩⟩
theorem Hd.alloc (h:Hd w0 F0 w As Rs) (cs:List Value) (t:TypeId):Hd w0 F0 (w.alloc (.cells cs.toArray t)) (blk w.heap.size cs t::As) Rs:=by
 refine h.new (Cv.alloc _ _ _) (F':=fun k=>k=w.heap.size) ⟨rfl,?_⟩ ?_
 ·show (w.heap.push _)[w.heap.size]?=_
  simp
 ·intro k hk
  subst hk
  simp
theorem Hd.store (h:Hd w0 F0 w (blk b cs t::As) Rs) (i:Nat) (v:Value):Hd w0 F0 (w.setCell ⟨b,i,none⟩ v) (blk b (cs.set i v) t::As) Rs:=
 h.write fun _ hb=>⟨LN hb i v,Cv.setCell _ _ _ hb.1⟩
theorem Hd.le (h:Hd w0 F0 w As Rs):w0.heap.size≤w.heap.size:=h.upd.size
end
theorem Hd.begin {w:World} {As Rs:List SP} {F G:AU} (s:CF As w F) (r:∀ R∈Rs,R.P w G) (d:∀ k,F k→¬ G k) (f:∀ k,F k→k<w.heap.size) (g:∀ k,G k→k<w.heap.size):Hd w F w As Rs:=
 ⟨F,G,s,r,d,fun k hk=>⟨f k hk,.inl hk⟩,g,Cv.refl _ _⟩
abbrev BQ:=List (Nat×Value)
def lk:BQ→Nat→Option Value
 |[],_=>none
 |(k,v)::l,s=>match Nat.decEq k s with |.isTrue _=>some v|.isFalse _=>lk l s
def ev (l:BQ):Operand→Option Value
 |.tmp t=>lk l t
 |.const v=>some v
 |.global g=>some (.pointer (some ⟨g,0,none⟩))
 |.func f=>some (.func (.func f) #[] #[])
def CH (l:BQ):Option Tmp→Value→BQ
 |some d,v=>(d,v)::l
 |none,_=>l
def C0 (n:Nat):Option Tmp→Bool
 |some d=>Nat.ble (d+1) n
 |none=>true
structure CL (n:Nat) (l:BQ) (a:Act):Prop where
 defers:a.defers=[]
 size:a.tmps.size=n
 get:∀ s v,lk l s=some v→a.tmps.getD s undef=v∧s<n
theorem CL.eval {n:Nat} {l:BQ} {a:Act} (h:CL n l a) {x:Operand} {v:Value} (hx:ev l x=some v):a.eval x=v:=by
 cases x with
 |tmp t=>exact (h.get t v hx).1
 |const c=>exact Option.some.inj hx
 |global g=>exact Option.some.inj hx
 |func f=>exact Option.some.inj hx
theorem CL.put {n:Nat} {l:BQ} {a:Act} (h:CL n l a) (d:Option Tmp) (v:Value) (hd:C0 n d=true):CL n (CH l d v) (a.put d v):=by
 cases d with
 |none=>exact h
 |some d=>
  have hd':d<n:=by simp only [C0] at hd;exact Nat.le_of_ble_eq_true hd
  refine ⟨h.defers,by simp [Act.put,h.size],fun s u hs=>?_⟩
  simp only [CH,lk] at hs
  split at hs
  ·rename_i e _
   obtain rfl:v=u:=by simpa using hs
   subst e
   exact ⟨by simp [Act.put,h.size,hd'],hd'⟩
  ·rename_i e _
   obtain ⟨g,hn⟩:=h.get s u hs
   refine ⟨?_,hn⟩
   simp only [Act.put,Array.getD_eq_getD_getElem?] at *
   rw [Array.getElem?_setIfInBounds_ne (by omega)]
   exact g
theorem CL.sub {n:Nat} {l l':BQ} {a:Act} (h:CL n l a) (hs:∀ s v,lk l' s=some v→lk l s=some v):CL n l' a:=
 ⟨h.defers,h.size,fun s v x=>h.get s v (hs s v x)⟩
def Ih (l:BQ):BQ→Prop
 |[]=>True
 |(s,v)::l'=>lk l s=some v∧Ih l l'
theorem Ih.out {l:BQ}:∀ {l':BQ},Ih l l'→∀ s v,lk l' s=some v→lk l s=some v
 |[],_,s,v,h=>by simp [lk] at h
 |(k,u)::l',⟨h1,h2⟩,s,v,h=>by
  simp only [lk] at h
  split at h
  ·rename_i e _
   obtain rfl:u=v:=by simpa using h
   exact e▸h1
  ·exact h2.out s v h
/-! ### A list of operations -/
def WL (P:Program) (ops:Array Oper) (Q:Exit→Act→World→Prop) (rest:List Oper) (n:Nat) (l:BQ) (w:World):Prop:=∀ a,CL n l a→wpList P ops Q rest a w
def WC (P:Program) (c:Code) (Q:Exit→Act→World→Prop) (n:Nat) (l:BQ) (w:World):Prop:=∀ a,CL n l a→c.wp P Q a w
def WQ (Q:Exit→Act→World→Prop) (e:Exit) (n:Nat) (l:BQ) (w:World):Prop:=∀ a,CL n l a→Q e a w
def gd (ops:Array Oper) (l:BQ) (o:Oper):Option Bool:=
 match o.guard with
 |none=>some true
 |some (j,want)=>
  match (ops[j]?).bind (·.dst) with
  |none=>some false
  |some d=>
   match lk l d with
   |some (.bool b)=>some (b==want)
   |some _=>some false
   |none=>none
theorem Fa {n:Nat} {ops:Array Oper} {l:BQ} {o:Oper} {a:Act} {b:Bool} (h:CL n l a) (hg:gd ops l o=some b):Region.wanted o (yielded ops a.tmps)=b:=by
 unfold gd at hg
 unfold Region.wanted
 split at hg
 ·rename_i e
  simp only [e]
  simpa using hg
 ·rename_i j want e
  simp only [e]
  unfold yielded
  split at hg
  ·rename_i e1
   simp only [e1,Option.bind_none]
   cases b<;>cases want<;>simp_all
  ·rename_i d e1
   have key:∀ v,lk l d=some v→a.tmps[d]?=some v:=by
    intro v hv
    obtain ⟨g,hn⟩:=h.get d v hv
    have hlt:d<a.tmps.size:=by rw [h.size];exact hn
    rw [Array.getElem?_eq_getElem hlt]
    simp [Array.getD,hlt] at g
    rw [g]
   simp only [e1,Option.bind_some]
   split at hg
   ·rename_i b' e2
    simp only [key _ e2]
    have hg':(b'==want)=b:=by simpa using hg
    subst hg'
    cases b'<;>cases want<;>rfl
   ·rename_i v hv e2
    simp only [key _ e2]
    have hg':false=b:=by simpa using hg
    subst hg'
    cases v<;>simp_all
   ·simp at hg
section
variable {P:Program} {ops:Array Oper} {Q:Exit→Act→World→Prop} {rest:List Oper} {n:Nat} {l:BQ} {w w':World} {o:Oper} {v:Value}
def BL (P:Program) (n:Nat) (l:BQ) (w:World) (o:Oper) (v:Value) (w':World):Prop:=∀ a,CL n l a→(execOp a.eval o).run P w=.ok (.value v) w'
theorem V (hg:gd ops l o=some true) (hd:C0 n o.dst=true) (hr:BL P n l w o v w') (h:WL P ops Q rest n (CH l o.dst v) w'):WL P ops Q (o::rest) n l w:=by
 intro a ha
 refine wpList_step fun K hK=>?_
 rw [if_pos (Fa ha hg)]
 unfold Oper.wp
 rw [hr a ha]
 exact hK _ _ (h _ (ha.put _ _ hd))
theorem Lh (hg:gd ops l o=some true) (hd:o.dst=none) (hr:∀ a,CL n l a→(execOp a.eval o).run P w=.ok .skip w') (h:WL P ops Q rest n l w'):WL P ops Q (o::rest) n l w:=by
 intro a ha
 refine wpList_step fun K hK=>?_
 rw [if_pos (Fa ha hg)]
 unfold Oper.wp
 rw [hr a ha]
 refine hK _ _ ?_
 rw [hd]
 exact h _ ha
theorem bX (hg:gd ops l o=some false) (hd:C0 n o.dst=true) (h:WL P ops Q rest n (CH l o.dst undef) w):WL P ops Q (o::rest) n l w:=by
 intro a ha
 refine wpList_step fun K hK=>?_
 rw [if_neg (by rw [Fa ha hg];simp)]
 exact hK _ _ (h _ (ha.put _ _ hd))
theorem Ab (h:WQ Q .normal n l w):WL P ops Q [] n l w:=h
def Ij (T:Value→World→Prop):Ending→World→Prop:=fun e w'=>∃ v,e=.returned v∧T v w'
def I7 (P:Program) (n:Nat) (l:BQ) (w:World) (o:Oper) (f:FuncId) (args:Array Value):Prop:=∀ a,CL n l a→(execOp a.eval o).run P w=.ok (.enter f args) w
theorem bQ {f:FuncId} {args:Array Value} {T:Value→World→Prop} (hg:gd ops l o=some true) (hd:C0 n o.dst=true) (hr:I7 P n l w o f args)
  (hc:Calls P f args w (Ij T)) (h:∀ v w',T v w'→WL P ops Q rest n (CH l o.dst v) w'):WL P ops Q (o::rest) n l w:=by
 intro a ha
 refine wpList_step fun K hK=>?_
 rw [if_pos (Fa ha hg)]
 unfold Oper.wp
 rw [hr a ha]
 refine hc.mono ?_
 rintro e w' ⟨v,rfl,hT⟩
 exact hK _ _ (h v w' hT _ (ha.put _ _ hd))
/-! ### Code -/
theorem Aa {x y:Code} (h:WC P x (Exit.then (y.wp P Q) Q) n l w):WC P (.seq x y) Q n l w:=fun a ha=>wp_seq (h a ha)
theorem Ad {id:Nat} {os:List Oper} (h:WL P os.toArray Q os n l w):WC P (.region id os.toArray false) Q n l w:=fun a ha=>wp_region_lit (h a ha)
theorem AB (h:WQ Q .normal n l w):WC P .skip Q n l w:=fun a ha=>wp_skip (h a ha)
theorem BW {id:Nat} (h:WQ Q (.exit id) n l w):WC P (.exit id) Q n l w:=fun a ha=>wp_exit (h a ha)
theorem Am (h:WQ Q .ret n l w):WC P .ret Q n l w:=fun a ha=>wp_ret (h a ha)
theorem AX {id:Nat} {c:Code} (h:WC P c (Exit.inBlock id Q) n l w):WC P (.block id c) Q n l w:=fun a ha=>wp_block (h a ha)
theorem Dx {c:Operand} {x y:Code} {b:Bool} (hc:ev l c=some (.bool b)) (ht:b=true→WC P x Q n l w) (hf:b=false→WC P y Q n l w):WC P (.cond c x y) Q n l w:=
 fun a ha=>wp_cond_split (ha.eval hc) (fun e=>ht e a ha) (fun e=>hf e a ha)
theorem AC {c:Operand} {x y:Code} {p:Prop} {_:Decidable p} (hc:ev l c=some (.bool (decide p))) (ht:p→WC P x Q n l w) (hf:¬ p→WC P y Q n l w):WC P (.cond c x y) Q n l w:=
 Dx hc (fun e=>ht (of_decide_eq_true e)) (fun e=>hf (of_decide_eq_false e))
theorem Ct {c:Operand} {x y:Code} (hc:ev l c=some (.bool true)) (h:WC P x Q n l w):WC P (.cond c x y) Q n l w:=fun a ha=>wp_cond_true (ha.eval hc) (h a ha)
theorem Cq {c:Operand} {x y:Code} (hc:ev l c=some (.bool false)) (h:WC P y Q n l w):WC P (.cond c x y) Q n l w:=fun a ha=>wp_cond_false (ha.eval hc) (h a ha)
theorem AR {d:Nat} {p:Prop} {_:Decidable p} (hc:lk l d=some (.bool (decide p))) (ht:p→WL P ops Q rest n ((d,.bool true)::l) w) (hf:¬ p→WL P ops Q rest n ((d,.bool false)::l) w):WL P ops Q rest n l w:=by
 intro a ha
 by_cases hp:p
 ·refine ht hp a ⟨ha.defers,ha.size,fun s v hs=>?_⟩
  simp only [lk] at hs
  split at hs
  ·rename_i e _
   obtain rfl:Value.bool true=v:=by simpa using hs
   subst e
   have:=ha.get _ _ hc
   simpa [hp] using this
  ·exact ha.get _ _ hs
 ·refine hf hp a ⟨ha.defers,ha.size,fun s v hs=>?_⟩
  simp only [lk] at hs
  split at hs
  ·rename_i e _
   obtain rfl:Value.bool false=v:=by simpa using hs
   subst e
   have:=ha.get _ _ hc
   simpa [hp] using this
  ·exact ha.get _ _ hs
theorem Z {y:Code} (h:WC P y Q n l w):WQ (Exit.then (y.wp P Q) Q) .normal n l w:=h
theorem Az {K:Act→World→Prop} (h:WQ Q .ret n l w):WQ (Exit.then K Q) .ret n l w:=h
theorem A8 {K:Act→World→Prop} {id:Nat} (h:WQ Q (.exit id) n l w):WQ (Exit.then K Q) (.exit id) n l w:=h
theorem Bb {id:Nat} (h:WQ Q .normal n l w):WQ (Exit.inBlock id Q) .normal n l w:=h
theorem AY {id:Nat} (h:WQ Q .ret n l w):WQ (Exit.inBlock id Q) .ret n l w:=h
theorem BX {id:Nat} (h:WQ Q .normal n l w):WQ (Exit.inBlock id Q) (.exit id) n l w:=fun a ha=>by simp only [Exit.inBlock,if_true];exact h a ha
theorem B1 {σ:Type} {c:Code} (L:σ→BQ) (I:σ→World→Prop) (μ:σ→Nat) (s0:σ) (h0:Ih l (L s0)) (hI:I s0 w)
  (round:∀ s w,I s w→WC P c (Exit.then (fun a' w'=>∃ s',CL n (L s') a'∧I s' w'∧μ s'<μ s) Q) n (L s) w):WC P (.loop c) Q n l w:=by
 intro a ha
 refine wp_loop (fun a w=>∃ s,CL n (L s) a∧I s w) (fun a w=>?_) ?_ ?_ (c:=c)
 ·exact Classical.epsilon fun m=>∃ s,CL n (L s) a∧I s w∧μ s=m∧∀ s',CL n (L s') a→I s' w→m≤μ s'
 ·exact ⟨s0,ha.sub h0.out,hI⟩
 ·have key:∀ a w,(∃ s,CL n (L s) a∧I s w)→∃ m,∃ s,CL n (L s) a∧I s w∧μ s=m∧∀ s',CL n (L s') a→I s' w→m≤μ s':=by
   intro a w ⟨s,hf,hi⟩
   have:∀ k,∀ s,CL n (L s) a→I s w→μ s=k→∃ m,∃ s,CL n (L s) a∧I s w∧μ s=m∧∀ s',CL n (L s') a→I s' w→m≤μ s':=by
    intro k
    induction k using Nat.strongRecOn with
    |_ k ih=>
     intro s hf hi hk
     by_cases hall:∀ s',CL n (L s') a→I s' w→μ s≤μ s'
     ·exact ⟨_,s,hf,hi,rfl,hall⟩
     ·have ⟨s',h'⟩:=Classical.not_forall.1 hall
      have ⟨hf',h''⟩:=Classical.not_imp.1 h'
      have ⟨hi',hlt⟩:=Classical.not_imp.1 h''
      exact ih (μ s') (by omega) s' hf' hi' U
   exact this _ s hf hi U
  rintro a w ⟨s,hf,hi⟩
  obtain ⟨s1,hf1,hi1,hm1,hmin1⟩:=Classical.epsilon_spec (key a w ⟨s,hf,hi⟩)
  refine Code.wp_mono ?_ (round s1 w hi1 a hf1)
  intro e a' w' hq
  cases e<;>try exact hq
  obtain ⟨s',hf',hi',hlt⟩:=hq
  refine ⟨⟨s',hf',hi'⟩,?_⟩
  obtain ⟨_,_,_,_,hmin2⟩:=Classical.epsilon_spec (key a' w' ⟨s',hf',hi'⟩)
  have:=hmin2 s' hf' hi'
  show _<Classical.epsilon _
  rw [←hm1]
  exact Nat.lt_of_le_of_lt this hlt
theorem Bo {σ:Type} {L:σ→BQ} {I:σ→World→Prop} {μ:σ→Nat} {s:σ} (s':σ) (hk:Ih l (L s')) (hI:I s' w) (hm:μ s'<μ s):
  WQ (Exit.then (fun a' w'=>∃ s',CL n (L s') a'∧I s' w'∧μ s'<μ s) Q) .normal n l w:=fun _ ha=>⟨s',ha.sub hk.out,hI,hm⟩
theorem Hj {σ:Type} {x y:Code} (L:σ→BQ) (I:σ→World→Prop) (hx:WC P x (Exit.then (fun a' w'=>∃ s,CL n (L s) a'∧I s w') Q) n l w)
  (hy:∀ s w,I s w→WC P y Q n (L s) w):WC P (.seq x y) Q n l w:=by
 intro a ha
 refine wp_seq (Code.wp_mono ?_ (hx a ha))
 intro e a' w' hq
 cases e<;>try exact hq
 obtain ⟨s,hf,hi⟩:=hq
 exact hy s w' hi a' hf
theorem Dh {σ:Type} {L:σ→BQ} {I:σ→World→Prop} (s:σ) (hk:Ih l (L s)) (hI:I s w):WQ (Exit.then (fun a' w'=>∃ s,CL n (L s) a'∧I s w') Q) .normal n l w:=fun _ ha=>⟨s,ha.sub hk.out,hI⟩
/-! ### The function's ends -/
def Is:Nat→List Value→BQ
 |_,[]=>[]
 |i,v::vs=>(i,v)::Is (i+1) vs
theorem MC:∀ (vs:List Value) (i s:Nat) (v:Value),lk (Is i vs) s=some v→i≤s∧vs[s - i]?=some v
 |[],i,s,v,h=>by simp [Is,lk] at h
 |u::vs,i,s,v,h=>by
  simp only [Is,lk] at h
  split at h
  ·rename_i e _
   subst e
   exact ⟨Nat.le_refl _,by simpa using h⟩
  ·rename_i e _
   obtain ⟨h1,h2⟩:=MC vs (i+1) s v h
   refine ⟨by omega,?_⟩
   have:s - i=(s - (i+1))+1:=by omega
   rw [this]
   simpa using h2
theorem enter {f:FuncId} {fn:Func} {c:Code} {args:List Value} {R:Ending→World→Prop} (hf:P.funcs[f]?=some fn) (hb:fn.body=some c) (hn:fn.ntmps=n) (hl:args.length≤n)
  (h:WC P c (bodyPost P fn R) n (Is 0 args) w):Calls P f args.toArray w R:=by
 refine calls_of_wp hf hb (h _ ⟨rfl,?_,?_⟩)
 ·simp only [Array.size_append,List.size_toArray,Array.size_replicate,hn]
  omega
 ·intro s v hs
  obtain ⟨_,h2⟩:=MC args 0 s v hs
  have hlt:s<args.length:=by
   rcases Nat.lt_or_ge s args.length with h'|h'
   ·exact h'
   ·simp [List.getElem?_eq_none h'] at h2
  refine ⟨?_,by omega⟩
  have h3:args[s]?=some v:=by simpa using h2
  simp [Array.getD_eq_getD_getElem?,Array.getElem?_append,hlt]
  simpa [List.getElem?_eq_getElem hlt] using h3
theorem Aq {fn:Func} {R:Ending→World→Prop} {t:Tmp} (hr:fn.results=#[.tmp t]) (hv:lk l t=some v) (h:R (.returned v) w):WQ (bodyPost P fn R) .ret n l w:=
 fun a ha=>bodyPost_ret (v:=v) (by rw [results_tmp hr];rw [(ha.get t v hv).1]) ha.defers h
theorem Du {fn:Func} {R:Ending→World→Prop} {t u:Tmp} {v':Value} (hr:fn.results=#[.tmp t,.tmp u]) (hv:lk l t=some v) (hu:lk l u=some v') (h:R (.returned (.tuple #[v,v'])) w):WQ (bodyPost P fn R) .ret n l w:=
 fun a ha=>bodyPost_ret (v:=.tuple #[v,v']) (by rw [results_tmp2 hr];rw [(ha.get t v hv).1,(ha.get u v' hu).1]) ha.defers h
theorem GF {fn:Func} {R:Ending→World→Prop} {t u s:Tmp} {v' v'':Value} (hr:fn.results=#[.tmp t,.tmp u,.tmp s]) (hv:lk l t=some v) (hu:lk l u=some v') (hs:lk l s=some v'')
  (h:R (.returned (.tuple #[v,v',v''])) w):WQ (bodyPost P fn R) .ret n l w:=
 fun a ha=>bodyPost_ret (v:=.tuple #[v,v',v'']) (by simp [results,hr];simp [(ha.get t v hv).1,(ha.get u v' hu).1,(ha.get s v'' hs).1,←Array.getD_eq_getD_getElem?]) ha.defers h
theorem DX {fn:Func} {R:Ending→World→Prop} (hr:fn.results=#[]) (h:R (.returned (.tuple #[])) w):WQ (bodyPost P fn R) .normal n l w:=
 fun a ha=>bodyPost_end (v:=.tuple #[]) (by rw [results_none hr]) ha.defers h
theorem M7 {fn:Func} {R:Ending→World→Prop} (hr:fn.results=#[]) (h:R (.returned (.tuple #[])) w):WQ (bodyPost P fn R) .ret n l w:=
 fun a ha=>bodyPost_ret (v:=.tuple #[]) (by rw [results_none hr]) ha.defers h
end
/-! ### Contracts -/
def Cn (P:Program) (f:FuncId) (args:List Value) (As Rs:List SP) (T:Value→List SP→Prop):Prop:=
 ∀ w F,Hd w F w As Rs→Calls P f args.toArray w (Ij fun v w'=>∃ Bs,T v Bs∧Hd w F w' Bs Rs)
section
variable {P:Program} {ops:Array Oper} {Q:Exit→Act→World→Prop} {rest:List Oper} {n:Nat} {l:BQ} {w0 w w':World} {F0:AU} {o:Oper} {v:Value} {As Rs Cs Ss:List SP}
def FH (w:World) (As Rs Ss:List SP):Prop:=∀ S∈Ss,∀ F,(∀ A∈As,A.P w F)→(∀ R∈Rs,R.P w F)→S.P w F
theorem l0:FH w As Rs []:=fun _ h=>by cases h
theorem lR {S:SP} (i:Nat) (hm:Rs[i]?=some S) (h:FH w As Rs Ss):FH w As Rs (S::Ss):=by
 intro S' hS F hA hR
 cases hS with
 |head=>exact hR _ (List.mem_of_getElem? hm)
 |tail _ h'=>exact h S' h' F hA hR
theorem lA {A S:SP} (i:Nat) (hm:As[i]?=some A) (hs:∀ F,A.P w F→S.P w F) (h:FH w As Rs Ss):FH w As Rs (S::Ss):=by
 intro S' hS F hA hR
 cases hS with
 |head=>exact hs F (hA _ (List.mem_of_getElem? hm))
 |tail _ h'=>exact h S' h' F hA hR
theorem lX {S:SP} (hs:∀ F,(∀ A∈As,A.P w F)→(∀ R∈Rs,R.P w F)→S.P w F) (h:FH w As Rs Ss):FH w As Rs (S::Ss):=by
 intro S' hS F hA hR
 cases hS with
 |head=>exact hs F hA hR
 |tail _ h'=>exact h S' h' F hA hR
theorem MB:FH w As Rs Rs:=fun _ hS _ _ hR=>hR _ hS
theorem Im {f:FuncId} {args:List Value} {T:Value→List SP→Prop} (hc:Cn P f args Cs Ss T) (H:Hd w0 F0 w (Cs++As) Rs) (hl:FH w As Rs Ss):
  Calls P f args.toArray w (Ij fun v w'=>∃ Bs,T v Bs∧Hd w0 F0 w' (Bs++As) Rs):=by
 obtain ⟨Fc,h1,h2⟩:=H.frame hl
 refine (hc w Fc h1).mono ?_
 rintro e w' ⟨v,rfl,Bs,hT,hB⟩
 exact ⟨v,rfl,Bs,hT,h2 w' Bs hB⟩
theorem bR {f:FuncId} {args:List Value} {T:Value→List SP→Prop} (hg:gd ops l o=some true) (hd:C0 n o.dst=true) (hr:I7 P n l w o f args.toArray)
  (hc:Cn P f args Cs Ss T) (H:Hd w0 F0 w (Cs++As) Rs) (hl:FH w As Rs Ss)
  (h:∀ v Bs w',T v Bs→Hd w0 F0 w' (Bs++As) Rs→WL P ops Q rest n (CH l o.dst v) w'):WL P ops Q (o::rest) n l w:=
 bQ hg hd hr (Im hc H hl) fun v w' ⟨Bs,hT,hB⟩=>h v Bs w' hT hB
theorem Cn.mono {f:FuncId} {args:List Value} {T T':Value→List SP→Prop} (h:Cn P f args Cs Ss T) (hT:∀ v Bs,T v Bs→T' v Bs):Cn P f args Cs Ss T':=
 fun w F H=>(h w F H).mono fun e w' ⟨v,he,Bs,t,hb⟩=>⟨v,he,Bs,hT v Bs t,hb⟩
theorem Rn {A:SP}:∀ (As:List SP) (i:Nat),As[i]?=some A→As.Perm (A::As.eraseIdx i)
 |[],_,h=>by simp at h
 |B::As,0,h=>by
  obtain rfl:B=A:=by simpa using h
  exact List.Perm.refl _
 |B::As,i+1,h=>by
  have:=Rn As i (by simpa using h)
  exact (this.cons B).trans (List.Perm.swap _ _ _)
theorem Hd.pick {A:SP} (i:Nat) (hi:As[i]?=some A) (h:Hd w0 F0 w As Rs):Hd w0 F0 w (A::As.eraseIdx i) Rs:=by
 exact h.perm (Rn _ i hi)
end
/-! ### A region that draws its order, and only reads -/
section
variable {P:Program} {ops:Array Oper} {C:World→Prop} {Q:Act→Prop} {rest:List Oper} {n:Nat} {l:BQ} {o:Oper} {v:Value}
def WU (P:Program) (ops:Array Oper) (C:World→Prop) (Q:Act→Prop) (rest:List Oper) (n:Nat) (l:BQ):Prop:=∀ a,CL n l a→wpQuiet P ops C Q rest a
theorem BH (hg:gd ops l o=some true) (hd:C0 n o.dst=true) (hr:∀ w,C w→BL P n l w o v w) (h:WU P ops C Q rest n (CH l o.dst v)):WU P ops C Q (o::rest) n l:=by
 intro a ha
 refine wpQuiet_step fun K hK=>?_
 rw [if_pos (Fa ha hg)]
 refine ⟨v,fun w hw=>?_,hK _ (h _ (ha.put _ _ hd))⟩
 unfold Oper.quietAt
 rw [hr w hw a ha]
 exact ⟨rfl,rfl⟩
theorem dY (hg:gd ops l o=some false) (hd:C0 n o.dst=true) (h:WU P ops C Q rest n (CH l o.dst undef)):WU P ops C Q (o::rest) n l:=by
 intro a ha
 refine wpQuiet_step fun K hK=>?_
 rw [if_neg (by rw [Fa ha hg];simp)]
 exact hK _ (h _ (ha.put _ _ hd))
theorem dX (h:∀ a,CL n l a→Q a):WU P ops C Q [] n l:=h
end
section
variable {P:Program} {Q:Exit→Act→World→Prop} {n:Nat} {l:BQ} {w0 w:World} {F0:AU} {As Rs:List SP}
theorem GP {id:Nat} {os:List Oper} (hm:P.follows .mixedOrders=true) (hB:Region.lexB .any os.toArray=true) (H:Hd w0 F0 w As Rs)
  (h:WU P os.toArray (fun w=>Hd w0 F0 w As Rs) (fun a=>∀ w',Hd w0 F0 w' As Rs→Q .normal a w') os n l):WC P (.region id os.toArray true) Q n l w:=by
 intro a ha
 exact wp_region_quiet hm hB (H.drewN 1) (by simpa using h a ha)
theorem Ha {ops:Array Oper} (h:∀ w,Hd w0 F0 w As Rs→WQ Q .normal n l w):WU P ops (fun w=>Hd w0 F0 w As Rs) (fun a=>∀ w',Hd w0 F0 w' As Rs→Q .normal a w') [] n l:=
 dX fun a ha w' H=>h w' H a ha
end
/-! ### What is asked of the types' table -/
def Dn (P:Program) (t:TypeId):Option (TypeId×Nat×Nat):=
 match P.underlying t with
 |some (.slice e)=>(P.info? e).map fun i=>(e,i.size,i.bytes)
 |_=>none
def Cj (P:Program) (t:TypeId):Option (Bool×Nat):=
 match P.underlying t,P.info? t with
 |some d,some i=>some ((match d with |.struct _|.array _ _=>true|_=>false),i.size)
 |_,_=>none
def Bh (P:Program) (s:TypeId) (k:Nat):Option Nat:=
 match P.underlying s with
 |some (.struct fs)=>match fs[k]? with
  |some f=>match P.info? f.type with
   |some i=>if i.size=0 then none else some f.offset
   |none=>none
  |none=>none
 |_=>none
def Dp (P:Program) (t:TypeId):Option Value:=(P.info? t).bind (·.zero)
section
variable {P:Program} {n:Nat} {l:BQ} {w w':World} {o:Oper} {v u:Value} {x y:Operand} {t:TypeId}
theorem FE {e size bytes:Nat} (h:Dn P t=some (e,size,bytes)):P.underlying t=some (.slice e)∧∃ i,P.info? e=some i∧i.size=size∧i.bytes=bytes:=by
 unfold Dn at h
 split at h
 ·rename_i e' he
  cases hi:P.info? e' with
  |none=>simp [hi] at h
  |some i=>
   simp [hi] at h
   obtain ⟨rfl,h1,h2⟩:=h
   exact ⟨he,i,hi,h1,h2⟩
 ·simp at h
theorem Sx {b:Bool} {size:Nat} (h:Cj P t=some (b,size)):∃ d i,P.underlying t=some d∧P.info? t=some i∧(match d with |.struct _|.array _ _=>true|_=>false)=b∧i.size=size:=by
 unfold Cj at h
 split at h
 ·rename_i d i hd hi
  simp only [Option.some.injEq,Prod.mk.injEq] at h
  exact ⟨d,i,hd,hi,h.1,h.2⟩
 ·simp at h
theorem Lg {b:Bool} {size:Nat} (h:Cj P t=some (b,size)):(isAgg t).run P w=.ok b w:=by
 obtain ⟨d,i,hd,hi,hb,hs⟩:=Sx h
 unfold isAgg
 rw [Sem.run_bind,run_underlying hd w]
 subst hb
 cases d<;>simp
theorem No {b:Bool} {size:Nat} (h:Cj P t=some (b,size)):(sizeOf t).run P w=.ok size w:=by
 obtain ⟨d,i,hd,hi,hb,hs⟩:=Sx h
 simp [sizeOf,typeInfo,hi,hs]
/-! ### Operations that touch no memory -/
theorem ZJ (ho:o.op=.move x) (hx:ev l x=some v):BL P n l w o v w:=by
 intro a ha;simp [execOp,ho,ha.eval hx]
theorem Zy (ho:o.op=.assign x) (hx:ev l x=some v):BL P n l w o v w:=by
 intro a ha;simp [execOp,ho,ha.eval hx]
theorem ZN {c:Operand} (ho:o.op=.pick c x y) (hc:ev l c=some (.bool true)) (hx:ev l x=some v):BL P n l w o v w:=by
 intro a ha;simp [execOp,ho,ha.eval hx,ha.eval hc,asBool]
theorem ZM {c:Operand} (ho:o.op=.pick c x y) (hc:ev l c=some (.bool false)) (hy:ev l y=some v):BL P n l w o v w:=by
 intro a ha;simp [execOp,ho,ha.eval hy,ha.eval hc,asBool]
theorem AH {a:Addr} (ho:o.op=.nilCheck x) (hx:ev l x=some (.pointer (some a))):BL P n l w o (.pointer (some a)) w:=by
 intro a' ha;simp [execOp,ho,ha.eval hx]
theorem Ek {b c:Bool} (ho:o.op=.unOp .not t x) (hx:ev l x=some (.bool b)) (hc:(!b)=c):BL P n l w o (.bool c) w:=by
 intro a ha;simp [execOp,ho,ha.eval hx,Op.unary,hc]
theorem D3 {p:Prop} {_:Decidable p} (ho:o.op=.unOp .not t x) (hx:ev l x=some (.bool (decide p))):BL P n l w o (.bool (decide ¬ p)) w:=by
 refine Ek ho hx ?_
 simp
theorem Be {k:IntKind} {i j z:Int} {t':TypeId} (ho:o.op=.binOp .add t x y t') (hx:ev l x=some (.int k i)) (hy:ev l y=some (.int k j)) (hz:k.wrap (i+j)=z):BL P n l w o (.int k z) w:=by
 intro a ha;simp [execOp,ho,ha.eval hx,ha.eval hy,eqGuard,binOp,Op.intArith,hz]
theorem CK {k:IntKind} {i j z:Int} {t':TypeId} (ho:o.op=.binOp .sub t x y t') (hx:ev l x=some (.int k i)) (hy:ev l y=some (.int k j)) (hz:k.wrap (i - j)=z):BL P n l w o (.int k z) w:=by
 intro a ha;simp [execOp,ho,ha.eval hx,ha.eval hy,eqGuard,binOp,Op.intArith,hz]
theorem Hy {k:IntKind} {i j z:Int} {t':TypeId} (ho:o.op=.binOp .mul t x y t') (hx:ev l x=some (.int k i)) (hy:ev l y=some (.int k j)) (hz:k.wrap (i*j)=z):BL P n l w o (.int k z) w:=by
 intro a ha;simp [execOp,ho,ha.eval hx,ha.eval hy,eqGuard,binOp,Op.intArith,hz]
theorem M_ {k:IntKind} {i j z:Int} {t':TypeId} (ho:o.op=.binOp .rem t x y t') (hx:ev l x=some (.int k i)) (hy:ev l y=some (.int k j)) (h0:j≠0) (hz:i.tmod j=z):BL P n l w o (.int k z) w:=by
 intro a ha;simp [execOp,ho,ha.eval hx,ha.eval hy,eqGuard,binOp,Op.intDiv,h0,hz]
theorem ZO {k:IntKind} {i j z:Int} {t':TypeId} (ho:o.op=.binOp .quo t x y t') (hx:ev l x=some (.int k i)) (hy:ev l y=some (.int k j)) (h0:j≠0) (hz:k.wrap (i.tdiv j)=z):BL P n l w o (.int k z) w:=by
 intro a ha;simp [execOp,ho,ha.eval hx,ha.eval hy,eqGuard,binOp,Op.intDiv,h0,hz]
theorem ZP {k k':IntKind} {i j z:Int} {t':TypeId} (ho:o.op=.binOp .shl t x y t') (hx:ev l x=some (.int k i)) (hy:ev l y=some (.int k' j)) (h0:0≤j) (hz:k.wrap (i*2^(min j.toNat k.bits))=z):BL P n l w o (.int k z) w:=by
 intro a ha;simp [execOp,ho,ha.eval hx,ha.eval hy,eqGuard,binOp,Op.shift,Int.not_lt.2 h0,hz]
theorem IL {k k':IntKind} {i j z:Int} {t':TypeId} (ho:o.op=.binOp .shr t x y t') (hx:ev l x=some (.int k i)) (hy:ev l y=some (.int k' j)) (h0:0≤j) (hz:i.fdiv (2^(min j.toNat k.bits))=z):BL P n l w o (.int k z) w:=by
 intro a ha;simp [execOp,ho,ha.eval hx,ha.eval hy,eqGuard,binOp,Op.shift,Int.not_lt.2 h0,hz]
theorem Zz {k:IntKind} {i j z:Int} {t':TypeId} {op:BinOp} (ho:o.op=.binOp op t x y t') (hop:op=.and∨op=.or∨op=.xor∨op=.andNot) (hx:ev l x=some (.int k i)) (hy:ev l y=some (.int k j))
  (hz:(Op.intBits op k i j).run P w=.ok (.int k z) w):BL P n l w o (.int k z) w:=by
 intro a ha
 rcases hop with rfl|rfl|rfl|rfl<;>simp [execOp,ho,ha.eval hx,ha.eval hy,eqGuard,binOp,hz]
theorem Br {k:IntKind} {i j:Int} {t':TypeId} (ho:o.op=.binOp .lss t x y t') (hx:ev l x=some (.int k i)) (hy:ev l y=some (.int k j)):BL P n l w o (.bool (decide (i<j))) w:=by
 intro a ha;simp [execOp,ho,ha.eval hx,ha.eval hy,eqGuard,binOp,Op.intCmp]
theorem CD {k:IntKind} {i j:Int} {t':TypeId} (ho:o.op=.binOp .leq t x y t') (hx:ev l x=some (.int k i)) (hy:ev l y=some (.int k j)):BL P n l w o (.bool (decide (i≤j))) w:=by
 intro a ha;simp [execOp,ho,ha.eval hx,ha.eval hy,eqGuard,binOp,Op.intCmp]
theorem CW {k:IntKind} {i j:Int} {t':TypeId} (ho:o.op=.binOp .gtr t x y t') (hx:ev l x=some (.int k i)) (hy:ev l y=some (.int k j)):BL P n l w o (.bool (decide (j<i))) w:=by
 intro a ha;simp [execOp,ho,ha.eval hx,ha.eval hy,eqGuard,binOp,Op.intCmp]
theorem C4 {k:IntKind} {i j:Int} {t':TypeId} (ho:o.op=.binOp .geq t x y t') (hx:ev l x=some (.int k i)) (hy:ev l y=some (.int k j)):BL P n l w o (.bool (decide (j≤i))) w:=by
 intro a ha;simp [execOp,ho,ha.eval hx,ha.eval hy,eqGuard,binOp,Op.intCmp]
theorem On (i j:Int):(i==j)=decide (i=j):=by rw [Bool.eq_iff_iff];simp
theorem Bg {k:IntKind} {i j:Int} {t':TypeId} (ho:o.op=.binOp .eql t x y t') (hx:ev l x=some (.int k i)) (hy:ev l y=some (.int k j)):BL P n l w o (.bool (decide (i=j))) w:=by
 intro a ha;simp [execOp,ho,ha.eval hx,ha.eval hy,eqGuard,binOp,Op.intCmp,On]
theorem CG {k:IntKind} {i j:Int} {t':TypeId} (ho:o.op=.binOp .neq t x y t') (hx:ev l x=some (.int k i)) (hy:ev l y=some (.int k j)):BL P n l w o (.bool (decide (i≠j))) w:=by
 intro a ha;simp [execOp,ho,ha.eval hx,ha.eval hy,eqGuard,binOp,Op.intCmp,bne,On]
theorem Ej {k:IntKind} {src dst:TypeId} {i z:Int} {k':IntKind} {d:TypeDesc} (ho:o.op=.convert src dst x) (hx:ev l x=some (.int k i)) (hs:P.underlying src=some d) (hd:P.underlying dst=some (.int k')) (hz:k'.wrap i=z):BL P n l w o (.int k' z) w:=by
 intro a ha;simp [execOp,ho,ha.eval hx,convert,run_underlying hs,run_underlying hd,Conv.intToInt,hz]
theorem ZB {vs:Array Value} {i:Nat} (ho:o.op=.extract x i) (hx:ev l x=some (.tuple vs)) (hi:vs[i]?=some v):BL P n l w o v w:=by
 intro a ha;simp [execOp,ho,ha.eval hx,Instr.extract,hi]
theorem JA {f:FuncId} {first captured:Array Operand} {fs cs:Array Value} (ho:o.op=.makeFunc (.func f) first captured) (hf:first.toList.map (ev l)=fs.toList.map some) (hc:captured.toList.map (ev l)=cs.toList.map some):BL P n l w o (.func (.func f) fs cs) w:=by
 have key:∀ (a:Act),CL n l a→∀ (xs:List Operand) (vs:List Value),xs.map (ev l)=vs.map some→xs.map a.eval=vs:=by
  intro a ha xs
  induction xs with
  |nil=>intro vs h;cases vs<;>simp_all
  |cons x xs ih=>
   intro vs h
   cases vs with
   |nil=>simp at h
   |cons v vs=>
    simp only [List.map_cons,List.cons.injEq] at h ⊢
    exact ⟨ha.eval h.1,ih vs h.2⟩
 intro a ha
 have h1:=key a ha _ _ hf
 have h2:=key a ha _ _ hc
 have e1:first.map a.eval=fs:=by rw [←Array.toList_inj];simpa using h1
 have e2:captured.map a.eval=cs:=by rw [←Array.toList_inj];simpa using h2
 simp [execOp,ho,Instr.makeFunc,e1,e2]
theorem HW {k:IntKind} {i j z:Int} {ts:Array TypeId} (ho:o.op=.call { callee:=.builtin .min,args:=#[x,y],argTypes:=ts }) (hx:ev l x=some (.int k i)) (hy:ev l y=some (.int k j)) (hz:min i j=z):BL P n l w o (.int k z) w:=by
 intro a ha
 subst hz
 simp [execOp,ho,resolve,ha.eval hx,ha.eval hy,invoke,builtin,Builtin.min_,Builtin.min2]
 omega
theorem RJ {k:IntKind} {i j z:Int} {ts:Array TypeId} (ho:o.op=.call { callee:=.builtin .max,args:=#[x,y],argTypes:=ts }) (hx:ev l x=some (.int k i)) (hy:ev l y=some (.int k j)) (hz:max i j=z):BL P n l w o (.int k z) w:=by
 intro a ha
 subst hz
 simp [execOp,ho,resolve,ha.eval hx,ha.eval hy,invoke,builtin,Builtin.max_,Builtin.max2]
 omega
theorem Bn {tt:TypeId} {A:Option Addr} {m c:Nat} {e:TypeId} (ho:o.op=.call { callee:=.builtin .len,args:=#[x],argTypes:=#[tt] }) (ht:P.underlying tt=some (.slice e)) (hx:ev l x=some (.slice A m c)):BL P n l w o (.int .i64 (m:Int)) w:=by
 intro a ha
 simp [execOp,ho,resolve,ha.eval hx,invoke,builtin,Builtin.len_,run_underlying ht,goInt]
theorem DO {tt:TypeId} {s:ByteArray} (ho:o.op=.call { callee:=.builtin .len,args:=#[x],argTypes:=#[tt] }) (ht:P.underlying tt=some .string) (hx:ev l x=some (.string s)):BL P n l w o (.int .i64 (s.size:Int)) w:=by
 intro a ha
 simp [execOp,ho,resolve,ha.eval hx,invoke,builtin,Builtin.len_,run_underlying ht,goInt]
/-! ### Nil or not -/
theorem OW (d:Nat) {q:Option Addr} {e:TypeId} (ht:P.underlying t=some (.pointer e)):(Op.equalIn (d+1) t (.pointer q) (.pointer none)).run P w=.ok q.isNone w:=by
 cases q<;>simp [Op.equalIn,run_underlying ht]
theorem UA (d:Nat) {f:Fn} {fs cs:Array Value} {ps rs:Array TypeId} {b:Bool} (ht:P.underlying t=some (.func ps rs b)):(Op.equalIn (d+1) t (.func f fs cs) .nilFunc).run P w=.ok false w:=by
 simp [Op.equalIn,run_underlying ht]
theorem UB (d:Nat) {A:Option Addr} {m c:Nat} {e:TypeId} (ht:P.underlying t=some (.slice e)):(Op.equalIn (d+1) t (.slice A m c) (.slice none 0 0)).run P w=.ok A.isNone w:=by
 cases A<;>simp [Op.equalIn,run_underlying ht]
theorem RF {t':TypeId} {u v:Value} {b:Bool} (ho:o.op=.binOp .eql t x y t') (hx:ev l x=some u) (hy:ev l y=some v) (h1:binOp .eql t u v=(do pure (.bool (←Op.equal t u v)))) (h2:eqGuard .eql t x y u v=pure ())
  (hb:(Op.equalIn (9999+1) t u v).run P w=.ok b w):BL P n l w o (.bool b) w:=by
 intro a ha
 have hb':(Op.equal t u v).run P w=.ok b w:=hb
 unfold execOp
 simp only [ho,ha.eval hx,ha.eval hy,h1,h2,Sem.run_bind,Sem.run_pure,Result.andThen_ok,hb']
theorem RK {t':TypeId} {u v:Value} {b:Bool} (ho:o.op=.binOp .neq t x y t') (hx:ev l x=some u) (hy:ev l y=some v) (h1:binOp .neq t u v=(do pure (.bool (!(←Op.equal t u v))))) (h2:eqGuard .neq t x y u v=pure ())
  (hb:(Op.equalIn (9999+1) t u v).run P w=.ok b w):BL P n l w o (.bool !b) w:=by
 intro a ha
 have hb':(Op.equal t u v).run P w=.ok b w:=hb
 unfold execOp
 simp only [ho,ha.eval hx,ha.eval hy,h1,h2,Sem.run_bind,Sem.run_pure,Result.andThen_ok,hb']
theorem C1 {q:Option Addr} {e t':TypeId} (ho:o.op=.binOp .eql t x y t') (ht:P.underlying t=some (.pointer e)) (hx:ev l x=some (.pointer q)) (hy:ev l y=some (.pointer none)):BL P n l w o (.bool q.isNone) w:=
 RF ho hx hy rfl rfl (OW _ ht)
theorem Hz {q:Option Addr} {e t':TypeId} (ho:o.op=.binOp .neq t x y t') (ht:P.underlying t=some (.pointer e)) (hx:ev l x=some (.pointer q)) (hy:ev l y=some (.pointer none)):BL P n l w o (.bool !q.isNone) w:=
 RK ho hx hy rfl rfl (OW _ ht)
theorem ZC {f:Fn} {fs cs:Array Value} {t':TypeId} {ps rs:Array TypeId} {b:Bool} (ho:o.op=.binOp .neq t x y t') (ht:P.underlying t=some (.func ps rs b)) (hx:ev l x=some (.func f fs cs)) (hy:ev l y=some .nilFunc):BL P n l w o (.bool true) w:=
 RK (b:=false) ho hx hy rfl rfl (UA _ ht)
theorem JC {A:Option Addr} {m c:Nat} {e t':TypeId} (ho:o.op=.binOp .eql t x y t') (ht:P.underlying t=some (.slice e)) (hx:ev l x=some (.slice A m c)) (hy:ev l y=some (.slice none 0 0)):BL P n l w o (.bool A.isNone) w:=
 RF ho hx hy rfl rfl (UB _ ht)
/-! ### Addresses -/
theorem EE (b off k:Nat):(⟨b,off,none⟩:Addr).add k=⟨b,off+k,none⟩:=by unfold Addr.add;split<;>simp_all
theorem Aj {s:TypeId} {b off k fo:Nat} (ho:o.op=.fieldAddr s x k) (hf:Bh P s k=some fo) (hx:ev l x=some (.pointer (some ⟨b,off,none⟩))):BL P n l w o (.pointer (some ⟨b,off+fo,none⟩)) w:=by
 intro a ha
 unfold Bh at hf
 split at hf
 ·rename_i fs hu
  split at hf
  ·rename_i f hk
   split at hf
   ·rename_i i hi
    split at hf
    ·simp at hf
    ·rename_i hn
     obtain rfl:f.offset=fo:=by simpa using hf
     simp [execOp,ho,ha.eval hx,Instr.fieldAt,run_underlying hu,hk,Instr.sureAddr,fieldPlace,sizeOf,typeInfo,hi,hn,EE]
   ·simp at hf
  ·simp at hf
 ·simp at hf
theorem ZE {tt e size bytes:TypeId} {b off m c:Nat} {k:IntKind} {i:Int} {p:Nat} (ho:o.op=.indexAddr tt x y) (hs:Dn P tt=some (e,size,bytes)) (hx:ev l x=some (.slice (some ⟨b,off,none⟩) m c)) (hy:ev l y=some (.int k i))
  (h0:0≤i) (h1:i<(m:Int)) (hp:off+i.toNat*size=p):BL P n l w o (.pointer (some ⟨b,p,none⟩)) w:=by
 intro a ha
 obtain ⟨hu,inf,hi,hz,_⟩:=FE hs
 subst hp
 simp [execOp,ho,ha.eval hx,ha.eval hy,Instr.indexAt,run_underlying hu,asIntOf,sizeOf,typeInfo,hi,hz,EE,h0,h1]
theorem ZF {tt e:TypeId} {size len:Nat} {b off:Nat} {k:IntKind} {i:Int} {p:Nat} {inf:TypeInfo} (ho:o.op=.indexAddr tt x y) (hu:P.underlying tt=some (.array len e)) (hi:P.info? e=some inf) (hz:inf.size=size)
  (hx:ev l x=some (.pointer (some ⟨b,off,none⟩))) (hy:ev l y=some (.int k i)) (h0:0≤i) (h1:i<(len:Int)) (hp:off+i.toNat*size=p):BL P n l w o (.pointer (some ⟨b,p,none⟩)) w:=by
 intro a ha
 subst hp
 simp [execOp,ho,ha.eval hx,ha.eval hy,Instr.indexAt,run_underlying hu,asIntOf,Instr.sureAddr,sizeOf,typeInfo,hi,hz,EE,h0,h1]
/-! ### Loads -/
theorem An {sz:Nat} {p:Addr} (ho:o.op=.load t x) (ht:Cj P t=some (false,sz)) (hx:ev l x=some (.pointer (some p))) (hc:w.cell? p=some v):BL P n l w o v w:=by
 intro a ha
 simp [execOp,ho,ha.eval hx,Instr.loadAt,Instr.sureAddr,loadVar,Lg ht,hc]
theorem BD {sz:Nat} {p:Addr} {cs:List Value} (ho:o.op=.load t x) (ht:Cj P t=some (true,sz)) (hx:ev l x=some (.pointer (some p))) (hz:cs.length=sz) (hc:∀ j v,cs[j]?=some v→w.cell? (p.add j)=some v):BL P n l w o (.agg cs.toArray) w:=by
 intro a ha
 have hl:=run_loadCells_list (P:=P) w p cs hc
 simp [execOp,ho,ha.eval hx,Instr.loadAt,Instr.sureAddr,loadVar,Lg ht,No ht,←hz,hl]
/-! ### Aggregates as values -/
theorem JB {tt:TypeId} {s:ByteArray} {k:IntKind} {i:Int} {b:UInt8} (ho:o.op=.index tt x y) (ht:P.underlying tt=some .string) (hx:ev l x=some (.string s)) (hy:ev l y=some (.int k i)) (h0:0≤i) (hb:s[i.toNat]?=some b):BL P n l w o (.int .u8 (b.toNat:Int)) w:=by
 intro a ha
 simp [execOp,ho,ha.eval hx,ha.eval hy,Instr.index,run_underlying ht,asIntOf,h0,hb]
/-! ### Cuts -/
/-! ### Calls -/
def AK (P:Program) (f:FuncId):Prop:=∀ args w,(callFunc f args).run P w=.ok (.enter f args) w
theorem AN {f:FuncId} {fn:Func} (hf:P.funcs[f]?=some fn) (hn:(fn.name== "runtime.NumGoroutine")=false) (hb:fn.body.isNone=false):AK P f:=by
 intro args w
 unfold callFunc
 simp only [Sem.run_bind,run_program,Result.andThen_ok,hf,hn,hb]
 simp
theorem LU {a:Act} (ha:CL n l a):∀ (xs:List Operand) (vs:List Value),xs.map (ev l)=vs.map some→xs.map a.eval=vs:=by
 intro xs
 induction xs with
 |nil=>intro vs h;cases vs<;>simp_all
 |cons x xs ih=>
  intro vs h
  cases vs with
  |nil=>simp at h
  |cons v vs=>
   simp only [List.map_cons,List.cons.injEq] at h ⊢
   exact ⟨ha.eval h.1,ih vs h.2⟩
theorem Av {f:FuncId} {xs:List Operand} {vs:List Value} {ts:Array TypeId} (hk:AK P f) (ho:o.op=.call { callee:=.value (.func f),args:=xs.toArray,argTypes:=ts }) (hx:xs.map (ev l)=vs.map some):I7 P n l w o f vs.toArray:=by
 intro a ha
 have:=LU ha xs vs hx
 simp [execOp,ho,resolve,Act.eval,Deferred.ofValue,invoke,this,hk _ w]
theorem Gv {f:FuncId} {xs:List Operand} {vs:List Value} {fs cs:Array Value} {ts:Array TypeId} (hk:AK P f) (ho:o.op=.call { callee:=.value x,args:=xs.toArray,argTypes:=ts }) (hf:ev l x=some (.func (.func f) fs cs)) (hx:xs.map (ev l)=vs.map some):I7 P n l w o f (fs.toList++vs++cs.toList).toArray:=by
 intro a ha
 have:=LU ha xs vs hx
 have e:(fs.toList++vs++cs.toList).toArray=fs++vs.toArray++cs:=by apply Array.toList_inj.1;simp
 rw [e]
 simp [execOp,ho,resolve,ha.eval hf,Deferred.ofValue,invoke,this,hk _ w]
end
/-! ### Texts -/
theorem toList_inj {a b:ByteArray} (h:a.data.toList=b.data.toList):a=b:=by
 cases a;cases b;simp at h;subst h;rfl
theorem J4 (a b:ByteArray):(a.toList==b.toList)=decide (a=b):=by
 rw [Bool.eq_iff_iff]
 simp only [beq_iff_eq,decide_eq_true_eq]
 constructor
 ·intro h
  rw [ByteArray.toList_eq,ByteArray.toList_eq] at h
  exact toList_inj h
 ·rintro rfl;rfl
def Bv (a b:ByteArray):Bool:=Op.bytesLess a.data.toList b.data.toList
section
variable {P:Program} {n:Nat} {l:BQ} {w w':World} {o:Oper} {v u:Value} {x y:Operand} {t:TypeId} {a b:ByteArray} {t':TypeId}
theorem M8 (ho:o.op=.binOp .eql t x y t') (hx:ev l x=some (.string a)) (hy:ev l y=some (.string b)):BL P n l w o (.bool (decide (a=b))) w:=by
 intro a' ha;simp [execOp,ho,ha.eval hx,ha.eval hy,eqGuard,binOp,Op.stringOp,J4]
theorem M9 (ho:o.op=.binOp .neq t x y t') (hx:ev l x=some (.string a)) (hy:ev l y=some (.string b)):BL P n l w o (.bool (decide (a≠b))) w:=by
 intro a' ha;simp [execOp,ho,ha.eval hx,ha.eval hy,eqGuard,binOp,Op.stringOp,J4]
theorem RH (ho:o.op=.binOp .lss t x y t') (hx:ev l x=some (.string a)) (hy:ev l y=some (.string b)):BL P n l w o (.bool (decide (Bv a b=true))) w:=by
 intro a' ha
 rw [show decide (Bv a b=true)=Bv a b from Bool.decide_eq_true]
 simp [execOp,ho,ha.eval hx,ha.eval hy,eqGuard,binOp,Op.stringOp,Bv,ByteArray.toList_eq]
theorem ZD (ho:o.op=.binOp .gtr t x y t') (hx:ev l x=some (.string a)) (hy:ev l y=some (.string b)):BL P n l w o (.bool (!(Bv a b||decide (a=b)))) w:=by
 intro a' ha;simp [execOp,ho,ha.eval hx,ha.eval hy,eqGuard,binOp,Op.stringOp,Bv,←ByteArray.toList_eq,J4]
theorem Zx (ho:o.op=.binOp .add t x y t') (hx:ev l x=some (.string a)) (hy:ev l y=some (.string b)) (hb:a.size+b.size≤9223372036854775807):BL P n l w o (.string (a++b)) w:=by
 intro a' ha;simp [execOp,ho,ha.eval hx,ha.eval hy,eqGuard,binOp,run_string_add_sum w a b hb]
end
/-! ### Kinds of data -/
structure Kd (α:Type) where
 sz:Nat
 O:World→AU→α→List Value→Prop
 R:World→AU→α→List Value→Prop
 O_loc:∀ {w w':World} {F:AU} {x:α} {cs:List Value},O w F x cs→(∀ k,F k→w'.heap[k]?=w.heap[k]?)→O w' F x cs
 O_mono:∀ {w:World} {F F':AU} {x:α} {cs:List Value},O w F x cs→(∀ k,F k→F' k)→O w F' x cs
 R_loc:∀ {w w':World} {F:AU} {x:α} {cs:List Value},R w F x cs→(∀ k,F k→w'.heap[k]?=w.heap[k]?)→R w' F x cs
 R_mono:∀ {w:World} {F F':AU} {x:α} {cs:List Value},R w F x cs→(∀ k,F k→F' k)→R w F' x cs
 O_R:∀ {w:World} {F:AU} {x:α} {cs:List Value},O w F x cs→R w F x cs
 len:∀ {w:World} {F:AU} {x:α} {cs:List Value},R w F x cs→cs.length=sz
 one:∀ {w:World} {F:AU} {x:α} {cs:List Value},R w F x cs→∀ c∈cs,c.oneCell'=true
 pos:0<sz
def flat {α:Type} (enc:α→List Value) (sz:Nat) (hp:0<sz) (hl:∀ x,(enc x).length=sz) (h1:∀ x,∀ c∈enc x,c.oneCell'=true):Kd α where
 sz:=sz
 O _ _ x cs:=cs=enc x
 R _ _ x cs:=cs=enc x
 O_loc h _:=h
 O_mono h _:=h
 R_loc h _:=h
 R_mono h _:=h
 O_R h:=h
 len h:=h▸hl _
 one h:=h▸h1 _
 pos:=hp
def Ai (k:IntKind):Kd Int:=flat (fun x=>[.int k x]) 1 (by omega) (fun _=>rfl) (fun _ c h=>by simp at h;subst h;rfl)
def Bu:Kd ByteArray:=flat (fun x=>[.string x]) 1 (by omega) (fun _=>rfl) (fun _ c h=>by simp at h;subst h;rfl)
section
variable {α:Type} (d:Kd α)
def Bc (w:World) (F:AU):List α→List Value→Prop
 |[],cs=>cs=[]
 |x::xs,cs=>∃ c cs',cs=c++cs'∧d.R w F x c∧Bc w F xs cs'
def CI (w:World):AU→List α→List Value→Prop
 |_,[],cs=>cs=[]
 |F,x::xs,cs=>∃ (F1 F2:AU) (c cs':List Value),(∀ k,F1 k→F k)∧(∀ k,F2 k→F k)∧(∀ k,F1 k→¬ F2 k)∧cs=c++cs'∧d.O w F1 x c∧CI w F2 xs cs'
variable {d} {w w':World} {F F':AU} {xs ys:List α} {cs ds:List Value}
theorem Bc.loc:∀ {xs:List α} {cs:List Value},Bc d w F xs cs→(∀ k,F k→w'.heap[k]?=w.heap[k]?)→Bc d w' F xs cs
 |[],_,h,_=>h
 |_::_,_,⟨c,cs',e,h1,h2⟩,hk=>⟨c,cs',e,d.R_loc h1 hk,Bc.loc h2 hk⟩
theorem Bc.mono:∀ {xs:List α} {cs:List Value},Bc d w F xs cs→(∀ k,F k→F' k)→Bc d w F' xs cs
 |[],_,h,_=>h
 |_::_,_,⟨c,cs',e,h1,h2⟩,hk=>⟨c,cs',e,d.R_mono h1 hk,Bc.mono h2 hk⟩
theorem CI.loc:∀ {xs:List α} {F:AU} {cs:List Value},CI d w F xs cs→(∀ k,F k→w'.heap[k]?=w.heap[k]?)→CI d w' F xs cs
 |[],_,_,h,_=>h
 |_::_,_,_,⟨F1,F2,c,cs',s1,s2,dj,e,h1,h2⟩,hk=>⟨F1,F2,c,cs',s1,s2,dj,e,d.O_loc h1 (fun k x=>hk k (s1 k x)),CI.loc h2 (fun k x=>hk k (s2 k x))⟩
theorem CI.mono:∀ {xs:List α} {F F':AU} {cs:List Value},CI d w F xs cs→(∀ k,F k→F' k)→CI d w F' xs cs
 |[],_,_,_,h,_=>h
 |_::_,_,_,_,⟨F1,F2,c,cs',s1,s2,dj,e,h1,h2⟩,hk=>⟨F1,F2,c,cs',fun k x=>hk k (s1 k x),fun k x=>hk k (s2 k x),dj,e,h1,h2⟩
theorem CI.toR:∀ {xs:List α} {F:AU} {cs:List Value},CI d w F xs cs→Bc d w F xs cs
 |[],_,_,h=>h
 |_::_,_,_,⟨F1,F2,c,cs',s1,s2,_,e,h1,h2⟩=>⟨c,cs',e,d.R_mono (d.O_R h1) s1,(CI.toR h2).mono s2⟩
theorem Bc.len:∀ {xs:List α} {cs:List Value},Bc d w F xs cs→cs.length=xs.length*d.sz
 |[],_,h=>by subst h;simp
 |_::_,_,⟨c,cs',e,h1,h2⟩=>by
  subst e
  rw [List.length_append,d.len h1,Bc.len h2,List.length_cons,Nat.succ_mul,Nat.add_comm]
theorem Bc.one:∀ {xs:List α} {cs:List Value},Bc d w F xs cs→∀ c∈cs,c.oneCell'=true
 |[],_,h,c,hc=>by subst h;cases hc
 |_::_,_,⟨c,cs',e,h1,h2⟩,c',hc=>by
  subst e
  exact (List.mem_append.1 hc).elim (d.one h1 c') (Bc.one h2 c')
theorem Bc.append:∀ {xs:List α} {cs:List Value},Bc d w F xs cs→Bc d w F ys ds→Bc d w F (xs++ys) (cs++ds)
 |[],_,h,k=>by subst h;exact k
 |_::_,_,⟨c,cs',e,h1,h2⟩,k=>⟨c,cs'++ds,by rw [e,List.append_assoc],h1,Bc.append h2 k⟩
theorem CI.append:∀ {xs:List α} {F F1 F2:AU} {cs:List Value},(∀ k,F1 k→F k)→(∀ k,F2 k→F k)→(∀ k,F1 k→¬ F2 k)→CI d w F1 xs cs→CI d w F2 ys ds→CI d w F (xs++ys) (cs++ds)
 |[],_,_,_,_,_,s2,_,h,k=>by subst h;exact k.mono s2
 |_::_,F,F1,F2,_,s1,s2,dj,⟨G1,G2,c,cs',g1,g2,gd,e,h1,h2⟩,k=>
  ⟨G1,fun j=>G2 j∨F2 j,c,cs'++ds,fun j hj=>s1 j (g1 j hj),fun j hj=>hj.elim (fun x=>s1 j (g2 j x)) (s2 j),fun j hj hg=>hg.elim (gd j hj) (dj j (g1 j hj)),by rw [e,List.append_assoc],h1,
   CI.append (fun _=>.inl) (fun _=>.inr) (fun j x=>dj j (g2 j x)) h2 k⟩
theorem Bc.get:∀ {xs:List α} {cs:List Value} {i:Nat} {x:α},Bc d w F xs cs→xs[i]?=some x→∃ c,d.R w F x c∧(cs.drop (i*d.sz)).take d.sz=c
 |[],_,_,_,_,h=>by simp at h
 |y::xs,_,0,x,⟨c,cs',e,h1,h2⟩,h=>by
  obtain rfl:y=x:=by simpa using h
  refine ⟨c,h1,?_⟩
  subst e
  have:=d.len h1
  simp [←this]
 |y::xs,_,i+1,x,⟨c,cs',e,h1,h2⟩,h=>by
  obtain ⟨c',h3,h4⟩:=Bc.get h2 (by simpa using h)
  refine ⟨c',h3,?_⟩
  subst e
  have:=d.len h1
  rw [←h4,Nat.succ_mul,Nat.add_comm,←List.drop_drop]
  congr 2
  rw [←this,List.drop_left]
theorem Bc.take:∀ {xs:List α} {cs:List Value} (i:Nat),Bc d w F xs cs→Bc d w F (xs.take i) (cs.take (i*d.sz))
 |[],_,i,h=>by subst h;simp [Bc]
 |_::_,_,0,h=>by simp [Bc]
 |y::xs,_,i+1,⟨c,cs',e,h1,h2⟩=>by
  have h3:=Bc.take i h2
  have:=d.len h1
  refine ⟨c,cs'.take (i*d.sz),?_,h1,h3⟩
  subst e
  rw [Nat.succ_mul,Nat.add_comm,←this,List.take_length_add_append]
theorem Bc.drop:∀ {xs:List α} {cs:List Value} (i:Nat),Bc d w F xs cs→Bc d w F (xs.drop i) (cs.drop (i*d.sz))
 |[],_,i,h=>by subst h;simp [Bc]
 |_::_,_,0,h=>by simpa using h
 |y::xs,_,i+1,⟨c,cs',e,h1,h2⟩=>by
  have h3:=Bc.drop i h2
  have:=d.len h1
  subst e
  rw [Nat.succ_mul,Nat.add_comm (i*d.sz),←this,List.drop_length_add_append,this]
  exact h3
theorem CI.take:∀ {xs:List α} {F:AU} {cs:List Value} (i:Nat),CI d w F xs cs→CI d w F (xs.take i) (cs.take (i*d.sz))
 |[],_,_,i,h=>by subst h;simp [CI]
 |_::_,_,_,0,h=>by simp [CI]
 |y::xs,_,_,i+1,⟨F1,F2,c,cs',s1,s2,dj,e,h1,h2⟩=>by
  have h3:=CI.take i h2
  have:=d.len (d.O_R h1)
  refine ⟨F1,F2,c,cs'.take (i*d.sz),s1,s2,dj,?_,h1,h3⟩
  subst e
  rw [Nat.succ_mul,Nat.add_comm,←this,List.take_length_add_append]
end
theorem CI.flatR {α:Type} {enc:α→List Value} {sz:Nat} {hp:0<sz} {hl:∀ x,(enc x).length=sz} {h1:∀ x,∀ c∈enc x,c.oneCell'=true} {w:World} {F G:AU}:∀ {xs:List α} {cs:List Value},
  Bc (flat enc sz hp hl h1) w F xs cs→CI (flat enc sz hp hl h1) w G xs cs
 |[],_,h=>h
 |_::_,_,⟨c,cs',e,h1,h2⟩=>⟨none_,G,c,cs',fun _ h=>h.elim,fun _ h=>h,fun _ h=>h.elim,e,h1,CI.flatR h2⟩
theorem Bc.flat_eq {α:Type} {enc:α→List Value} {sz:Nat} {hp:0<sz} {hl:∀ x,(enc x).length=sz} {h1:∀ x,∀ c∈enc x,c.oneCell'=true} {w:World} {F:AU}:∀ {xs:List α} {cs:List Value},
  Bc (flat enc sz hp hl h1) w F xs cs↔cs=xs.flatMap enc
 |[],_=>by simp [Bc]
 |x::xs,cs=>by
  constructor
  ·rintro ⟨c,cs',rfl,hc,h2⟩
   rw [Bc.flat_eq] at h2
   have:c=enc x:=hc
   simp [h2,this]
  ·rintro rfl
   exact ⟨enc x,xs.flatMap enc,by simp,rfl,Bc.flat_eq.2 rfl⟩
/-! ### Slices -/
def Plain (_:Option Addr):Prop:=True
def E4 (w:World) (F:AU) (A:Option Addr) (cs:List Value):Prop:=
 Plain A∧(cs=[]∨∃ b off C t fr,A=some ⟨b,off,none⟩∧F b∧w.heap[b]?=some (.cells C t fr)∧(C.toList.drop off).take cs.length=cs)
def FI (w:World) (F:AU) (sz:Nat) (A:Option Addr) (n c:Nat) (cs:List Value):Prop:=
 n≤c∧c≤9223372036854775807∧cs.length=n*sz∧((c=0∧Plain A)∨∃ b C t,A=some ⟨b,0,none⟩∧F b∧w.heap[b]?=some (.cells C t (0,0))∧C.size=c*sz∧C.toList.take (n*sz)=cs)
section
variable {w w':World} {F F':AU} {A:Option Addr} {n c sz:Nat} {cs:List Value}
theorem E4.loc (h:E4 w F A cs) (hk:∀ k,F k→w'.heap[k]?=w.heap[k]?):E4 w' F A cs:=
 ⟨h.1,h.2.imp id fun ⟨b,off,C,t,fr,e,hb,hh,ht⟩=>⟨b,off,C,t,fr,e,hb,(hk b hb).trans hh,ht⟩⟩
theorem E4.mono (h:E4 w F A cs) (hk:∀ k,F k→F' k):E4 w F' A cs:=
 ⟨h.1,h.2.imp id fun ⟨b,off,C,t,fr,e,hb,hh,ht⟩=>⟨b,off,C,t,fr,e,hk b hb,hh,ht⟩⟩
theorem FI.loc (h:FI w F sz A n c cs) (hk:∀ k,F k→w'.heap[k]?=w.heap[k]?):FI w' F sz A n c cs:=
 ⟨h.1,h.2.1,h.2.2.1,h.2.2.2.imp id fun ⟨b,C,t,e,hb,hh,hs,ht⟩=>⟨b,C,t,e,hb,(hk b hb).trans hh,hs,ht⟩⟩
theorem FI.mono (h:FI w F sz A n c cs) (hk:∀ k,F k→F' k):FI w F' sz A n c cs:=
 ⟨h.1,h.2.1,h.2.2.1,h.2.2.2.imp id fun ⟨b,C,t,e,hb,hh,hs,ht⟩=>⟨b,C,t,e,hk b hb,hh,hs,ht⟩⟩
theorem FI.toR (h:FI w F sz A n c cs):E4 w F A cs:=by
 obtain ⟨h1,h2,h3,h4⟩:=h
 rcases h4 with ⟨hc,hp⟩|⟨b,C,t,e,hb,hh,hs,ht⟩
 ·have:n=0:=by omega
  subst this
  exact ⟨hp,.inl (List.eq_nil_of_length_eq_zero (by simpa using h3))⟩
 ·refine ⟨trivial,.inr ⟨b,0,C,t,(0,0),e,hb,hh,?_⟩⟩
  rw [h3]
  simpa using ht
theorem E4.cell (h:E4 w F A cs) {j:Nat} {v:Value} (hv:cs[j]?=some v):∃ b off,A=some ⟨b,off,none⟩∧w.cell? ⟨b,off+j,none⟩=some v:=by
 rcases h.2 with rfl|⟨b,off,C,t,fr,e,hb,hh,ht⟩
 ·simp at hv
 ·refine ⟨b,off,e,?_⟩
  have hlt:j<cs.length:=by
   rcases Nat.lt_or_ge j cs.length with h'|h'
   ·exact h'
   ·simp [List.getElem?_eq_none h'] at hv
  rw [←ht,List.getElem?_take,if_pos hlt,List.getElem?_drop] at hv
  simp [World.cell?,hh]
  simpa using hv
end
def Nu {α:Type} (d:Kd α) (w:World) (F:AU) (xs:List α) (A:Option Addr) (n c:Nat):Prop:=
 xs.length=n∧n≤c∧c≤9223372036854775807∧∃ cs,E4 w F A cs∧Bc d w F xs cs
def cH {α:Type} (d:Kd α) (w:World) (F:AU) (xs:List α) (A:Option Addr) (n c:Nat):Prop:=
 xs.length=n∧∃ cs F1 F2,(∀ k,F1 k→F k)∧(∀ k,F2 k→F k)∧(∀ k,F1 k→¬ F2 k)∧FI w F1 d.sz A n c cs∧CI d w F2 xs cs
def Cm {α:Type} (d:Kd α):Kd (List α) where
 sz:=1
 O w F xs cs:=∃ A n c,cs=[.slice A n c]∧cH d w F xs A n c
 R w F xs cs:=∃ A n c,cs=[.slice A n c]∧Nu d w F xs A n c
 O_loc:=fun ⟨A,n,c,e,h1,cs,F1,F2,s1,s2,dj,h2,h3⟩ hk=>⟨A,n,c,e,h1,cs,F1,F2,s1,s2,dj,h2.loc (fun k x=>hk k (s1 k x)),h3.loc (fun k x=>hk k (s2 k x))⟩
 O_mono:=fun ⟨A,n,c,e,h1,cs,F1,F2,s1,s2,dj,h2,h3⟩ hk=>⟨A,n,c,e,h1,cs,F1,F2,fun k x=>hk k (s1 k x),fun k x=>hk k (s2 k x),dj,h2,h3⟩
 R_loc:=fun ⟨A,n,c,e,h1,h2,h3,cs,h4,h5⟩ hk=>⟨A,n,c,e,h1,h2,h3,cs,h4.loc hk,h5.loc hk⟩
 R_mono:=fun ⟨A,n,c,e,h1,h2,h3,cs,h4,h5⟩ hk=>⟨A,n,c,e,h1,h2,h3,cs,h4.mono hk,h5.mono hk⟩
 O_R:=fun ⟨A,n,c,e,h1,cs,F1,F2,s1,s2,dj,h2,h3⟩=>⟨A,n,c,e,h1,h2.1,h2.2.1,cs,h2.toR.mono s1,h3.toR.mono s2⟩
 len:=fun ⟨A,n,c,e,_⟩=>by subst e;rfl
 one:=fun ⟨A,n,c,e,_⟩ x hx=>by subst e;simp at hx;subst hx;rfl
 pos:=by omega
def own {α:Type} (d:Kd α) (x:α) (cs:List Value):SP:=⟨fun w F=>d.O w F x cs,d.O_loc,d.O_mono⟩
def rd {α:Type} (d:Kd α) (x:α) (cs:List Value):SP:=⟨fun w F=>d.R w F x cs,d.R_loc,d.R_mono⟩
abbrev Y {α:Type} (d:Kd α) (v:Value) (xs:List α):SP:=own (Cm d) xs [v]
abbrev Ae {α:Type} (d:Kd α) (v:Value) (xs:List α):SP:=rd (Cm d) xs [v]
theorem B3 {α:Type} {d:Kd α} {x:α} {cs:List Value} {w:World} (F:AU) (h:(own d x cs).P w F):(rd d x cs).P w F:=d.O_R h
section
variable {α:Type} {d:Kd α} {w0 w w':World} {F F0:AU} {xs ys:List α} {v:Value} {As Rs:List SP}
theorem Nl (h:(Ae d v xs).P w F):∃ A c,v=.slice A xs.length c∧xs.length≤c∧c≤9223372036854775807∧Plain A∧∃ cs,E4 w F A cs∧Bc d w F xs cs:=by
 obtain ⟨A,n,c,e,h1,h2,h3,cs,h4,h5⟩:=h
 obtain rfl:v=.slice A n c:=by simpa using e
 subst h1
 exact ⟨A,c,rfl,h2,h3,h4.1,cs,h4,h5⟩
theorem D_ (h:(Ae d v xs).P w F):∃ A c,v=.slice A xs.length c∧xs.length≤c∧c≤9223372036854775807∧Plain A:=by
 obtain ⟨A,c,e,h1,h2,h3,_⟩:=Nl h
 exact ⟨A,c,e,h1,h2,h3⟩
theorem Hd.form (H:Hd w0 F0 w As Rs) (hm:Ae d v xs∈Rs):∃ A c,v=.slice A xs.length c∧xs.length≤c∧c≤9223372036854775807∧Plain A:=H.factR hm fun _ h=>D_ h
theorem Hd.formO (H:Hd w0 F0 w As Rs) (hm:Y d v xs∈As):∃ A c,v=.slice A xs.length c∧xs.length≤c∧c≤9223372036854775807∧Plain A:=H.fact hm fun F h=>D_ (B3 F h)
theorem JG {A:Option Addr} {m c:Nat} (h:(Ae d (.slice A m c) xs).P w F) {i:Nat} {x:α} (hx:xs[i]?=some x):
  ∃ (b off:Nat) (cs:List Value),A=some ⟨b,off,none⟩∧cs.length=d.sz∧(∀ j u,cs[j]?=some u→w.cell? ⟨b,off+i*d.sz+j,none⟩=some u)∧d.R w F x cs:=by
 obtain ⟨A',c',e,_,_,_,cs,h4,h5⟩:=Nl h
 cases e
 obtain ⟨c0,h6,h7⟩:=h5.get hx
 have hl:=d.len h6
 have hp:=d.pos
 have key:∀ j u,c0[j]?=some u→cs[i*d.sz+j]?=some u:=by
  intro j u hu
  rw [←h7,List.getElem?_take] at hu
  split at hu
  ·rwa [List.getElem?_drop] at hu
  ·cases hu
 have h0:∃ u,c0[0]?=some u:=⟨c0[0],by simp [List.getElem?_eq_getElem (show 0<c0.length by omega)]⟩
 obtain ⟨u0,hu0⟩:=h0
 obtain ⟨b,off,e,_⟩:=h4.cell (key 0 u0 hu0)
 refine ⟨b,off,c0,e,hl,fun j u hu=>?_,h6⟩
 obtain ⟨b',off',e',hc⟩:=h4.cell (key j u hu)
 rw [e] at e'
 cases e'
 rwa [←Nat.add_assoc] at hc
theorem Hd.at_ {A:Option Addr} {m c:Nat} (H:Hd w0 F0 w As Rs) (hm:Ae d (.slice A m c) xs∈Rs) {i:Nat} {x:α} (hx:xs[i]?=some x):
  ∃ (b off:Nat) (cs:List Value),A=some ⟨b,off,none⟩∧cs.length=d.sz∧(∀ j u,cs[j]?=some u→w.cell? ⟨b,off+i*d.sz+j,none⟩=some u):=H.factR hm fun _ h=>by
 obtain ⟨b,off,cs,h1,h2,h3,_⟩:=JG h hx
 exact ⟨b,off,cs,h1,h2,h3⟩
theorem R5 {enc:α→List Value} {sz:Nat} {hp:0<sz} {hl:∀ x,(enc x).length=sz} {h1:∀ x,∀ c∈enc x,c.oneCell'=true} {A:Option Addr} {m c:Nat} (h:(Ae (flat enc sz hp hl h1) (.slice A m c) xs).P w F) {i:Nat} {x:α} (hx:xs[i]?=some x):
  ∃ b off,A=some ⟨b,off,none⟩∧∀ j u,(enc x)[j]?=some u→w.cell? ⟨b,off+i*sz+j,none⟩=some u:=by
 obtain ⟨b,off,cs,h1,h2,h3,h4⟩:=JG h hx
 obtain rfl:cs=enc x:=h4
 exact ⟨b,off,h1,h3⟩
end
/-! ### What is written: a block's cells -/
def EV:List Value→Nat→List Value→List Value
 |cs,_,[]=>cs
 |cs,i,v::vs=>EV (cs.set i v) (i+1) vs
section
variable {P:Program} {w:World} {F:AU}
theorem JH {b:Nat} {t:TypeId}:∀ (vs cs:List Value) (off i:Nat) (w:World),(blk b cs t).P w F→off+i+vs.length≤cs.length→(∀ v∈vs,v.oneCell'=true)→
  ∃ w',(storeCells ⟨b,off,none⟩ vs i).run P w=.ok () w'∧(blk b (EV cs (off+i) vs) t).P w' F∧Cv F w w'
 |[],cs,off,i,w,h,_,_=>⟨w,by simp [storeCells],h,Cv.refl _ _⟩
 |v::vs,cs,off,i,w,h,hl,h1=>by
  simp only [List.length_cons] at hl
  have hlt:off+i<cs.length:=by omega
  have hc:w.cell? ⟨b,off+i,none⟩=some cs[off+i]:=LL h (by simp [List.getElem?_eq_getElem hlt])
  obtain ⟨w',hr,hb,hu⟩:=JH vs (cs.set (off+i) v) off (i+1) (w.setCell ⟨b,off+i,none⟩ v) (LN h _ _) (by simp;omega) (fun v' hv=>h1 v' (List.mem_cons_of_mem _ hv))
  refine ⟨w',?_,by rw [EV];exact Nat.add_assoc off i 1▸hb,(Cv.setCell w ⟨b,off+i,none⟩ v h.1).trans hu (fun _ _ x=>x)⟩
  simp only [storeCells,EE,Sem.run_bind]
  rw [run_store P w _ v _ (h1 v (List.mem_cons_self ..))]
  simp only [stored,hc,Ot h]
  exact hr
end
section
variable {P:Program} {ops:Array Oper} {Q:Exit→Act→World→Prop} {rest:List Oper} {n:Nat} {l:BQ} {w0 w:World} {F0:AU} {o:Oper} {v:Value} {As Rs:List SP} {x y:Operand} {t:TypeId}
theorem Bx {b off sz:Nat} {B:Bool} {cs:List Value} {bt:TypeId} (hg:gd ops l o=some true) (hd:o.dst=none) (ho:o.op=.store t x y) (ht:Cj P t=some (B,sz)) (hx:ev l x=some (.pointer (some ⟨b,off,none⟩))) (hy:ev l y=some v)
  (H:Hd w0 F0 w (blk b cs bt::As) Rs) (hs:v.cells.size=sz) (hl:off+sz≤cs.length) (h1:∀ u∈v.cells.toList,u.oneCell'=true) (h:∀ w',Hd w0 F0 w' (blk b (EV cs off v.cells.toList) bt::As) Rs→WL P ops Q rest n l w'):WL P ops Q (o::rest) n l w:=by
 obtain ⟨F,hb⟩:∃ F,(blk b cs bt).P w F:=H.fact (List.mem_cons_self ..) fun F hb=>⟨F,hb⟩
 obtain ⟨w',hr,_,_⟩:=JH (P:=P) v.cells.toList cs off 0 w hb (by simp [hs];omega) h1
 refine Lh hg hd (w':=w') (fun a ha=>?_) (h w' (H.write fun F' hb'=>?_))
 ·simp [execOp,ho,ha.eval hx,ha.eval hy,Instr.storeAt,Instr.sureAddr,storeVar,No ht,hs,hr]
 ·obtain ⟨w'',hr',h2,h3⟩:=JH (P:=P) v.cells.toList cs off 0 w hb' (by simp [hs];omega) h1
  rw [hr] at hr'
  cases hr'
  exact ⟨h2,h3⟩
theorem CT (hg:gd ops l o=some true) (hd:C0 n o.dst=true) (ho:o.op=.box t x) (hx:ev l x=some v) (H:Hd w0 F0 w As Rs)
  (h:∀ b w',Hd w0 F0 w' (blk b v.cells.toList t::As) Rs→WL P ops Q rest n (CH l o.dst (.pointer (some ⟨b,0,none⟩))) w'):WL P ops Q (o::rest) n l w:=by
 refine V (w':=w.alloc (.cells v.cells t)) hg hd (v:=.pointer (some ⟨w.heap.size,0,none⟩)) (fun a ha=>?_) (h _ _ ?_)
 ·simp [execOp,ho,ha.eval hx,Instr.box,newVar,newRow]
 ·have:=H.alloc v.cells.toList t
  simpa using this
theorem Dz {z:Value} (hg:gd ops l o=some true) (hd:C0 n o.dst=true) (ho:o.op=.alloc t) (hz:Dp P t=some z) (H:Hd w0 F0 w As Rs)
  (h:∀ b w',Hd w0 F0 w' (blk b z.cells.toList t::As) Rs→WL P ops Q rest n (CH l o.dst (.pointer (some ⟨b,0,none⟩))) w'):WL P ops Q (o::rest) n l w:=by
 obtain ⟨i,hi,hz'⟩:=Option.bind_eq_some_iff.1 hz
 refine V (w':=w.alloc (.cells z.cells t)) hg hd (v:=.pointer (some ⟨w.heap.size,0,none⟩)) (fun a ha=>?_) (h _ _ ?_)
 ·simp [execOp,ho,Instr.alloc,zeroValue,typeInfo,hi,hz',newVar,newRow]
 ·have:=H.alloc z.cells.toList t
  simpa using this
def It (place:Nat→Option (Nat×Nat)):List Value→List (Nat×Value)→Option (List Value)
 |cs,[]=>some cs
 |cs,(i,v)::rest=>
  match place i with
  |none=>none
  |some (off,size)=>match Nat.decEq v.cells.size size,Nat.decLe (off+size) cs.length with
   |.isTrue _,.isTrue _=>It place (EV cs off v.cells.toList) rest
   |_,_=>none
theorem PB:∀ (vs:List Value) (k off:Nat) (A:Array Value),((vs.zipIdx k).foldl (fun cs (p:Value×Nat)=>cs.setIfInBounds (off+p.2) p.1) A).toList=EV A.toList (off+k) vs
 |[],_,_,_=>rfl
 |v::vs,k,off,A=>by
  rw [List.zipIdx_cons,List.foldl_cons,PB vs (k+1) off]
  simp [EV,Nat.add_assoc]
theorem LW {place:Nat→Option (Nat×Nat)}:∀ {parts:List (Nat×Value)} {A:Array Value} {cs:List Value},It place A.toList parts=some cs→Instr.fill place A parts=some cs.toArray
 |[],A,cs,h=>by
  have:A.toList=cs:=by simpa [It] using h
  subst this
  simp [Instr.fill]
 |(i,v)::rest,A,cs,h=>by
  simp only [It] at h
  simp only [Instr.fill]
  split at h
  ·cases h
  ·rename_i off size hp
   simp only [hp]
   split at h
   ·rename_i e1 _ e2 _
    have e3:A.toList.length=A.size:=Array.length_toList
    rw [if_neg (by simp at e2 ⊢;omega)]
    refine LW ?_
    have:=PB v.cells.toList 0 off A
    rw [Nat.add_zero] at this
    rw [←h,←this]
    congr 2
    rw [←Array.foldl_toList]
    simp
   ·cases h
theorem fJ {z:List Value} {sz:Nat} (hz:z.length=sz) (hp:0<sz) (c:Nat):(List.range (c*sz)).map (fun j=>z[j%z.length]!)=(List.replicate c ()).flatMap fun _=>z:=by
 have hfl:∀ c,((List.replicate c ()).flatMap fun _=>z).length=c*sz:=by
  intro c
  induction c with
  |zero=>simp
  |succ c ih=>rw [List.replicate_succ,List.flatMap_cons,List.length_append,ih,hz,Nat.succ_mul,Nat.add_comm]
 have hd:∀ c i,((List.replicate c ()).flatMap fun _=>z).drop (i*sz)=(List.replicate (c - i) ()).flatMap fun _=>z:=by
  intro c i
  induction i generalizing c with
  |zero=>simp
  |succ i ih=>
   cases c with
   |zero=>simp
   |succ c=>
    rw [List.replicate_succ,List.flatMap_cons,Nat.succ_mul,Nat.add_comm (i*sz),←hz,List.drop_length_add_append,hz,ih]
    congr 2
    omega
 apply List.ext_getElem
 ·rw [hfl];simp
 ·intro j h1 h2
  simp only [List.getElem_map,List.getElem_range]
  simp at h1
  have hdj:j=j / sz*sz+j%sz:=by rw [Nat.mul_comm];exact (Nat.div_add_mod j sz).symm
  have hjd:j / sz<c:=Nat.div_lt_of_lt_mul (by rw [Nat.mul_comm];exact h1)
  have hjm:j%sz<sz:=Nat.mod_lt _ hp
  have h4:(((List.replicate c ()).flatMap fun _=>z).drop (j / sz*sz))[j%sz]?=z[j%sz]?:=by
   obtain ⟨r,hr⟩:∃ r,c - j / sz=r+1:=⟨c - j / sz - 1,by omega⟩
   rw [hd,hr,List.replicate_succ,List.flatMap_cons,List.getElem?_append_left (by omega)]
  rw [List.getElem?_drop,←hdj,List.getElem?_eq_getElem h2,List.getElem?_eq_getElem (by omega)] at h4
  rw [hz,getElem!_pos z _ (by omega)]
  exact (Option.some.inj h4).symm
def Ed (P:Program) (t:TypeId):Option (Array Value×Array (Nat×Nat)):=
 match P.underlying t with
 |some (.struct fs)=>match Dp P t,fs.mapM fun f=>(P.info? f.type).map fun i=>(f.offset,i.size) with
  |some z,some ps=>some (z.cells,ps)
  |_,_=>none
 |_=>none
theorem bF (w:World):∀ (fs:List Field) (ps:List (Nat×Nat)),(fs.mapM fun f=>(P.info? f.type).map fun i=>(f.offset,i.size))=some ps→(fs.mapM fun f=>(do pure (f.offset,←sizeOf f.type):Sem (Nat×Nat))).run P w=.ok ps w:=by
 intro fs
 induction fs with
 |nil=>intro ps h;simp at h;subst h;rfl
 |cons f fs ih=>
  intro ps h
  simp only [List.mapM_cons,Option.bind_eq_bind,Option.bind_eq_some_iff,Option.pure_def,Option.some.injEq] at h
  obtain ⟨p,hp,qs,hq,rfl⟩:=h
  obtain ⟨i,hi,rfl⟩:=Option.map_eq_some_iff.1 hp
  simp [List.mapM_cons,sizeOf,typeInfo,hi] at ih ⊢
  simp [ih qs hq]
theorem Di {parts:List (Nat×Operand)} {vs:List Value} {z:Array Value} {ps:Array (Nat×Nat)} {cs:List Value} (ho:o.op=.build t parts.toArray) (hb:Ed P t=some (z,ps)) (hx:(parts.map fun p=>ev l p.2)=vs.map some)
  (hf:It (ps[·]?) z.toList ((parts.map (·.1)).zip vs)=some cs):BL P n l w o (.agg cs.toArray) w:=by
 replace hf:=LW hf
 unfold Ed at hb
 split at hb
 ·rename_i fs hu
  split at hb
  ·rename_i z' ps' hz hp
   simp only [Option.some.injEq,Prod.mk.injEq] at hb
   obtain ⟨rfl,rfl⟩:=hb
   obtain ⟨i,hi,hz'⟩:=Option.bind_eq_some_iff.1 hz
   intro a ha
   have hx':∀ (ps:List (Nat×Operand)) (vs:List Value),(ps.map fun p=>ev l p.2)=vs.map some→(ps.map fun p=>(p.1,a.eval p.2))=(ps.map (·.1)).zip vs:=by
    intro ps
    induction ps with
    |nil=>intro vs h;cases vs<;>simp_all
    |cons p ps ih=>
     intro vs h
     cases vs with
     |nil=>simp at h
     |cons v vs=>
      simp only [List.map_cons,List.cons.injEq,List.zip_cons_cons] at h ⊢
      exact ⟨by rw [ha.eval h.1],ih vs h.2⟩
   have hm:(fs.mapM fun f=>(do pure (f.offset,←sizeOf f.type):Sem (Nat×Nat))).run P w=.ok ps' w:=by
    have h1:fs.toList.mapM (fun f=>(P.info? f.type).map fun i=>(f.offset,i.size))=some ps'.toList:=by
     have:=congrArg (Option.map Array.toList) hp
     rw [Array.mapM_eq_mapM_toList] at hp
     cases h:fs.toList.mapM (fun f=>(P.info? f.type).map fun i=>(f.offset,i.size)) with
     |none=>simp [h] at hp
     |some q=>simp [h] at hp;simp [←hp]
    rw [Array.mapM_eq_mapM_toList]
    have h2:=bF (P:=P) w fs.toList ps'.toList h1
    simp only [Sem.run_map,h2,Result.andThen_ok]
   have hx2:=hx' parts vs hx
   have hm2:(parts.toArray.map fun (x:Nat×Operand)=>match x with |(i,x)=>(i,a.eval x)).toList=(parts.map (·.1)).zip vs:=by
    rw [←hx2]
    simp
   unfold execOp
   simp only [ho,Instr.build,Sem.run_bind,zeroValue,typeInfo,run_program,hi,hz',run_underlying hu,hm,Sem.run_pure,Result.andThen_ok,hm2,hf]
  ·simp at hb
 ·simp at hb
theorem Cb {parts:List (Nat×Operand)} {vs:List Value} {m e size bytes:Nat} {z:Value} {cs:List Value} (hg:gd ops l o=some true) (hd:C0 n o.dst=true) (ho:o.op=.buildSlice t m parts.toArray)
  (hs:Dn P t=some (e,size,bytes)) (hz:Dp P e=some z) (hzs:z.cells.toList.length=size) (h0:m*size≠0) (h1:¬ m*size>2^24) (hx:(parts.map fun p=>ev l p.2)=vs.map some)
  (hf:It (fun i=>some (i*size,size)) ((List.replicate m ()).flatMap fun _=>z.cells.toList) ((parts.map (·.1)).zip vs)=some cs) (H:Hd w0 F0 w As Rs)
  (h:∀ b w',Hd w0 F0 w' (blk b cs e::As) Rs→WL P ops Q rest n (CH l o.dst (.slice (some ⟨b,0,none⟩) m m)) w'):WL P ops Q (o::rest) n l w:=by
 obtain ⟨hu,inf,hi,hsz,_⟩:=FE hs
 obtain ⟨i,hi',hz'⟩:=Option.bind_eq_some_iff.1 hz
 rw [hi] at hi'
 cases hi'
 have hpos:0<size:=by
  rcases Nat.eq_zero_or_pos size with h|h
  ·rw [h] at h0;simp at h0
  ·exact h
 have hz2:((Array.range (m*size)).map (z.cells[·%z.cells.size]!)).toList=(List.replicate m ()).flatMap fun _=>z.cells.toList:=by
  rw [←fJ hzs hpos m]
  simp
  intro a _
  rw [getElem!_def]
  cases z.cells[a%z.cells.size]?<;>rfl
 rw [←hz2] at hf
 replace hf:=LW hf
 refine V (w':=w.alloc (.cells cs.toArray e)) hg hd (v:=.slice (some ⟨w.heap.size,0,none⟩) m m) (fun a ha=>?_) (h _ _ ?_)
 ·have hx':∀ (ps:List (Nat×Operand)) (vs:List Value),(ps.map fun p=>ev l p.2)=vs.map some→(ps.map fun p=>(p.1,a.eval p.2))=(ps.map (·.1)).zip vs:=by
   intro ps
   induction ps with
   |nil=>intro vs h;cases vs<;>simp_all
   |cons p ps ih=>
    intro vs h
    cases vs with
    |nil=>simp at h
    |cons v vs=>
     simp only [List.map_cons,List.cons.injEq,List.zip_cons_cons] at h ⊢
     exact ⟨by rw [ha.eval h.1],ih vs h.2⟩
  have hm2:(parts.toArray.map fun (x:Nat×Operand)=>match x with |(i,x)=>(i,a.eval x)).toList=(parts.map (·.1)).zip vs:=by
   rw [←hx' parts vs hx]
   simp
  unfold execOp
  simp only [ho,Instr.buildSlice,Sem.run_bind,run_underlying hu,sizeOf,zeroValue,typeInfo,run_program,hi,hz',hsz,if_neg h1,if_neg h0,Sem.run_pure,Result.andThen_ok,hm2,hf,newRow,run_newObj]
  simp
 ·exact H.alloc cs e
end
section
variable {P:Program} {w:World} {F:AU}
theorem Nn {t tx ty e size bytes:Nat} {dx:TypeDesc} {z:Value} {A:Option Addr} {n c m:Nat} {cs news:List Value} {x:Value} (hs:Dn P t=some (e,size,bytes)) (hz:Dp P e=some z) (hzs:z.cells.size=size)
  (htx:P.underlying tx=some dx) (hni:(∃ q,dx=.slice q)∨dx=.string) (h:FI w F size A n c cs) (hF:∀ k,F k→k<w.heap.size)
  (hlen:(Builtin.lenOf x).run P w=.ok m w) (hfc:∀ w':World,w'.heap=w.heap→(Builtin.firstCells size m x).run P w'=.ok news.toArray w') (hnl:news.length=m*size) (h1:∀ u∈news,u.oneCell'=true)
  (hb0:0<bytes) (hb:(n+m)*bytes≤140737488355328):
  ∃ A' c' w' F',(Builtin.append_ #[t,tx] ty #[.slice A n c,x]).run P w=.ok (.slice A' (n+m) c') w'∧FI w' F' size A' (n+m) c' (cs++news)∧Cv F w w'∧(∀ k,F' k→k<w'.heap.size∧(F k∨w.heap.size≤k)):=by
 obtain ⟨hu,i,hi,rfl,rfl⟩:=FE hs
 obtain ⟨i',hi',hz'⟩:=Option.bind_eq_some_iff.1 hz
 rw [hi] at hi'
 cases hi'
 obtain ⟨hnc,hcm,hcl,hrow⟩:=h
 have hsmall:n+m≤140737488355328:=Nat.le_trans (Nat.le_mul_of_pos_right _ hb0) hb
 by_cases hroom:n+m≤c
 ·rcases hrow with ⟨hc0,hp⟩|⟨b,C,bt,hA,hFb,hh,hCs,htake⟩
  ·obtain rfl:n=0:=by omega
   obtain rfl:m=0:=by omega
   obtain rfl:cs=[]:=List.eq_nil_of_length_eq_zero (by simpa using hcl)
   obtain rfl:news=[]:=List.eq_nil_of_length_eq_zero (by simpa using hnl)
   refine ⟨A,c,w,F,?_,⟨hnc,hcm,by simp,.inl ⟨hc0,hp⟩⟩,Cv.refl _ _,fun k hk=>⟨hF k hk,.inl hk⟩⟩
   rcases hni with ⟨q,rfl⟩|rfl<;>cases A<;>simp [Builtin.append_,run_underlying hu,run_underlying htx,sizeOf,typeInfo,hi,hlen,hfc w rfl,hc0,storeCells]
  ·have hfit:n*i.size+news.length≤C.size:=by rw [hnl,hCs,←Nat.add_mul];exact Nat.mul_le_mul_right _ hroom
   have hst:=run_storeCells_at P b (n*i.size) bt news 0 C w hh (by simpa using hfit) h1
   simp only [Nat.add_zero] at hst
   refine ⟨A,c,w.setRow b (C.toList.take (n*i.size)++news++C.toList.drop (n*i.size+news.length)).toArray,F,?_,⟨hroom,hcm,by simp [hcl,hnl,Nat.add_mul],.inr ⟨b,_,bt,hA,hFb,setRow_heap w b C _ bt _ hh,?_,?_⟩⟩,⟨rfl,rfl,rfl,by simp,fun k _ hk=>setRow_other w b k _ (fun e=>hk (e▸hFb))⟩,fun k hk=>⟨by simpa using hF k hk,.inl hk⟩⟩
   ·subst hA
    rcases hni with ⟨q,rfl⟩|rfl<;>simp [Builtin.append_,run_underlying hu,run_underlying htx,sizeOf,typeInfo,hi,hlen,hfc w rfl,hroom,EE,hst]
   ·simp only [List.size_toArray,List.length_append,List.length_take,List.length_drop,Array.length_toList]
    omega
   ·rw [htake]
    have:(cs++news).length=(n+m)*i.size:=by simp [hcl,hnl,Nat.add_mul]
    rw [←this]
    exact List.take_left
 ·have hbz:i.bytes≠0:=by omega
  have hold:∀ w':World,w'.heap=w.heap→(Builtin.firstCells i.size n (.slice A n c)).run P w'=.ok cs.toArray w':=by
   intro w' hw'
   rcases hrow with ⟨hc0,hp⟩|⟨b,C,bt,hA,hFb,hh,hCs,htake⟩
   ·obtain rfl:n=0:=by omega
    obtain rfl:cs=[]:=List.eq_nil_of_length_eq_zero (by simpa using hcl)
    cases A<;>simp [Builtin.firstCells,loadCells,loadCellsFrom]
   ·subst hA
    refine run_firstCells_some w' i.size n ⟨b,0,none⟩ n c cs hcl (fun j v hv=>?_)
    have hR:E4 w F (some ⟨b,0,none⟩) cs:=FI.toR (c:=c) ⟨hnc,hcm,hcl,.inr ⟨b,C,bt,rfl,hFb,hh,hCs,htake⟩⟩
    obtain ⟨b',off',e',hcell⟩:=hR.cell hv
    cases e'
    have:w'.cell? ⟨b,0+j,none⟩=w.cell? ⟨b,0+j,none⟩:=by simp [World.cell?,hw']
    rw [EE,this]
    exact hcell
  have hbig:¬ (9223372036854775807<((n+m:Nat):Int)):=by omega
  have hfit:¬ 281474976710656<Builtin.nextslicecap (n+m) c*i.bytes:=by
   have:=growslice_fits (need:=n+m) (old:=c) (bytes:=i.bytes) (by omega) hb
   omega
  have hge:=grownCap_ge w (n+m) c e
  have hle:grownCap w (n+m) c e≤9223372036854775807:=by
   have:=grownCap_le_maxLen w (n+m) c e (by simp only [maxLen];omega)
   simpa [maxLen] using this
  refine ⟨some ⟨w.heap.size,0,none⟩,grownCap w (n+m) c e,w.drew.alloc (.cells (cs.toArray++news.toArray++Builtin.zeroCells z.cells (grownCap w (n+m) c e - (n+m))) e),fun k=>k=w.heap.size,?_,⟨hge,hle,by simp [hcl,hnl,Nat.add_mul],.inr ⟨w.heap.size,_,e,rfl,rfl,heap_alloc_new w.drew _,?_,?_⟩⟩,?_,?_⟩
  ·rcases hni with ⟨q,rfl⟩|rfl<;>simp [Builtin.append_,run_underlying hu,run_underlying htx,sizeOf,zeroValue,typeInfo,hi,hz',hlen,hfc w.drew rfl,hold w.drew rfl,hroom,hbz,hfit,newRow,grownCap,Question.forced]<;>(rw [←Array.append_assoc];simp)
  ·simp only [Array.size_append,List.size_toArray,size_zeroCells,hzs,hcl,hnl,←Nat.add_mul]
   congr 1
   omega
  ·simp only [Array.toList_append]
   have:(cs++news).length=(n+m)*i.size:=by simp [hcl,hnl,Nat.add_mul]
   rw [←this]
   exact List.take_left
  ·exact (Cv.alloc F w.drew _).trans (Cv.refl F _) (fun _ _ x=>x)|>fun u=>⟨u.os,u.tape,u.output,u.size,u.block⟩
  ·intro k hk
   subst hk
   simp
end
section
variable {P:Program} {ops:Array Oper} {Q:Exit→Act→World→Prop} {rest:List Oper} {n:Nat} {l:BQ} {w0 w:World} {F0:AU} {o:Oper} {v:Value} {As Rs:List SP} {x y:Operand} {t:TypeId}
theorem LY {size m c:Nat} {B:Option Addr} {news:List Value} {F:AU} (h:E4 w F B news) (hnl:news.length=m*size) (hm:B=none→m=0):
  ∀ w':World,w'.heap=w.heap→(Builtin.firstCells size m (.slice B m c)).run P w'=.ok news.toArray w':=by
 intro w' hw'
 cases B with
 |none=>
  obtain rfl:=hm rfl
  obtain rfl:news=[]:=List.eq_nil_of_length_eq_zero (by simpa using hnl)
  simp [Builtin.firstCells]
 |some a=>
  refine run_firstCells_some w' size m a m c news hnl (fun j v hv=>?_)
  obtain ⟨b,off,e,hc⟩:=h.cell hv
  cases e
  have:w'.cell? ⟨b,off+j,none⟩=w.cell? ⟨b,off+j,none⟩:=by simp [World.cell?,hw']
  rw [EE,this]
  exact hc
theorem CA {α:Type} {enc:α→List Value} {sz:Nat} {hp:0<sz} {hl:∀ x,(enc x).length=sz} {h1:∀ x,∀ c∈enc x,c.oneCell'=true} {e bytes:Nat} {z u:Value} {xs ys:List α} {B:Option Addr} {m c2:Nat}
  (hg:gd ops l o=some true) (hd:C0 n o.dst=true) (ho:o.op=.call { callee:=.builtin .append,args:=#[x,y],argTypes:=#[t,t] }) (hs:Dn P t=some (e,sz,bytes)) (hz:Dp P e=some z) (hzs:z.cells.size=sz) (hb0:0<bytes)
  (hx:ev l x=some u) (hy:ev l y=some (.slice B m c2)) (H:Hd w0 F0 w (Y (flat enc sz hp hl h1) u xs::As) Rs) (hb:(xs.length+m)*bytes≤140737488355328)
  (hn:∀ F,(∀ A∈As,A.P w F)→(∀ R∈Rs,R.P w F)→(Ae (flat enc sz hp hl h1) (.slice B m c2) ys).P w F)
  (h:∀ u' w',Hd w0 F0 w' (Y (flat enc sz hp hl h1) u' (xs++ys)::As) Rs→WL P ops Q rest n (CH l o.dst u') w'):WL P ops Q (o::rest) n l w:=by
 obtain ⟨F,hF1,hF2⟩:∃ F,(∀ A∈As,A.P w F)∧(∀ R∈Rs,R.P w F):=H.read fun F a r=>⟨F,fun A hA=>a A (List.mem_cons_of_mem _ hA),r⟩
 obtain ⟨hyl,_,_,news,hnr,hnR⟩:Nu (flat enc sz hp hl h1) w F ys B m c2:=by
  obtain ⟨A',n',c',e',h'⟩:=hn F hF1 hF2
  cases e'
  exact h'
 have hnl:news.length=m*sz:=by rw [hnR.len,hyl];rfl
 have hm0:B=none→m=0:=by
  intro hB
  rcases hnr.2 with rfl|⟨b,off,C,t',fr,e',_⟩
  ·have:m*sz=0:=by rw [←hnl];rfl
   exact (Nat.mul_eq_zero.1 this).resolve_right (by omega)
  ·rw [hB] at e';cases e'
 obtain ⟨hu,i,hi,hi1,hi2⟩:=FE hs
 have hfc:=LY (P:=P) (c:=c2) hnr hnl hm0
 have key:∀ F1,(Y (flat enc sz hp hl h1) u xs).P w F1→(∀ k,F1 k→k<w.heap.size)→∃ A c A' c' w' F',u=.slice A xs.length c∧(Builtin.append_ #[t,t] o.type #[u,.slice B m c2]).run P w=.ok (.slice A' (xs.length+m) c') w'∧(Y (flat enc sz hp hl h1) (.slice A' (xs.length+m) c') (xs++ys)).P w' F'∧Cv F1 w w'∧(∀ k,F' k→k<w'.heap.size∧(F1 k∨w.heap.size≤k)):=by
  rintro F1 ⟨A,n',c,e',hxl,cs,G1,G2,g1,g2,gd,hr,hR⟩ hlt
  cases e'
  subst hxl
  obtain ⟨A',c',w',F',hrun,hrow,hupd,hF'⟩:=Nn (P:=P) (tx:=t) (ty:=o.type) (x:=.slice B m c2) (m:=m) (news:=news) hs hz hzs hu (.inl ⟨e,rfl⟩) hr (fun k hk=>hlt k (g1 k hk)) (by simp [Builtin.lenOf]) hfc hnl hnR.one hb0 hb
  refine ⟨A,c,A',c',w',F',rfl,hrun,?_,⟨hupd.os,hupd.tape,hupd.output,hupd.size,fun k hk hn'=>hupd.block k hk (fun q=>hn' (g1 k q))⟩,fun k hk=>⟨(hF' k hk).1,(hF' k hk).2.imp (g1 k) id⟩⟩
  exact ⟨A',_,c',rfl,by simp [hyl],cs++news,F',none_,fun _ q=>q,fun _ q=>q.elim,fun _ _ q=>q,hrow,CI.flatR (F:=none_) (Bc.flat_eq.2 (by rw [Bc.flat_eq.1 hR.toR,Bc.flat_eq.1 hnR];simp))⟩
 have hall:∃ F1,(Y (flat enc sz hp hl h1) u xs).P w F1∧∀ k,F1 k→k<w.heap.size:=by
  obtain ⟨F,G,⟨F1,F2,a1,a2,a3,a,s⟩,r,d,f,g,u⟩:=H
  exact ⟨F1,a,fun k hk=>(f k (a1 k hk)).1⟩
 obtain ⟨F1,hO,hlt⟩:=hall
 obtain ⟨A,c,A',c',w',F',hue,hrun,_,_,_⟩:=key F1 hO hlt
 refine V hg hd (v:=.slice A' (xs.length+m) c') (w':=w') (fun a ha=>?_) (h _ _ (H.grow fun F2 hO2 hlt2=>?_))
 ·simp [execOp,ho,resolve,ha.eval hx,ha.eval hy,invoke,builtin,hrun]
 ·obtain ⟨A3,c3,A4,c4,w4,F4,_,hrun4,h4,h5,h6⟩:=key F2 hO2 hlt2
  rw [hrun] at hrun4
  cases hrun4
  exact ⟨F4,h4,h5,h6⟩
theorem bO {α:Type} {d:Kd α} {E:SP} {e bytes:Nat} {z u:Value} {xs ys:List α} {B:Option Addr} {m c2:Nat}
  (hg:gd ops l o=some true) (hd:C0 n o.dst=true) (ho:o.op=.call { callee:=.builtin .append,args:=#[x,y],argTypes:=#[t,t] }) (hs:Dn P t=some (e,d.sz,bytes)) (hz:Dp P e=some z) (hzs:z.cells.size=d.sz) (hb0:0<bytes)
  (hx:ev l x=some u) (hy:ev l y=some (.slice B m c2)) (H:Hd w0 F0 w (Y d u xs::E::As) Rs) (hb:(xs.length+m)*bytes≤140737488355328)
  (hyl:ys.length=m) (hE:∀ F,E.P w F→∃ news,E4 w F B news∧CI d w F ys news)
  (h:∀ u' w',Hd w0 F0 w' (Y d u' (xs++ys)::As) Rs→WL P ops Q rest n (CH l o.dst u') w'):WL P ops Q (o::rest) n l w:=by
 have H2:Hd w0 F0 w (BV [Y d u xs,E]::As) Rs:=H.shut (Bs:=[Y d u xs,E]) (fun F hF=>hF)
 obtain ⟨hu,i,hi,hi1,hi2⟩:=FE hs
 have hpos:=d.pos
 have key:∀ F1,(BV [Y d u xs,E]).P w F1→(∀ k,F1 k→k<w.heap.size)→∃ A' c' w' F',(Builtin.append_ #[t,t] o.type #[u,.slice B m c2]).run P w=.ok (.slice A' (xs.length+m) c') w'∧(Y d (.slice A' (xs.length+m) c') (xs++ys)).P w' F'∧Cv F1 w w'∧(∀ k,F' k→k<w'.heap.size∧(F1 k∨w.heap.size≤k)):=by
  rintro F1 ⟨K1,K2,k1,k2,kd,⟨A,n',c,e',hxl,cs,G1,G2,g1,g2,gd,hr,hR⟩,K3,K4,k3,k4,kd',hEP,_⟩ hlt
  cases e'
  subst hxl
  obtain ⟨news,hnr,hnO⟩:=hE K3 hEP
  have hnl:news.length=m*d.sz:=by rw [hnO.toR.len,hyl]
  have hm0:B=none→m=0:=by
   intro hB
   rcases hnr.2 with rfl|⟨b,off,C,t',fr,e',_⟩
   ·have:m*d.sz=0:=by rw [←hnl];rfl
    exact (Nat.mul_eq_zero.1 this).resolve_right (by omega)
   ·rw [hB] at e';cases e'
  have hfc:=LY (P:=P) (c:=c2) hnr hnl hm0
  obtain ⟨A',c',w',F',hrun,hrow,hupd,hF'⟩:=Nn (P:=P) (tx:=t) (ty:=o.type) (x:=.slice B m c2) (m:=m) (news:=news) hs hz hzs hu (.inl ⟨e,rfl⟩) hr (fun k hk=>hlt k (k1 k (g1 k hk))) (by simp [Builtin.lenOf]) hfc hnl hnO.toR.one hb0 hb
  have hsz:=hupd.size
  refine ⟨A',c',w',fun k=>F' k∨G2 k∨K3 k,hrun,?_,⟨hupd.os,hupd.tape,hupd.output,hupd.size,fun k hk hn'=>hupd.block k hk (fun q=>hn' (k1 k (g1 k q)))⟩,?_⟩
  ·refine ⟨A',_,c',rfl,by simp [hyl],cs++news,F',fun k=>G2 k∨K3 k,fun _=>.inl,fun _=>.inr,?_,hrow,CI.append (F1:=G2) (F2:=K3) (fun _=>.inl) (fun _=>.inr) ?_ (hR.loc ?_) (hnO.loc ?_)⟩
   ·intro k hk hq
    have hold:k<w.heap.size:=hq.elim (fun q=>hlt k (k1 k (g2 k q))) (fun q=>hlt k (k2 k (k3 k q)))
    rcases (hF' k hk).2 with hg|hg
    ·exact hq.elim (gd k hg) (fun q=>kd k (g1 k hg) (k3 k q))
    ·omega
   ·exact fun k a b=>kd k (g2 k a) (k3 k b)
   ·exact fun k hk=>hupd.block k (hlt k (k1 k (g2 k hk))) (fun q=>gd k q hk)
   ·exact fun k hk=>hupd.block k (hlt k (k2 k (k3 k hk))) (fun q=>kd k (g1 k q) (k3 k hk))
  ·intro k hk
   rcases hk with hk|hk|hk
   ·exact ⟨(hF' k hk).1,(hF' k hk).2.imp (fun q=>k1 k (g1 k q)) id⟩
   ·exact ⟨Nat.lt_of_lt_of_le (hlt k (k1 k (g2 k hk))) hsz,.inl (k1 k (g2 k hk))⟩
   ·exact ⟨Nat.lt_of_lt_of_le (hlt k (k2 k (k3 k hk))) hsz,.inl (k2 k (k3 k hk))⟩
 have hall:∃ F1,(BV [Y d u xs,E]).P w F1∧∀ k,F1 k→k<w.heap.size:=by
  obtain ⟨F,G,⟨F1,F2,a1,a2,a3,a,s⟩,r,d,f,g,u⟩:=H2
  exact ⟨F1,a,fun k hk=>(f k (a1 k hk)).1⟩
 obtain ⟨F1,hO,hlt⟩:=hall
 obtain ⟨A',c',w',F',hrun,_,_,_⟩:=key F1 hO hlt
 refine V hg hd (v:=.slice A' (xs.length+m) c') (w':=w') (fun a ha=>?_) (h _ _ (H2.grow fun F2 hO2 hlt2=>?_))
 ·simp [execOp,ho,resolve,ha.eval hx,ha.eval hy,invoke,builtin,hrun]
 ·obtain ⟨A4,c4,w4,F4,hrun4,h4,h5,h6⟩:=key F2 hO2 hlt2
  rw [hrun] at hrun4
  cases hrun4
  exact ⟨F4,h4,h5,h6⟩
theorem Cy {α:Type} {d:Kd α} {b:Nat} {cs:List Value} {e:TypeId} {xs:List α} {F:AU} {m:Nat} (h:(blk b cs e).P w F) (hx:xs.length=m) (hm:m≤9223372036854775807) (hr:Bc d w F xs cs):(Ae d (.slice (some ⟨b,0,none⟩) m m) xs).P w F:=by
 refine ⟨_,_,_,rfl,hx,Nat.le_refl _,hm,cs,⟨trivial,.inr ⟨b,0,_,_,_,rfl,h.1,h.2,by simp⟩⟩,hr⟩
theorem Il {α:Type} {enc:α→List Value} {sz:Nat} {hp:0<sz} {hl:∀ x,(enc x).length=sz} {h1:∀ x,∀ c∈enc x,c.oneCell'=true} {b:Nat} {cs:List Value} {e:TypeId} {xs:List α} {F:AU} {m:Nat} (h:(blk b cs e).P w F) (hx:xs.length=m) (hm:m≤9223372036854775807)
  (hr:cs=xs.flatMap enc):(Y (flat enc sz hp hl h1) (.slice (some ⟨b,0,none⟩) m m) xs).P w F:=by
 have hlen:cs.length=m*sz:=by
  have:=(Bc.flat_eq (enc:=enc) (hp:=hp) (hl:=hl) (h1:=h1) (w:=w) (F:=F)).2 hr
  rw [this.len,hx]
  rfl
 refine ⟨_,_,_,rfl,hx,cs,F,none_,fun _ q=>q,fun _ q=>q.elim,fun _ _ q=>q,⟨Nat.le_refl _,hm,hlen,.inr ⟨b,_,_,rfl,h.1,h.2,by simp [hlen];rfl,by show cs.take (m*sz)=cs;rw [←hlen];exact List.take_length⟩⟩,CI.flatR (F:=none_) (Bc.flat_eq.2 hr)⟩
theorem MU {α:Type} (d:Kd α) (w:World) (F:AU) {A:Option Addr} (hA:Plain A):(Y d (.slice A 0 0) ([]:List α)).P w F:=
 ⟨A,0,0,rfl,rfl,[],none_,none_,fun _ q=>q.elim,fun _ q=>q.elim,fun _ q=>q.elim,⟨Nat.le_refl _,by omega,by simp,.inl ⟨rfl,hA⟩⟩,rfl⟩
theorem IR {α:Type} (d:Kd α) (w:World) (F:AU) {A:Option Addr} {c:Nat} (hA:Plain A) (hc:c≤9223372036854775807):(Ae d (.slice A 0 c) ([]:List α)).P w F:=
 ⟨A,0,c,rfl,rfl,Nat.zero_le _,hc,[],⟨hA,.inl rfl⟩,rfl⟩
theorem Hd.newnil {α:Type} (d:Kd α) (H:Hd w0 F0 w As Rs):Hd w0 F0 w (Y d (.slice none 0 0) []::As) Rs:=
 H.new (Cv.refl _ _) (F':=none_) (MU d w none_ trivial) (fun _ q=>q.elim)
end
theorem AI {x:Int} (h0: -9223372036854775808≤x) (h1:x≤9223372036854775807):IntKind.i64.wrap x=x:=by
 simp only [IntKind.wrap,IntKind.bits,IntKind.signed]
 simp
 omega
theorem F8 {x:Int} (h0:0≤x) (h1:x≤18446744073709551615):IntKind.u64.wrap x=x:=by
 simp only [IntKind.wrap,IntKind.bits,IntKind.signed]
 simp
 omega
def Ep:Option Addr→Nat
 |some a=>a.block
 |none=>0
def A_:Option Addr→Nat
 |some a=>a.off
 |none=>0
def FK (A:Option Addr):Prop:=A=some ⟨Ep A,A_ A,none⟩
theorem dK {A:Option Addr} {b off:Nat} (h:A=some ⟨b,off,none⟩):FK A:=by subst h;rfl
section
variable {P:Program} {n:Nat} {l:BQ} {w0 w:World} {F0:AU} {o:Oper} {v u:Value} {x y:Operand} {t:TypeId} {As Rs:List SP}
theorem Hd.cellI {b:Nat} {cs:List Value} {bt:TypeId} (H:Hd w0 F0 w As Rs) (i:Nat) (hi:As[i]?=some (blk b cs bt)) {j:Nat} (hv:cs[j]?=some v):w.cell? ⟨b,j,none⟩=some v:=H.cell (List.mem_of_getElem? hi) hv
theorem Hd.cellRI {b:Nat} {cs:List Value} {bt:TypeId} (H:Hd w0 F0 w As Rs) (i:Nat) (hi:Rs[i]?=some (blk b cs bt)) {j:Nat} (hv:cs[j]?=some v):w.cell? ⟨b,j,none⟩=some v:=H.cellR (List.mem_of_getElem? hi) hv
theorem Hd.cellsI {b:Nat} {cs ds:List Value} {bt:TypeId} (H:Hd w0 F0 w As Rs) (i:Nat) (hi:As[i]?=some (blk b cs bt)) {off:Nat} (hv:(cs.drop off).take ds.length=ds):∀ j v,ds[j]?=some v→w.cell? ((⟨b,off,none⟩:Addr).add j)=some v:=by
 intro j v hj
 rw [EE]
 refine H.cellI i hi ?_
 rw [←hv,List.getElem?_take] at hj
 split at hj
 ·rwa [List.getElem?_drop] at hj
 ·cases hj
theorem Hd.cellsRI {b:Nat} {cs ds:List Value} {bt:TypeId} (H:Hd w0 F0 w As Rs) (i:Nat) (hi:Rs[i]?=some (blk b cs bt)) {off:Nat} (hv:(cs.drop off).take ds.length=ds):∀ j v,ds[j]?=some v→w.cell? ((⟨b,off,none⟩:Addr).add j)=some v:=by
 intro j v hj
 rw [EE]
 refine H.cellRI i hi ?_
 rw [←hv,List.getElem?_take] at hj
 split at hj
 ·rwa [List.getElem?_drop] at hj
 ·cases hj
theorem Bi {tt e size bytes:TypeId} {A:Option Addr} {m c:Nat} {k:IntKind} {i:Int} {p:Nat} (ho:o.op=.indexAddr tt x y) (hs:Dn P tt=some (e,size,bytes)) (hx:ev l x=some (.slice A m c)) (hy:ev l y=some (.int k i))
  (h0:0≤i) (h1:i<(m:Int)) (hA:FK A) (hp:A_ A+i.toNat*size=p):BL P n l w o (.pointer (some ⟨Ep A,p,none⟩)) w:=by
 exact ZE (b:=Ep A) (off:=A_ A) (c:=c) ho hs (hx.trans (congrArg (fun q=>some (Value.slice q m c)) hA)) hy h0 h1 hp
variable {α:Type} {enc:α→List Value} {sz:Nat} {hp:0<sz} {hl:∀ x,(enc x).length=sz} {h1:∀ x,∀ c∈enc x,c.oneCell'=true} {xs:List α} {A:Option Addr} {m c:Nat}
theorem L0 {F:AU} (h:(Ae (flat enc sz hp hl h1) (.slice A m c) xs).P w F) {i:Nat} {x:α} (hx:xs[i]?=some x) {j p:Nat} {u:Value} (hu:(enc x)[j]?=some u) (hpj:A_ A+i*sz+j=p):w.cell? ⟨Ep A,p,none⟩=some u:=by
 obtain ⟨b,off,e,hc⟩:=R5 h hx
 subst e
 subst hpj
 exact hc j u hu
theorem L2 {F:AU} (h:(Ae (flat enc sz hp hl h1) (.slice A m c) xs).P w F) {i:Nat} {x:α} (hx:xs[i]?=some x):FK A:=by
 obtain ⟨b,off,e,hc⟩:=R5 h hx
 exact dK e
theorem Hd.thR (H:Hd w0 F0 w As Rs) (j:Nat) (hj:Rs[j]?=some (Ae (flat enc sz hp hl h1) (.slice A m c) xs)) {i:Nat} {x:α} (hx:xs[i]?=some x):FK A:=H.factR (List.mem_of_getElem? hj) fun _ h=>L2 h hx
theorem Hd.thA (H:Hd w0 F0 w As Rs) (j:Nat) (hj:As[j]?=some (Y (flat enc sz hp hl h1) (.slice A m c) xs)) {i:Nat} {x:α} (hx:xs[i]?=some x):FK A:=H.fact (List.mem_of_getElem? hj) fun F h=>L2 (B3 F h) hx
theorem Hd.elR (H:Hd w0 F0 w As Rs) (j:Nat) (hj:Rs[j]?=some (Ae (flat enc sz hp hl h1) (.slice A m c) xs)) {i:Nat} {x:α} (hx:xs[i]?=some x) {q p:Nat} {u:Value} (hu:(enc x)[q]?=some u) (hpj:A_ A+i*sz+q=p):w.cell? ⟨Ep A,p,none⟩=some u:=
 H.factR (List.mem_of_getElem? hj) fun _ h=>L0 h hx hu hpj
theorem Hd.elA (H:Hd w0 F0 w As Rs) (j:Nat) (hj:As[j]?=some (Y (flat enc sz hp hl h1) (.slice A m c) xs)) {i:Nat} {x:α} (hx:xs[i]?=some x) {q p:Nat} {u:Value} (hu:(enc x)[q]?=some u) (hpj:A_ A+i*sz+q=p):w.cell? ⟨Ep A,p,none⟩=some u:=
 H.fact (List.mem_of_getElem? hj) fun F h=>L0 (B3 F h) hx hu hpj
theorem Hd.elsR (H:Hd w0 F0 w As Rs) (j:Nat) (hj:Rs[j]?=some (Ae (flat enc sz hp hl h1) (.slice A m c) xs)) {i:Nat} {x:α} (hx:xs[i]?=some x) {p:Nat} (hpj:A_ A+i*sz=p):∀ q v,(enc x)[q]?=some v→w.cell? ((⟨Ep A,p,none⟩:Addr).add q)=some v:=by
 intro q v hq
 rw [EE]
 exact H.elR j hj hx hq (by rw [hpj])
theorem Hd.elsA (H:Hd w0 F0 w As Rs) (j:Nat) (hj:As[j]?=some (Y (flat enc sz hp hl h1) (.slice A m c) xs)) {i:Nat} {x:α} (hx:xs[i]?=some x) {p:Nat} (hpj:A_ A+i*sz=p):∀ q v,(enc x)[q]?=some v→w.cell? ((⟨Ep A,p,none⟩:Addr).add q)=some v:=by
 intro q v hq
 rw [EE]
 exact H.elA j hj hx hq (by rw [hpj])
theorem Hd.keep:∀ (k:Nat) {As:List SP},Hd w0 F0 w As Rs→Hd w0 F0 w (As.take k) Rs
 |k,As,h=>by
  have:Hd w0 F0 w (As.take k++As.drop k) Rs:=by rwa [List.take_append_drop]
  obtain ⟨Fc,h1,h2⟩:=this.frame (Ss:=Rs) (fun S hS F _ hR=>hR S hS)
  have h3:=this
  obtain ⟨F,G,s,r,d,f,g,u⟩:=h3
  obtain ⟨F1,F2,a1,a2,a3,s1,s2⟩:=s.append_out
  exact ⟨F1,G,s1,r,fun k hk=>d k (a1 k hk),fun k hk=>f k (a1 k hk),g,u⟩
theorem Va {α:Type} (l:List α) (d:α):(List.range l.length).map (fun i=>l.getD i d)=l:=by
 apply List.ext_getElem?
 intro k
 rw [List.getElem?_map]
 rcases Nat.lt_or_ge k l.length with h|h
 ·rw [List.getElem?_range h,Option.map_some,List.getElem?_eq_getElem h]
  simp [h]
 ·rw [List.getElem?_eq_none (by simpa using h),List.getElem?_eq_none h]
  rfl
theorem Hd.sel {As:List SP} (n:Nat) (is js:List Nat) (hn:As.length=n) (h:(is++js).isPerm (List.range n)=true) (H:Hd w0 F0 w As Rs):Hd w0 F0 w (is.map fun i=>As.getD i (BT True)) Rs:=by
 subst hn
 have p1:=(List.isPerm_iff.1 h).map fun i=>As.getD i (BT True)
 rw [Va,List.map_append] at p1
 have h1:=(H.perm p1.symm).keep (is.map fun i=>As.getD i (BT True)).length
 rwa [List.take_left] at h1
theorem Hd.fR (H:Hd w0 F0 w As Rs) (j:Nat) {d:Kd α} (hj:Rs[j]?=some (Ae d v xs)):∃ A c,v=.slice A xs.length c∧xs.length≤c∧c≤9223372036854775807∧Plain A:=H.form (List.mem_of_getElem? hj)
theorem Hd.fA (H:Hd w0 F0 w As Rs) (j:Nat) {d:Kd α} (hj:As[j]?=some (Y d v xs)):∃ A c,v=.slice A xs.length c∧xs.length≤c∧c≤9223372036854775807∧Plain A:=H.formO (List.mem_of_getElem? hj)
theorem G5 {P:Program} {ops:Array Oper} {Q:Exit→Act→World→Prop} {rest:List Oper} {d:Nat} {b:Bool} (hc:lk l d=some (.bool b)) (ht:b=true→WL P ops Q rest n ((d,.bool true)::l) w) (hf:b=false→WL P ops Q rest n ((d,.bool false)::l) w):WL P ops Q rest n l w:=by
 have hc':lk l d=some (.bool (decide (b=true))):=by cases b<;>exact hc
 exact AR hc' ht (fun h=>hf (by simpa using h))
end
theorem sc {P:Program} {ops:Array Oper} {Q:Exit→Act→World→Prop} {rest:List Oper} {n:Nat} {l:BQ} {w0 w:World} {F0:AU} {o:Oper} {As Rs Cs Ss:List SP} {f:FuncId} {args:List Value} {T:Value→List SP→Prop}
  (hc:Cn P f args Cs Ss T) (H:Hd w0 F0 w (Cs++As) Rs) (hl:FH w As Rs Ss) (hg:gd ops l o=some true) (hd:C0 n o.dst=true) (hr:I7 P n l w o f args.toArray)
  (h:∀ v Bs w',T v Bs→Hd w0 F0 w' (Bs++As) Rs→WL P ops Q rest n (CH l o.dst v) w'):WL P ops Q (o::rest) n l w:=bR hg hd hr hc H hl h
theorem Al {T:Value→List SP→Prop} {w0 w:World} {F0:AU} {v:Value} {Bs Rs:List SP} (ht:T v Bs) (H:Hd w0 F0 w Bs Rs):Ij (fun v w'=>∃ Bs,T v Bs∧Hd w0 F0 w' Bs Rs) (.returned v) w:=⟨v,rfl,Bs,ht,H⟩
/-! ### Lists -/
theorem Sl {α:Type} {xs ys:List α} {k:Nat} {x:α} (hx:xs[k]?=some x) (hy:ys[k]?=some x) (h:xs.take k=ys.take k):xs.take (k+1)=ys.take (k+1):=by
 rw [List.take_add_one,List.take_add_one,hx,hy,h]
theorem El {α:Type} {xs:List α} {k:Nat} {x:α} (hx:xs[k]?=some x):xs.take (k+1)=xs.take k++[x]:=by
 rw [List.take_add_one,hx];rfl
theorem GJ {α:Type} {xs:List α} {k:Nat} (h:xs.length≤k):xs.take k=xs:=List.take_of_length_le h
theorem KF {α:Type} {xs:List α} {k:Nat} {x:α} (hx:xs[k]?=some x):k<xs.length:=by
 rcases Nat.lt_or_ge k xs.length with h|h
 ·exact h
 ·simp [List.getElem?_eq_none h] at hx
def Gr (w:World):AU:=fun k=>k<w.heap.size
def Ga {α:Type} (P:Program) (t:TypeId) (d:Kd α) (W:α→Prop):Prop:=
 ∀ {H:Type} (enc:TypeId×Value→H) (w:World) (fuel:Nat) (cs:List Value) (x:DataW H×List MemPlace),DataW.trod enc P w 0 (fun _=>true) true fuel t cs=some x→∃ a,d.R w (Gr w) a cs∧W a
def AL (x:Int):Prop:= -9223372036854775808≤x∧x≤9223372036854775807
section
variable {P:Program} {t:TypeId}
theorem Fz (hu:P.underlying t=some (.int .i64)):Ga P t (Ai .i64) AL:=by
 intro H enc w fuel cs x h
 obtain ⟨n,rfl,_,hw⟩:=DataW.trod_int hu h
 refine ⟨n,rfl,?_⟩
 simp [Lit.wf,IntKind.min,IntKind.max,IntKind.bits,IntKind.signed] at hw
 exact hw
theorem TC {w:World} {a:Addr}:∀ {n:Nat} {cs:List Value},w.cells? 0 a n=some cs→cs.length=n∧∀ j v,cs[j]?=some v→w.cell? (a.add j)=some v:=by
 intro n cs h
 simp only [World.cells?,Nat.zero_le,if_true] at h
 have hl:=mapM_some_length h
 refine ⟨by simpa using hl,fun j v hj=>?_⟩
 have hlt:j<n:=by
  rcases Nat.lt_or_ge j cs.length with h'|h'
  ·simp at hl;omega
  ·simp [List.getElem?_eq_none h'] at hj
 have:=mapM_some_get h j j (by simp [hlt])
 rw [this,hj]
theorem Oz {w:World} {a:Addr} {v:Value} (h:w.cell? a=some v):a.spot=none∧∃ C t fr,w.heap[a.block]?=some (.cells C t fr)∧C[a.off]?=some v:=by
 unfold World.cell? at h
 split at h
 ·rename_i C t fr hb
  split at h
  ·cases h
  ·rename_i hs
   exact ⟨by simpa using hs,C,t,fr,hb,h⟩
 ·cases h
theorem a_ {w:World} {a:Addr} {cs:List Value} (h:∀ j v,cs[j]?=some v→w.cell? (a.add j)=some v):E4 w (Gr w) (some a) cs:=by
 refine ⟨trivial,?_⟩
 cases cs with
 |nil=>exact .inl rfl
 |cons c cs=>
  right
  have h0:=h 0 c rfl
  have ha0:a.add 0=a:=by simp [Addr.add]
  rw [ha0] at h0
  obtain ⟨hs,C,t,fr,hb,hc⟩:=Oz h0
  obtain ⟨b,off,sp⟩:=a
  simp only at hs hb hc
  subst hs
  refine ⟨b,off,C,t,fr,rfl,(Array.getElem?_eq_some_iff.1 hb).1,hb,?_⟩
  apply List.ext_getElem?
  intro j
  rw [List.getElem?_take]
  split
  ·rename_i hj
   rw [List.getElem?_drop]
   have hv:=h j (c::cs)[j] (by simp [List.getElem?_eq_getElem hj])
   rw [EE] at hv
   obtain ⟨_,C',t',fr',hb',hc'⟩:=Oz hv
   simp only at hb' hc'
   rw [hb] at hb'
   cases hb'
   rw [List.getElem?_eq_getElem hj,←hc']
   simp
  ·rename_i hj
   rw [List.getElem?_eq_none (by omega)]
theorem Rf {α:Type} {d:Kd α} {W:α→Prop} {e size bytes:Nat} (hs:Dn P t=some (e,size,bytes)) (hd:d.sz=size) (he:Ga P e d W):Ga P t (Cm d) (fun xs=>(∀ x∈xs,W x)∧xs.length≤9223372036854775807):=by
 intro H enc w fuel cs x h
 obtain ⟨hu,i,hi,hsz,_⟩:=FE hs
 have hc:P.cellsOf e=d.sz:=by simp [Program.cellsOf,hi,hsz,hd]
 rcases DataW.trod_slice hu h with ⟨rfl,_⟩|⟨a,len,cap,elems,rest,n,_,rfl,_,_,hl,hm,hlen,hel,_,_⟩
 ·refine ⟨[],⟨none,0,0,rfl,rfl,Nat.le_refl _,by omega,[],⟨trivial,.inl rfl⟩,rfl⟩,by simp,by simp⟩
 ·have hm':cap≤9223372036854775807:=by simpa [maxLen] using hm
  have each:∀ k,k<len→∃ (y:α) (c:List Value),d.R w (Gr w) y c∧W y∧c.length=d.sz∧∀ j v,c[j]?=some v→w.cell? (a.add (k*d.sz+j))=some v:=by
   intro k hk
   have h1:=hel k hk
   rw [List.getElem?_eq_getElem (by omega),Option.bind_eq_some_iff] at h1
   obtain ⟨c,hc1,hc2⟩:=h1
   obtain ⟨y,hy,hW⟩:=he enc w n c _ hc2
   obtain ⟨hcl,hcc⟩:=TC hc1
   refine ⟨y,c,hy,hW,by rw [hcl,hc],fun j v hj=>?_⟩
   have h2:=hcc j v hj
   have h3:(a.add (k*P.cellsOf e)).add j=a.add (k*d.sz+j):=by
    rw [hc]
    unfold Addr.add
    by_cases h4:k*d.sz=0<;>by_cases h5:j=0<;>simp [h4,h5,Nat.add_assoc]
   rwa [h3] at h2
  have all:∀ k,k≤len→∃ (ys:List α) (cs:List Value),ys.length=k∧Bc d w (Gr w) ys cs∧cs.length=k*d.sz∧(∀ y∈ys,W y)∧∀ j v,cs[j]?=some v→w.cell? (a.add j)=some v:=by
   intro k
   induction k with
   |zero=>exact fun _=>⟨[],[],rfl,rfl,by simp,by simp,by simp⟩
   |succ k ih=>
    intro hk
    obtain ⟨ys,cs,h1,h2,h3,h4,h5⟩:=ih (by omega)
    obtain ⟨y,c,g1,g2,g3,g4⟩:=each k (by omega)
    refine ⟨ys++[y],cs++c,by simp [h1],h2.append ⟨c,[],by simp,g1,rfl⟩,by simp [h3,g3,Nat.succ_mul],?_,?_⟩
    ·intro z hz
     simp at hz
     exact hz.elim (h4 z) (fun e=>e▸g2)
    ·intro j v hj
     rcases Nat.lt_or_ge j cs.length with hlt|hge
     ·exact h5 j v (by rwa [List.getElem?_append_left hlt] at hj)
     ·rw [List.getElem?_append_right hge] at hj
      have:=g4 _ v hj
      rwa [show k*d.sz+(j - cs.length)=j by omega] at this
  obtain ⟨ys,cs,h1,h2,h3,h4,h5⟩:=all len (Nat.le_refl _)
  exact ⟨ys,⟨some a,len,cap,rfl,h1,hl,hm',cs,a_ h5,h2⟩,h4,by omega⟩
def GI (P:Program) (t:TypeId):Option (List (TypeId×Nat×Nat)):=
 match P.underlying t with
 |some (.struct fs)=>some (fs.toList.map fun f=>(f.type,f.offset,P.cellsOf f.type))
 |_=>none
theorem KU {H:Type} {enc:TypeId×Value→H} {w:World} {fuel:Nat} {cs:List Value} {x:DataW H×List MemPlace} {l:List (TypeId×Nat×Nat)} (hs:GI P t=some l) (h:DataW.trod enc P w 0 (fun _=>true) true fuel t cs=some x):
  cs.length=P.cellsOf t∧∃ n,∀ (i:Nat) (ty off sz:Nat),l[i]?=some (ty,off,sz)→∃ y,DataW.trod enc P w 0 (fun _=>true) true n ty ((cs.drop off).take sz)=some y:=by
 unfold GI at hs
 split at hs
 ·rename_i fs hu
  obtain ⟨xs,n,_,_,hl,hxl,hf⟩:=DataW.trod_struct hu h
  refine ⟨hl,n,fun i ty off sz hi=>?_⟩
  have hl':l=fs.toList.map fun f=>(f.type,f.offset,P.cellsOf f.type):=by simpa using hs.symm
  subst hl'
  simp only [List.getElem?_map,Option.map_eq_some_iff] at hi
  obtain ⟨f,hf1,hf2⟩:=hi
  simp only [Prod.mk.injEq] at hf2
  obtain ⟨rfl,rfl,rfl⟩:=hf2
  have:=hf i f (by simpa using hf1)
  rw [this]
  have hlt:i<xs.length:=by
   rw [hxl]
   rcases Nat.lt_or_ge i fs.size with h'|h'
   ·exact h'
   ·simp [h'] at hf1
  exact ⟨_,List.getElem?_eq_getElem hlt⟩
 ·cases hs
end
theorem Xw {P:Program} {f:FuncId} {args:List Value} {Rs:List SP} {T:Value→List SP→Prop} {u:Value} {W:World} (hc:Cn P f args [] Rs T) (hR:∀ R∈Rs,R.P W (Gr W)) (hT:∀ v Bs,T v Bs→v=u):
  Calls P f args.toArray W fun e W'=>e=.returned u∧Go.RowKit.Below W.heap.size W W':=by
 refine (hc W none_ (Hd.begin (G:=Gr W) trivial hR (fun _ h=>h.elim) (fun _ h=>h.elim) (fun _ h=>h))).mono ?_
 rintro e W' ⟨v,rfl,Bs,t,H⟩
 exact ⟨by rw [hT v Bs t],H.upd.below⟩
/-! ### Structs that lead nowhere -/
structure Ap where
 key:ByteArray
 val:ByteArray
deriving DecidableEq
def Ir (p:Ap):List Value:=[.string p.key,.string p.val]
def Ag:Kd Ap:=flat Ir 2 (by omega) (fun _=>rfl) (fun _ c h=>by simp [Ir] at h;rcases h with rfl|rfl<;>rfl)
theorem YU {P:Program} {t s:TypeId} (hs:GI P t=some [(s,0,1),(s,1,1)]) (hc:P.cellsOf t=2) (hu:P.underlying s=some .string):Ga P t Ag (fun p=>p.key.size≤9223372036854775807∧p.val.size≤9223372036854775807):=by
 intro H enc w fuel cs x h
 obtain ⟨hl,n,hf⟩:=KU hs h
 rw [hc] at hl
 obtain ⟨y0,h0⟩:=hf 0 _ _ _ rfl
 obtain ⟨y1,h1⟩:=hf 1 _ _ _ rfl
 obtain ⟨a,b,rfl⟩:∃ a b,cs=[a,b]:=by
  match cs,hl with
  |[a,b],_=>exact ⟨a,b,rfl⟩
 obtain ⟨s0,e0,_,l0⟩:=DataW.trod_string hu h0
 obtain ⟨s1,e1,_,l1⟩:=DataW.trod_string hu h1
 simp at e0 e1
 subst e0 e1
 exact ⟨⟨s0,s1⟩,rfl,by simpa [maxLen] using l0,by simpa [maxLen] using l1⟩
structure B7 where
 op:Int
 a:Int
 s:ByteArray
deriving DecidableEq
def OQ (p:B7):List Value:=[.int .i64 p.op,.int .i64 p.a,.string p.s]
def Af:Kd B7:=flat OQ 3 (by omega) (fun _=>rfl) (fun _ c h=>by simp [OQ] at h;rcases h with rfl|rfl|rfl<;>rfl)
structure fO where
 x:Int
 y:Int
deriving DecidableEq
/-! ### '==' of structs that lead nowhere -/
section
variable {P:Program} {w:World} {t:TypeId}
theorem OV {d:Nat} {xs ys:Array Value} {f:Field} {fs:List Field} {sz:Nat} {u v:Value} {b:Bool} (hn:f.name≠ "_") (ha:Cj P f.type=some (false,sz)) (hx:xs[f.offset]?=some u) (hy:ys[f.offset]?=some v)
  (he:(Op.equalIn d f.type u v).run P w=.ok b w):(Op.eqFields d xs ys (f::fs)).run P w=if b then (Op.eqFields d xs ys fs).run P w else .ok false w:=by
 simp only [Op.eqFields,if_pos hn,Sem.run_bind]
 simp only [part,Sem.run_bind,Lg ha,Result.andThen_ok,hx,hy,Sem.run_pure,Bool.false_eq_true,if_false,he,Sem.run_ite]
 cases b<;>simp
theorem OX (d:Nat) {a b:ByteArray} (h:P.underlying t=some .string):(Op.equalIn (d+1) t (.string a) (.string b)).run P w=.ok (decide (a=b)) w:=by rw [run_equalIn_string w d t a b h,J4]
structure HH (P:Program) (t:TypeId) (fs:List Field):Prop where
 und:P.underlying t=some (.struct fs.toArray)
 stood:P.stoodInHeld t=false
 guard:P.eqGuardType P.depth t=false
theorem HH.run {fs:List Field} (h:HH P t fs) (d:Nat) (xs ys:Array Value):(Op.equalIn (d+1) t (.agg xs) (.agg ys)).run P w=(Op.eqFields d xs ys fs).run P w:=by
 have hf:P.fieldsOf t=fs.toArray:=by simp [Program.fieldsOf,h.und]
 rw [run_equalIn_struct w d t xs ys (by rw [hf];exact h.und) h.stood,hf]
section
variable {n:Nat} {l:BQ} {o:Oper} {x y:Operand} {t':TypeId} {xs ys:Array Value} {fs:List Field} {b:Bool}
theorem ZL (ho:o.op=.binOp .neq t x y t') (h:HH P t fs) (hx:ev l x=some (.agg xs)) (hy:ev l y=some (.agg ys)) (hb:(Op.eqFields (9998+1) xs ys fs).run P w=.ok b w):BL P n l w o (.bool !b) w:=by
 intro a ha
 have h1:(Op.equal t (.agg xs) (.agg ys)).run P w=.ok b w:=(h.run (9998+1) xs ys).trans hb
 have h2:=run_eqGuard_agg (P:=P) w .neq t x y xs ys h.guard
 unfold execOp
 simp only [ho,ha.eval hx,ha.eval hy,Sem.run_bind,h2,Result.andThen_ok]
 simp only [binOp,Sem.run_bind,h1,Result.andThen_ok,Sem.run_pure]
end
structure NQ (P:Program) (t s:TypeId):Prop where
 ex:∃ f0 f1:Field,HH P t [f0,f1]∧f0.name≠ "_" ∧f1.name≠ "_" ∧f0.type=s∧f1.type=s∧f0.offset=0∧f1.offset=1
 str:P.underlying s=some .string
 one:Cj P s=some (false,1)
theorem Uz {s:TypeId} {f0 f1:Field} (d:Nat) (p q:Ap) (h1:f0.name≠ "_") (h2:f1.name≠ "_") (h3:f0.type=s) (h4:f1.type=s) (h5:f0.offset=0) (h6:f1.offset=1) (hs:P.underlying s=some .string) (ho:Cj P s=some (false,1)):
  (Op.eqFields (d+1) (Ir p).toArray (Ir q).toArray [f0,f1]).run P w=.ok (decide (p=q)) w:=by
 rw [OV (u:=.string p.key) (v:=.string q.key) (b:=decide (p.key=q.key)) h1 (by rw [h3];exact ho) (by rw [h5];rfl) (by rw [h5];rfl) (by rw [h3];exact OX d hs)]
 rw [OV (u:=.string p.val) (v:=.string q.val) (b:=decide (p.val=q.val)) h2 (by rw [h4];exact ho) (by rw [h6];rfl) (by rw [h6];rfl) (by rw [h4];exact OX d hs)]
 obtain ⟨a,b⟩:=p
 obtain ⟨c,e⟩:=q
 by_cases e1:a=c<;>by_cases e2:b=e<;>simp [e1,e2,Op.eqFields]
variable {n:Nat} {l:BQ} {o:Oper} {x y:Operand} {t' s:TypeId}
theorem ZK {p q:Ap} (ho:o.op=.binOp .neq t x y t') (h:NQ P t s) (hx:ev l x=some (.agg (Ir p).toArray)) (hy:ev l y=some (.agg (Ir q).toArray)):BL P n l w o (.bool (decide (p≠q))) w:=by
 obtain ⟨f0,f1,he,h1,h2,h3,h4,h5,h6⟩:=h.ex
 have:=ZL (n:=n) (w:=w) ho he hx hy (Uz 9998 p q h1 h2 h3 h4 h5 h6 h.str h.one)
 rwa [show decide (p≠q)=!decide (p=q) from by simp]
structure fP (P:Program) (t i s:TypeId):Prop where
 ex:∃ f0 f1 f2:Field,HH P t [f0,f1,f2]∧f0.name≠ "_" ∧f1.name≠ "_" ∧f2.name≠ "_" ∧f0.type=i∧f1.type=i∧f2.type=s∧f0.offset=0∧f1.offset=1∧f2.offset=2
 str:P.underlying s=some .string
 int:P.underlying i=some (.int .i64)
 one:Cj P s=some (false,1)
 onei:Cj P i=some (false,1)
end
/-! ### Rows of known length -/
section
variable {α:Type} {enc:α→List Value} {sz:Nat} (hl:∀ x,(enc x).length=sz)
include hl
theorem GU (xs:List α):(xs.flatMap enc).length=xs.length*sz:=by
 induction xs with
 |nil=>simp
 |cons x xs ih=>simp [hl,ih,Nat.succ_mul,Nat.add_comm]
theorem Kk:∀ (xs:List α) (i:Nat),(xs.flatMap enc).drop (i*sz)=(xs.drop i).flatMap enc
 |[],i=>by simp
 |x::xs,0=>by simp
 |x::xs,i+1=>by
  rw [List.flatMap_cons,List.drop_succ_cons,Nat.succ_mul,Nat.add_comm (i*sz),←hl x,List.drop_length_add_append,hl x]
  exact Kk xs i
theorem L1:∀ (xs:List α) (i:Nat),(xs.flatMap enc).take (i*sz)=(xs.take i).flatMap enc
 |[],i=>by simp
 |x::xs,0=>by simp
 |x::xs,i+1=>by
  rw [List.flatMap_cons,List.take_succ_cons,List.flatMap_cons,Nat.succ_mul,Nat.add_comm (i*sz),←hl x,List.take_length_add_append,hl x]
  rw [L1 xs i]
end
theorem Jy:∀ (vs cs:List Value) (i:Nat),i+vs.length≤cs.length→EV cs i vs=cs.take i++vs++cs.drop (i+vs.length)
 |[],cs,i,h=>by simp [EV]
 |v::vs,cs,i,h=>by
  simp only [List.length_cons] at h
  rw [EV,Jy vs _ (i+1) (by simp;omega)]
  have h1:(cs.set i v).take (i+1)=cs.take i++[v]:=by
   rw [List.take_add_one,List.take_set_of_le (by omega)]
   simp [List.getElem?_set,show i<cs.length by omega]
  have h2:(cs.set i v).drop (i+1+vs.length)=cs.drop (i+(vs.length+1)):=by
   rw [List.drop_set_of_lt (by omega)]
   congr 1
   omega
  rw [h1,h2]
  simp
theorem Zw {α:Type} {enc:α→List Value} {sz:Nat} (hl:∀ x,(enc x).length=sz) {xs:List α} {i:Nat} {x:α} (hi:i<xs.length):EV (xs.flatMap enc) (i*sz) (enc x)=(xs.set i x).flatMap enc:=by
 have h1:i*sz+sz≤xs.length*sz:=by rw [←Nat.succ_mul];exact Nat.mul_le_mul_right _ hi
 rw [Jy _ _ _ (by rw [hl,GU hl];exact h1),hl,L1 hl,←Nat.succ_mul,Kk hl,List.set_eq_take_append_cons_drop,if_pos hi]
 simp
def IQ {α:Type} (enc:α→List Value) (b:Nat) (t:TypeId) (xs:List α):SP:=blk b (xs.flatMap enc) t
section
variable {P:Program} {ops:Array Oper} {Q:Exit→Act→World→Prop} {rest:List Oper} {n:Nat} {l:BQ} {w0 w:World} {F F0:AU} {o:Oper} {v:Value} {As Rs:List SP} {x y:Operand} {t:TypeId}
variable {α:Type} {enc:α→List Value} {sz:Nat} {hp:0<sz} {hl:∀ x,(enc x).length=sz} {h1:∀ x,∀ c∈enc x,c.oneCell'=true}
theorem aZ {b:Nat} {bt:TypeId} {xs ys:List α} {m c:Nat} (h:(IQ enc b bt xs).P w F) (hy:xs.take m=ys) (hm:ys.length=m) (hc:c=xs.length) (hcm:c≤9223372036854775807):(Y (flat enc sz hp hl h1) (.slice (some ⟨b,0,none⟩) m c) ys).P w F:=by
 have hmc:m≤c:=by rw [←hm,←hy,hc];simp;omega
 have hml:m≤xs.length:=by omega
 refine ⟨_,_,_,rfl,hm,ys.flatMap enc,F,none_,fun _ q=>q,fun _ q=>q.elim,fun _ _ q=>q,⟨hmc,hcm,by rw [GU hl,hm];rfl,.inr ⟨b,_,bt,rfl,h.1,h.2,?_,?_⟩⟩,CI.flatR (F:=none_) (Bc.flat_eq.2 U)⟩
 ·simp only [List.size_toArray]
  rw [GU hl,hc]
  rfl
 ·simp only [List.toList_toArray]
  show (xs.flatMap enc).take (m*sz)=_
  rw [L1 hl,hy]
theorem bT {e bytes:Nat} {z:Value} {a0:α} {m c:Nat} (hg:gd ops l o=some true) (hd:C0 n o.dst=true) (ho:o.op=.makeSlice t x y) (hs:Dn P t=some (e,sz,bytes)) (hz:Dp P e=some z) (hz0:z.cells.toList=enc a0) (hp:0<sz) (hl:∀ x,(enc x).length=sz)
  (hx:ev l x=some (.int .i64 (m:Int))) (hy:ev l y=some (.int .i64 (c:Int))) (hmc:m≤c) (hc:c*bytes≤140737488355328) (hcs:c≤140737488355328) (H:Hd w0 F0 w As Rs)
  (h:∀ b w',Hd w0 F0 w' (IQ enc b e (List.replicate c a0)::As) Rs→WL P ops Q rest n (CH l o.dst (.slice (some ⟨b,0,none⟩) m c)) w'):WL P ops Q (o::rest) n l w:=by
 obtain ⟨hu,inf,hi,hsz,hby⟩:=FE hs
 obtain ⟨i,hi',hz'⟩:=Option.bind_eq_some_iff.1 hz
 rw [hi] at hi'
 cases hi'
 have hwc:IntKind.i64.wrap (c:Int)=c:=AI (by omega) (by omega)
 have hwm:IntKind.i64.wrap (m:Int)=m:=AI (by omega) (by omega)
 have hcells:(List.range (c*sz)).map (fun j=>z.cells[j%z.cells.size]!)=(List.replicate c a0).flatMap enc:=by
  have hzs:z.cells.size=sz:=by rw [←Array.length_toList,hz0,hl]
  apply List.ext_getElem
  ·rw [GU hl];simp
  ·intro j h1 h2
   simp only [List.getElem_map,List.getElem_range]
   simp at h1
   have hd:j=j / sz*sz+j%sz:=by rw [Nat.mul_comm];exact (Nat.div_add_mod j sz).symm
   have hjd:j / sz<c:=Nat.div_lt_of_lt_mul (by rw [Nat.mul_comm];exact h1)
   have hjm:j%sz<sz:=Nat.mod_lt _ hp
   have h3:((List.replicate c a0).flatMap enc)[j]?=(enc a0)[j%sz]?:=by
    have h4:(((List.replicate c a0).flatMap enc).drop (j / sz*sz))[j%sz]?=(enc a0)[j%sz]?:=by
     rw [Kk hl,List.drop_replicate]
     obtain ⟨r,hr⟩:∃ r,c - j / sz=r+1:=⟨c - j / sz - 1,by omega⟩
     rw [hr,List.replicate_succ,List.flatMap_cons,List.getElem?_append_left (by rw [hl];exact hjm)]
    rw [List.getElem?_drop,←hd] at h4
    exact h4
   have h5:((List.replicate c a0).flatMap enc)[j]=z.cells[j%z.cells.size]! :=by
    rw [List.getElem?_eq_getElem h2] at h3
    rw [hzs]
    have h6:j%sz<z.cells.size:=by rw [hzs];exact hjm
    rw [getElem!_pos z.cells _ h6]
    have h7:(enc a0)[j%sz]?=some z.cells[j%sz]:=by rw [←hz0];simp [h6]
    rw [h7] at h3
    exact Option.some.inj h3
   exact h5.symm
 refine V (w':=w.alloc (.cells ((List.replicate c a0).flatMap enc).toArray e)) hg hd (v:=.slice (some ⟨w.heap.size,0,none⟩) m c) (fun a ha=>?_) (h _ _ (H.alloc _ e))
 have hb:inf.bytes*c≤281474976710656:=by rw [hby,Nat.mul_comm];omega
 have hb':¬ ((281474976710656:Int)<(inf.bytes:Int)*(c:Int)):=by
  have:((inf.bytes*c:Nat):Int)≤281474976710656:=Int.le_trans (Int.ofNat_le.2 hb) (by decide)
  rw [Int.natCast_mul] at this
  omega
 have hmc':¬ ((c:Int)<(m:Int)):=by omega
 have hcn:¬ ((c:Int)<0):=by omega
 have hmn:¬ ((m:Int)<0):=by omega
 have hcell2:(Array.range (c*sz)).map (fun x=>z.cells[x%z.cells.size]!)=((List.replicate c a0).flatMap enc).toArray:=by
  apply Array.toList_inj.1
  rw [←hcells]
  simp
 by_cases hc0:c*sz=0
 ·obtain rfl:c=0:=by
   rcases Nat.mul_eq_zero.1 hc0 with h|h
   ·exact h
   ·omega
  obtain rfl:m=0:=by omega
  simp [execOp,ho,ha.eval hx,ha.eval hy,Instr.makeSlice,run_underlying hu,asInt,asIntOf,sizeOf,zeroValue,typeInfo,hi,hz',hsz,hwc,newRow,IntKind.wrap,IntKind.bits,IntKind.signed]
  exact congrArg (fun q=>w.alloc (Obj.cells q e)) (by apply Array.toList_inj.1;simp)
 ·simp [execOp,ho,ha.eval hx,ha.eval hy,Instr.makeSlice,run_underlying hu,asInt,asIntOf,sizeOf,zeroValue,typeInfo,hi,hz',hsz,hwc,hwm,hb',hmc',hcn,hmn,newRow,hc0,hcell2]
end
def encStr (x:ByteArray):List Value:=[.string x]
section
variable {w w0:World} {F0:AU} {As Rs:List SP} {α:Type} {enc:α→List Value} {sz:Nat} {hp:0<sz} {hl:∀ x,(enc x).length=sz} {h1:∀ x,∀ c∈enc x,c.oneCell'=true} {A:Option Addr} {m c:Nat} {xs:List α}
theorem aU {F:AU} {cs:List Value} (h:CI (flat enc sz hp hl h1) w F xs cs):cs=xs.flatMap enc:=Bc.flat_eq.1 h.toR
theorem Hd.toBlk (H:Hd w0 F0 w (Y (flat enc sz hp hl h1) (.slice A m c) xs::As) Rs) (hc:0<xs.length):
  ∃ b t rest,A=some ⟨b,0,none⟩∧xs.length=m∧m≤c∧c≤9223372036854775807∧rest.length+m*sz=c*sz∧Hd w0 F0 w (blk b (xs.flatMap enc++rest) t::As) Rs:=by
 obtain ⟨b,C,t,hA,hm,hle,hmax,hh,hs,ht⟩:∃ b C t,A=some ⟨b,0,none⟩∧xs.length=m∧m≤c∧c≤9223372036854775807∧w.heap[b]?=some (.cells C t (0,0))∧C.size=c*sz∧C.toList.take (m*sz)=xs.flatMap enc:=by
  refine H.fact (List.mem_cons_self ..) ?_
  rintro F ⟨A',n,c',e,hn,cs,F1,F2,s1,s2,dj,⟨r1,r2,r3,r4⟩,hr⟩
  simp only [List.cons.injEq,Value.slice.injEq,and_true] at e
  obtain ⟨rfl,rfl,rfl⟩:=e
  have hcs:=aU hr
  rcases r4 with ⟨h0,_⟩|⟨b,C,t,e,hb,hh,hs,ht⟩
  ·omega
  ·exact ⟨b,C,t,e,hn,r1,r2,hh,hs,by rw [←hcs];exact ht⟩
 have hCl:C.toList.length=c*sz:=by simpa using hs
 have hle':m*sz≤c*sz:=Nat.mul_le_mul_right _ hle
 refine ⟨b,t,C.toList.drop (m*sz),hA,hm,hle,hmax,by rw [List.length_drop];omega,H.turn fun F hF=>?_⟩
 obtain ⟨A',n,c',e,hn,cs,F1,F2,s1,s2,dj,⟨r1,r2,r3,r4⟩,hr⟩:=hF
 simp only [List.cons.injEq,Value.slice.injEq,and_true] at e
 obtain ⟨rfl,rfl,rfl⟩:=e
 rcases r4 with ⟨h0,_⟩|⟨b',C',t',e,hb,hh',hs',ht'⟩
 ·omega
 ·rw [hA] at e
  obtain rfl:b=b':=by simpa using e
  refine ⟨s1 b hb,?_⟩
  rw [hh,←ht,List.take_append_drop]
theorem Hd.ofBlk {b t:Nat} {rest:List Value} (H:Hd w0 F0 w (blk b (xs.flatMap enc++rest) t::As) Rs) (hm:xs.length=m) (hle:m≤c) (hmax:c≤9223372036854775807) (hr:rest.length+m*sz=c*sz):
  Hd w0 F0 w (Y (flat enc sz hp hl h1) (.slice (some ⟨b,0,none⟩) m c) xs::As) Rs:=by
 refine H.turn fun F hF=>?_
 have hfl:(xs.flatMap enc).length=m*sz:=by rw [GU hl,hm]
 refine ⟨_,_,_,rfl,hm,xs.flatMap enc,F,none_,fun _ q=>q,fun _ q=>q.elim,fun _ _ q=>q,⟨hle,hmax,hfl,.inr ⟨b,_,_,rfl,hF.1,hF.2,by show (xs.flatMap enc++rest).toArray.size=c*sz;simp only [List.size_toArray,List.length_append];omega,?_⟩⟩,CI.flatR (F:=none_) (Bc.flat_eq.2 U)⟩
 show ((xs.flatMap enc++rest).toArray.toList).take (m*sz)=_
 rw [List.toList_toArray,List.take_left' hfl]
variable {P:Program} {ops:Array Oper} {Q:Exit→Act→World→Prop} {rest:List Oper} {n:Nat} {l:BQ} {o:Oper} {v:Value} {x y:Operand} {t:TypeId}
theorem Hd.nilR {β:Type} {d:Kd β} {ys:List β} {A:Option Addr} {m c:Nat} (H:Hd w0 F0 w As Rs) (j:Nat) (hj:Rs[j]?=some (Ae d (.slice A m c) ys)) (hA:A.isNone=true):ys=[]:=by
 refine H.factR (List.mem_of_getElem? hj) ?_
 rintro F ⟨A',n,c',e,hn,h1,h2,cs,hr,hrep⟩
 simp only [List.cons.injEq,Value.slice.injEq,and_true] at e
 obtain ⟨rfl,rfl,rfl⟩:=e
 rcases hr.2 with rfl|⟨b,off,C,t,fr,e,_⟩
 ·have:=hrep.len
  have hp:=d.pos
  rcases Nat.eq_zero_or_pos ys.length with h0|h0
  ·exact List.eq_nil_of_length_eq_zero h0
  ·have:=Nat.mul_pos h0 hp
   simp at *
   omega
 ·rw [e] at hA
  cases hA
theorem Hd.newnilA {β:Type} (d:Kd β) (A:Option Addr) (H:Hd w0 F0 w As Rs):Hd w0 F0 w (Y d (.slice A 0 0) []::As) Rs:=by
 obtain ⟨F,G,s,r⟩:=H
 exact ⟨F,G,⟨none_,F,fun _ h=>h.elim,fun _ h=>h,fun _ h=>h.elim,MU d w none_ trivial,s⟩,r⟩
theorem JI {e size bytes:Nat} (hg:gd ops l o=some true) (hd:C0 n o.dst=true) (ho:o.op=.buildSlice t 0 #[]) (hs:Dn P t=some (e,size,bytes)) (H:Hd w0 F0 w As Rs)
  (h:∀ b w',Hd w0 F0 w' (blk b [] e::As) Rs→WL P ops Q rest n (CH l o.dst (.slice (some ⟨b,0,none⟩) 0 0)) w'):WL P ops Q (o::rest) n l w:=by
 obtain ⟨hu,inf,hi,hsz,_⟩:=FE hs
 refine V (w':=w.alloc (.cells #[] e)) hg hd (v:=.slice (some ⟨w.heap.size,0,none⟩) 0 0) (fun a ha=>?_) (h _ _ ?_)
 ·unfold execOp
  simp only [ho,Instr.buildSlice,Sem.run_bind,run_underlying hu,sizeOf,typeInfo,run_program,hi,Nat.zero_mul,if_true,Sem.run_pure,Result.andThen_ok,newRow]
  have hz:∀ f:Nat→Value,(Array.range 0).map f=#[]:=fun f=>Array.toList_inj.1 (by simp)
  simp [Instr.fill,hz]
 ·have:=H.alloc [] e
  simpa using this
theorem G6 {i p:Nat} {a:α} {B:Bool} (hg:gd ops l o=some true) (hd:o.dst=none) (ho:o.op=.store t x y) (ht:Cj P t=some (B,sz)) (hx:ev l x=some (.pointer (some ⟨Ep A,p,none⟩))) (hy:ev l y=some v) (hv:v.cells.toList=enc a)
  (H:Hd w0 F0 w (Y (flat enc sz hp hl h1) (.slice A m c) xs::As) Rs) (hi:i<xs.length) (hpi:A_ A+i*sz=p) (h:∀ w',Hd w0 F0 w' (Y (flat enc sz hp hl h1) (.slice A m c) (xs.set i a)::As) Rs→WL P ops Q rest n l w'):WL P ops Q (o::rest) n l w:=by
 obtain ⟨b,bt,spare,rfl,hm,hle,hmax,hr,H'⟩:=H.toBlk (by omega)
 simp only [Ep,A_,Nat.zero_add] at hx hpi
 subst hpi
 have hfl:(xs.flatMap enc).length=xs.length*sz:=GU hl xs
 have hfit:i*sz+sz≤(xs.flatMap enc).length:=by rw [GU hl,←Nat.succ_mul];exact Nat.mul_le_mul_right _ hi
 refine Bx hg hd ho ht hx hy H' (by rw [←Array.length_toList,hv,hl]) (by rw [List.length_append];omega) (by rw [hv];exact h1 a) (fun w' H2=>h w' ?_)
 rw [hv] at H2
 have hp2:EV (xs.flatMap enc++spare) (i*sz) (enc a)=(xs.set i a).flatMap enc++spare:=by
  rw [←Zw hl hi,Jy _ _ _ (by rw [List.length_append,hl];omega),Jy _ _ _ (by rw [hl];exact hfit)]
  rw [List.take_append_of_le_length (by omega),List.drop_append_of_le_length (by rw [hl];omega)]
  simp [List.append_assoc]
 rw [hp2] at H2
 exact H2.ofBlk (by rw [List.length_set];exact hm) hle hmax hr
end
section
variable {P:Program} {n:Nat} {l:BQ} {w:World} {o:Oper} {x y:Operand} {t:TypeId}
theorem XR (A:Option Addr):A.map (fun a=>a.add 0)=A:=by
 cases A with
 |none=>rfl
 |some a=>cases a;simp [Addr.add]
theorem KZ {tt e size bytes:TypeId} {A:Option Addr} {m c m':Nat} {k:IntKind} {j:Int} (ho:o.op=.slice tt x none (some y) none) (hs:Dn P tt=some (e,size,bytes)) (hx:ev l x=some (.slice A m c)) (hy:ev l y=some (.int k j))
  (h0:0≤j) (h1:j≤(c:Int)) (hm:j.toNat=m'):BL P n l w o (.slice A m' c) w:=by
 intro a ha
 obtain ⟨hu,inf,hi,hz,_⟩:=FE hs
 subst hm
 have hb:(Instr.sliceBounds true m c none (some (.int k j)) none).run P w=.ok (0,j.toNat,c) w:=by
  simp [Instr.sliceBounds,Instr.sliceBound,asIntOf,h0,h1]
 simp [execOp,ho,ha.eval hx,ha.eval hy,Instr.sliceAt,Instr.slice,hb,run_underlying hu,sizeOf,typeInfo,hi,hz,XR]
end
section
variable {w:World} {F:AU} {α:Type} {d:Kd α} {A:Option Addr} {m c:Nat} {xs:List α}
theorem bA (h:(Ae d (.slice A m c) xs).P w F) {i:Nat} (hi:i≤m):(Ae d (.slice A i c) (xs.take i)).P w F:=by
 obtain ⟨A',m',c',e,hl,h1,h2,cs,hr,hrep⟩:=h
 simp only [List.cons.injEq,Value.slice.injEq,and_true] at e
 obtain ⟨rfl,rfl,rfl⟩:=e
 refine ⟨_,_,_,rfl,by rw [List.length_take];omega,by omega,h2,cs.take (i*d.sz),⟨trivial,?_⟩,hrep.take i⟩
 rcases hr.2 with rfl|⟨b,off,C,t,fr,e,hb,hh,ht⟩
 ·exact .inl (by simp)
 ·refine .inr ⟨b,off,C,t,fr,e,hb,hh,?_⟩
  rw [List.length_take,←List.take_take,ht]
def D1 (A:Option Addr) (c i sz:Nat):Option Addr:=if c=i then A else A.map fun a=>a.add (i*sz)
theorem IS (h:(Ae d (.slice A m c) xs).P w F) {i:Nat} (hi:i≤m):(Ae d (.slice (D1 A c i d.sz) (m - i) (c - i)) (xs.drop i)).P w F:=by
 obtain ⟨A',m',c',e,hl,h1,h2,cs,hr,hrep⟩:=h
 simp only [List.cons.injEq,Value.slice.injEq,and_true] at e
 obtain ⟨rfl,rfl,rfl⟩:=e
 refine ⟨_,_,_,rfl,by rw [List.length_drop];omega,by omega,by omega,cs.drop (i*d.sz),⟨trivial,?_⟩,hrep.drop i⟩
 have hlen:=hrep.len
 by_cases hc:c=i
 ·refine .inl ?_
  rw [List.drop_eq_nil_iff]
  rw [hlen]
  exact Nat.mul_le_mul_right _ (by omega)
 ·rcases hr.2 with rfl|⟨b,off,C,t,fr,e,hb,hh,ht⟩
  ·exact .inl (by simp)
  ·refine .inr ⟨b,off+i*d.sz,C,t,fr,?_,hb,hh,?_⟩
   ·unfold D1
    rw [if_neg hc,e,Option.map_some,EE]
   ·have:=congrArg (List.drop (i*d.sz)) ht
    rw [List.drop_take,List.drop_drop] at this
    rw [List.length_drop]
    exact this
end
section
variable {P:Program} {n:Nat} {l:BQ} {w:World} {o:Oper} {x y:Operand} {t:TypeId}
theorem Jz {tt e size bytes:TypeId} {A:Option Addr} {m c i':Nat} {k:IntKind} {i:Int} (ho:o.op=.slice tt x (some y) none none) (hs:Dn P tt=some (e,size,bytes)) (hx:ev l x=some (.slice A m c)) (hy:ev l y=some (.int k i))
  (h0:0≤i) (h1:i≤(m:Int)) (hi':i.toNat=i'):BL P n l w o (.slice (D1 A c i' size) (m - i') (c - i')) w:=by
 intro a ha
 obtain ⟨hu,inf,hi,hz,_⟩:=FE hs
 subst hi'
 have hb:(Instr.sliceBounds true m c (some (.int k i)) none none).run P w=.ok (i.toNat,m,c) w:=by
  simp [Instr.sliceBounds,Instr.sliceBound,asIntOf,h0,h1]
 unfold D1
 by_cases e1:c=i.toNat
 ·rw [if_pos e1]
  rw [e1] at hb
  simp [execOp,ho,ha.eval hx,ha.eval hy,Instr.sliceAt,Instr.slice,hb,run_underlying hu,sizeOf,typeInfo,hi,hz,e1]
 ·rw [if_neg e1]
  simp [execOp,ho,ha.eval hx,ha.eval hy,Instr.sliceAt,Instr.slice,hb,run_underlying hu,sizeOf,typeInfo,hi,hz,e1]
end
section
variable {P:Program} {n:Nat} {l:BQ} {w:World} {o:Oper} {x y:Operand} {t:TypeId} {t':TypeId} {a b:ByteArray}
end
def EO (P:Program) (f:FuncId) (g:Array Value→Sem Value):Prop:=∃ fn,P.funcs[f]?=some fn∧(fn.name== "runtime.NumGoroutine")=false∧fn.body.isNone=true∧Extern.findNext fn=none∧Extern.find fn=some g
section
variable {P:Program} {ops:Array Oper} {Q:Exit→Act→World→Prop} {rest:List Oper} {n:Nat} {l:BQ} {w0 w w':World} {F0:AU} {o:Oper} {v:Value} {As Rs:List SP} {f:FuncId} {xs:List Operand} {vs:List Value} {ts:Array TypeId} {b off:Nat} {cs:List Value} {t:TypeId}
theorem IK (ho:o.op=.call { callee:=.value (.func f),args:=xs.toArray,argTypes:=ts }) (hx:xs.map (ev l)=vs.map some) (hr:(callFunc f vs.toArray).run P w=.ok (.value v) w'):BL P n l w o v w':=by
 intro a ha
 have:=LU ha xs vs hx
 simp [execOp,ho,resolve,Act.eval,Deferred.ofValue,invoke,this,hr]
theorem KY {k:IntKind} {x:Int} (he:EO P f (Extern.Atomic.loadT (.int k))) (ho:o.op=.call { callee:=.value (.func f),args:=xs.toArray,argTypes:=ts }) (hx:xs.map (ev l)=[some (.pointer (some ⟨b,off,none⟩))]) (hc:w.cell? ⟨b,off,none⟩=some (.int k x)):BL P n l w o (.int k x) w:=by
 obtain ⟨fn,h1,h2,h3,h4,h5⟩:=he
 exact IK (vs:=[.pointer (some ⟨b,off,none⟩)]) ho hx (run_call_load h1 h2 h3 h4 k h5 hc)
theorem Nq {w:World} {F:AU} (h:(blk b cs t).P w F) (i:Nat) (v:Value):(blk b (cs.set i v) t).P (w.setCell ⟨b,i,none⟩ v) F∧Cv F w (w.setCell ⟨b,i,none⟩ v):=⟨LN h i v,Cv.setCell w _ v h.1⟩
theorem Sa {k:IntKind} {y:Int} {u:Value} (he:EO P f Extern.Atomic.storeT) (hg:gd ops l o=some true) (hd:C0 n o.dst=true) (ho:o.op=.call { callee:=.value (.func f),args:=xs.toArray,argTypes:=ts }) (hx:xs.map (ev l)=[some (.pointer (some ⟨b,off,none⟩)),some (.int k y)])
  (H:Hd w0 F0 w (blk b cs t::As) Rs) (hc:cs[off]?=some u) (h:∀ w',Hd w0 F0 w' (blk b (cs.set off (.int k y)) t::As) Rs→WL P ops Q rest n (CH l o.dst (.tuple #[])) w'):WL P ops Q (o::rest) n l w:=by
 obtain ⟨fn,h1,h2,h3,h4,h5⟩:=he
 exact V hg hd (IK (vs:=[.pointer (some ⟨b,off,none⟩),.int k y]) ho hx (run_call_store h1 h2 h3 h4 h5 (H.cell (List.mem_cons_self ..) hc) (H.free (List.mem_cons_self ..) off))) (h _ (H.write fun F hF=>Nq hF off _))
theorem R_ {k:IntKind} {x y:Int} (he:EO P f (Extern.Atomic.casT (.int k))) (hg:gd ops l o=some true) (hd:C0 n o.dst=true) (ho:o.op=.call { callee:=.value (.func f),args:=xs.toArray,argTypes:=ts }) (hx:xs.map (ev l)=[some (.pointer (some ⟨b,off,none⟩)),some (.int k x),some (.int k y)])
  (H:Hd w0 F0 w (blk b cs t::As) Rs) (hc:cs[off]?=some (.int k x)) (h:∀ w',Hd w0 F0 w' (blk b (cs.set off (.int k y)) t::As) Rs→WL P ops Q rest n (CH l o.dst (.bool true)) w'):WL P ops Q (o::rest) n l w:=by
 obtain ⟨fn,h1,h2,h3,h4,h5⟩:=he
 exact V hg hd (IK (vs:=[.pointer (some ⟨b,off,none⟩),.int k x,.int k y]) ho hx (run_call_cas_hit h1 h2 h3 h4 k h5 (H.cell (List.mem_cons_self ..) hc) (H.free (List.mem_cons_self ..) off))) (h _ (H.write fun F hF=>Nq hF off _))
theorem bN {k:IntKind} {x y z:Int} (he:EO P f (Extern.Atomic.update (Op.intArith .add) k true)) (hg:gd ops l o=some true) (hd:C0 n o.dst=true) (ho:o.op=.call { callee:=.value (.func f),args:=xs.toArray,argTypes:=ts }) (hx:xs.map (ev l)=[some (.pointer (some ⟨b,off,none⟩)),some (.int k y)])
  (H:Hd w0 F0 w (blk b cs t::As) Rs) (hc:cs[off]?=some (.int k x)) (hz:k.wrap (x+y)=z) (h:∀ w',Hd w0 F0 w' (blk b (cs.set off (.int k z)) t::As) Rs→WL P ops Q rest n (CH l o.dst (.int k z)) w'):WL P ops Q (o::rest) n l w:=by
 obtain ⟨fn,h1,h2,h3,h4,h5⟩:=he
 refine V hg hd (IK (vs:=[.pointer (some ⟨b,off,none⟩),.int k y]) ho hx (run_call_add h1 h2 h3 h4 k h5 (s:=z) (H.cell (List.mem_cons_self ..) hc) (H.free (List.mem_cons_self ..) off) ?_)) (h _ (H.write fun F hF=>Nq hF off _))
 subst hz
 simp [Op.intArith]
theorem K5 {m:Mark} (he:EO P f (fun _=>do mark m;pure Extern.Race.none_)) (ho:o.op=.call { callee:=.value (.func f),args:=xs.toArray,argTypes:=ts }) (hx:xs.map (ev l)=[]):BL P n l w o (.tuple #[]) w:=by
 obtain ⟨fn,h1,h2,h3,h4,h5⟩:=he
 exact IK (vs:=[]) ho hx (run_call_mark0 h1 h2 h3 h4 m h5 w)
theorem RI {m:Addr→Mark} (he:EO P f (Extern.Race.marked m)) (ho:o.op=.call { callee:=.value (.func f),args:=xs.toArray,argTypes:=ts }) {A:Addr} (hx:xs.map (ev l)=[some (.pointer (some A))]):BL P n l w o (.tuple #[]) w:=by
 obtain ⟨fn,h1,h2,h3,h4,h5⟩:=he
 exact IK (vs:=[.pointer (some A)]) ho hx (run_call_marked h1 h2 h3 h4 m h5 A w)
end
inductive Fh
 |z
 |e (i:Nat) (s:Fh)
 |m (i:Nat) (s:Fh)
 |p (i j:Nat) (s:Fh)
 |b (i j:Nat) (s t:Fh)
def FZ:Fh→Nat
 |.z=>0
 |.e _ s=>FZ s+1
 |.m _ s=>FZ s+1
 |.p _ _ s=>FZ s+2
 |.b _ _ s _=>FZ s+1
def FA (ops:Array Oper):Fh→Array Bool→Bool
 |.z,listed=>(Region.ready .any ops listed).isEmpty
 |.m i s,listed=>decide (Region.ready .any ops listed=[i]) && FA ops s (listed.setIfInBounds i true)
 |.e i s,listed=>(Region.ready .any ops listed).contains i && Region.free .any ops listed i && FA ops s (listed.setIfInBounds i true)
 |.p i j s,listed=>decide (Region.ready .any ops listed=[i,j]) && decide (Region.ready .any ops (listed.setIfInBounds i true)=[j]) && decide (Region.ready .any ops (listed.setIfInBounds j true)=[i]) && Nat.blt i j && FA ops s ((listed.setIfInBounds i true).setIfInBounds j true)
 |.b i j s t,listed=>decide (Region.ready .any ops listed=[i,j]) && Nat.beq (FZ s) (FZ t) && FA ops s (listed.setIfInBounds i true) && FA ops t (listed.setIfInBounds j true)
section
variable {P:Program} {ops:Array Oper} {Q:Exit→Act→World→Prop} {S:World→Prop}
def Ei (K:Act→World→Prop):Exit→Act→World→Prop
 |.normal,a,w=>K a w
 |_,_,_=>False
def Fr (P:Program) (ops:Array Oper) (Q:Exit→Act→World→Prop) (S:World→Prop):Fh→Act→World→Prop
 |.z,a,w=>Q .normal a w
 |.p i j s,a,w=>∃ oi oj vi vj,ops[i]?=some oi∧ops[j]?=some oj∧(∀ a',(a'=a∨a'=a.put oj.dst vj)→Region.wanted oi (yielded ops a'.tmps)=true∧(execOp a'.eval oi).run P w=.ok (.value vi) w)∧
   (∀ a',(a'=a∨a'=a.put oi.dst vi)→Region.wanted oj (yielded ops a'.tmps)=true∧(execOp a'.eval oj).run P w=.ok (.value vj) w)∧Fr P ops Q S s ((a.put oi.dst vi).put oj.dst vj) w∧Fr P ops Q S s ((a.put oj.dst vj).put oi.dst vi) w
 |.b i j s t,a,w=>(∃ o,ops[i]?=some o∧wpList P ops (Ei fun a w=>S w∧Fr P ops Q S s a w) [o] a w)∧∃ o,ops[j]?=some o∧wpList P ops (Ei fun a w=>S w∧Fr P ops Q S t a w) [o] a w
 |.m i s,a,w=>∃ o,ops[i]?=some o∧wpList P ops (Ei fun a w=>S w∧Fr P ops Q S s a w) [o] a w
 |.e i s,a,w=>∃ o v,ops[i]?=some o∧YieldsIf P ops S o v a∧Fr P ops Q S s (a.put o.dst v) w
theorem SN {o:Oper} {a:Act} {w:World} {K:Act→World→Prop} {Q':Exit→Act→World→Prop} (hh:o.wp P a w K (Ei K)):o.wp P a w K Q':=by
 unfold Oper.wp at *
 generalize (execOp a.eval o).run P w=r at *
 cases r with
 |ok n w'=>
  cases n<;>simp only [Oper.upon] at hh ⊢<;>
   first
    |exact hh
    |exact Calls.mono hh (fun e w'' he=>by cases e<;>first |exact he|exact he.elim|exact (let ⟨_,_,h⟩:=he;h.elim))
 |halt x w'=>cases x<;>simp only [Oper.upon] at hh ⊢<;>first |exact hh|exact hh.elim
theorem NM {i:Nat} {o:Oper} {a:Act} {w:World} {K K2:Act→World→Prop} (ho:ops[i]?=some o) (hS:S w) (h:wpList P ops (Ei fun a w=>S w∧K a w) [o] a w) (hk:∀ a' w',S w'→K a' w'→K2 a' w'):
  wpOp P ops (Ei fun a w=>Q .normal a w) i (fun a' w'=>S w'∧K2 a' w') a w:=by
 unfold wpOp
 simp only [ho]
 simp only [wpList] at h
 split
 ·rename_i hw
  rw [if_pos hw] at h
  rcases h with h|⟨_,a',w',h⟩
  ·exact .inl (Oper.wp_mono (fun a' w' (h':S w'∧K a' w')=>⟨h'.1,hk a' w' h'.1 h'.2⟩) (SN h))
  ·exact h.elim
 ·rename_i hw
  rw [if_neg hw] at h
  exact ⟨h.1,hk _ w h.1 h.2⟩
theorem HG (hs:Region.noSelect ops=true):∀ (s:Fh) (listed:Array Bool) (a:Act) (w:World),FA ops s listed=true→S w→Fr P ops Q S s a w→
  wpAnyH P .any ops (Ei fun a w=>Q .normal a w) S (FZ s) listed a w
 |.z,listed,a,w,hB,_,h=>⟨by simpa [FA] using hB,h⟩
 |.b i j s t,listed,a,w,hB,hS,h=>by
  simp only [FA,Bool.and_eq_true,decide_eq_true_eq] at hB
  obtain ⟨⟨⟨b1,b2⟩,b3⟩,b4⟩:=hB
  have b2:FZ s=FZ t:=Nat.eq_of_beq_eq_true b2
  obtain ⟨⟨oi,hi,h1⟩,oj,hj,h2⟩:=h
  refine wpAnyH_all b1 (by simp) fun q hq=>?_
  simp only [List.mem_cons,List.not_mem_nil,or_false] at hq
  rcases hq with rfl|rfl
  ·exact NM hi hS h1 fun a' w' hS' h'=>HG hs s _ a' w' b3 hS' h'
  ·refine NM hj hS h2 fun a' w' hS' h'=>?_
   have:=HG hs t _ a' w' b4 hS' h'
   rwa [←b2] at this
 |.m i s,listed,a,w,hB,hS,h=>by
  simp only [FA,Bool.and_eq_true,decide_eq_true_eq] at hB
  obtain ⟨o,ho,h⟩:=h
  refine wpAnyH_all hB.1 (by simp) fun j hj=>?_
  obtain rfl:j=i:=by simpa using hj
  exact NM ho hS h fun a' w' hS' h'=>HG hs s _ a' w' hB.2 hS' h'
 |.p i j s,listed,a,w,hB,hS,h=>by
  simp only [FA,Bool.and_eq_true,decide_eq_true_eq] at hB
  obtain ⟨⟨⟨⟨b1,b2⟩,b3⟩,b4⟩,b5⟩:=hB
  obtain ⟨oi,oj,vi,vj,hi,hj,ri,rj,k1,k2⟩:=h
  have hij:j≠i:=by
   have:i+1≤j:=by simpa [Nat.blt] using b4
   omega
  have one:∀ (k:Nat) (o:Oper) (v:Value) (a:Act) (K:Act→World→Prop),ops[k]?=some o→Region.wanted o (yielded ops a.tmps)=true→(execOp a.eval o).run P w=.ok (.value v) w→K (a.put o.dst v) w→wpOp P ops (Ei fun a w=>Q .normal a w) k K a w:=by
   intro k o v a K hk hw hr hK
   unfold wpOp
   simp only [hk,hw,if_true,Oper.wp,hr,Oper.upon]
   exact .inl hK
  refine wpAnyH_all b1 (by simp) fun q hq=>?_
  simp only [List.mem_cons,List.not_mem_nil,or_false] at hq
  rcases hq with rfl|rfl
  ·obtain ⟨w1,e1⟩:=ri a (.inl rfl)
   obtain ⟨w2,e2⟩:=rj _ (.inr rfl)
   refine one _ _ _ _ _ hi w1 e1 ⟨hS,wpAnyH_all b2 (by simp) fun r hr=>?_⟩
   obtain rfl:r=j:=by simpa using hr
   exact one _ _ _ _ _ hj w2 e2 ⟨hS,HG hs s _ _ w b5 hS k1⟩
  ·obtain ⟨w1,e1⟩:=rj a (.inl rfl)
   obtain ⟨w2,e2⟩:=ri _ (.inr rfl)
   refine one _ _ _ _ _ hj w1 e1 ⟨hS,wpAnyH_all b3 (by simp) fun r hr=>?_⟩
   obtain rfl:r=i:=by simpa using hr
   refine one _ _ _ _ _ hi w2 e2 ⟨hS,?_⟩
   rw [Array.setIfInBounds_comm _ _ hij]
   exact HG hs s _ _ w b5 hS k2
 |.e i s,listed,a,w,hB,hS,h=>by
  simp only [FA,Bool.and_eq_true] at hB
  obtain ⟨o,v,ho,hy,h⟩:=h
  exact wpAnyH_take ho hs hB.1.2 hB.1.1 (fun _ _ _ h=>h) hy hS (HG hs s _ _ w hB.2 hS h)
end
section
variable {P:Program} {Q:Exit→Act→World→Prop} {S:World→Prop} {n:Nat} {l:BQ} {w0 w:World} {F0:AU} {As Rs:List SP} {s t:Fh} {os:List Oper} {o:Oper} {v:Value} {i:Nat}
def WD (P:Program) (os:List Oper) (Q:Exit→Act→World→Prop) (S:World→Prop) (s:Fh) (n:Nat) (l:BQ) (w:World):Prop:=∀ a,CL n l a→Fr P os.toArray Q S s a w
theorem Cc {id:Nat} (s:Fh) (S:World→Prop) (hm:P.follows .mixedOrders=true) (hB:(Region.noSelect os.toArray && FA os.toArray s (Array.replicate os.length false) && Nat.beq (FZ s) os.length)=true)
  (hS:∀ w',Hd w0 F0 w' As Rs→S w') (H:Hd w0 F0 w As Rs) (h:∀ w',Hd w0 F0 w' As Rs→WD P os Q S s n l w'):WC P (.region id os.toArray true) Q n l w:=by
 intro a ha
 simp only [Bool.and_eq_true] at hB
 have H':Hd w0 F0 { w with drawn:=w.drawn+1 } As Rs:=H.drewN 1
 have h1:=HG (Q:=Q) hB.1.1 s _ a _ (by simpa using hB.1.2) (hS _ H') (h _ H' a ha)
 rw [Nat.eq_of_beq_eq_true hB.2,show os.length=os.toArray.size by simp] at h1
 exact wp_mono (wp_region_held hm (by simpa using h1)) fun e a w h=>by
  cases e<;>first |exact h|exact h.elim
theorem Ao (hi:os[i]?=some o) (hg:gd os.toArray l o=some true) (hd:C0 n o.dst=true) (hr:∀ w,S w→BL P n l w o v w) (h:WD P os Q S s n (CH l o.dst v) w):WD P os Q S (.e i s) n l w:=by
 intro a ha
 exact ⟨o,v,by simpa using hi,.inl ⟨Fa ha hg,fun w hw=>hr w hw a ha⟩,h _ (ha.put _ _ hd)⟩
theorem T9 (hi:os[i]?=some o) (hg:gd os.toArray l o=some false) (hd:C0 n o.dst=true) (h:WD P os Q S s n (CH l o.dst undef) w):WD P os Q S (.e i s) n l w:=by
 intro a ha
 exact ⟨o,undef,by simpa using hi,.inr ⟨Fa ha hg,rfl⟩,h _ (ha.put _ _ hd)⟩
theorem AO (hi:os[i]?=some o) (h:WL P os.toArray (Ei fun a w=>S w∧Fr P os.toArray Q S s a w) [o] n l w):WD P os Q S (.m i s) n l w:=by
 intro a ha
 exact ⟨o,by simpa using hi,h a ha⟩
theorem Gu {oi oj:Oper} {j:Nat} (hi:os[i]?=some oi) (hj:os[j]?=some oj) (h1:WL P os.toArray (Ei fun a w=>S w∧Fr P os.toArray Q S s a w) [oi] n l w)
  (h2:WL P os.toArray (Ei fun a w=>S w∧Fr P os.toArray Q S t a w) [oj] n l w):WD P os Q S (.b i j s t) n l w:=by
 intro a ha
 exact ⟨⟨oi,by simpa using hi,h1 a ha⟩,oj,by simpa using hj,h2 a ha⟩
theorem AG (hS:S w) (h:WD P os Q S s n l w):WL P os.toArray (Ei fun a w=>S w∧Fr P os.toArray Q S s a w) [] n l w:=by
 intro a ha
 exact ⟨hS,h a ha⟩
theorem Jb (hi:os[i]?=some o) (hS:S w) (hg:gd os.toArray l o=some false) (hd:C0 n o.dst=true) (h:WD P os Q S s n (CH l o.dst undef) w):WD P os Q S (.m i s) n l w:=by
 intro a ha
 refine ⟨o,by simpa using hi,?_⟩
 simp only [wpList]
 rw [if_neg (by rw [Fa ha hg];simp)]
 exact ⟨hS,h _ (ha.put _ _ hd)⟩
theorem Jq {d:Option Tmp} {u:Value} {l:BQ} {s:Nat} (h:d≠some s):lk (CH l d u) s=lk l s:=by
 cases d with
 |none=>rfl
 |some d=>
  simp only [CH,lk]
  split
  ·rename_i e _
   exact absurd (congrArg some e) h
  ·rfl
theorem KC {u:Value} {l:BQ} {s:Nat}:lk (CH l (some s) u) s=some u:=by
 simp only [CH,lk]
 split
 ·rfl
 ·rename_i e _
  exact absurd U e
def KP (l:BQ):Option Tmp→Bool
 |some d=>(lk l d).isNone
 |none=>true
theorem O2 {a:Act} {d:Option Tmp} {u:Value} (ha:CL n l a) (hd:C0 n d=true) (hn:KP l d=true):CL n l (a.put d u):=by
 refine (ha.put d u hd).sub fun s v hs=>?_
 rw [Jq ?_,hs]
 rintro rfl
 simp [KP,hs] at hn
theorem Jc {oi oj:Oper} {vi vj:Value} {j:Nat} (hi:os[i]?=some oi) (hj:os[j]?=some oj) (gi:gd os.toArray l oi=some true) (gj:gd os.toArray l oj=some true) (di:C0 n oi.dst=true) (dj:C0 n oj.dst=true)
  (ni:KP l oi.dst=true) (nj:KP l oj.dst=true) (hij:oi.dst≠oj.dst) (ri:BL P n l w oi vi w) (rj:BL P n l w oj vj w) (h:WD P os Q S s n (CH (CH l oi.dst vi) oj.dst vj) w):WD P os Q S (.p i j s) n l w:=by
 intro a ha
 have f1:=O2 (u:=vi) ha di ni
 have f2:=O2 (u:=vj) ha dj nj
 refine ⟨oi,oj,vi,vj,by simpa using hi,by simpa using hj,?_,?_,h _ ((ha.put _ _ di).put _ _ dj),h _ (((ha.put _ _ dj).put _ _ di).sub fun s v hs=>?_)⟩
 ·rintro a' (rfl|rfl)
  ·exact ⟨Fa ha gi,ri _ ha⟩
  ·exact ⟨Fa f2 gi,ri _ f2⟩
 ·rintro a' (rfl|rfl)
  ·exact ⟨Fa ha gj,rj _ ha⟩
  ·exact ⟨Fa f1 gj,rj _ f1⟩
 ·by_cases e1:oj.dst=some s
  ·rw [Jq (by rw [←e1];exact hij)]
   rw [e1,KC] at hs
   rw [e1,KC]
   exact hs
  ·rw [Jq e1] at hs
   by_cases e2:oi.dst=some s
   ·rw [e2,KC] at hs
    rw [e2,KC]
    exact hs
   ·rw [Jq e2] at hs ⊢
    rw [Jq e1]
    exact hs
theorem BN (h:WQ Q .normal n l w):WD P os Q S .z n l w:=h
theorem OK {d:Nat} {b:Bool} (hc:lk l d=some (.bool b)) (ht:b=true→WD P os Q S s n ((d,.bool true)::l) w) (hf:b=false→WD P os Q S s n ((d,.bool false)::l) w):WD P os Q S s n l w:=by
 intro a ha
 cases b
 ·refine hf U a ⟨ha.defers,ha.size,fun s v hs=>?_⟩
  simp only [lk] at hs
  split at hs
  ·rename_i e _
   obtain rfl:Value.bool false=v:=by simpa using hs
   subst e
   exact ha.get _ _ hc
  ·exact ha.get _ _ hs
 ·refine ht U a ⟨ha.defers,ha.size,fun s v hs=>?_⟩
  simp only [lk] at hs
  split at hs
  ·rename_i e _
   obtain rfl:Value.bool true=v:=by simpa using hs
   subst e
   exact ha.get _ _ hc
  ·exact ha.get _ _ hs
theorem Ka {d:Nat} {p:Prop} {_:Decidable p} (hc:lk l d=some (.bool (decide p))) (ht:p→WD P os Q S s n ((d,.bool true)::l) w) (hf:¬ p→WD P os Q S s n ((d,.bool false)::l) w):WD P os Q S s n l w:=
 OK hc (fun h=>ht (of_decide_eq_true h)) (fun h=>hf (of_decide_eq_false h))
end
inductive FJ
 |e (i:Nat) (q:FJ)
 |m (i:Nat) (q:FJ)
 |w (i:Nat) (s:Fh)
def JP:FJ→Nat
 |.e _ q=>JP q+1
 |.m _ q=>JP q+1
 |.w _ s=>FZ s+1
def GM:FJ→Nat
 |.e _ q=>GM q
 |.m _ q=>GM q
 |.w i _=>i
def HF (ops:Array Oper) (k i:Nat):Bool:=match ops[k]? with
 |some o=>o.after.any fun e=>Region.binds .any e && Nat.beq e.on i
 |none=>false
def Gq (ops:Array Oper):Nat→Nat→Nat→Bool
 |0,k,i=>HF ops k i
 |n+1,k,i=>HF ops k i||(List.range ops.size).any fun m=>HF ops k m && Gq ops n m i
def Ik (ops:Array Oper) (listed:Array Bool):Prop:=∀ (k:Nat) (o:Oper),ops[k]?=some o→listed.getD k true=true→∀ e∈o.after,Region.binds .any e=true→listed.getD e.on true=true
theorem NJ {ops:Array Oper} {L:Array Bool} {k i:Nat} (h:HF ops k i=true) (hk:∀ o,ops[k]?=some o→∀ e∈o.after,Region.binds .any e=true→L.getD e.on true=true):L.getD i true=true:=by
 unfold HF at h
 split at h
 ·rename_i o ho
  obtain ⟨x,hx,hx2⟩:=Array.any_eq_true'.1 h
  rw [Bool.and_eq_true] at hx2
  have:=hk o ho x hx hx2.1
  rwa [Nat.eq_of_beq_eq_true hx2.2] at this
 ·cases h
theorem SJ {ops:Array Oper} {L:Array Bool} (hL:Ik ops L) {i:Nat}:∀ (n k:Nat),Gq ops n k i=true→(∀ o,ops[k]?=some o→∀ e∈o.after,Region.binds .any e=true→L.getD e.on true=true)→L.getD i true=true
 |0,k,h,hk=>NJ h hk
 |n+1,k,h,hk=>by
  unfold Gq at h
  rw [Bool.or_eq_true] at h
  rcases h with h|h
  ·exact NJ h hk
  ·obtain ⟨m,_,hm⟩:=List.any_eq_true.1 h
   rw [Bool.and_eq_true] at hm
   have h1:=NJ hm.1 hk
   exact SJ hL n m hm.2 fun o ho e he hb=>hL m o ho h1 e he hb
def Gh (ops:Array Oper):FJ→Array Bool→Bool
 |.e i q,listed=>(Region.ready .any ops listed).contains i && Region.free .any ops listed i && Gq ops 2 (GM q) i && Gh ops q (listed.setIfInBounds i true)
 |.m i q,listed=>decide (Region.ready .any ops listed=[i]) && Gh ops q (listed.setIfInBounds i true)
 |.w i s,listed=>decide (Region.ready .any ops listed=[i]) && FA ops s (listed.setIfInBounds i true)
section
variable {P:Program} {ops:Array Oper} {Q:Exit→Act→World→Prop} {S S2:World→Prop} {W:Nat}
def Ie (P:Program) (ops:Array Oper) (Q:Exit→Act→World→Prop) (S S2:World→Prop) (W:Nat):Nat→Array Bool→Act→World→Prop
 |0,listed,a,w=>Region.ready .any ops listed=[]∧Q .normal a w
 |n+1,listed,a,w=>(Region.ready .any ops listed=[]→Q .normal a w)∧∀ i∈Region.ready .any ops listed,
   wpOp P ops Q i (fun a' w'=>(i≠W∧S w'∧Ie P ops Q S S2 W n (listed.setIfInBounds i true) a' w')∨(i=W∧wpAnyH P .any ops Q S2 n (listed.setIfInBounds i true) a' w')) a w
theorem SL:∀ (n:Nat) (listed:Array Bool) (a:Act) (w:World),Ie P ops Q S S2 W n listed a w→wpAny P .any ops Q n listed a w
 |0,_,_,_,h=>h
 |n+1,_,_,_,h=>⟨h.1,fun i hi=>wpOp_mono (fun a' w' h'=>h'.elim (fun g=>SL n _ a' w' g.2.2) fun g=>wpAny_of_held n _ a' w' g.2) (h.2 i hi)⟩
theorem Lk (i:Nat) {k:Nat} (L:Array Bool) (h:L.getD k true=true):(L.setIfInBounds i true).getD k true=true:=by
 by_cases e:i=k
 ·subst e
  rcases Nat.lt_or_ge i L.size with h'|h'
  ·simp [Array.getD_eq_getD_getElem?,h']
  ·simp [Array.getD_eq_getD_getElem?,Array.getElem?_eq_none,h']
 ·rw [getD_set_ne true e];exact h
theorem Qy {L:Array Bool} {k:Nat} (h:L.getD k false=true):L.getD k true=true:=by
 rw [Array.getD_eq_getD_getElem?] at h ⊢
 cases hk:L[k]? with
 |none=>rfl
 |some b=>rw [hk] at h;exact h
theorem Ns {L:Array Bool} {j:Nat} (h:Ik ops L) (hj:j∈Region.ready .any ops L):Ik ops (L.setIfInBounds j true):=by
 intro k o ho hk e he hb
 obtain ⟨_,oj,hoj,hall⟩:=mem_ready.1 hj
 by_cases hjk:j=k
 ·subst hjk
  rw [hoj] at ho
  injection ho with ho
  subst ho
  exact Lk j L (Qy (hall e he hb))
 ·rw [getD_set_ne true hjk] at hk
  exact Lk j L (h k o ho hk e he hb)
theorem UK {i:Nat} {oi:Oper} {v:Value} (hi:ops[i]?=some oi) (hsel:∀ (j:Nat) (o:Oper) cs b,ops[j]?=some o→o.op≠.select cs b) (hQ:∀ c a w,Q (.panic c) (a.put oi.dst v) w→Q (.panic c) a w)
  (hw:Gq ops 2 W i=true) (hiW:i≠W):∀ (n:Nat) (listed:Array Bool) (a:Act) (w:World),Ik ops listed→
   (∀ j oj,ops[j]?=some oj→j≠i→listed.getD j true=false→(∀ e∈oj.after,Region.binds .any e=true→e.on≠i)→oi.apart ops oj=true)→
   i∈Region.ready .any ops listed→YieldsIf P ops S oi v a→S w→Ie P ops Q S S2 W n (listed.setIfInBounds i true) (a.put oi.dst v) w→Ie P ops Q S S2 W (n+1) listed a w:=by
 intro n
 induction n with
 |zero=>
  intro listed a w hcl _ hr hy hS hH
  refine ⟨fun h=>(by rw [h] at hr;cases hr),fun j hj=>?_⟩
  by_cases hji:j=i
  ·subst hji;exact hy.wpOp hi hS (.inl ⟨hiW,hS,hH⟩)
  ·have:=ready_mono hj hji
   rw [hH.1] at this
   cases this
 |succ n ih=>
  intro listed a w hcl hfree hr hy hS hH
  refine ⟨fun h=>(by rw [h] at hr;cases hr),fun j hj=>?_⟩
  by_cases hji:j=i
  ·subst hji;exact hy.wpOp hi hS (.inl ⟨hiW,hS,hH⟩)
  ·have h1:=hH.2 j (ready_mono hj hji)
   obtain ⟨hjun,oj,hoj,hall⟩:=mem_ready.1 hj
   have hnot:∀ e∈oj.after,Region.binds .any e=true→e.on≠i:=by
    intro e he hb heq
    have g1:=hall e he hb
    have g0:=(mem_ready.1 hr).1
    rw [heq] at g1
    rcases Nat.lt_or_ge i listed.size with h'|h'
    ·simp [h'] at g0 g1;rw [g0] at g1;cases g1
    ·simp [Array.getElem?_eq_none h'] at g1
   have hjW:j≠W:=by
    intro e
    have g0:=(mem_ready.1 hr).1
    have g1:=SJ hcl 2 W hw fun o ho x hx hb=>Qy (hall x (by rw [←e,hoj] at ho;injection ho with ho;rw [ho];exact hx) hb)
    rw [g1] at g0
    cases g0
   have h2:=wpOp_putIf hoj (hfree j oj hoj hji hjun hnot) (fun cs b=>hsel i oi cs b hi) (fun cs b=>hsel j oj cs b hoj) hQ hy h1
   refine wpOp_mono (fun a' w' h3=>?_) h2
   obtain ⟨hy',h4|h4⟩:=h3
   ·refine .inl ⟨hjW,h4.2.1,ih (listed.setIfInBounds j true) a' w' (Ns hcl hj) (fun k ok hk hki hun hno=>?_) (ready_mono hr (Ne.symm hji)) hy' h4.2.1 ?_⟩
    ·refine hfree k ok hk hki ?_ hno
     by_cases hjk:j=k
     ·subst hjk;exact hjun
     ·rw [getD_set_ne true hjk] at hun;exact hun
    ·rw [Array.setIfInBounds_comm _ _ hji]
     exact h4.2.2
   ·exact absurd h4.1 hjW
def I3 (P:Program) (ops:Array Oper) (Q:Exit→Act→World→Prop) (S S2:World→Prop):FJ→Act→World→Prop
 |.e i q,a,w=>∃ o v,ops[i]?=some o∧YieldsIf P ops S o v a∧I3 P ops Q S S2 q (a.put o.dst v) w
 |.m i q,a,w=>∃ o,ops[i]?=some o∧wpList P ops (Ei fun a w=>S w∧I3 P ops Q S S2 q a w) [o] a w
 |.w i s,a,w=>∃ o,ops[i]?=some o∧wpList P ops (Ei fun a w=>S2 w∧Fr P ops Q S2 s a w) [o] a w
theorem SM {i:Nat} {o:Oper} {a:Act} {w:World} {T:World→Prop} {K K2:Act→World→Prop} (ho:ops[i]?=some o) (h:wpList P ops (Ei fun a w=>T w∧K a w) [o] a w) (hk:∀ a' w',T w'→K a' w'→K2 a' w'):
  wpOp P ops (Ei fun a w=>Q .normal a w) i K2 a w:=by
 unfold wpOp
 simp only [ho]
 simp only [wpList] at h
 split
 ·rename_i hw
  rw [if_pos hw] at h
  rcases h with h|⟨_,a',w',h⟩
  ·exact .inl (Oper.wp_mono (fun a' w' (h':T w'∧K a' w')=>hk a' w' h'.1 h'.2) (SN h))
  ·exact h.elim
 ·rename_i hw
  rw [if_neg hw] at h
  exact hk _ w h.1 h.2
theorem NL (hs:Region.noSelect ops=true):∀ (q:FJ) (listed:Array Bool) (a:Act) (w:World),Gh ops q listed=true→Ik ops listed→(∀ k,Gq ops 2 k k=true→False)→listed.getD (GM q) true=false→S w→I3 P ops Q S S2 q a w→
  Ie P ops (Ei fun a w=>Q .normal a w) S S2 (GM q) (JP q) listed a w
 |.e i q,listed,a,w,hB,hcl,hno,hl,hS,h=>by
  simp only [Gh,Bool.and_eq_true] at hB
  obtain ⟨o,v,ho,hy,h⟩:=h
  have hne:i≠GM q:=fun e=>hno i (by have:=hB.1.2;rw [←e] at this;exact this)
  exact UK ho (Region.noSelect_spec hs) (fun _ _ _ h=>h) hB.1.2 hne _ listed a w hcl (Region.free_spec ho hB.1.1.2) (by simpa using hB.1.1.1) hy hS
   (NL hs q _ _ w hB.2 (Ns hcl (by simpa using hB.1.1.1)) hno (by rw [getD_set_ne true hne];exact hl) hS h)
 |.m i q,listed,a,w,hB,hcl,hno,hl,hS,h=>by
  simp only [Gh,Bool.and_eq_true,decide_eq_true_eq] at hB
  obtain ⟨o,ho,h⟩:=h
  show Ie P ops _ S S2 (GM q) (JP q+1) listed a w
  refine ⟨fun h0=>(by rw [hB.1] at h0;cases h0),fun j hj=>?_⟩
  rw [hB.1] at hj
  obtain rfl:j=i:=by simpa using hj
  by_cases hne:j=GM q
  ·exfalso
   have:∀ (q:FJ) (L:Array Bool),L.getD (GM q) true=true→Gh ops q L=true→False:=by
    intro q
    induction q with
    |e i q ih=>intro L hL hB;simp only [Gh,Bool.and_eq_true] at hB;exact ih _ (Lk i _ hL) hB.2
    |m i q ih=>intro L hL hB;simp only [Gh,Bool.and_eq_true] at hB;exact ih _ (Lk i _ hL) hB.2
    |w i s=>
     intro L hL hB
     simp only [Gh,Bool.and_eq_true,decide_eq_true_eq] at hB
     have hr:i∈Region.ready .any ops L:=by rw [hB.1];simp
     have:=(mem_ready.1 hr).1
     rw [show L.getD i true=true from hL] at this;cases this
   refine this q _ ?_ hB.2
   rw [←hne]
   rcases Nat.lt_or_ge j listed.size with h'|h'
   ·simp [Array.getD_eq_getD_getElem?,h']
   ·simp [Array.getD_eq_getD_getElem?,Array.getElem?_eq_none h',Array.getElem?_setIfInBounds_ne,h']
  ·exact SM ho h fun a' w' hS' h'=>.inl ⟨hne,hS',NL hs q _ a' w' hB.2 (Ns hcl (by rw [hB.1];simp)) hno (by rw [getD_set_ne true hne];exact hl) hS' h'⟩
 |.w i s,listed,a,w,hB,hcl,hno,hl,hS,h=>by
  simp only [Gh,Bool.and_eq_true,decide_eq_true_eq] at hB
  obtain ⟨o,ho,h⟩:=h
  show Ie P ops _ S S2 i (FZ s+1) listed a w
  refine ⟨fun h0=>(by rw [hB.1] at h0;cases h0),fun j hj=>?_⟩
  rw [hB.1] at hj
  obtain rfl:j=i:=by simpa using hj
  exact SM ho h fun a' w' hS' h'=>.inr ⟨rfl,HG hs s _ a' w' hB.2 hS' h'⟩
end
section
variable {P:Program} {Q:Exit→Act→World→Prop} {S S2:World→Prop} {n:Nat} {l:BQ} {w0 w:World} {F0:AU} {As Rs:List SP} {s:Fh} {q:FJ} {os:List Oper} {o:Oper} {v:Value} {i:Nat}
def WG (P:Program) (os:List Oper) (Q:Exit→Act→World→Prop) (S S2:World→Prop) (q:FJ) (n:Nat) (l:BQ) (w:World):Prop:=∀ a,CL n l a→I3 P os.toArray Q S S2 q a w
def Q3 (ops:Array Oper):Bool:=(List.range ops.size).all fun k=>!Gq ops 2 k k
theorem eX {ops:Array Oper} {k i:Nat} (hk:ops[k]?=none):∀ n,Gq ops n k i=false
 |0=>by unfold Gq HF;rw [hk]
 |n+1=>by
  have h0:∀ m,HF ops k m=false:=fun m=>by unfold HF;rw [hk]
  unfold Gq
  rw [h0,Bool.false_or,List.any_eq_false]
  intro m _
  rw [h0];simp
theorem YA {ops:Array Oper} (h:Q3 ops=true) (k:Nat) (hk:Gq ops 2 k k=true):False:=by
 by_cases hl:k<ops.size
 ·have:=List.all_eq_true.1 h k (List.mem_range.2 hl)
  rw [hk] at this;cases this
 ·rw [eX (Array.getElem?_eq_none (by omega))] at hk;cases hk
theorem cE (ops:Array Oper):Ik ops (Array.replicate ops.size false):=by
 intro k o ho hk
 obtain ⟨hl,_⟩:=Array.getElem?_eq_some_iff.1 ho
 simp [Array.getD_eq_getD_getElem?,hl] at hk
theorem Tw {id:Nat} (q:FJ) (S S2:World→Prop) (hm:P.follows .mixedOrders=true) (hB:(Region.noSelect os.toArray && Q3 os.toArray && !((Array.replicate os.length false).getD (GM q) true) && Gh os.toArray q (Array.replicate os.length false) && Nat.beq (JP q) os.length)=true)
  (hS:∀ w',Hd w0 F0 w' As Rs→S w') (H:Hd w0 F0 w As Rs) (h:∀ w',Hd w0 F0 w' As Rs→WG P os Q S S2 q n l w'):WC P (.region id os.toArray true) Q n l w:=by
 intro a ha
 simp only [Bool.and_eq_true,Bool.not_eq_true'] at hB
 have H':Hd w0 F0 { w with drawn:=w.drawn+1 } As Rs:=H.drewN 1
 have h1:=NL (Q:=Q) (S2:=S2) hB.1.1.1.1 q _ a _ hB.1.2 (by have:=cE os.toArray;simpa using this) (YA hB.1.1.1.2) hB.1.1.2 (hS _ H') (h _ H' a ha)
 have h2:=SL _ _ _ _ h1
 rw [Nat.eq_of_beq_eq_true hB.2,show os.length=os.toArray.size by simp] at h2
 exact wp_mono (wp_region_any hm (by simpa using h2)) fun e a w h=>by
  cases e<;>first |exact h|exact h.elim
theorem FR (hi:os[i]?=some o) (hg:gd os.toArray l o=some true) (hd:C0 n o.dst=true) (hr:∀ w,S w→BL P n l w o v w) (h:WG P os Q S S2 q n (CH l o.dst v) w):WG P os Q S S2 (.e i q) n l w:=by
 intro a ha
 exact ⟨o,v,by simpa using hi,.inl ⟨Fa ha hg,fun w hw=>hr w hw a ha⟩,h _ (ha.put _ _ hd)⟩
theorem U9 (hi:os[i]?=some o) (hg:gd os.toArray l o=some false) (hd:C0 n o.dst=true) (h:WG P os Q S S2 q n (CH l o.dst undef) w):WG P os Q S S2 (.e i q) n l w:=by
 intro a ha
 exact ⟨o,undef,by simpa using hi,.inr ⟨Fa ha hg,rfl⟩,h _ (ha.put _ _ hd)⟩
theorem Mi (hi:os[i]?=some o) (h:WL P os.toArray (Ei fun a w=>S w∧I3 P os.toArray Q S S2 q a w) [o] n l w):WG P os Q S S2 (.m i q) n l w:=by
 intro a ha
 exact ⟨o,by simpa using hi,h a ha⟩
theorem Mh (hS:S w) (h:WG P os Q S S2 q n l w):WL P os.toArray (Ei fun a w=>S w∧I3 P os.toArray Q S S2 q a w) [] n l w:=by
 intro a ha
 exact ⟨hS,h a ha⟩
theorem U_ (hi:os[i]?=some o) (h:WL P os.toArray (Ei fun a w=>S2 w∧Fr P os.toArray Q S2 s a w) [o] n l w):WG P os Q S S2 (.w i s) n l w:=by
 intro a ha
 exact ⟨o,by simpa using hi,h a ha⟩
end
def IH:List Value→Nat→Option Value
 |[],_=>none
 |v::_,0=>some v
 |_::r,i+1=>IH r i
theorem Q4:∀ (l:List Value) (i:Nat),IH l i=l[i]?
 |[],i=>by simp [IH]
 |v::r,0=>by simp [IH]
 |v::r,i+1=>by simp [IH,Q4 r i]
def KL (l:BQ):Op→Option Value
 |.move x=>ev l x
 |.assign x=>ev l x
 |.pick c x y=>match ev l c with
  |some (.bool true)=>ev l x
  |some (.bool false)=>ev l y
  |_=>none
 |.extract x i=>match ev l x with
  |some (.tuple vs)=>IH vs.toList i
  |_=>none
 |_=>none
def IX (ops:Array Oper) (n:Nat) (l:BQ) (o:Oper):Option BQ:=
 match C0 n o.dst with
 |false=>none
 |true=>match gd ops l o with
  |some true=>match KL l o.op with
   |some v=>some (CH l o.dst v)
   |none=>none
  |some false=>some (CH l o.dst undef)
  |none=>none
def G9 (ops:Array Oper) (n:Nat):Nat→List Oper→BQ→Option (List Oper×BQ)
 |0,r,l=>some (r,l)
 |k+1,o::r,l=>match IX ops n l o with
  |some l'=>G9 ops n k r l'
  |none=>none
 |_+1,[],_=>none
theorem KM {P:Program} {n:Nat} {l:BQ} {w:World} {o:Oper} {v:Value} (h:KL l o.op=some v):BL P n l w o v w:=by
 unfold KL at h
 split at h
 ·rename_i x ho;exact ZJ ho h
 ·rename_i x ho;exact Zy ho h
 ·rename_i c x y ho
  split at h
  ·rename_i hc;exact ZN ho hc h
  ·rename_i hc;exact ZM ho hc h
  ·cases h
 ·rename_i x i ho
  split at h
  ·rename_i vs hx;exact ZB ho hx (by rw [Q4] at h;simpa using h)
  ·cases h
 ·cases h
section
variable {P:Program} {ops:Array Oper} {Q:Exit→Act→World→Prop} {rest rest':List Oper} {n:Nat} {l l':BQ} {w:World} {o:Oper}
theorem Lr (h:IX ops n l o=some l'):C0 n o.dst=true∧((gd ops l o=some true∧∃ v,KL l o.op=some v∧l'=CH l o.dst v)∨(gd ops l o=some false∧l'=CH l o.dst undef)):=by
 unfold IX at h
 split at h
 ·cases h
 ·rename_i hd
  refine ⟨hd,?_⟩
  split at h
  ·rename_i hg
   split at h
   ·rename_i v hv;cases h;exact .inl ⟨hg,v,hv,rfl⟩
   ·cases h
  ·rename_i hg;cases h;exact .inr ⟨hg,rfl⟩
  ·cases h
theorem Ac (h:IX ops n l o=some l') (hk:WL P ops Q rest n l' w):WL P ops Q (o::rest) n l w:=by
 obtain ⟨hd,⟨hg,v,hv,rfl⟩|⟨hg,rfl⟩⟩:=Lr h
 ·exact V hg hd (KM hv) hk
 ·exact bX hg hd hk
theorem Ah (k:Nat) (h:G9 ops n k rest l=some (rest',l')) (hk:WL P ops Q rest' n l' w):WL P ops Q rest n l w:=by
 induction k generalizing rest l with
 |zero=>unfold G9 at h;cases h;exact hk
 |succ k ih=>
  cases rest with
  |nil=>unfold G9 at h;cases h
  |cons o r=>
   unfold G9 at h
   split at h
   ·rename_i l1 h1;exact Ac h1 (ih h)
   ·cases h
theorem Em {C:World→Prop} {K:Act→Prop} (h:IX ops n l o=some l') (hk:WU P ops C K rest n l'):WU P ops C K (o::rest) n l:=by
 obtain ⟨hd,⟨hg,v,hv,rfl⟩|⟨hg,rfl⟩⟩:=Lr h
 ·exact BH hg hd (fun _ _=>KM hv) hk
 ·exact dY hg hd hk
theorem JU {C:World→Prop} {K:Act→Prop} (k:Nat) (h:G9 ops n k rest l=some (rest',l')) (hk:WU P ops C K rest' n l'):WU P ops C K rest n l:=by
 induction k generalizing rest l with
 |zero=>unfold G9 at h;cases h;exact hk
 |succ k ih=>
  cases rest with
  |nil=>unfold G9 at h;cases h
  |cons o r=>
   unfold G9 at h
   split at h
   ·rename_i l1 h1;exact Em h1 (ih h)
   ·cases h
def Ls (os:List Oper) (n:Nat) (l:BQ) (i:Nat):Option BQ:=match os[i]? with
 |some o=>IX os.toArray n l o
 |none=>none
theorem Au {os:List Oper} {S:World→Prop} {s:Fh} {i:Nat} (h:Ls os n l i=some l') (hk:WD P os Q S s n l' w):WD P os Q S (.e i s) n l w:=by
 unfold Ls at h
 split at h
 ·rename_i o ho
  obtain ⟨hd,⟨hg,v,hv,rfl⟩|⟨hg,rfl⟩⟩:=Lr h
  ·exact Ao ho hg hd (fun _ _=>KM hv) hk
  ·exact T9 ho hg hd hk
 ·cases h
theorem fT {os:List Oper} {S S2:World→Prop} {q:FJ} {i:Nat} (h:Ls os n l i=some l') (hk:WG P os Q S S2 q n l' w):WG P os Q S S2 (.e i q) n l w:=by
 unfold Ls at h
 split at h
 ·rename_i o ho
  obtain ⟨hd,⟨hg,v,hv,rfl⟩|⟨hg,rfl⟩⟩:=Lr h
  ·exact FR ho hg hd (fun _ _=>KM hv) hk
  ·exact U9 ho hg hd hk
 ·cases h
end
section
variable {w0 w:World} {F0:AU} {As Rs:List SP} {A B C D E F G I J K:SP}
theorem Hd.k1 (H:Hd w0 F0 w (A::As) Rs):Hd w0 F0 w [A] Rs:=H.keep 1
theorem Hd.k2 (H:Hd w0 F0 w (A::B::As) Rs):Hd w0 F0 w [A,B] Rs:=H.keep 2
theorem Hd.k3 (H:Hd w0 F0 w (A::B::C::As) Rs):Hd w0 F0 w [A,B,C] Rs:=H.keep 3
theorem Hd.k4 (H:Hd w0 F0 w (A::B::C::D::As) Rs):Hd w0 F0 w [A,B,C,D] Rs:=H.keep 4
theorem Hd.k5 (H:Hd w0 F0 w (A::B::C::D::E::As) Rs):Hd w0 F0 w [A,B,C,D,E] Rs:=H.keep 5
theorem Hd.k6 (H:Hd w0 F0 w (A::B::C::D::E::F::As) Rs):Hd w0 F0 w [A,B,C,D,E,F] Rs:=H.keep 6
theorem Hd.k7 (H:Hd w0 F0 w (A::B::C::D::E::F::G::As) Rs):Hd w0 F0 w [A,B,C,D,E,F,G] Rs:=H.keep 7
theorem Hd.k8 (H:Hd w0 F0 w (A::B::C::D::E::F::G::I::As) Rs):Hd w0 F0 w [A,B,C,D,E,F,G,I] Rs:=H.keep 8
theorem Hd.k9 (H:Hd w0 F0 w (A::B::C::D::E::F::G::I::J::As) Rs):Hd w0 F0 w [A,B,C,D,E,F,G,I,J] Rs:=H.keep 9
theorem Hd.k10 (H:Hd w0 F0 w (A::B::C::D::E::F::G::I::J::K::As) Rs):Hd w0 F0 w [A,B,C,D,E,F,G,I,J,K] Rs:=H.keep 10
theorem Hd.p1 (H:Hd w0 F0 w (A::B::As) Rs):Hd w0 F0 w (B::A::As) Rs:=H.pick 1 rfl
theorem Hd.p2 (H:Hd w0 F0 w (A::B::C::As) Rs):Hd w0 F0 w (C::A::B::As) Rs:=H.pick 2 rfl
theorem Hd.p3 (H:Hd w0 F0 w (A::B::C::D::As) Rs):Hd w0 F0 w (D::A::B::C::As) Rs:=H.pick 3 rfl
theorem Hd.p4 (H:Hd w0 F0 w (A::B::C::D::E::As) Rs):Hd w0 F0 w (E::A::B::C::D::As) Rs:=H.pick 4 rfl
theorem Hd.p5 (H:Hd w0 F0 w (A::B::C::D::E::F::As) Rs):Hd w0 F0 w (F::A::B::C::D::E::As) Rs:=H.pick 5 rfl
theorem Hd.p6 (H:Hd w0 F0 w (A::B::C::D::E::F::G::As) Rs):Hd w0 F0 w (G::A::B::C::D::E::F::As) Rs:=H.pick 6 rfl
theorem Hd.p7 (H:Hd w0 F0 w (A::B::C::D::E::F::G::I::As) Rs):Hd w0 F0 w (I::A::B::C::D::E::F::G::As) Rs:=H.pick 7 rfl
theorem Hd.p8 (H:Hd w0 F0 w (A::B::C::D::E::F::G::I::J::As) Rs):Hd w0 F0 w (J::A::B::C::D::E::F::G::I::As) Rs:=H.pick 8 rfl
theorem Hd.p9 (H:Hd w0 F0 w (A::B::C::D::E::F::G::I::J::K::As) Rs):Hd w0 F0 w (K::A::B::C::D::E::F::G::I::J::As) Rs:=H.pick 9 rfl
theorem Hd.h1 (H:Hd w0 F0 w (A::As) Rs):Hd w0 F0 w (A::As) Rs:=H
theorem Hd.h2 (H:Hd w0 F0 w (A::B::As) Rs):Hd w0 F0 w (A::B::As) Rs:=H
theorem Hd.h3 (H:Hd w0 F0 w (A::B::C::As) Rs):Hd w0 F0 w (A::B::C::As) Rs:=H
theorem Hd.h4 (H:Hd w0 F0 w (A::B::C::D::As) Rs):Hd w0 F0 w (A::B::C::D::As) Rs:=H
theorem Hd.h5 (H:Hd w0 F0 w (A::B::C::D::E::As) Rs):Hd w0 F0 w (A::B::C::D::E::As) Rs:=H
theorem Hd.h6 (H:Hd w0 F0 w (A::B::C::D::E::F::As) Rs):Hd w0 F0 w (A::B::C::D::E::F::As) Rs:=H
theorem Hd.h7 (H:Hd w0 F0 w (A::B::C::D::E::F::G::As) Rs):Hd w0 F0 w (A::B::C::D::E::F::G::As) Rs:=H
theorem Hd.h8 (H:Hd w0 F0 w (A::B::C::D::E::F::G::I::As) Rs):Hd w0 F0 w (A::B::C::D::E::F::G::I::As) Rs:=H
theorem Hd.h9 (H:Hd w0 F0 w (A::B::C::D::E::F::G::I::J::As) Rs):Hd w0 F0 w (A::B::C::D::E::F::G::I::J::As) Rs:=H
theorem Hd.h10 (H:Hd w0 F0 w (A::B::C::D::E::F::G::I::J::K::As) Rs):Hd w0 F0 w (A::B::C::D::E::F::G::I::J::K::As) Rs:=H
end
def Hf (es:List MapEntry) (kvs:List (Int×Value)):Prop:=es.map (fun e=>(e.key,e.val))=kvs.map (fun p=>(Value.int .i64 p.1,p.2))
def ER (k:Int):List (Int×Value)→Option Value
 |[]=>none
 |p::r=>if k=p.1 then some p.2 else ER k r
def Eh (b:Nat) (kvs:List (Int×Value)):SP where
 P w F:=F b∧∃ es c,w.heap[b]?=some (.map es c)∧Hf es.toList kvs
 loc:=fun ⟨h,es,c,e,h2⟩ hk=>⟨h,es,c,(hk b h).trans e,h2⟩
 mono:=fun ⟨h,h2⟩ hs=>⟨hs b h,h2⟩
theorem LX {k:Int}:∀ {es:List MapEntry} {kvs:List (Int×Value)} (i:Nat),Hf es kvs→
  (ER k kvs=none∧Instr.findNow (.int .i64) (.int .i64 k) es i=some none)∨∃ j v,ER k kvs=some v∧Instr.findNow (.int .i64) (.int .i64 k) es i=some (some (j,v))
 |[],kvs,i,h=>by
  obtain rfl:kvs=[]:=by simpa [Hf] using h.symm
  exact .inl ⟨rfl,rfl⟩
 |e::es,[],i,h=>by simp [Hf] at h
 |e::es,p::kvs,i,h=>by
  simp only [Hf,List.map_cons,List.cons.injEq,Prod.mk.injEq] at h
  obtain ⟨⟨h1,h2⟩,h3⟩:=h
  have ih:=LX (k:=k) (i+1) (show Hf es kvs from h3)
  unfold ER Instr.findNow
  rw [h1]
  simp only [Instr.sameNow,if_true]
  by_cases hk:k=p.1
  ·rw [if_pos hk]
   refine .inr ⟨i,p.2,rfl,?_⟩
   simp [hk,h2]
  ·rw [if_neg hk]
   have:(k==p.1)=false:=by simpa using hk
   rw [this]
   exact ih
section
variable {P:Program} {ops:Array Oper} {Q:Exit→Act→World→Prop} {rest:List Oper} {n:Nat} {l:BQ} {w0 w:World} {F0:AU} {o:Oper} {v:Value} {As Rs:List SP} {x y:Operand} {t kt et:TypeId} {b:Nat} {kvs:List (Int×Value)}
theorem bD {F:AU} (hm:P.underlying t=some (.map kt et)) (hk:P.underlying kt=some (.int .i64)) {z:Value} (hz:Dp P et=some z) (k:Int) (h:(Eh b kvs).P w F):(Instr.lookup t (.map (some b)) (.int .i64 k) false).run P w=.ok ((ER k kvs).getD z) w:=by
 obtain ⟨_,es,c,hb,he⟩:=h
 have hg:=MapKept.run_getObj_map (P:=P) hb
 have hc:=fun e=>MapKept.run_checkKey (P:=P) (w:=w) (k:=.int .i64 k) hk (by trivial) e 9999
 obtain ⟨i,hi,hz'⟩:=Option.bind_eq_some_iff.1 hz
 rcases LX (k:=k) 0 he with ⟨h1,h2⟩|⟨j,u,h1,h2⟩
 ·have hf:=MapKept.run_findKey (w:=w) hk h2
  simp [Instr.lookup,run_underlying hm,hg,hc,hf,h1,zeroValue,typeInfo,hi,hz']
 ·have hf:=MapKept.run_findKey (w:=w) hk h2
  simp [Instr.lookup,run_underlying hm,hg,hc,hf,h1]
theorem ZG (ho:o.op=.lookup t x y false) (hm:P.underlying t=some (.map kt et)) (hk:P.underlying kt=some (.int .i64)) {z:Value} (hz:Dp P et=some z) (hx:ev l x=some (.map (some b))) {k:Int} (hy:ev l y=some (.int .i64 k))
  (H:Hd w0 F0 w As Rs) (j:Nat) (hj:As[j]?=some (Eh b kvs)):BL P n l w o ((ER k kvs).getD z) w:=by
 intro a ha
 refine H.fact (List.mem_of_getElem? hj) fun F h=>?_
 have:=bD hm hk hz k h
 simp [execOp,ho,ha.eval hx,ha.eval hy,this]
theorem bV {z:Operand} (hg:gd ops l o=some true) (hd:o.dst=none) (ho:o.op=.mapUpdate t x y z) (hm:P.underlying t=some (.map kt et)) (hk:P.underlying kt=some (.int .i64)) (hx:ev l x=some (.map (some b))) {k:Int} (hy:ev l y=some (.int .i64 k)) (hz:ev l z=some v)
  (hn:ER k kvs=none) (H:Hd w0 F0 w (Eh b kvs::As) Rs) (h:∀ w',Hd w0 F0 w' (Eh b (kvs++[(k,v)])::As) Rs→WL P ops Q rest n l w'):WL P ops Q (o::rest) n l w:=by
 obtain ⟨es,c,hb,he⟩:∃ es c,w.heap[b]?=some (.map es c)∧Hf es.toList kvs:=H.fact (List.mem_cons_self ..) fun F h=>h.2
 have hgo:=MapKept.run_getObj_map (P:=P) hb
 have hc:=MapKept.run_checkKey (P:=P) (w:=w) (k:=.int .i64 k) hk (by trivial) false 9999
 have hf:(Instr.findKey kt (.int .i64 k) es.toList).run P w=.ok none w:=by
  rcases LX (k:=k) 0 he with ⟨h1,h2⟩|⟨j,u,h1,h2⟩
  ·exact MapKept.run_findKey (w:=w) hk h2
  ·rw [hn] at h1;cases h1
 have hs:=fun ob=>MapKept.run_setObj_map (P:=P) (o:=ob) hb
 refine Lh hg hd (w':={ w with heap:=w.heap.setIfInBounds b (.map (es.push { key:=.int .i64 k,val:=v,born:=c }) (c+1)) }) (fun a ha=>?_) (h _ (H.write fun F hF=>?_))
 ·simp [execOp,ho,ha.eval hx,ha.eval hy,ha.eval hz,Instr.mapUpdate,run_underlying hm,hgo,hc,hf,hs]
 ·have hlt:b<w.heap.size:=(Array.getElem?_eq_some_iff.1 hb).1
  refine ⟨⟨hF.1,_,_,by simp [hlt];exact ⟨rfl,rfl⟩,?_⟩,⟨rfl,rfl,rfl,by simp,fun k hk hn'=>?_⟩⟩
  ·simp only [Hf,Array.toList_push,List.map_append] at he ⊢
   rw [he]
   rfl
  ·have:b≠k:=fun e=>hn' (e▸hF.1)
   simp [this]
theorem bU (hg:gd ops l o=some true) (hd:C0 n o.dst=true) (ho:o.op=.makeMap t none) (H:Hd w0 F0 w As Rs)
  (h:∀ b w',Hd w0 F0 w' (Eh b []::As) Rs→WL P ops Q rest n (CH l o.dst (.map (some b))) w'):WL P ops Q (o::rest) n l w:=by
 refine V (w':=w.alloc (.map #[] 0)) hg hd (v:=.map (some w.heap.size)) (fun a ha=>?_) (h _ _ ?_)
 ·simp [execOp,ho,Instr.makeMap]
 ·refine H.new (F':=fun k=>k=w.heap.size) (Cv.alloc _ _ _) ⟨rfl,#[],0,heap_alloc_new w _,rfl⟩ ?_
  intro k hk
  subst hk
  simp
end
/-! ### Lists of keys and values -/
theorem Lj {α:Type} {l:List α} {j:Nat} {x:α} (h:l[j]?=some x):l.set j x=l:=by
 refine List.ext_getElem? fun i=>?_
 rw [List.getElem?_set]
 split
 ·rename_i e
  subst e
  split
  ·exact h.symm
  ·rename_i hl
   rw [List.getElem?_eq_none (by omega)] at h
   cases h
 ·rfl
section
variable {κ:Type} [DecidableEq κ] {kvs:List (κ×Value)} {k:κ} {v u:Value} {j:Nat}
def Gg (k:κ):List (κ×Value)→Option Value
 |[]=>none
 |p::r=>if p.1=k then some p.2 else Gg k r
def G7 (k:κ) (v:Value):List (κ×Value)→List (κ×Value)
 |[]=>[(k,v)]
 |p::r=>if p.1=k then (k,v)::r else p::G7 k v r
theorem MD:∀ {kvs:List (κ×Value)} {j:Nat},(kvs.map (·.1)).Nodup→kvs[j]?=some (k,v)→Gg k kvs=some v
 |[],j,_,h=>by simp at h
 |p::r,0,_,h=>by
  obtain rfl:p=(k,v):=by simpa using h
  exact if_pos U
 |p::r,j+1,hn,h=>by
  rw [List.map_cons,List.nodup_cons] at hn
  have hr:r[j]?=some (k,v):=by simpa using h
  have hne:¬ p.1=k:=fun e=>hn.1 (List.mem_map.2 ⟨(k,v),List.mem_of_getElem? hr,e.symm⟩)
  unfold Gg
  rw [if_neg hne]
  exact MD hn.2 hr
theorem Np:∀ {kvs:List (κ×Value)} {j:Nat},(kvs.map (·.1)).Nodup→kvs[j]?=some (k,v)→G7 k u kvs=kvs.set j (k,u)
 |[],j,_,h=>by simp at h
 |p::r,0,_,h=>by
  obtain rfl:p=(k,v):=by simpa using h
  exact if_pos U
 |p::r,j+1,hn,h=>by
  rw [List.map_cons,List.nodup_cons] at hn
  have hr:r[j]?=some (k,v):=by simpa using h
  have hne:¬ p.1=k:=fun e=>hn.1 (List.mem_map.2 ⟨(k,v),List.mem_of_getElem? hr,e.symm⟩)
  unfold G7
  rw [if_neg hne,Np hn.2 hr]
  rfl
theorem QC:∀ {kvs:List (κ×Value)},(∀ p∈kvs,p.1≠k)→Gg k kvs=none
 |[],_=>rfl
 |p::r,h=>by
  unfold Gg
  rw [if_neg (h p (List.mem_cons_self ..))]
  exact QC fun q hq=>h q (List.mem_cons_of_mem _ hq)
theorem Li:∀ {kvs:List (κ×Value)},(∀ p∈kvs,p.1≠k)→G7 k u kvs=kvs++[(k,u)]
 |[],_=>rfl
 |p::r,h=>by
  unfold G7
  rw [if_neg (h p (List.mem_cons_self ..)),Li fun q hq=>h q (List.mem_cons_of_mem _ hq)]
  rfl
theorem Sd (hn:(kvs.map (·.1)).Nodup):((G7 k u kvs).map (·.1)).Nodup:=by
 by_cases h:∀ p∈kvs,p.1≠k
 ·rw [Li h,List.map_append]
  exact List.nodup_append.2 ⟨hn,by simp,fun a ha b hb e=>by
   obtain ⟨p,hp,rfl⟩:=List.mem_map.1 ha
   rw [List.map_cons,List.map_nil,List.mem_singleton] at hb
   exact h p hp (e.trans hb)⟩
 ·have:∃ p∈kvs,p.1=k:=Classical.byContradiction fun hh=>h fun p hp e=>hh ⟨p,hp,e⟩
  obtain ⟨⟨_,v⟩,hp,rfl⟩:=this
  obtain ⟨j,hj⟩:=List.getElem?_of_mem hp
  rw [Np hn hj,List.map_set,Lj (by rw [List.getElem?_map,hj];rfl)]
  exact hn
end
/-! ### What a key's type must be -/
structure HI (P:Program) (kt:TypeId) {κ:Type} (enc:κ→Value):Prop where
 inj:∀ {a b:κ},enc a=enc b→a=b
 check:∀ (w:World) (e:Bool) (k:κ),(Instr.checkKey e 10000 kt (enc k)).run P w=.ok () w
 find:∀ (w:World) (k:κ) (es:List MapEntry),(∀ e∈es,∃ k',e.key=enc k')→((Instr.findKey kt (enc k) es).run P w=.ok none w∧∀ e∈es,e.key≠enc k)∨∃ j e,(Instr.findKey kt (enc k) es).run P w=.ok (some (j,e.val)) w∧es[j]?=some e∧e.key=enc k
 stays:∀ (w:World) (k:κ),(Instr.keyThatStays (enc k) (enc k)).run P w=.ok (enc k) w
def Co (k:Int):Value:=.int .i64 k
theorem VP {P:Program} {kt:TypeId} (hk:P.underlying kt=some (.int .i64)):HI P kt Co where
 inj h:=by unfold Co at h;cases h;rfl
 check w e k:=MapKept.run_checkKey hk (by trivial) e 9999
 find w k es h:=by
  rcases MapKept.findNow_spec (d:=.int .i64) (k:=Co k) (by trivial) es 0 (fun x hx=>by obtain ⟨k',e⟩:=h x hx;rw [e];trivial) with ⟨h1,h2⟩|⟨j,e,h1,h2,h3⟩
  ·exact .inl ⟨MapKept.run_findKey hk h1,h2⟩
  ·exact .inr ⟨j,e,by simpa using MapKept.run_findKey (w:=w) hk h1,h2,h3⟩
 stays w k:=MapKept.run_keyThatStays (d:=.int .i64) (by trivial)
def Gy (k:Int×Int):Value:=.agg #[.int .i64 k.1,.int .i64 k.2]
structure fQ (P:Program) (t i:TypeId):Prop where
 ex:∃ f0 f1:Field,HH P t [f0,f1]∧f0.name≠ "_" ∧f1.name≠ "_" ∧f0.type=i∧f1.type=i∧f0.offset=0∧f1.offset=1
 int:P.underlying i=some (.int .i64)
 one:Cj P i=some (false,1)
/-! ### Maps held -/
section
variable {κ:Type} [DecidableEq κ] {enc:κ→Value} {es:List MapEntry} {kvs:List (κ×Value)} {e:MapEntry} {j:Nat}
def FG (enc:κ→Value) (es:List MapEntry) (kvs:List (κ×Value)):Prop:=es.map (fun e=>(e.key,e.val))=kvs.map fun p=>(enc p.1,p.2)
theorem Kf (h:FG enc es kvs) (he:es[j]?=some e):∃ p,kvs[j]?=some p∧e.key=enc p.1∧e.val=p.2:=by
 have _i:DecidableEq κ:=inferInstance
 have h1:=congrArg (·[j]?) h
 simp only [List.getElem?_map,he,Option.map_some] at h1
 cases hp:kvs[j]? with
 |none=>rw [hp] at h1;cases h1
 |some p=>
  rw [hp] at h1
  simp only [Option.map_some,Option.some.injEq,Prod.mk.injEq] at h1
  exact ⟨p,rfl,h1.1,h1.2⟩
theorem Uu (h:FG enc es kvs) {p:κ×Value} (hp:kvs[j]?=some p):∃ e,es[j]?=some e∧e.key=enc p.1∧e.val=p.2:=by
 have _i:DecidableEq κ:=inferInstance
 have h1:=congrArg (·[j]?) h
 simp only [List.getElem?_map,hp,Option.map_some] at h1
 cases he:es[j]? with
 |none=>rw [he] at h1;cases h1
 |some e=>
  rw [he] at h1
  simp only [Option.map_some,Option.some.injEq,Prod.mk.injEq] at h1
  exact ⟨e,rfl,h1.1,h1.2⟩
theorem Uv (h:FG enc es kvs):∀ e∈es,∃ k,e.key=enc k:=by
 have _i:DecidableEq κ:=inferInstance
 intro e he
 obtain ⟨j,hj⟩:=List.getElem?_of_mem he
 obtain ⟨p,_,h2,_⟩:=Kf h hj
 exact ⟨p.1,h2⟩
theorem OT {P:Program} {kt:TypeId} (K:HI P kt enc) (h:FG enc es kvs) (w:World) (k:κ):
  ((Instr.findKey kt (enc k) es).run P w=.ok none w∧∀ p∈kvs,p.1≠k)∨∃ j e,(Instr.findKey kt (enc k) es).run P w=.ok (some (j,e.val)) w∧es[j]?=some e∧e.key=enc k∧kvs[j]?=some (k,e.val):=by
 have _i:DecidableEq κ:=inferInstance
 rcases K.find w k es (Uv h) with ⟨h1,h2⟩|⟨j,e,h1,h2,h3⟩
 ·refine .inl ⟨h1,fun p hp q=>?_⟩
  obtain ⟨j,hj⟩:=List.getElem?_of_mem hp
  obtain ⟨e,he,hk,_⟩:=Uu h hj
  exact h2 e (List.mem_of_getElem? he) (by rw [hk,q])
 ·obtain ⟨p,hp,hk,hv⟩:=Kf h h2
  refine .inr ⟨j,e,h1,h2,h3,?_⟩
  rw [hp,hv]
  exact congrArg some (Prod.ext (K.inj (hk.symm.trans h3)) U)
theorem Ux (h:FG enc es kvs) (k:κ) (v:Value) (n:Nat):FG enc (es++[{ key:=enc k,val:=v,born:=n }]) (kvs++[(k,v)]):=by
 have _i:DecidableEq κ:=inferInstance
 unfold FG at h ⊢
 rw [List.map_append,List.map_append,h];rfl
theorem Uw (h:FG enc es kvs) {k:κ} {v:Value} {f:MapEntry→MapEntry} (he:es[j]?=some e) (hf:(f e).key=enc k∧(f e).val=v):FG enc (es.modify j f) (kvs.set j (k,v)):=by
 have _i:DecidableEq κ:=inferInstance
 unfold FG at h ⊢
 refine List.ext_getElem? fun i=>?_
 have hi:=congrArg (·[i]?) h
 simp only [List.getElem?_map,List.getElem?_modify,List.getElem?_set] at hi ⊢
 by_cases hji:j=i
 ·subst hji
  obtain ⟨p,hp,_⟩:=Kf h he
  have hl:j<kvs.length:=by
   rcases Nat.lt_or_ge j kvs.length with h1|h1
   ·exact h1
   ·rw [List.getElem?_eq_none h1] at hp;cases hp
  simp [he,hl,hf.1,hf.2]
 ·simpa [hji] using hi
abbrev NP (kvs:List (κ×Value)):Prop:=(kvs.map fun p=>p.1).Nodup
def B5 (enc:κ→Value) (b:Nat) (kvs:List (κ×Value)):SP where
 P w F:=F b∧∃ es c,w.heap[b]?=some (.map es c)∧FG enc es.toList kvs∧NP kvs∧MapKept.Stamped es c
 loc:=fun ⟨h,es,c,e,h2⟩ hk=>⟨h,es,c,(hk b h).trans e,h2⟩
 mono:=fun ⟨h,h2⟩ hs=>⟨hs b h,h2⟩
end
section
variable {κ:Type} [DecidableEq κ] {enc:κ→Value} {P:Program} {ops:Array Oper} {Q:Exit→Act→World→Prop} {rest:List Oper} {n:Nat} {l:BQ} {w0 w:World} {F0:AU} {o:Oper} {v:Value} {As Rs:List SP} {x y:Operand} {t kt et:TypeId} {b:Nat} {kvs:List (κ×Value)} {k:κ}
theorem PK {w:World} {b:Nat} {F:AU} (hb:F b) (ob:Obj):Cv F w { w with heap:=w.heap.setIfInBounds b ob }:=⟨rfl,rfl,rfl,by simp,fun k hk hn=>by
 have:b≠k:=fun e=>hn (e▸hb)
 simp [this]⟩
theorem PJ {w:World} {b:Nat} {es:Array MapEntry} {c:Nat} (h:w.heap[b]?=some (.map es c)) (ob:Obj):({ w with heap:=w.heap.setIfInBounds b ob }:World).heap[b]?=some ob:=(MapKept.heap_set h).1
theorem Hd.mapKf (H:Hd w0 F0 w (B5 enc b kvs::As) Rs):∃ es c,w.heap[b]?=some (.map es c)∧FG enc es.toList kvs∧NP kvs∧MapKept.Stamped es c:=by have _i:DecidableEq κ:=inferInstance;exact H.fact (List.mem_cons_self ..) fun F h=>h.2
theorem bE {F:AU} (K:HI P kt enc) (hm:P.underlying t=some (.map kt et)) {z:Value} (hz:Dp P et=some z) (k:κ) (h:(B5 enc b kvs).P w F):(Instr.lookup t (.map (some b)) (enc k) false).run P w=.ok ((Gg k kvs).getD z) w:=by
 obtain ⟨_,es,c,hb,he,hn,_⟩:=h
 have hg:=MapKept.run_getObj_map (P:=P) hb
 have hc:=fun e=>K.check w e k
 obtain ⟨i,hi,hz'⟩:=Option.bind_eq_some_iff.1 hz
 rcases OT K he w k with ⟨h1,h2⟩|⟨j,e,h1,_,_,h4⟩
 ·simp [Instr.lookup,run_underlying hm,hg,hc,h1,QC h2,zeroValue,typeInfo,hi,hz']
 ·simp [Instr.lookup,run_underlying hm,hg,hc,h1,MD hn h4]
theorem ZH (K:HI P kt enc) (ho:o.op=.lookup t x y false) (hm:P.underlying t=some (.map kt et)) {z:Value} (hz:Dp P et=some z) (hx:ev l x=some (.map (some b))) (k:κ) (hy:ev l y=some (enc k)) (H:Hd w0 F0 w As Rs) (j:Nat) (hj:As[j]?=some (B5 enc b kvs)):BL P n l w o ((Gg k kvs).getD z) w:=by
 intro a ha
 refine H.fact (List.mem_of_getElem? hj) fun F h=>?_
 have:=bE K hm hz k h
 simp [execOp,ho,ha.eval hx,ha.eval hy,this]
theorem ZI (K:HI P kt enc) (ho:o.op=.lookup t x y false) (hm:P.underlying t=some (.map kt et)) {z:Value} (hz:Dp P et=some z) (hx:ev l x=some (.map (some b))) (k:κ) (hy:ev l y=some (enc k)) (H:Hd w0 F0 w As Rs) (j:Nat) (hj:As[j]?=some (B5 enc b kvs)) (hv:(Gg k kvs).getD z=v):BL P n l w o v w:=by
 subst hv
 exact ZH K ho hm hz hx k hy H j hj
theorem bW {z:Operand} (K:HI P kt enc) (hg:gd ops l o=some true) (hd:o.dst=none) (ho:o.op=.mapUpdate t x y z) (hm:P.underlying t=some (.map kt et)) (hx:ev l x=some (.map (some b))) (k:κ) (hy:ev l y=some (enc k)) (hz:ev l z=some v)
  (H:Hd w0 F0 w (B5 enc b kvs::As) Rs) (h:∀ w',Hd w0 F0 w' (B5 enc b (G7 k v kvs)::As) Rs→WL P ops Q rest n l w'):WL P ops Q (o::rest) n l w:=by
 obtain ⟨es,c,hb,he,hn,hs⟩:=H.mapKf
 have hgo:=MapKept.run_getObj_map (P:=P) hb
 have hc:=K.check w false k
 have hso:=fun ob=>MapKept.run_setObj_map (P:=P) (o:=ob) hb
 rcases OT K he w k with ⟨h1,h2⟩|⟨j,e,h1,h2,h3,h4⟩
 ·refine Lh hg hd (w':={ w with heap:=w.heap.setIfInBounds b (.map (es.push { key:=enc k,val:=v,born:=c }) (c+1)) }) (fun a ha=>?_) (h _ (H.write fun F hF=>⟨⟨hF.1,_,_,PJ hb _,?_,Sd hn,MapKept.stamped_push hs ?_⟩,PK hF.1 _⟩))
  ·simp [execOp,ho,ha.eval hx,ha.eval hy,ha.eval hz,Instr.mapUpdate,run_underlying hm,hgo,hc,h1,hso]
  ·rw [Li h2,Array.toList_push];exact Ux he k v c
  ·intro e he1 q
   obtain ⟨j,hj⟩:=List.getElem?_of_mem he1
   obtain ⟨p,hp,hk,_⟩:=Kf he hj
   exact h2 p (List.mem_of_getElem? hp) (K.inj (hk.symm.trans q))
 ·have hj:es[j]?=some e:=by simpa using h2
  refine Lh hg hd (w':={ w with heap:=w.heap.setIfInBounds b (.map (es.modify j fun e=>{ e with key:=enc k,val:=v }) c) }) (fun a ha=>?_) (h _ (H.write fun F hF=>⟨⟨hF.1,_,_,PJ hb _,?_,Sd hn,MapKept.stamped_modify hs _ _ (fun _ _=>rfl) (fun e' _ he'=>?_)⟩,PK hF.1 _⟩))
  ·simp [execOp,ho,ha.eval hx,ha.eval hy,ha.eval hz,Instr.mapUpdate,run_underlying hm,hgo,hc,h1,hj,h3,K.stays,hso]
  ·rw [Np hn h4,Array.toList_modify];exact Uw he h2 ⟨rfl,rfl⟩
  ·rw [hj] at he';cases he';exact h3.symm
theorem Sb (enc:κ→Value) (hg:gd ops l o=some true) (hd:C0 n o.dst=true) (ho:o.op=.makeMap t none) (H:Hd w0 F0 w As Rs)
  (h:∀ b w',Hd w0 F0 w' (B5 enc b []::As) Rs→WL P ops Q rest n (CH l o.dst (.map (some b))) w'):WL P ops Q (o::rest) n l w:=by
 have _i:DecidableEq κ:=inferInstance
 refine V (w':=w.alloc (.map #[] 0)) hg hd (v:=.map (some w.heap.size)) (fun a ha=>?_) (h _ _ ?_)
 ·simp [execOp,ho,Instr.makeMap]
 ·refine H.new (F':=fun k=>k=w.heap.size) (Cv.alloc _ _ _) ⟨rfl,#[],0,heap_alloc_new w _,rfl,List.nodup_nil,MapKept.stamped_empty 0⟩ ?_
  intro k hk
  subst hk
  simp
/-! ### A map that is gone through -/
end
end Go.Proofs.YthhajcnbjiiclaaGreatDoor.X
