/- NodeLives: texts XRecd, XRed, XRed2, XOkR, XRedL, XStg, XRecO, XRedO, XOrd, XTwo, XWrk, XWrk2, XAct, XWrk3, XDisk, F1, V1, V2, V3, V4, O1, O2, joined by a program of ours; what nothing names is left out. -/
import Derived.Test.YthhajcnbjiiclaaGreatDoorNodeLivesQ2
import Derived.KernelRfl
import Derived.Test.YthhajcnbjiiclaaGreatDoorShelf
import Derived.Tactics2
import Derived.Laws.Pointers
import Derived.RegionTactic
import Derived.RegionCalls
import Derived.ChangeAlike
set_option linter.unusedVariables false
set_option linter.unusedSimpArgs false
set_option maxHeartbeats 8000000
namespace Go.Proofs.YthhajcnbjiiclaaGreatDoor.X
open Go
/-! ### Which records may be -/
def Bv (n l m:Int):Prop:=l≤n∧n≤m
instance (n l m:Int):Decidable (Bv n l m):=by unfold Bv;infer_instance
def EI:Int→List Int→Prop
 |_,[]=>True
 |last,n::ns=>Bv n 0 5∧last<n∧EI n ns
instance decUpR:∀ (last:Int) (l:List Int),Decidable (EI last l)
 |_,[]=>.isTrue trivial
 |last,n::ns=>have:=decUpR n ns;by unfold EI;infer_instance
def EQ (r:Bd):Prop:=Bv r.why 1 6∧((r.att=0∧Bv r.sp 0 5∧r.part=0)∨(r.att=1∧Bv r.part 0 3∧r.sp=0))
instance (r:Bd):Decidable (EQ r):=by unfold EQ;infer_instance
def De (r:Bd):Prop:=(r.kind≠1∧r.kind≠5∧0<r.set.length)∨(r.kind≠4∧0<r.pairs.length)∨(r.kind≠3∧r.why≠0)
instance (r:Bd):Decidable (De r):=by unfold De;infer_instance
def G5 (l:List Int):Prop:=l.length≤4∧∀ n∈l,Bv n 0 40
instance (l:List Int):Decidable (G5 l):=by unfold G5;infer_instance
def Cq (r:Bd):Prop:=¬ De r∧((r.kind=1∧r.part=0∧Bv r.sp 0 5∧Bv r.att 1 3∧G5 r.set)∨((r.kind=2∨r.kind=6)∧r.part=0∧r.sp=0∧r.att=0)∨(r.kind=3∧EQ r)∨
 (r.kind=4∧Bv r.part 0 3∧Bv r.sp 0 5∧Bv r.att 1 3∧r.pairs.length≤40∧∀ p∈r.pairs,C5 p)∨(r.kind=5∧Bv r.part 0 3∧r.sp=0∧r.att=0∧EI (-1) r.set))
instance (r:Bd):Decidable (Cq r):=by unfold Cq;infer_instance
theorem Uu {xs:List Int} (h:xs.length≤4):(!(xs.any (fun x=>!decide (0≤x∧x≤40))))=decide (G5 xs):=by
 rw [Bool.eq_iff_iff,decide_eq_true_eq]
 constructor
 ·intro g
  refine ⟨h,fun n hn=>Decidable.byContradiction fun c=>?_⟩
  have e:xs.any (fun x=>!decide (0≤x∧x≤40))=true:=List.any_eq_true.2 ⟨n,hn,by rw [decide_eq_false (show ¬ (0≤n∧n≤40) from c)];rfl⟩
  rw [e] at g
  cases g
 ·intro g
  have e:xs.any (fun x=>!decide (0≤x∧x≤40))=false:=List.any_eq_false.2 fun n hn=>by rw [decide_eq_true (show 0≤n∧n≤40 from g.2 n hn)];decide
  rw [e]
  rfl
theorem NV {last n:Int} {ns:List Int}:EI last (n::ns)↔Bv n 0 5∧last<n∧EI n ns:=Iff.rfl
theorem KV {r:Bd} (hk:r.kind=1) (ho:¬ De r):Cq r↔r.part=0∧Bv r.sp 0 5∧Bv r.att 1 3∧G5 r.set:=by
 constructor
 ·rintro ⟨_,h⟩
  rcases h with ⟨h1,h⟩|⟨h1,h⟩|⟨h1,h⟩|⟨h1,h⟩|⟨h1,h⟩<;>first |exact h|(exfalso;omega)
 ·exact fun g=>⟨ho,.inl ⟨hk,g⟩⟩
theorem Re {r:Bd} (hk:r.kind=2∨r.kind=6) (ho:¬ De r):Cq r↔r.part=0∧r.sp=0∧r.att=0:=by
 constructor
 ·rintro ⟨_,h⟩
  rcases h with ⟨h1,h⟩|⟨h1,h⟩|⟨h1,h⟩|⟨h1,h⟩|⟨h1,h⟩<;>first |exact h|(exfalso;omega)
 ·exact fun g=>⟨ho,.inr (.inl ⟨hk,g⟩)⟩
theorem Yu {r:Bd} (hk:r.kind=3) (ho:¬ De r):Cq r↔EQ r:=by
 constructor
 ·rintro ⟨_,h⟩
  rcases h with ⟨h1,h⟩|⟨h1,h⟩|⟨h1,h⟩|⟨h1,h⟩|⟨h1,h⟩<;>first |exact h|(exfalso;omega)
 ·exact fun g=>⟨ho,.inr (.inr (.inl ⟨hk,g⟩))⟩
theorem JH {r:Bd} (hk:r.kind=4) (ho:¬ De r):Cq r↔Bv r.part 0 3∧Bv r.sp 0 5∧Bv r.att 1 3∧r.pairs.length≤40∧∀ p∈r.pairs,C5 p:=by
 constructor
 ·rintro ⟨_,h⟩
  rcases h with ⟨h1,h⟩|⟨h1,h⟩|⟨h1,h⟩|⟨h1,h⟩|⟨h1,h⟩<;>first |exact h|(exfalso;omega)
 ·exact fun g=>⟨ho,.inr (.inr (.inr (.inl ⟨hk,g⟩)))⟩
theorem KW {r:Bd} (hk:r.kind=5) (ho:¬ De r):Cq r↔Bv r.part 0 3∧r.sp=0∧r.att=0∧EI (-1) r.set:=by
 constructor
 ·rintro ⟨_,h⟩
  rcases h with ⟨h1,h⟩|⟨h1,h⟩|⟨h1,h⟩|⟨h1,h⟩|⟨h1,h⟩<;>first |exact h|(exfalso;omega)
 ·exact fun g=>⟨ho,.inr (.inr (.inr (.inr (⟨hk,g⟩))))⟩
theorem Yx {r:Bd} (h1:r.kind≠1) (h2:r.kind≠2) (h3:r.kind≠3) (h4:r.kind≠4) (h5:r.kind≠5) (h6:r.kind≠6):¬ Cq r:=by
 rintro ⟨_,h⟩
 rcases h with ⟨h1,h⟩|⟨h1,h⟩|⟨h1,h⟩|⟨h1,h⟩|⟨h1,h⟩<;>omega
theorem Th:∀ {last:Int} {l:List Int},EI last l→∀ n∈l,Bv n 0 5
 |_,_::_,⟨h,_,g⟩,n,hn=>by
  rcases List.mem_cons.1 hn with rfl|hn
  ·exact h
  ·exact Th g n hn
theorem Ti:∀ {last:Int} {l:List Int}, -1≤last→last≤5→EI last l→(l.length:Int)≤5 - last
 |_,[],_,h,_=>by simp only [List.length_nil];omega
 |last,n::ns,h0,h1,⟨h,g,k⟩=>by
  have:=Ti (by have:=h.1;omega) h.2 k
  simp only [List.length_cons]
  omega
structure Ki (r:Bd):Prop where
 kind:Bv r.kind 1 6
 part:Bv r.part 0 3
 sp:Bv r.sp 0 5
 att:Bv r.att 0 3
 why:Bv r.why 0 6
 set:r.set.length≤6
 sets:∀ n∈r.set,Bv n 0 40
 pairs:r.pairs.length≤40
 prs:∀ p∈r.pairs,C5 p
theorem KU {r:Bd} (h:Cq r):Ki r:=by
 obtain ⟨hm,h⟩:=h
 unfold De at hm
 have hs:∀ {P:Int→Prop},r.set.length=0→∀ n∈r.set,P n:=fun h n hn=>by rw [List.eq_nil_of_length_eq_zero h] at hn;cases hn
 have hp:∀ {P:Aq→Prop},r.pairs.length=0→∀ n∈r.pairs,P n:=fun h n hn=>by rw [List.eq_nil_of_length_eq_zero h] at hn;cases hn
 rcases h with ⟨h1,h2,h3,h4,h5,h6⟩|⟨h1,h2,h3,h4⟩|⟨h1,h2,h3⟩|⟨h1,h2,h3,h4,h5,h6⟩|⟨h1,h2,h3,h4,h5⟩
 ·unfold Bv at h3 h4
  exact ⟨by unfold Bv;omega,by unfold Bv;omega,by unfold Bv;omega,by unfold Bv;omega,by unfold Bv;omega,by omega,h6,by omega,hp (by omega)⟩
 ·exact ⟨by unfold Bv;omega,by unfold Bv;omega,by unfold Bv;omega,by unfold Bv;omega,by unfold Bv;omega,by omega,hs (by omega),by omega,hp (by omega)⟩
 ·unfold Bv at h2 h3
  exact ⟨by unfold Bv;omega,by unfold Bv;omega,by unfold Bv;omega,by unfold Bv;omega,by unfold Bv;omega,by omega,hs (by omega),by omega,hp (by omega)⟩
 ·unfold Bv at h2 h3 h4
  exact ⟨by unfold Bv;omega,by unfold Bv;omega,by unfold Bv;omega,by unfold Bv;omega,by unfold Bv;omega,by omega,hs (by omega),by omega,h6⟩
 ·have hl:=Ti (by omega) (by omega) h5
  unfold Bv at h2
  exact ⟨by unfold Bv;omega,by unfold Bv;omega,by unfold Bv;omega,by unfold Bv;omega,by unfold Bv;omega,by omega,fun n hn=>by have:=Th h5 n hn;unfold Bv at this ⊢;omega,by omega,hp (by omega)⟩
/-! ### Laid -/
def B5 (l:List Int):List UInt8:=l.flatMap fun n=>B7 n.toNat
def Ic (r:Bd):List Int:=[r.kind,r.part,r.sp,r.att,r.why,(r.set.length:Int)]
def CG (r:Bd):List UInt8:=B5 (Ic r++r.set)++Ed r.pairs
def Ct (rs:List Bd):List UInt8:=rs.flatMap fun r=>Cw (DI (CG r))
def FA (rs:List Bd):List UInt8:=if ∀ r∈rs,Cq r then Ct rs else []
theorem HK (l:List Int):(B5 l).length=8*l.length:=by
 induction l with
 |nil=>rfl
 |cons n l ih=>unfold B5 at ih ⊢;rw [List.flatMap_cons,List.length_append,EL,ih,List.length_cons];omega
theorem RA (l:List Int) (n:Int):B5 (l++[n])=B5 l++B7 n.toNat:=by unfold B5;rw [List.flatMap_append];simp
theorem Y3 (l m:List Int) (n:Int):B5 (l++n::m)=B5 l++(B7 n.toNat++B5 m):=by unfold B5;rw [List.flatMap_append,List.flatMap_cons]
theorem QS (l:List Bd) (r:Bd):Ct (l++[r])=Ct l++Cw (DI (CG r)):=by unfold Ct;rw [List.flatMap_append];simp
theorem QR (a b:List Bd):Ct (a++b)=Ct a++Ct b:=by unfold Ct;rw [List.flatMap_append]
theorem LZ {r:Bd} (h:Ki r):(CG r).length≤10000:=by
 have h1:=La (ps:=r.pairs) fun p hp=>by have:=h.prs p hp;unfold C5 at this;omega
 have h2:=h.set
 have h3:=h.pairs
 unfold CG Ed
 rw [List.length_append,List.length_append,HK,List.length_append,EL]
 show 8*(6+r.set.length)+_≤_
 omega
theorem LD (l:List UInt8):(Cw (DI l)).length=8+l.length:=by rw [GY,I_]
theorem X6 {rs:List Bd} (h:∀ r∈rs,Cq r):(Ct rs).length≤10008*rs.length:=by
 induction rs with
 |nil=>exact Nat.zero_le _
 |cons r rs ih=>
  have h1:=ih fun x hx=>h x (List.mem_cons_of_mem _ hx)
  have h2:=LZ (KU (h r (List.mem_cons_self ..)))
  have e:Ct (r::rs)=Cw (DI (CG r))++Ct rs:=by unfold Ct;rw [List.flatMap_cons]
  rw [e,List.length_append,LD,List.length_cons]
  omega
/-! ### Read -/
structure C1 where
 at_:Int
 bad:Bool
def Ak (b:List UInt8) (s:C1):Int×C1:=((BZ b s.at_).1,⟨if (BZ b s.at_).2.2 then (BZ b s.at_).2.1 else s.at_,s.bad||!(BZ b s.at_).2.2⟩)
def Ay (b:List UInt8) (most:Int) (s:C1):Int×C1:=if Bv (Ak b s).1 0 most then Ak b s else (0,⟨(Ak b s).2.at_,true⟩)
def AN (b:List UInt8) (s:C1):ByteArray×C1:=((Ax b s.at_).1,⟨if (Ax b s.at_).2.2 then (Ax b s.at_).2.1 else s.at_,s.bad||!(Ax b s.at_).2.2⟩)
def Bg (b:List UInt8):Nat→C1→List Int×C1
 |0,s=>([],s)
 |k+1,s=>((Bg b k s).1++[(Ak b (Bg b k s).2).1],(Ak b (Bg b k s).2).2)
def AS (b:List UInt8):Nat→C1→List Aq×C1
 |0,s=>([],s)
 |k+1,s=>((AS b k s).1++[⟨(AN b (AS b k s).2).1,(AN b (AN b (AS b k s).2).2).1⟩],(AN b (AN b (AS b k s).2).2).2)
def Aw (b:List UInt8) (k:Nat) (s:C1):C1:=(Bg b k s).2
def AL (b:List UInt8) (s:C1):List Int×C1:=Bg b (Ay b 6 s).1.toNat (Ay b 6 s).2
def Li (b:List UInt8) (s:C1):List Aq×C1:=AS b (Ay b 40 s).1.toNat (Ay b 40 s).2
def AF (b:List UInt8) (s:C1):Bd×C1:=
 (⟨(Ak b s).1,(Ak b (Aw b 1 s)).1,(Ak b (Aw b 2 s)).1,(Ak b (Aw b 3 s)).1,(Ak b (Aw b 4 s)).1,(AL b (Aw b 5 s)).1,(Li b (AL b (Aw b 5 s)).2).1⟩,(Li b (AL b (Aw b 5 s)).2).2)
def Fz (bs:List UInt8) (a:Int):Bool:=(Ax bs a).2.2 && !(AF (AB (Ax bs a).1) ⟨0,false⟩).2.bad && decide ((AF (AB (Ax bs a).1) ⟨0,false⟩).2.at_=((AB (Ax bs a).1).length:Int)) && decide (Cq (AF (AB (Ax bs a).1) ⟨0,false⟩).1)
def ET (bs:List UInt8):Nat→Int→List Bd→List Bd×Int
 |0,a,out=>(out,a)
 |k+1,a,out=>if Fz bs a=true then ET bs k (Ax bs a).2.1 (out++[(AF (AB (Ax bs a).1) ⟨0,false⟩).1]) else (out,a)
def CI (bs:List UInt8):List Bd×Int:=ET bs (bs.length+1) 0 []
theorem GR {b:List UInt8} {s:C1} (hl:b.length≤1000000) (h:AG s.at_):AG (Ak b s).2.at_:=by
 unfold Ak
 dsimp only
 split
 ·next hk=>have:=Nr hk;unfold AG;omega
 ·exact h
theorem Nu {b:List UInt8} {a:Int} (h:(Ax b a).2.2=true):a+8≤(Ax b a).2.1∧(Ax b a).2.1≤(b.length:Int)∧0≤a∧(((Ax b a).1.size:Nat):Int)≤(b.length:Int):=by
 by_cases hk:(BZ b a).2.2=true
 ·have h1:=Nr hk
  have h2:=Lj hk
  rw [h2] at h ⊢
  by_cases h3:(BZ b a).1<0∨(b.length:Int) - (BZ b a).2.1<(BZ b a).1
  ·rw [if_pos h3] at h;cases h
  ·rw [if_neg h3]
   refine ⟨?_,?_,h1.2.2.2,?_⟩
   ·show a+8≤(BZ b a).2.1+(BZ b a).1;omega
   ·show (BZ b a).2.1+(BZ b a).1≤_;omega
   ·show ((DI _).size:Int)≤_
    rw [I_,List.length_take,List.length_drop]
    omega
 ·have h2:=Nv (b:=b) (at_:=a) (by simpa using hk)
  rw [h2] at h
  cases h
theorem Ka {b:List UInt8} {s:C1} (hl:b.length≤1000000) (h:AG s.at_):AG (AN b s).2.at_:=by
 unfold AN
 dsimp only
 split
 ·next hk=>have:=Nu hk;unfold AG;omega
 ·exact h
theorem Kp {b:List UInt8} {s:C1} {m:Int} (hl:b.length≤1000000) (h:AG s.at_):AG (Ay b m s).2.at_:=by
 unfold Ay
 split<;>exact GR hl h
theorem OQ {b:List UInt8} {s:C1} {m:Int} (h:0≤m):0≤(Ay b m s).1∧(Ay b m s).1≤m:=by
 unfold Ay
 split
 ·next g=>exact g
 ·exact ⟨Int.le_refl _,h⟩
theorem K7 {b:List UInt8} (hl:b.length≤1000000):∀ (k:Nat) {s:C1},AG s.at_→AG (Bg b k s).2.at_
 |0,_,h=>h
 |k+1,_,h=>GR hl (K7 hl k h)
theorem RY {b:List UInt8} (hl:b.length≤1000000):∀ (k:Nat) {s:C1},AG s.at_→AG (AS b k s).2.at_
 |0,_,h=>h
 |k+1,_,h=>Ka hl (Ka hl (RY hl k h))
theorem RC (b:List UInt8) (s:C1):∀ k,(Bg b k s).1.length=k
 |0=>rfl
 |k+1=>by unfold Bg;dsimp only;rw [List.length_append,RC b s k];rfl
theorem RZ (b:List UInt8) (s:C1):∀ k,(AS b k s).1.length=k
 |0=>rfl
 |k+1=>by unfold AS;dsimp only;rw [List.length_append,RZ b s k];rfl
theorem Id {bs:List UInt8} {a:Int}:Fz bs a=true↔(Ax bs a).2.2=true∧(AF (AB (Ax bs a).1) ⟨0,false⟩).2.bad=false∧(AF (AB (Ax bs a).1) ⟨0,false⟩).2.at_=((AB (Ax bs a).1).length:Int)∧Cq (AF (AB (Ax bs a).1) ⟨0,false⟩).1:=by
 unfold Fz
 simp only [Bool.and_eq_true,Bool.not_eq_true',decide_eq_true_eq]
 exact ⟨fun ⟨⟨⟨h1,h2⟩,h3⟩,h4⟩=>⟨h1,h2,h3,h4⟩,fun ⟨h1,h2,h3,h4⟩=>⟨⟨⟨h1,h2⟩,h3⟩,h4⟩⟩
theorem aU {bs:List UInt8} {k:Nat} {a:Int} {out:List Bd} (h:Fz bs a=true):ET bs (k+1) a out=ET bs k (Ax bs a).2.1 (out++[(AF (AB (Ax bs a).1) ⟨0,false⟩).1]):=if_pos h
theorem Lm {bs:List UInt8} {k:Nat} {a:Int} {out:List Bd} (h:¬ Fz bs a=true):ET bs (k+1) a out=(out,a):=if_neg h
/-! ### What was laid is read -/
theorem SO {α:Type} {P:List α→Prop} (h0:P []) (h1:∀ l x,P l→P (l++[x])) (l:List α):P l:=by
 have key:∀ m:List α,P m.reverse:=by
  intro m
  induction m with
  |nil=>exact h0
  |cons x m ih=>rw [List.reverse_cons];exact h1 _ _ ih
 have:=key l.reverse
 rwa [List.reverse_reverse] at this
theorem Rz {a c:List UInt8} {n:Int} (h:0≤n∧n<9223372036854775808) (bad:Bool):Ak (a++(B7 n.toNat++c)) ⟨(a.length:Int),bad⟩=(n,⟨((a.length+8:Nat):Int),bad⟩):=by
 have h1:=Nt (a:=a) (c:=c) (n:=n.toNat) (k:=a.length) (by omega) rfl
 have h2:BZ (a++(B7 n.toNat++c)) (a.length:Int)=(n,((a.length+8:Nat):Int),true):=by
  unfold BZ
  rw [h1]
  show (((n.toNat:Nat):Int),_,true)=_
  rw [Int.toNat_of_nonneg h.1]
 unfold Ak
 rw [h2]
 simp
theorem S0 {a c:List UInt8} {s:ByteArray} (h:s.size<9223372036854775808) (bad:Bool):AN (a++(Cw s++c)) ⟨(a.length:Int),bad⟩=(s,⟨((a.length+8+s.size:Nat):Int),bad⟩):=by
 have h1:=Lk (a:=a) (c:=c) (s:=s) (k:=a.length) h rfl
 have h2:Ax (a++(Cw s++c)) (a.length:Int)=(s,((a.length+8+s.size:Nat):Int),true):=by
  unfold Ax
  rw [h1]
 unfold AN
 rw [h2]
 simp
theorem RB:∀ (l:List Int) (m:List Int) (a c:List UInt8) (bad:Bool),(∀ n∈l,0≤n∧n<9223372036854775808)→Bg (a++(B5 (l++m)++c)) l.length ⟨(a.length:Int),bad⟩=(l,⟨((a.length+8*l.length:Nat):Int),bad⟩):=by
 refine SO (fun m a c bad _=>rfl) fun l n ih=>?_
 ·intro m a c bad h
  have h1:=ih (n::m) a c bad fun x hx=>h x (List.mem_append_left _ hx)
  rw [List.append_assoc,List.singleton_append,List.length_append,List.length_singleton]
  unfold Bg
  rw [h1]
  have e:a++(B5 (l++n::m)++c)=(a++B5 l)++(B7 n.toNat++(B5 m++c)):=by
   have:B5 (l++n::m)=B5 l++(B7 n.toNat++B5 m):=by unfold B5;rw [List.flatMap_append,List.flatMap_cons]
   rw [this];simp only [List.append_assoc]
  have h2:=Rz (a:=a++B5 l) (c:=B5 m++c) (h n (by simp)) bad
  rw [List.length_append,HK] at h2
  dsimp only
  rw [e,h2]
  rfl
theorem ZJ:∀ (l m:List Aq) (a c:List UInt8) (bad:Bool),(∀ p∈l,p.key.size<9223372036854775808∧p.val.size<9223372036854775808)→AS (a++(Cb (l++m)++c)) l.length ⟨(a.length:Int),bad⟩=(l,⟨((a.length+(Cb l).length:Nat):Int),bad⟩):=by
 refine SO (fun m a c bad _=>by rw [show (Cb []).length=0 from rfl];rfl) fun l p ih=>?_
 ·intro m a c bad h
  have h1:=ih (p::m) a c bad fun x hx=>h x (List.mem_append_left _ hx)
  have hp:=h p (by simp)
  rw [List.append_assoc,List.singleton_append,List.length_append,List.length_singleton]
  unfold AS
  rw [h1]
  have e:a++(Cb (l++p::m)++c)=(a++Cb l)++(Cw p.key++(Cw p.val++(Cb m++c))):=by
   have:Cb (l++p::m)=Cb l++((Cw p.key++Cw p.val)++Cb m):=by unfold Cb;rw [List.flatMap_append,List.flatMap_cons]
   rw [this];simp only [List.append_assoc]
  have h2:=S0 (a:=a++Cb l) (c:=Cw p.val++(Cb m++c)) hp.1 bad
  have h3:=S0 (a:=a++Cb l++Cw p.key) (c:=Cb m++c) hp.2 bad
  rw [List.append_assoc (a++Cb l)] at h3
  rw [List.length_append,GY] at h3
  rw [List.length_append] at h2 h3
  dsimp only
  rw [e,h2]
  dsimp only
  rw [show a.length+(Cb l).length+8+p.key.size=a.length+(Cb l).length+(8+p.key.size) by omega,h3,Nd,List.length_append,List.length_append,GY,GY]
  refine congrArg (fun z=>(l++[p],(⟨z,bad⟩:C1))) ?_
  omega
theorem OP {a c:List UInt8} {n most:Int} (h:0≤n∧n≤most∧n<9223372036854775808) (bad:Bool):Ay (a++(B7 n.toNat++c)) most ⟨(a.length:Int),bad⟩=(n,⟨((a.length+8:Nat):Int),bad⟩):=by
 unfold Ay
 rw [Rz ⟨h.1,h.2.2⟩]
 exact if_pos ⟨h.1,h.2.1⟩
theorem Y4 {b:List UInt8} {k i:Nat} {s:C1} (h:i<k):(Bg b k s).1[i]?=some (Ak b (Aw b i s)).1:=by
 induction k with
 |zero=>omega
 |succ k ih=>
  have hl:∀ j,(Bg b j s).1.length=j:=by
   intro j
   induction j with
   |zero=>rfl
   |succ j ih=>unfold Bg;dsimp only;rw [List.length_append,ih];rfl
  unfold Bg
  dsimp only
  rcases Nat.lt_or_ge i k with h1|h1
  ·rw [List.getElem?_append_left (by rw [hl];exact h1)];exact ih h1
  ·obtain rfl:i=k:=by omega
   rw [List.getElem?_append_right (by rw [hl];exact Nat.le_refl _),hl,Nat.sub_self]
   rfl
theorem aV {r:Bd} (h:Ki r):AF (CG r) ⟨0,false⟩=(r,⟨((CG r).length:Nat),false⟩):=by
 have hk:=h.kind
 have hp:=h.part
 have hs:=h.sp
 have ha:=h.att
 have hw:=h.why
 unfold Bv at hk hp hs ha hw
 have hset:=h.set
 have hpr:=h.pairs
 have e0:CG r=[]++(B5 ([r.kind,r.part,r.sp,r.att,r.why]++((r.set.length:Int)::r.set))++Ed r.pairs):=rfl
 have hn:=RB [r.kind,r.part,r.sp,r.att,r.why] ((r.set.length:Int)::r.set) [] (Ed r.pairs) false (by intro n hn;simp only [List.mem_cons,List.not_mem_nil,or_false] at hn;rcases hn with rfl|rfl|rfl|rfl|rfl<;>omega)
 rw [←e0] at hn
 have hn:Bg (CG r) 5 ⟨0,false⟩=([r.kind,r.part,r.sp,r.att,r.why],⟨((40:Nat):Int),false⟩):=hn
 have g:∀ i,i<5→some (Ak (CG r) (Aw (CG r) i ⟨0,false⟩)).1=[r.kind,r.part,r.sp,r.att,r.why][i]?:=fun i hi=>by have:=Y4 (b:=CG r) (s:=⟨0,false⟩) hi;rw [hn] at this;exact this.symm
 have g0:=Option.some.inj (g 0 (by decide))
 have g1:=Option.some.inj (g 1 (by decide))
 have g2:=Option.some.inj (g 2 (by decide))
 have g3:=Option.some.inj (g 3 (by decide))
 have g4:=Option.some.inj (g 4 (by decide))
 have h5:Aw (CG r) 5 ⟨0,false⟩=⟨((40:Nat):Int),false⟩:=by unfold Aw;rw [hn]
 have hh:(B5 [r.kind,r.part,r.sp,r.att,r.why]).length=40:=HK _
 have e1:CG r=B5 [r.kind,r.part,r.sp,r.att,r.why]++(B7 ((r.set.length:Int)).toNat++(B5 r.set++Ed r.pairs)):=by
  rw [e0,Y3];simp only [List.append_assoc,List.nil_append]
 have hc:=OP (a:=B5 [r.kind,r.part,r.sp,r.att,r.why]) (c:=B5 r.set++Ed r.pairs) (n:=(r.set.length:Int)) (most:=6) (by omega) false
 rw [←e1,hh] at hc
 have e2:CG r=(B5 [r.kind,r.part,r.sp,r.att,r.why]++B7 ((r.set.length:Int)).toNat)++(B5 (r.set++[])++Ed r.pairs):=by rw [e1,List.append_nil,List.append_assoc]
 have hl2:(B5 [r.kind,r.part,r.sp,r.att,r.why]++B7 ((r.set.length:Int)).toNat).length=48:=by rw [List.length_append,hh,EL]
 have hm:=RB r.set [] (B5 [r.kind,r.part,r.sp,r.att,r.why]++B7 ((r.set.length:Int)).toNat) (Ed r.pairs) false (fun n hn=>by have:=h.sets n hn;unfold Bv at this;omega)
 rw [←e2,hl2] at hm
 have hst:AL (CG r) ⟨((40:Nat):Int),false⟩=(r.set,⟨((48+8*r.set.length:Nat):Int),false⟩):=by
  unfold AL
  rw [hc]
  dsimp only
  rw [Int.toNat_natCast]
  exact hm
 have e3:CG r=B5 (Ic r++r.set)++(B7 ((r.pairs.length:Int)).toNat++(Cb r.pairs++[])):=by unfold CG Ed;rw [List.append_nil,Int.toNat_natCast]
 have hl3:(B5 (Ic r++r.set)).length=48+8*r.set.length:=by rw [HK,List.length_append];show 8*(6+r.set.length)=_;omega
 have hd:=OP (a:=B5 (Ic r++r.set)) (c:=Cb r.pairs++[]) (n:=(r.pairs.length:Int)) (most:=40) (by omega) false
 rw [←e3,hl3] at hd
 have e4:CG r=(B5 (Ic r++r.set)++B7 ((r.pairs.length:Int)).toNat)++(Cb (r.pairs++[])++[]):=by rw [e3,List.append_nil r.pairs,List.append_assoc]
 have hl4:(B5 (Ic r++r.set)++B7 ((r.pairs.length:Int)).toNat).length=48+8*r.set.length+8:=by rw [List.length_append,hl3,EL]
 have hq:=ZJ r.pairs [] (B5 (Ic r++r.set)++B7 ((r.pairs.length:Int)).toNat) [] false (fun p hp=>by have:=h.prs p hp;unfold C5 at this;omega)
 rw [←e4,hl4] at hq
 have hpt:Li (CG r) ⟨((48+8*r.set.length:Nat):Int),false⟩=(r.pairs,⟨((48+8*r.set.length+8+(Cb r.pairs).length:Nat):Int),false⟩):=by
  unfold Li
  rw [hd]
  dsimp only
  rw [Int.toNat_natCast]
  exact hq
 have hlen:(CG r).length=48+8*r.set.length+8+(Cb r.pairs).length:=by
  rw [e3,List.length_append,hl3,List.length_append,EL,List.append_nil];omega
 unfold AF
 rw [h5,hst]
 dsimp only
 rw [hpt,hlen,show Ak (CG r) ⟨0,false⟩=Ak (CG r) (Aw (CG r) 0 ⟨0,false⟩) from rfl,g0,g1,g2,g3,g4]
theorem aP {a c:List UInt8} {s:ByteArray} (h:s.size<9223372036854775808):Ax (a++(Cw s++c)) (a.length:Int)=(s,((a.length+8+s.size:Nat):Int),true):=by
 unfold Ax
 rw [Lk h rfl]
theorem Wl {a c:List UInt8} {r:Bd} (h:Cq r):Fz (a++(Cw (DI (CG r))++c)) (a.length:Int)=true∧(Ax (a++(Cw (DI (CG r))++c)) (a.length:Int)).2.1=((a++Cw (DI (CG r))).length:Int)∧(AF (AB (Ax (a++(Cw (DI (CG r))++c)) (a.length:Int)).1) ⟨0,false⟩).1=r:=by
 have hm:=KU h
 have hl:=LZ hm
 have h1:=aP (a:=a) (c:=c) (s:=DI (CG r)) (by rw [I_];omega)
 have h2:=aV hm
 unfold Fz
 rw [h1]
 dsimp only
 rw [OM,h2]
 refine ⟨by simp [h],?_,rfl⟩
 rw [List.length_append,LD,I_]
 omega
theorem aQ {rs:List Bd}:∀ (a:List UInt8) (out:List Bd) (k:Nat),(∀ r∈rs,Cq r)→rs.length<k→ET (a++Ct rs) k (a.length:Int) out=(out++rs,((a++Ct rs).length:Int)):=by
 induction rs with
 |nil=>
  intro a out k _ hk
  obtain ⟨k,rfl⟩:∃ j,k=j+1:=⟨k - 1,by simp only [List.length_nil] at hk;omega⟩
  have e:a++Ct []=a:=List.append_nil _
  have hn:Fz a (a.length:Int)=false:=by
   have h1:BZ a (a.length:Int)=(0,0,false):=I0 (by omega)
   have h2:Ax a (a.length:Int)=(⟨#[]⟩,0,false):=Nv (by rw [h1])
   unfold Fz
   rw [h2]
   rfl
  rw [e]
  unfold ET
  rw [hn,List.append_nil]
  rfl
 |cons r rs ih=>
  intro a out k h hk
  obtain ⟨k,rfl⟩:∃ j,k=j+1:=⟨k - 1,by simp only [List.length_cons] at hk;omega⟩
  have e:a++Ct (r::rs)=a++(Cw (DI (CG r))++Ct rs):=by unfold Ct;rw [List.flatMap_cons]
  obtain ⟨g1,g2,g3⟩:=Wl (a:=a) (c:=Ct rs) (h r (List.mem_cons_self ..))
  have h2:=ih (a++Cw (DI (CG r))) (out++[r]) k (fun x hx=>h x (List.mem_cons_of_mem _ hx)) (by simp only [List.length_cons] at hk;omega)
  rw [List.append_assoc a] at h2
  rw [e]
  unfold ET
  rw [if_pos g1,g2,g3,h2,List.append_assoc]
  rfl
theorem X8 (rs:List Bd):rs.length≤(Ct rs).length:=by
 induction rs with
 |nil=>exact Nat.zero_le _
 |cons r rs ih=>
  have e:Ct (r::rs)=Cw (DI (CG r))++Ct rs:=by unfold Ct;rw [List.flatMap_cons]
  rw [e,List.length_append,LD,List.length_cons]
  omega
theorem Sm {bs:List UInt8}:∀ (k:Nat) (a:Int) (out:List Bd),(∀ r∈out,Cq r)→∀ r∈(ET bs k a out).1,Cq r
 |0,_,_,h=>h
 |k+1,a,out,h=>by
  unfold ET
  split
  ·next hy=>
   refine Sm k _ _ fun r hr=>?_
   rcases List.mem_append.1 hr with g|g
   ·exact h r g
   ·rw [List.mem_singleton.1 g];exact (Id.1 hy).2.2.2
  ·exact h
theorem aT (bs:List UInt8):∀ r∈(CI bs).1,Cq r:=Sm _ _ _ fun r h=>by cases h
theorem Sl {bs:List UInt8}:∀ (k:Nat) (a:Int) (out:List Bd),0≤a→a≤(bs.length:Int)→(out.length:Int)≤a→0≤(ET bs k a out).2∧(ET bs k a out).2≤(bs.length:Int)∧((ET bs k a out).1.length:Int)≤(ET bs k a out).2
 |0,_,_,h0,h1,h2=>⟨h0,h1,h2⟩
 |k+1,a,out,h0,h1,h2=>by
  unfold ET
  split
  ·next hy=>
   have g:=Nu (Id.1 hy).1
   exact Sl k _ _ (by omega) g.2.1 (by rw [List.length_append,List.length_singleton];omega)
  ·exact ⟨h0,h1,h2⟩
theorem aS (bs:List UInt8):0≤(CI bs).2∧(CI bs).2≤(bs.length:Int)∧((CI bs).1.length:Int)≤(CI bs).2:=Sl _ _ _ (Int.le_refl _) (Int.natCast_nonneg _) (Int.le_refl _)
theorem aR {rs:List Bd} (h:∀ r∈rs,Cq r):CI (Ct rs)=(rs,((Ct rs).length:Int)):=by
 have h1:=X8 rs
 have:=aQ (rs:=rs) [] [] ((Ct rs).length+1) h (by omega)
 simpa [CI] using this
/-! ### Chunks that wait -/
abbrev D_:=List ((Int×Int)×List (List Aq))
def Ef:D_→Int→Int→List (List Aq)
 |[],_,_=>[]
 |e::s,a,b=>if e.1.1=a∧e.1.2=b then e.2 else Ef s a b
def JY:D_→Int→Int→List Aq→D_
 |[],a,b,x=>[((a,b),[x])]
 |e::s,a,b,x=>if e.1.1=a∧e.1.2=b then (e.1,e.2++[x])::s else e::JY s a b x
def Lx (s:D_) (a b:Int):Int:=((Ef s a b).length:Int)
def NG (s:D_) (a b q:Int):Prop:=q=Lx s a b∧(0≤a∧a<6)∧(1≤b∧b≤3)∧q<40
instance (s:D_) (a b q:Int):Decidable (NG s a b q):=by unfold NG;infer_instance
def Ly (s:D_) (a b q:Int) (x:List Aq):D_:=if NG s a b q then JY s a b x else s
def cX (s:D_) (a b n:Int):Option (List Aq):=if n<0∨Lx s a b≠n then none else some (Ef s a b).flatten
def JZ (s:D_) (a:Int):D_:=s.filter fun e=>decide (e.1.1≠a)
/-! ### A reducer -/
structure DF where
 merged:Bool
 pairs:List Aq
 told:Bool
 att:Int
 cnt:Int
def J0:DF:=⟨false,[],false,0,0⟩
def C8 {α:Type} (g:Nat→α) (k:Nat) (v:α):Nat→α:=fun j=>if j=k then v else g j
theorem Im {α:Type} (g:Nat→α) (k:Nat) (v:α):C8 g k v k=v:=if_pos rfl
theorem Il {α:Type} (g:Nat→α) {k j:Nat} (v:α) (h:j≠k):C8 g k v j=g j:=if_neg h
structure AX where
 part:Int
 ep:Int
 g:Nat→DF
 st:D_
 sets:List (List Int)
def HQ (part ep:Int):AX:=⟨part,ep,fun _=>J0,[],[]⟩
def DO (n:Nat) (R:AX) (x:Bd):AX:=
 if x.part≠R.part then R else
 let R1:AX:=if x.kind=4∧(0≤x.sp∧x.sp<n)∧(R.g x.sp.toNat).merged=false then { R with g:=C8 R.g x.sp.toNat { R.g x.sp.toNat with merged:=true,pairs:=x.pairs } } else R
 if x.kind=5 then { R1 with sets:=R1.sets++[x.set] } else R1
def Db (n:Nat) (part ep:Int) (rs:List Bd):AX:=rs.foldl (DO n) (HQ part ep)
def C6 (n:Nat) (R:AX):List Int:=((List.range n).filter fun i=>(R.g i).merged).map fun (i:Nat)=>(i:Int)
def FQ (n:Nat) (R:AX) (set:List Int):List Aq:=((List.range n).filter fun i=>(R.g i).merged && decide ((i:Int)∈set)).flatMap fun i=>(R.g i).pairs
def M5 (D:BA) (J:AR) (R:AX) (set:List Int):List Aq×Int:=D0 D J.red (srt (FQ J.us.length R set)) J.fuel false
def D2 (D:BA) (J:AR) (R:AX):List Aq×Int×Bool:=
 if (C6 J.us.length R).length<J.us.length then ([],0,false) else ((M5 D J R (C6 J.us.length R)).1,(M5 D J R (C6 J.us.length R)).2,true)
theorem Rg (n:Nat) (R:AX):(C6 n R).length≤n:=by
 unfold C6
 rw [List.length_map]
 exact Nat.le_trans (List.length_filter_le _ _) (by simp)
theorem Rj (n:Nat) (R:AX):C6 (n+1) R=C6 n R++(if (R.g n).merged then [(n:Int)] else []):=by
 unfold C6
 rw [List.range_succ,List.filter_append,List.map_append]
 cases h:(R.g n).merged<;>simp [h]
theorem cD (n:Nat) (R:AX) (set:List Int):FQ (n+1) R set=FQ n R set++(if (R.g n).merged=true∧(n:Int)∈set then (R.g n).pairs else []):=by
 unfold FQ
 rw [List.range_succ,List.filter_append,List.flatMap_append]
 by_cases h:(R.g n).merged=true∧(n:Int)∈set
 ·rw [if_pos h];simp [h.1,h.2]
 ·rw [if_neg h]
  have:((R.g n).merged && decide ((n:Int)∈set))=false:=by
   cases h1:(R.g n).merged
   ·rfl
   ·simpa using fun h2=>h ⟨h1,h2⟩
  simp [this]
theorem Rt (n:Nat) (part ep:Int) (rs:List Bd) (x:Bd):Db n part ep (rs++[x])=DO n (Db n part ep rs) x:=by
 unfold Db;rw [List.foldl_append];rfl
theorem aX (n:Nat) (R:AX) (x:Bd):(DO n R x).part=R.part∧(DO n R x).ep=R.ep∧(DO n R x).st=R.st:=by
 unfold DO
 dsimp only
 split
 ·exact ⟨rfl,rfl,rfl⟩
 ·split<;>(split<;>exact ⟨rfl,rfl,rfl⟩)
theorem JK (n:Nat) (part ep:Int) (rs:List Bd):(Db n part ep rs).part=part∧(Db n part ep rs).ep=ep∧(Db n part ep rs).st=[]:=by
 have:∀ (rs:List Bd) (R:AX),(rs.foldl (DO n) R).part=R.part∧(rs.foldl (DO n) R).ep=R.ep∧(rs.foldl (DO n) R).st=R.st:=by
  intro rs
  induction rs with
  |nil=>exact fun R=>⟨rfl,rfl,rfl⟩
  |cons x rs ih=>
   intro R
   obtain ⟨h1,h2,h3⟩:=ih (DO n R x)
   obtain ⟨g1,g2,g3⟩:=aX n R x
   exact ⟨h1.trans g1,h2.trans g2,h3.trans g3⟩
 exact this rs (HQ part ep)
/-! ### What a part knows when it begins -/
/-! ### Records of all splits, in whatever order -/
/-! ### What it hears, what it tells -/
def KO (J:AR) (R:AX) (n:Nat):AX×List Bd:=
 if (R.g n).told=false then (R,[]) else
 match cX R.st n (R.g n).att (R.g n).cnt with
 |none=>(R,[])
 |some ps=>
  if 40<ps.length then (R,[]) else
  let R1:AX:={ R with g:=C8 R.g n { R.g n with merged:=true,pairs:=ps },st:=JZ R.st n }
  let l:=C6 J.us.length R1
  if (l.length:Int)∈J.marks then ({ R1 with sets:=R1.sets++[l] },[⟨4,R.part,n,(R.g n).att,0,[],ps⟩,⟨5,R.part,0,0,0,l,[]⟩])
  else (R1,[⟨4,R.part,n,(R.g n).att,0,[],ps⟩])
def Nl (J:AR) (R:AX) (m:DQ):Prop:=¬ (0≤m.sp∧m.sp<J.us.length)∨m.kind≠2∨m.part≠R.part
instance (J:AR) (R:AX) (m:DQ):Decidable (Nl J R m):=by unfold Nl;infer_instance
def Nm (R:AX) (m:DQ):Prop:=(R.g m.sp.toNat).merged=false∧m.pairs.length≤8∧HH m.pairs
instance (R:AX) (m:DQ):Decidable (Nm R m):=by unfold Nm;infer_instance
def JM (J:AR) (R:AX) (m:DQ):AX×List Bd:=
 if Nm R m then KO J { R with st:=Ly R.st m.sp m.att m.seq m.pairs } m.sp.toNat else (R,[])
def Ts (R:AX) (m:DQ):DQ:=
 ⟨3,m.sp,m.att,R.part,0,if (R.g m.sp.toNat).merged=true then 40 else Lx R.st m.sp m.att,R.ep,0,[],[]⟩
def R5 (J:AR) (R:AX) (m:DQ):AX×DQ×List Bd:=
 if Nl J R m then (R,YG,[]) else ((JM J R m).1,Ts (JM J R m).1 m,(JM J R m).2)
def NZ (J:AR) (t:Int) (R:AX) (sp att:Int):Prop:=¬ (0≤sp∧sp<J.us.length)∨(R.g sp.toNat).merged=true∨(R.g sp.toNat).told=true∨att<1∨t<att
instance (J:AR) (t:Int) (R:AX) (sp att:Int):Decidable (NZ J t R sp att):=by unfold NZ;infer_instance
def Tm (J:AR) (t:Int) (R:AX) (sp att cnt:Int):AX×List Bd:=
 if NZ J t R sp att then (R,[]) else KO J { R with g:=C8 R.g sp.toNat { R.g sp.toNat with told:=true,att:=att,cnt:=cnt } } sp.toNat
structure N_ where
 set:List Int
 why:Int
 pairs:List Aq
def AT (D:BA) (J:AR) (R:AX):DQ:=
 if (D2 D J R).2.2=true then ⟨8,0,0,R.part,0,0,R.ep,(D2 D J R).2.1,[],[]⟩ else ⟨6,0,0,R.part,0,0,R.ep,0,C6 J.us.length R,[]⟩
def BJ (vS vM vC vR vK:Value) (J:AR) (w t o part ep:Int) (g:Nat→DF) (hv:Nat→Value) (sb:Nat) (vs:Value):List Value:=
 [vS,.int .i64 J.parts,vM,vC,vR,.int .i64 J.chunk,.int .i64 J.window,.int .i64 J.fuel,vK,.int .i64 w,.int .i64 t,.int .i64 o,.int .i64 part,.int .i64 ep,
  .bool (g 0).merged,hv 0,.bool (g 0).told,.int .i64 (g 0).att,.int .i64 (g 0).cnt,
  .bool (g 1).merged,hv 1,.bool (g 1).told,.int .i64 (g 1).att,.int .i64 (g 1).cnt,
  .bool (g 2).merged,hv 2,.bool (g 2).told,.int .i64 (g 2).att,.int .i64 (g 2).cnt,
  .bool (g 3).merged,hv 3,.bool (g 3).told,.int .i64 (g 3).att,.int .i64 (g 3).cnt,
  .bool (g 4).merged,hv 4,.bool (g 4).told,.int .i64 (g 4).att,.int .i64 (g 4).cnt,
  .bool (g 5).merged,hv 5,.bool (g 5).told,.int .i64 (g 5).att,.int .i64 (g 5).cnt,
  .pointer (some ⟨sb,0,none⟩),vs]
section
variable {vS vM vC vR vK vs:Value} {J:AR} {w t o part ep:Int} {g:Nat→DF} {hv:Nat→Value} {sb j:Nat}
theorem Ny (h:j<6):(BJ vS vM vC vR vK J w t o part ep g hv sb vs)[14+j*5+0]?=some (.bool (g j).merged):=by
 match j,h with
 |0,_=>rfl
 |1,_=>rfl
 |2,_=>rfl
 |3,_=>rfl
 |4,_=>rfl
 |5,_=>rfl
theorem bD (h:j<6):(BJ vS vM vC vR vK J w t o part ep g hv sb vs)[14+j*5+1]?=some (hv j):=by
 match j,h with
 |0,_=>rfl
 |1,_=>rfl
 |2,_=>rfl
 |3,_=>rfl
 |4,_=>rfl
 |5,_=>rfl
theorem bF (h:j<6) (b:Bool):E5 (BJ vS vM vC vR vK J w t o part ep g hv sb vs) (14+j*5+0) [.bool b]=BJ vS vM vC vR vK J w t o part ep (C8 g j { g j with merged:=b }) (hv) sb vs:=by
 match j,h with
 |0,_=>rfl
 |1,_=>rfl
 |2,_=>rfl
 |3,_=>rfl
 |4,_=>rfl
 |5,_=>rfl
theorem bG (h:j<6) (v:Value):E5 (BJ vS vM vC vR vK J w t o part ep g hv sb vs) (14+j*5+1) [v]=BJ vS vM vC vR vK J w t o part ep (g) (C8 hv j v) sb vs:=by
 match j,h with
 |0,_=>rfl
 |1,_=>rfl
 |2,_=>rfl
 |3,_=>rfl
 |4,_=>rfl
 |5,_=>rfl
end
def Ig (g:Nat→DF) (hv:Nat→Value):Nat→SP:=fun i=>Y Ag (hv i) (g i).pairs
def B3 (g:Nat→DF) (hv:Nat→Value):SP:=BN (Ig g hv) (List.range 6)
def Nj (g:Nat→DF) (hv:Nat→Value) (i:Nat):SP:=BN (Ig g hv) ((List.range 6).eraseIdx i)
theorem Sh {n i:Nat} (h:i<n):(List.range n)[i]?=some i:=by simp [h]
theorem TW {α:Type} {f f':α→SP} {l:List α} (h:∀ x∈l,f x=f' x):BN f l=BN f' l:=by
 unfold BN;rw [List.map_congr_left h]
theorem Vc {n i j:Nat} (hi:i<n) (h:j∈(List.range n).eraseIdx i):j≠i:=by
 intro e
 subst e
 have hn:((List.range n).eraseIdx j).Nodup:=(List.nodup_range (n:=n)).sublist (List.eraseIdx_sublist _ _)
 have hp:=Kw (List.range n) j (Sh hi)
 have:=hp.nodup_iff.1 List.nodup_range
 exact (List.nodup_cons.1 this).1 h
theorem OH {α:Type} {f:α→SP} {l:List α} {w:World} {F:AU} (h:(BN f l).P w F) {x:α} (hx:x∈l):(f x).P w F:=CJ.mem h (List.mem_map_of_mem hx)
section
variable {w0 w:World} {F0:AU} {As Rs:List SP} {g:Nat→DF} {hv:Nat→Value} {i:Nat}
theorem Hd.prsO (hi:i<6) (H:Hd w0 F0 w (B3 g hv::As) Rs):Hd w0 F0 w (Y Ag (hv i) (g i).pairs::Nj g hv i::As) Rs:=H.bigO (f:=Ig g hv) i (Sh hi)
theorem Hd.bigGI {f f':Nat→SP} {n:Nat} (hi:i<n) (he:∀ j,j≠i→f j=f' j) (H:Hd w0 F0 w (f' i::BN f ((List.range n).eraseIdx i)::As) Rs):Hd w0 F0 w (BN f' (List.range n)::As) Rs:=by
 rw [TW fun j hj=>he j (Vc hi hj)] at H
 have:=H.bigI (f:=f') i (by simpa using hi)
 rwa [show (List.range n).set i i=List.range n from ?_] at this
 apply List.ext_getElem? 
 intro k
 rw [List.getElem?_set]
 split
 ·rename_i e;subst e;simp [hi]
 ·rfl
theorem Hd.prsI (hi:i<6) {x:DF} {v:Value} (H:Hd w0 F0 w (Y Ag v x.pairs::Nj g hv i::As) Rs):Hd w0 F0 w (B3 (C8 g i x) (C8 hv i v)::As) Rs:=by
 refine Hd.bigGI (f:=Ig g hv) (f':=Ig (C8 g i x) (C8 hv i v)) hi (fun j hj=>?_) ?_
 ·unfold Ig;rw [Il g x hj,Il hv v hj]
 ·show Hd w0 F0 w (Y Ag (C8 hv i v i) (C8 g i x i).pairs::Nj g hv i::As) Rs
  rw [Im,Im];exact H
theorem R0 {F:AU} (hi:i<6) (h:(B3 g hv).P w F):(Ac Ag (hv i) (g i).pairs).P w F:=B2 F (OH h (x:=i) (List.mem_range.2 hi))
theorem ZK:∀ {w:World} {F:AU},(B3 (fun _=>J0) (fun _=>.slice none 0 0)).P w F:=by
 intro w F
 have:∀ l:List Nat,CJ (l.map (Ig (fun _=>J0) (fun _=>.slice none 0 0))) w F:=by
  intro l
  induction l with
  |nil=>trivial
  |cons a l ih=>exact ⟨none_,F,fun _ h=>h.elim,fun _ h=>h,fun _ h=>h.elim,M_ Ag w none_ trivial,ih⟩
 exact this _
theorem Hd.prsN (H:Hd w0 F0 w As Rs):Hd w0 F0 w (B3 (fun _=>J0) (fun _=>.slice none 0 0)::As) Rs:=H.shut (Bs:=[]) fun _ _=>ZK
theorem V0 {α:Type} {d:Kd α} {F:AU} {v:Value} {us:List (Value×List α)} (h:(Ac DR v (us.map fun u=>FL u.1)).P w F) (hu:∀ p∈us,(Ac d p.1 p.2).P w F):(Ac (At d) v us).P w F:=by
 obtain ⟨A,m,c,e,h1,h2,h3,cs,h4,h5⟩:=h
 refine ⟨A,m,c,e,by simpa using h1,h2,h3,cs,h4,?_⟩
 have hcs:cs=(us.map fun u=>FL u.1).flatMap Jp:=Be.flat_eq.1 h5
 have:(us.map fun u=>FL u.1).flatMap Jp=us.map (·.1):=by
  clear h5 hcs h1
  induction us with
  |nil=>rfl
  |cons p us ih=>
   obtain ⟨A,c,e,_⟩:=Ee (hu p (List.mem_cons_self ..))
   rw [List.map_cons,List.flatMap_cons,ih fun q hq=>hu q (List.mem_cons_of_mem _ hq),List.map_cons,e]
   rfl
 rw [hcs,this]
 exact Sp hu
end
/-! ### A row of headers held, and each slice held: a slice of slices held -/
section
variable {α:Type} {d:Kd α} {w0 w:World} {F F0:AU} {As Rs:List SP} {v:Value} {us:List (Value×List α)}
def BC (us:List (Value×List α)):List Fb:=us.map fun u=>FL u.1
def GK (d:Kd α) (us:List (Value×List α)):SP:=BN (fun u:Value×List α=>Y d u.1 u.2) us
theorem Sr:∀ {us:List (Value×List α)} {F:AU},(GK d us).P w F→CM (At d) w F us (us.map (·.1))
 |[],_,_=>rfl
 |u::us,F,⟨F1,F2,h1,h2,h3,a,s⟩=>⟨F1,F2,[u.1],us.map (·.1),h1,h2,h3,rfl,⟨rfl,a⟩,Sr (us:=us) s⟩
theorem P5 (h:∀ u∈us,∃ A n c,u.1=.slice A n c):(BC us).flatMap Jp=us.map (·.1):=by
 unfold BC
 induction us with
 |nil=>rfl
 |cons p us ih=>
  obtain ⟨A,n,c,e⟩:=h p (List.mem_cons_self ..)
  rw [List.map_cons,List.flatMap_cons,ih fun q hq=>h q (List.mem_cons_of_mem _ hq),List.map_cons,e]
  rfl
theorem Wc {w:World} {F:AU} (h:(GK d us).P w F):∀ u∈us,∃ A n c,u.1=.slice A n c:=fun u hu=>by
 obtain ⟨A,c,e,_⟩:=Ee (B2 F (OH h hu))
 exact ⟨A,_,c,e⟩
theorem Hd.hdI (H:Hd w0 F0 w (Y DR v (BC us)::GK d us::As) Rs):Hd w0 F0 w (Y (At d) v us::As) Rs:=by
 refine H.turn2 fun F1 F2 hd h1 h2=>?_
 obtain ⟨A,n,c,e,hl,cs,G1,G2,s1,s2,dj,row,reps⟩:=h1
 have hcs:cs=us.map (·.1):=(Be.flat_eq.1 reps.toR).trans (P5 (Wc h2))
 subst hcs
 exact ⟨A,n,c,e,by simpa [BC] using hl,_,G1,F2,fun k hk=>.inl (s1 k hk),fun k hk=>.inr hk,fun k hk hg=>hd k (s1 k hk) hg,row,Sr h2⟩
theorem V1 {F:AU} (h:(Ac (At d) v us).P w F):(Ac DR v (BC us)).P w F:=by
 obtain ⟨A,m,c,e,h1,h2,h3,cs,h4,h5⟩:=h
 refine ⟨A,m,c,e,by simpa [BC] using h1,h2,h3,cs,h4,Be.flat_eq.2 ?_⟩
 have hall:=P4 h5
 have:∀ {us:List (Value×List α)} {cs:List Value},Be (At d) w F us cs→cs=us.map (·.1):=by
  intro us
  induction us with
  |nil=>intro cs h;exact h
  |cons u us ih=>rintro cs ⟨c,cs',e,h1,h2⟩;rw [e,h1.1,ih h2];rfl
 rw [this h5]
 exact (P5 fun u hu=>by
  obtain ⟨A,c,e,_⟩:=Ee (hall u hu)
  exact ⟨A,_,c,e⟩).symm
end
/-! ### Told anew -/
section
variable {w0 w:World} {F0:AU} {As Rs:List SP} {g g':Nat→DF} {hv:Nat→Value} {i:Nat}
theorem bE {vS vM vC vR vK vs:Value} {J:AR} {w t o part ep:Int} {sb:Nat} (h:∀ i,(g' i).merged=(g i).merged∧(g' i).told=(g i).told∧(g' i).att=(g i).att∧(g' i).cnt=(g i).cnt):
  BJ vS vM vC vR vK J w t o part ep g hv sb vs=BJ vS vM vC vR vK J w t o part ep g' hv sb vs:=by
 unfold BJ
 rw [(h 0).1,(h 0).2.1,(h 0).2.2.1,(h 0).2.2.2,(h 1).1,(h 1).2.1,(h 1).2.2.1,(h 1).2.2.2,(h 2).1,(h 2).2.1,(h 2).2.2.1,(h 2).2.2.2,(h 3).1,(h 3).2.1,(h 3).2.2.1,(h 3).2.2.2,(h 4).1,(h 4).2.1,(h 4).2.2.1,(h 4).2.2.2,(h 5).1,(h 5).2.1,(h 5).2.2.1,(h 5).2.2.2]
theorem Hd.prsU (hi:i<6) {x:DF} {v:Value} (H:Hd w0 F0 w (Y Ag v x.pairs::B3 g hv::As) Rs):Hd w0 F0 w (B3 (C8 g i x) (C8 hv i v)::As) Rs:=by
 have h1:=(H.perm (List.Perm.swap _ _ _)).prsO hi
 exact Hd.prsI hi ((h1.drop.perm (List.Perm.swap _ _ _)))
def pick (g:Nat→DF) (set:List Int) (n:Nat):List Nat:=(List.range n).filter fun i=>(g i).merged && decide ((i:Int)∈set)
def D3 (g:Nat→DF) (hv:Nat→Value) (set:List Int) (n:Nat):List (Value×List Aq):=(pick g set n).map fun i=>(hv i,(g i).pairs)
theorem Nh (g:Nat→DF) (hv:Nat→Value) (set:List Int) (n:Nat):D3 g hv set (n+1)=D3 g hv set n++(if (g n).merged=true∧(n:Int)∈set then [(hv n,(g n).pairs)] else []):=by
 unfold D3 pick
 rw [List.range_succ,List.filter_append,List.map_append]
 by_cases h:(g n).merged=true∧(n:Int)∈set
 ·rw [if_pos h];simp [h.1,h.2]
 ·rw [if_neg h]
  have:((g n).merged && decide ((n:Int)∈set))=false:=by
   cases h1:(g n).merged
   ·rfl
   ·simpa using fun h2=>h ⟨h1,h2⟩
  simp [this]
theorem RS (R:AX) (hv:Nat→Value) (set:List Int) (n:Nat):CY (D3 R.g hv set n)=FQ n R set:=by
 unfold CY D3 FQ pick
 rw [List.flatMap_map]
theorem ZF (g:Nat→DF) (hv:Nat→Value) (set:List Int) (n:Nat):(D3 g hv set n).length≤n:=by
 unfold D3 pick
 rw [List.length_map]
 exact Nat.le_trans (List.length_filter_le _ _) (by simp)
theorem ZG {F:AU} {set:List Int} {n:Nat} (hn:n≤6) (h:(B3 g hv).P w F):∀ p∈D3 g hv set n,(Ac Ag p.1 p.2).P w F:=by
 intro p hp
 obtain ⟨j,hj,rfl⟩:=List.mem_map.1 hp
 have:=List.mem_range.1 (List.mem_filter.1 hj).1
 exact R0 (by omega) h
theorem SD {R:AX} {set:List Int} {b:Nat} (h:∀ i,(R.g i).pairs.length≤b):∀ n,(FQ n R set).length≤n*b
 |0=>Nat.zero_le _
 |n+1=>by
  have ih:=SD (set:=set) h n
  have:=h n
  rw [cD,List.length_append,Nat.succ_mul]
  split
  ·omega
  ·simp only [List.length_nil];omega
end
theorem Hd.prsFormR {w0 w:World} {F0:AU} {As Rs:List SP} {g:Nat→DF} {hv:Nat→Value} {i:Nat} (j:Nat) (hj:Rs[j]?=some (B3 g hv)) (hi:i<6) (H:Hd w0 F0 w As Rs):∃ A c,hv i=.slice A (g i).pairs.length c∧(g i).pairs.length≤c∧c≤9223372036854775807∧Plain A:=
 H.factR (List.mem_of_getElem? hj) fun F h=>Ee (R0 hi h)
theorem aY {n:Nat} {N:AX} {x:Bd} (h1:x.part≠N.part):DO n N x=N:=if_pos h1
theorem Ln {n:Nat} {N:AX} {x:Bd} (h1:x.part=N.part) (h4:¬ (x.kind=4∧(0≤x.sp∧x.sp<n)∧(N.g x.sp.toNat).merged=false)) (h5:x.kind≠5):DO n N x=N:=by
 unfold DO
 dsimp only
 rw [if_neg (fun h=>h h1),if_neg h5,if_neg h4]
theorem aW {n:Nat} {N:AX} {x:Bd} (h1:x.part=N.part) (h4:x.kind=4) (hr:0≤x.sp∧x.sp<n) (hm:(N.g x.sp.toNat).merged=false):DO n N x={ N with g:=C8 N.g x.sp.toNat { N.g x.sp.toNat with merged:=true,pairs:=x.pairs } }:=by
 unfold DO
 dsimp only
 rw [if_neg (fun h=>h h1),if_neg (show ¬ x.kind=5 by omega),if_pos ⟨h4,hr,hm⟩]
theorem I1 {n:Nat} {N:AX} {x:Bd} (h1:x.part=N.part) (h5:x.kind=5):DO n N x={ N with sets:=N.sets++[x.set] }:=by
 unfold DO
 dsimp only
 rw [if_neg (fun h=>h h1),if_pos h5,if_neg (fun h=>by have:=h.1;omega)]
theorem Gd {n:Nat} {p ep:Int} {recs:List AY} {k:Nat} {x:AY} {R R2:AX} (hR:R=Db n p ep ((recs.take k).map AY.p)) (hx:recs[k]?=some x) (e:DO n R x.p=R2):R2=Db n p ep ((recs.take (k+1)).map AY.p):=by
 rw [Eo hx,List.map_append]
 show R2=Db n p ep (_++[x.p])
 rw [Rt,←hR,e]
theorem YP {n:Nat} {p ep:Int} {b:Nat}:∀ {rs:List Bd},(∀ r∈rs,r.pairs.length≤b)→∀ i,((Db n p ep rs).g i).pairs.length≤b:=by
 have:∀ (rs:List Bd) (R:AX),(∀ r∈rs,r.pairs.length≤b)→(∀ i,(R.g i).pairs.length≤b)→∀ i,((rs.foldl (DO n) R).g i).pairs.length≤b:=by
  intro rs
  induction rs with
  |nil=>intro R _ h;exact h
  |cons x rs ih=>
   intro R hr h
   refine ih (DO n R x) (fun r hr2=>hr r (List.mem_cons_of_mem _ hr2)) fun i=>?_
   have hx:=hr x (List.mem_cons_self ..)
   have key:∀ (R1:AX) (c:Prop) [Decidable c],(if c then { R1 with sets:=R1.sets++[x.set] } else R1).g=R1.g:=by
    intro R1 c _
    split<;>rfl
   unfold DO
   dsimp only
   split
   ·exact h i
   ·rw [key]
    split
    ·dsimp only
     by_cases e:i=x.sp.toNat
     ·subst e;rw [Im];exact hx
     ·rw [Il _ _ e];exact h i
    ·exact h i
 intro rs hr
 exact this rs (HQ p ep) hr fun i=>Nat.zero_le _
def Ip (st:D_):Prop:=∀ a b,(Ef st a b).length≤40∧∀ x∈Ef st a b,x.length≤8
structure C0 (n:Nat) (R:AX):Prop where
 pairs:∀ i,(R.g i).pairs.length≤1000
 st:Ip R.st
 sets:R.sets.length≤n
 setl:∀ s∈R.sets,s.length≤1000
theorem C0.mono {n m:Nat} {R:AX} (h:C0 n R) (hm:n≤m):C0 m R:=⟨h.pairs,h.st,Nat.le_trans h.sets hm,h.setl⟩
theorem Vo {l:List (List Aq)} {n m:Nat} (h1:l.length≤n) (h2:∀ x∈l,x.length≤m):l.flatten.length≤n*m:=by
 have:∀ l:List (List Aq),(∀ x∈l,x.length≤m)→l.flatten.length≤l.length*m:=by
  intro l
  induction l with
  |nil=>intro _;simp
  |cons x l ih=>
   intro h
   have h3:=ih fun y hy=>h y (List.mem_cons_of_mem _ hy)
   have h4:=h x (List.mem_cons_self ..)
   rw [List.flatten_cons,List.length_append,List.length_cons,Nat.succ_mul]
   omega
 exact Nat.le_trans (this l h2) (Nat.mul_le_mul_right _ h1)
theorem C0.flat {n:Nat} {R:AX} (h:C0 n R) (a b:Int):(Ef R.st a b).flatten.length≤320:=Vo (h.st a b).1 (h.st a b).2
theorem SL (c a b:Int):∀ st:D_,Ef (JZ st c) a b=if a=c then [] else Ef st a b
 |[]=>by unfold JZ;simp [Ef]
 |e::s=>by
  have ih:=SL c a b s
  unfold JZ at ih ⊢
  by_cases h:e.1.1=c
  ·rw [List.filter_cons_of_neg (by simpa using h),ih]
   by_cases h2:a=c
   ·rw [if_pos h2,if_pos h2]
   ·rw [if_neg h2,if_neg h2]
    exact (if_neg (fun h3=>h2 (h3.1.symm.trans h))).symm
  ·rw [List.filter_cons_of_pos (p:=fun e:(Int×Int)×List (List Aq)=>decide (e.1.1≠c)) (decide_eq_true h)]
   show (if e.1.1=a∧e.1.2=b then e.2 else Ef (List.filter _ s) a b)=if a=c then [] else (if e.1.1=a∧e.1.2=b then e.2 else Ef s a b)
   rw [ih]
   by_cases h2:a=c
   ·rw [if_pos h2,if_pos h2,if_neg fun h3=>h (h3.1.trans h2)]
   ·rw [if_neg h2,if_neg h2]
theorem SK (c d a b:Int) (x:List Aq):∀ st:D_,Ef (JY st c d x) a b=if c=a∧d=b then Ef st a b++[x] else Ef st a b
 |[]=>by
  show (if c=a∧d=b then [x] else Ef [] a b)=_
  split<;>rfl
 |e::s=>by
  have ih:=SK c d a b x s
  show Ef (if e.1.1=c∧e.1.2=d then (e.1,e.2++[x])::s else e::JY s c d x) a b=if c=a∧d=b then (if e.1.1=a∧e.1.2=b then e.2 else Ef s a b)++[x] else (if e.1.1=a∧e.1.2=b then e.2 else Ef s a b)
  by_cases h:e.1.1=c∧e.1.2=d
  ·rw [if_pos h]
   show (if e.1.1=a∧e.1.2=b then e.2++[x] else Ef s a b)=_
   by_cases h2:c=a∧d=b
   ·have h3:e.1.1=a∧e.1.2=b:=⟨h.1.trans h2.1,h.2.trans h2.2⟩
    rw [if_pos h2,if_pos h3,if_pos h3]
   ·have h3:¬ (e.1.1=a∧e.1.2=b):=fun h4=>h2 ⟨h.1.symm.trans h4.1,h.2.symm.trans h4.2⟩
    rw [if_neg h2,if_neg h3,if_neg h3]
  ·rw [if_neg h]
   show (if e.1.1=a∧e.1.2=b then e.2 else Ef (JY s c d x) a b)=_
   rw [ih]
   by_cases h2:c=a∧d=b
   ·have h3:¬ (e.1.1=a∧e.1.2=b):=fun h4=>h ⟨h4.1.trans h2.1.symm,h4.2.trans h2.2.symm⟩
    rw [if_pos h2,if_neg h3,if_neg h3,if_pos h2]
   ·rw [if_neg h2,if_neg h2]
theorem Ip.drop {st:D_} (h:Ip st) (c:Int):Ip (JZ st c):=by
 intro a b
 rw [SL]
 split
 ·exact ⟨by simp,fun x hx=>by cases hx⟩
 ·exact h a b
theorem Ip.put {st:D_} (h:Ip st) {a b q:Int} {x:List Aq} (hx:x.length≤8):Ip (Ly st a b q x):=by
 unfold Ly
 split
 ·rename_i hm
  intro c d
  rw [SK]
  split
  ·rename_i e
   obtain ⟨rfl,rfl⟩:=e
   have h1:=hm.1
   have h2:=hm.2.2.2
   unfold Lx at h1
   refine ⟨by rw [List.length_append,List.length_singleton];omega,fun y hy=>?_⟩
   rcases List.mem_append.1 hy with hy|hy
   ·exact (h _ _).2 y hy
   ·rw [List.mem_singleton.1 hy];exact hx
  ·exact h c d
 ·exact h
theorem C0.looks {n:Nat} {J:AR} {R:AX} (h:C0 n R) (h6:J.us.length≤6) (k:Nat):C0 (n+1) (KO J R k).1:=by
 have hg:∀ ps:List Aq,ps.length≤40→∀ i,((C8 R.g k { R.g k with merged:=true,pairs:=ps }:Nat→DF) i).pairs.length≤1000:=fun ps hps i=>by
  by_cases e:i=k
  ·subst e
   rw [Im]
   show ps.length≤1000
   omega
  ·rw [Il _ _ e]
   exact h.pairs i
 have h':C0 (n+1) R:=h.mono (Nat.le_succ n)
 unfold KO
 split
 ·exact h'
 ·split
  ·exact h'
  ·split
   ·exact h'
   ·rename_i hl
    dsimp only
    split
    ·refine ⟨hg _ (by omega),h.st.drop _,by show (R.sets++[_]).length≤n+1;rw [List.length_append,List.length_singleton];have:=h.sets;omega,fun s hs=>?_⟩
     rcases List.mem_append.1 hs with hs|hs
     ·exact h.setl s hs
     ·rw [List.mem_singleton.1 hs]
      exact Nat.le_trans (Rg _ _) (by omega)
    ·exact ⟨hg _ (by omega),h.st.drop _,Nat.le_succ_of_le h.sets,h.setl⟩
theorem C0.push {n:Nat} {J:AR} {R:AX} (h:C0 n R) (h6:J.us.length≤6) (m:DQ):C0 (n+1) (R5 J R m).1:=by
 unfold R5
 split
 ·exact h.mono (Nat.le_succ n)
 ·show C0 (n+1) (JM J R m).1
  unfold JM
  split
  ·rename_i ht
   exact C0.looks (R:={ R with st:=Ly R.st m.sp m.att m.seq m.pairs }) ⟨h.pairs,h.st.put ht.2.1,h.sets,h.setl⟩ h6 _
  ·exact h.mono (Nat.le_succ n)
theorem C0.won {n:Nat} {J:AR} {t:Int} {R:AX} (h:C0 n R) (h6:J.us.length≤6) (sp att cnt:Int):C0 (n+1) (Tm J t R sp att cnt).1:=by
 unfold Tm
 split
 ·exact h.mono (Nat.le_succ n)
 ·refine C0.looks (R:={ R with g:=C8 R.g sp.toNat { R.g sp.toNat with told:=true,att:=att,cnt:=cnt } }) ⟨fun i=>?_,h.st,h.sets,h.setl⟩ h6 _
  show ((C8 R.g sp.toNat { R.g sp.toNat with told:=true,att:=att,cnt:=cnt }:Nat→DF) i).pairs.length≤1000
  by_cases e:i=sp.toNat
  ·subst e;rw [Im];exact h.pairs _
  ·rw [Il _ _ e];exact h.pairs i
theorem YT (n:Nat) (p ep:Int) (rs:List Bd):(Db n p ep rs).sets.length≤rs.length:=by
 have key:∀ rs:List Bd,(Db n p ep rs.reverse).sets.length≤rs.length:=by
  intro rs
  induction rs with
  |nil=>simp [Db,HQ]
  |cons x rs ih=>
   rw [List.reverse_cons,Rt,List.length_cons]
   have hx:∀ R:AX,(DO n R x).sets.length≤R.sets.length+1:=by
    intro R
    unfold DO
    dsimp only
    split
    ·omega
    ·split<;>split<;>simp
   have:=hx (Db n p ep rs.reverse)
   omega
 have:=key rs.reverse
 rwa [List.reverse_reverse,List.length_reverse] at this
theorem YS (n:Nat) (p ep:Int) (b:Nat) (rs:List Bd) (h:∀ r∈rs,r.set.length≤b):∀ s∈(Db n p ep rs).sets,s.length≤b:=by
 have key:∀ (rs:List Bd) (R:AX),(∀ r∈rs,r.set.length≤b)→(∀ s∈R.sets,s.length≤b)→∀ s∈(rs.foldl (DO n) R).sets,s.length≤b:=by
  intro rs
  induction rs with
  |nil=>intro R _ h;exact h
  |cons x rs ih=>
   intro R hr hR
   refine ih (DO n R x) (fun r hq=>hr r (List.mem_cons_of_mem _ hq)) ?_
   have hx:=hr x (List.mem_cons_self ..)
   have hc:∀ R1:AX,R1.sets=R.sets→∀ s∈(if x.kind=5 then ({ R1 with sets:=R1.sets++[x.set] }:AX) else R1).sets,s.length≤b:=by
    intro R1 e s hs
    split at hs
    ·rcases List.mem_append.1 hs with hs|hs
     ·rw [e] at hs;exact hR s hs
     ·rw [List.mem_singleton.1 hs];exact hx
    ·rw [e] at hs;exact hR s hs
   unfold DO
   dsimp only
   split
   ·exact hR
   ·refine hc _ ?_
    split<;>rfl
 exact key rs (HQ p ep) h fun s hs=>by cases hs
theorem C0.new {n:Nat} {p ep:Int} {rs:List Bd} (h:∀ r∈rs,r.pairs.length≤1000∧r.set.length≤1000):C0 rs.length (Db n p ep rs):=⟨YP fun r hr=>(h r hr).1,by rw [(JK n p ep rs).2.2];exact fun a b=>⟨by simp [Ef],fun x hx=>by cases hx⟩,YT n p ep rs,YS n p ep 1000 rs fun r hr=>(h r hr).2⟩
section
variable {J:AR} {R R1:AX} {k:Nat} {n:Int} {ps:List Aq}
end
/-! ### Once -/
/-! ### Records -/
structure gD (n:Nat) (R N:AX):Prop where
 part:N.part=R.part
 g:∀ s,s<n→(N.g s).merged=(R.g s).merged∧(N.g s).pairs=(R.g s).pairs
 sets:N.sets=R.sets
abbrev Hv:=(Int×Int)×Value×List (Value×List Aq)
def J4 (e:Hv):(Int×Int)×List (List Aq):=(e.1,e.2.2.map (·.2))
def Iq (e:Hv):(Int×Int)×Value:=(e.1,e.2.1)
def HT (e:Hv):SP:=Y (At Ag) e.2.1 e.2.2
def LA (mb:Nat) (st:D_):SP:=ex fun kvs:List Hv=>B0 [BY (kvs.map J4=st),B8 GL mb (kvs.map Iq),BN HT kvs]
def CT (t sb:Nat) (st:D_):SP:=ex fun mb:Nat=>B0 [blk sb [.map (some mb)] t,LA mb st]
def Ge:Value:=.slice none 0 0
section
variable {kvs:List Hv} {k:Int×Int} {x:Value×List (Value×List Aq)}
end
section
variable {w0 w:World} {F0:AU} {As Rs:List SP} {t sb mb:Nat} {st:D_} {kvs:List Hv} {k:Int×Int} {v:Value} {us:List (Value×List Aq)}
theorem Hd.stgC (he:kvs.map J4=st) (H:Hd w0 F0 w (blk sb [.map (some mb)] t::B8 GL mb (kvs.map Iq)::BN HT kvs::As) Rs):Hd w0 F0 w (CT t sb st::As) Rs:=by
 have h3:Hd w0 F0 w (BY (kvs.map J4=st)::B8 GL mb (kvs.map Iq)::BN HT kvs::blk sb [.map (some mb)] t::As) Rs:=
  (H.perm (((List.Perm.swap _ _ _).trans ((List.Perm.swap _ _ _).cons _)):(blk sb [.map (some mb)] t::B8 GL mb (kvs.map Iq)::BN HT kvs::As).Perm (B8 GL mb (kvs.map Iq)::BN HT kvs::blk sb [.map (some mb)] t::As))).puI he
 have h4:Hd w0 F0 w (LA mb st::blk sb [.map (some mb)] t::As) Rs:=Hd.exI (A:=fun kvs:List Hv=>B0 [BY (kvs.map J4=st),B8 GL mb (kvs.map Iq),BN HT kvs]) kvs (Hd.stI (Bs:=[BY (kvs.map J4=st),B8 GL mb (kvs.map Iq),BN HT kvs]) h3)
 exact Hd.exI (A:=fun mb:Nat=>B0 [blk sb [.map (some mb)] t,LA mb st]) mb (Hd.stI (Bs:=[blk sb [.map (some mb)] t,LA mb st]) (h4.perm (List.Perm.swap _ _ _)))
theorem Hd.st0 (H:Hd w0 F0 w (blk sb [.map (some mb)] t::B8 GL mb []::As) Rs):Hd w0 F0 w (CT t sb []::As) Rs:=
 Hd.stgC (kvs:=[]) rfl (((H.perm (List.Perm.swap _ _ _)).big0 HT).perm (((List.Perm.swap _ _ _).trans ((List.Perm.swap _ _ _).cons _)).trans (List.Perm.swap _ _ _)))
end
def JU (r:AY):SP:=B0 [Y (Ai .i64) r.sv r.set,Y Ag r.pv r.pairs]
def EU (us:List AY):SP:=BN JU us
section
variable {w0 w:World} {F F0:AU} {As Rs:List SP} {v:Value} {us:List AY}
theorem bA {r:AY} (h:(JU r).P w F):G8 r=Fi (Dc r):=by
 obtain ⟨F1,F2,_,_,_,a,F3,F4,_,_,_,b,_⟩:=h
 obtain ⟨A1,c1,e1,_⟩:=Ee (B2 _ a)
 obtain ⟨A2,c2,e2,_⟩:=Ee (B2 _ b)
 simp [G8,Fi,Dc,FL,e1,e2]
theorem a_ {r:AY} (h:(JU r).P w F):BL.O w F r (Fi (Dc r)):=by
 have e:=bA h
 obtain ⟨F1,F2,h1,h2,h3,a,F3,F4,g1,g2,g3,b,_⟩:=h
 exact ⟨e.symm,F1,F3,h1,fun k hk=>h2 k (g1 k hk),fun k hk hk2=>h3 k hk (g1 k hk2),a,b⟩
theorem Su:∀ {us:List AY} {F:AU},(EU us).P w F→CM BL w F us ((us.map Dc).flatMap Fi)
 |[],_,_=>rfl
 |u::us,F,⟨F1,F2,h1,h2,h3,a,s⟩=>⟨F1,F2,Fi (Dc u),(us.map Dc).flatMap Fi,h1,h2,h3,rfl,a_ a,Su (us:=us) s⟩
theorem Hd.recI (H:Hd w0 F0 w (Y El v (us.map Dc)::EU us::As) Rs):Hd w0 F0 w (Y BL v us::As) Rs:=by
 refine H.turn2 fun F1 F2 hd h1 h2=>?_
 obtain ⟨A,n,c,e,hl,cs,G1,G2,s1,s2,dj,row,reps⟩:=h1
 have hcs:cs=(us.map Dc).flatMap Fi:=Be.flat_eq.1 reps.toR
 subst hcs
 exact ⟨A,n,c,e,by simpa using hl,_,G1,F2,fun k hk=>.inl (s1 k hk),fun k hk=>.inr hk,fun k hk hg=>hd k (s1 k hk) hg,row,Su h2⟩
theorem Hd.recN {r:AY} (H:Hd w0 F0 w (Y (Ai .i64) r.sv r.set::Y Ag r.pv r.pairs::EU us::As) Rs):Hd w0 F0 w (EU (us++[r])::As) Rs:=
 Hd.bigN (f:=JU) (x:=r) (Hd.stI (Bs:=[Y (Ai .i64) r.sv r.set,Y Ag r.pv r.pairs]) H)
theorem Hd.rec0 (H:Hd w0 F0 w As Rs):Hd w0 F0 w (EU []::As) Rs:=H.big0 JU
end
theorem V5 {D:BA} {J:AR} {R:AX} (h:(D2 D J R).2.2=true):AT D J R=⟨8,0,0,R.part,0,0,R.ep,(D2 D J R).2.1,[],[]⟩:=if_pos h
theorem P8 {D:BA} {J:AR} {R:AX} (h:¬ (D2 D J R).2.2=true):AT D J R=⟨6,0,0,R.part,0,0,R.ep,0,C6 J.us.length R,[]⟩:=if_neg h
/-! ### Six slices in a row -/
section
variable {w:World} {F:AU}
theorem bC {v:Value} {us:List AY} (h:(Ac El v (us.map Dc)).P w F) (hu:∀ r∈us,(Ac (Ai .i64) r.sv r.set).P w F∧(Ac Ag r.pv r.pairs).P w F):(Ac BL v us).P w F:=by
 obtain ⟨A,m,c,e,h1,h2,h3,cs,h4,h5⟩:=h
 refine ⟨A,m,c,e,by simpa using h1,h2,h3,cs,h4,?_⟩
 have hcs:cs=(us.map Dc).flatMap Fi:=Be.flat_eq.1 h5
 subst hcs
 clear h5 h4 h1 e
 induction us with
 |nil=>rfl
 |cons r us ih=>
  obtain ⟨g1,g2⟩:=hu r (List.mem_cons_self ..)
  obtain ⟨A1,c1,e1,_⟩:=Ee g1
  obtain ⟨A2,c2,e2,_⟩:=Ee g2
  refine ⟨Fi (Dc r),(us.map Dc).flatMap Fi,rfl,⟨?_,g1,g2⟩,ih fun q hq=>hu q (List.mem_cons_of_mem _ hq)⟩
  simp [G8,Fi,Dc,FL,e1,e2]
def KZ:Value:=.slice none 0 0
end
theorem Bk.out {A B:AR} (h:Bk A B) (D:BA) (R:AX):D2 D A R=D2 D B R:=by
 unfold D2 M5
 rw [h.len,h.red,h.fuel]
theorem Ze {P:Program} {t j i:TypeId}
  (hs:GW P t=some [(j,0,9),(i,9,1),(i,10,1),(i,11,1)]) (hc:P.cellsOf t=12) (hi:P.underlying i=some (.int .i64))
  {H:Type} (enc:TypeId×Value→H) (w:World) (fuel:Nat) (cs:List Value) (x:DataW H×List MemPlace) (h:DataW.trod enc P w 0 (fun _=>true) true fuel t cs=some x):
  ∃ (js:List Value) (m:Nat) (y:DataW H×List MemPlace) (n1 n2 n3:Int),cs=js++[.int .i64 n1,.int .i64 n2,.int .i64 n3]∧DataW.trod enc P w 0 (fun _=>true) true m j js=some y∧js.length=9∧(AG n1∧AG n2∧AG n3):=by
 obtain ⟨hl,n,hf⟩:=K9 hs h
 rw [hc] at hl
 match cs,hl with
 |[c0,c1,c2,c3,c4,c5,c6,c7,c8,c9,c10,c11],_=>
  obtain ⟨y0,g0⟩:=hf 0 _ _ _ rfl
  obtain ⟨y1,g1⟩:=hf 1 _ _ _ rfl
  obtain ⟨y2,g2⟩:=hf 2 _ _ _ rfl
  obtain ⟨y3,g3⟩:=hf 3 _ _ _ rfl
  obtain ⟨a1,r1,w1⟩:=FN hi enc w n _ _ g1
  obtain ⟨a2,r2,w2⟩:=FN hi enc w n _ _ g2
  obtain ⟨a3,r3,w3⟩:=FN hi enc w n _ _ g3
  have q1:[c9]=[Value.int .i64 a1]:=r1
  have q2:[c10]=[Value.int .i64 a2]:=r2
  have q3:[c11]=[Value.int .i64 a3]:=r3
  simp only [List.cons.injEq,and_true] at q1 q2 q3
  subst q1 q2 q3
  exact ⟨[c0,c1,c2,c3,c4,c5,c6,c7,c8],n,y0,a1,a2,a3,rfl,g0,rfl,w1,w2,w3⟩
structure Gl (α:Type) where
 sz:Nat
 enc:α→Value→Value→List Value
 len:∀ a s p,(enc a s p).length=sz
 one:∀ a s p,∀ c∈enc a s p,c=s∨c=p∨c.oneCell'=true
 pos:0<sz
structure Bl (α:Type) where
 h:α
 sv:Value
 set:List Int
 pv:Value
 pairs:List Aq
structure Di (α:Type) where
 h:α
 hs:Fb
 hp:Fb
section
variable {α:Type}
def Gl.e (S:Gl α) (x:Bl α):List Value:=S.enc x.h x.sv x.pv
def Gl.f (S:Gl α) (x:Di α):List Value:=S.enc x.h (.slice x.hs.A x.hs.n x.hs.c) (.slice x.hp.A x.hp.n x.hp.c)
def E4 (S:Gl α):Kd (Bl α) where
 sz:=S.sz
 O w F x cs:=cs=S.e x∧∃ F1 F2:AU,(∀ k,F1 k→F k)∧(∀ k,F2 k→F k)∧(∀ k,F1 k→¬ F2 k)∧(BU (Ai .i64)).O w F1 x.set [x.sv]∧(BU Ag).O w F2 x.pairs [x.pv]
 R w F x cs:=cs=S.e x∧(BU (Ai .i64)).R w F x.set [x.sv]∧(BU Ag).R w F x.pairs [x.pv]
 O_loc:=fun ⟨e,F1,F2,s1,s2,dj,h1,h2⟩ hk=>⟨e,F1,F2,s1,s2,dj,(BU _).O_loc h1 (fun k x=>hk k (s1 k x)),(BU _).O_loc h2 (fun k x=>hk k (s2 k x))⟩
 O_mono:=fun ⟨e,F1,F2,s1,s2,dj,h1,h2⟩ hk=>⟨e,F1,F2,fun k x=>hk k (s1 k x),fun k x=>hk k (s2 k x),dj,h1,h2⟩
 R_loc:=fun ⟨e,h1,h2⟩ hk=>⟨e,(BU _).R_loc h1 hk,(BU _).R_loc h2 hk⟩
 R_mono:=fun ⟨e,h1,h2⟩ hk=>⟨e,(BU _).R_mono h1 hk,(BU _).R_mono h2 hk⟩
 O_R:=fun ⟨e,F1,F2,s1,s2,dj,h1,h2⟩=>⟨e,(BU _).R_mono ((BU _).O_R h1) s1,(BU _).R_mono ((BU _).O_R h2) s2⟩
 len h:=by rw [h.1];exact S.len _ _ _
 one:=fun ⟨e,h1,h2⟩ c hc=>by
  have g1:=(BU _).one h1
  have g2:=(BU _).one h2
  subst e
  rcases S.one _ _ _ c hc with rfl|rfl|h
  ·exact g1 _ (List.mem_cons_self ..)
  ·exact g2 _ (List.mem_cons_self ..)
  ·exact h
 pos:=S.pos
def IM (S:Gl α):Kd (Di α):=flat S.f S.sz S.pos (fun x=>S.len _ _ _) (fun x c hc=>by
 rcases S.one _ _ _ c hc with rfl|rfl|h
 ·rfl
 ·rfl
 ·exact h)
def A_ (r:Bl α):Di α:=⟨r.h,FL r.sv,FL r.pv⟩
variable {S:Gl α} {w w0:World} {F F0:AU} {As Rs:List SP} {A:Option Addr} {m c:Nat}
theorem J_ {us:List (Bl α)} (h:(Ac (E4 S) (.slice A m c) us).P w F) {i:Nat} {x:Bl α} (hx:us[i]?=some x):
  FZ A∧(∀ q u,(S.e x)[q]?=some u→w.cell? ⟨Et A,Ba A+i*S.sz+q,none⟩=some u)∧(Ac (Ai .i64) x.sv x.set).P w F∧(Ac Ag x.pv x.pairs).P w F:=by
 obtain ⟨b,off,cs,e,hl,hc,h1,h2,h3⟩:=JV h hx
 subst h1 e
 exact ⟨rfl,hc,h2,h3⟩
theorem NR {us:List (Bl α)} (h:(Ac (E4 S) (.slice A m c) us).P w F) {i:Nat} {a:α} {sv pv:Value} {set:List Int} {pairs:List Aq} (hx:us[i]?=some ⟨a,sv,set,pv,pairs⟩):(Ac (Ai .i64) sv set).P w F:=(J_ h hx).2.2.1
theorem NQ {us:List (Bl α)} (h:(Ac (E4 S) (.slice A m c) us).P w F) {i:Nat} {a:α} {sv pv:Value} {set:List Int} {pairs:List Aq} (hx:us[i]?=some ⟨a,sv,set,pv,pairs⟩):(Ac Ag pv pairs).P w F:=(J_ h hx).2.2.2
theorem Hd.thRt {us:List (Bl α)} (H:Hd w0 F0 w As Rs) (j:Nat) (hj:Rs[j]?=some (Ac (E4 S) (.slice A m c) us)) {i:Nat} {x:Bl α} (hx:us[i]?=some x):FZ A:=H.factR (List.mem_of_getElem? hj) fun _ h=>(J_ h hx).1
theorem Hd.elRt {us:List (Bl α)} (H:Hd w0 F0 w As Rs) (j:Nat) (hj:Rs[j]?=some (Ac (E4 S) (.slice A m c) us)) {i:Nat} {x:Bl α} (hx:us[i]?=some x) {q p:Nat} {u:Value} (hu:(S.e x)[q]?=some u) (hp:Ba A+i*S.sz+q=p):w.cell? ⟨Et A,p,none⟩=some u:=by
 subst hp
 exact H.factR (List.mem_of_getElem? hj) fun _ h=>(J_ h hx).2.1 q u hu
theorem ZC {l cs:List Value} {d n q:Nat} {v:Value} (h:(l.drop d).take n=cs) (hq:cs[q]?=some v):l[d+q]?=some v:=by
 subst h
 rw [List.getElem?_take] at hq
 split at hq
 ·rwa [List.getElem?_drop] at hq
 ·cases hq
theorem Hd.elsRt {us:List (Bl α)} (H:Hd w0 F0 w As Rs) (j:Nat) (hj:Rs[j]?=some (Ac (E4 S) (.slice A m c) us)) {i:Nat} {x:Bl α} (hx:us[i]?=some x) {p:Nat} (d n:Nat) {cs:List Value} (hc:((S.e x).drop d).take n=cs) (hpj:Ba A+i*S.sz+d=p):∀ q v,cs[q]?=some v→w.cell? ((⟨Et A,p,none⟩:Addr).add q)=some v:=by
 intro q v hq
 rw [EK,←hpj,Nat.add_assoc]
 exact H.factR (List.mem_of_getElem? hj) fun F h=>(J_ h hx).2.1 _ v (ZC hc hq)
theorem Hd.nestRt {us:List (Bl α)} (H:Hd w0 F0 w As Rs) (j:Nat) (hj:Rs[j]?=some (Ac (E4 S) (.slice A m c) us)) {i:Nat} {a:α} {sv pv:Value} {set:List Int} {pairs:List Aq} (hx:us[i]?=some ⟨a,sv,set,pv,pairs⟩):
  ∃ A1 c1 A2 c2,sv=.slice A1 set.length c1∧pv=.slice A2 pairs.length c2∧set.length≤c1∧c1≤9223372036854775807∧pairs.length≤c2∧c2≤9223372036854775807:=by
 refine H.factR (List.mem_of_getElem? hj) fun _ h=>?_
 obtain ⟨A1,c1,e1,g1,g2,_⟩:=Ee (NR h hx)
 obtain ⟨A2,c2,e2,g3,g4,_⟩:=Ee (NQ h hx)
 exact ⟨A1,c1,A2,c2,e1,e2,g1,g2,g3,g4⟩
/-! ### Held: the cells in one row, the slices apart -/
theorem SZ {r:Bl α} {A1 A2:Option Addr} {n1 c1 n2 c2:Nat} (e1:r.sv=.slice A1 n1 c1) (e2:r.pv=.slice A2 n2 c2):S.e r=S.f (A_ r):=by
 simp [Gl.e,Gl.f,A_,FL,e1,e2]
theorem eH {v:Value} {us:List (Bl α)} (h:(Ac (IM S) v (us.map A_)).P w F) (hu:∀ r∈us,(Ac (Ai .i64) r.sv r.set).P w F∧(Ac Ag r.pv r.pairs).P w F):(Ac (E4 S) v us).P w F:=by
 obtain ⟨A,m,c,e,h1,h2,h3,cs,h4,h5⟩:=h
 refine ⟨A,m,c,e,by simpa using h1,h2,h3,cs,h4,?_⟩
 have hcs:cs=(us.map A_).flatMap S.f:=Be.flat_eq.1 h5
 subst hcs
 clear h5 h4 h1 e
 induction us with
 |nil=>rfl
 |cons r us ih=>
  obtain ⟨g1,g2⟩:=hu r (List.mem_cons_self ..)
  obtain ⟨A1,c1,e1,_⟩:=Ee g1
  obtain ⟨A2,c2,e2,_⟩:=Ee g2
  exact ⟨S.f (A_ r),(us.map A_).flatMap S.f,rfl,⟨(SZ e1 e2).symm,g1,g2⟩,ih fun q hq=>hu q (List.mem_cons_of_mem _ hq)⟩
def E7 (r:Bl α):SP:=B0 [Y (Ai .i64) r.sv r.set,Y Ag r.pv r.pairs]
def BD (us:List (Bl α)):SP:=BN E7 us
theorem SY {r:Bl α} (h:(E7 r).P w F):S.e r=S.f (A_ r):=by
 obtain ⟨F1,F2,_,_,_,a,F3,F4,_,_,_,b,_⟩:=h
 obtain ⟨A1,c1,e1,_⟩:=Ee (B2 _ a)
 obtain ⟨A2,c2,e2,_⟩:=Ee (B2 _ b)
 exact SZ e1 e2
theorem eF {r:Bl α} (h:(E7 r).P w F):(E4 S).O w F r (S.f (A_ r)):=by
 have e:=SY (S:=S) h
 obtain ⟨F1,F2,h1,h2,h3,a,F3,F4,g1,g2,g3,b,_⟩:=h
 exact ⟨e.symm,F1,F3,h1,fun k hk=>h2 k (g1 k hk),fun k hk hk2=>h3 k hk (g1 k hk2),a,b⟩
theorem eG {r:Bl α} {cs:List Value} (h:(E4 S).O w F r cs):(E7 r).P w F∧cs=S.e r:=by
 obtain ⟨e,F1,F2,h1,h2,h3,a,b⟩:=h
 exact ⟨⟨F1,F2,h1,h2,h3,a,F2,none_,fun _ q=>q,fun _ q=>q.elim,fun _ _ q=>q,b,trivial⟩,e⟩
theorem Sv:∀ {us:List (Bl α)} {F:AU},(BD us).P w F→CM (E4 S) w F us ((us.map A_).flatMap S.f)
 |[],_,_=>rfl
 |u::us,F,⟨F1,F2,h1,h2,h3,a,s⟩=>⟨F1,F2,S.f (A_ u),(us.map A_).flatMap S.f,h1,h2,h3,rfl,eF a,Sv (us:=us) s⟩
variable {v:Value} {us:List (Bl α)}
theorem Hd.twI (H:Hd w0 F0 w (Y (IM S) v (us.map A_)::BD us::As) Rs):Hd w0 F0 w (Y (E4 S) v us::As) Rs:=by
 refine H.turn2 fun F1 F2 hd h1 h2=>?_
 obtain ⟨A,n,c,e,hl,cs,G1,G2,s1,s2,dj,row,reps⟩:=h1
 have hcs:cs=(us.map A_).flatMap S.f:=Be.flat_eq.1 reps.toR
 subst hcs
 exact ⟨A,n,c,e,by simpa using hl,_,G1,F2,fun k hk=>.inl (s1 k hk),fun k hk=>.inr hk,fun k hk hg=>hd k (s1 k hk) hg,row,Sv h2⟩
theorem Sw:∀ {us:List (Bl α)} {F:AU} {cs:List Value},CM (E4 S) w F us cs→(BD us).P w F∧cs=(us.map A_).flatMap S.f
 |[],_,_,h=>⟨trivial,h⟩
 |u::us,F,cs,⟨F1,F2,c,cs',h1,h2,h3,e,a,s⟩=>by
  obtain ⟨g1,g2⟩:=Sw s
  obtain ⟨b1,b2⟩:=eG a
  refine ⟨⟨F1,F2,h1,h2,h3,b1,g1⟩,?_⟩
  rw [e,b2,g2,SY b1];rfl
theorem Hd.twO (H:Hd w0 F0 w (Y (E4 S) v us::As) Rs):Hd w0 F0 w (Y (IM S) v (us.map A_)::BD us::As) Rs:=by
 have:Hd w0 F0 w ([Y (IM S) v (us.map A_),BD us]++As) Rs:=H.open_ fun F h=>by
  obtain ⟨A,n,c,e,hl,cs,G1,G2,s1,s2,dj,row,reps⟩:=h
  obtain ⟨g1,rfl⟩:=Sw reps
  exact ⟨G1,G2,s1,s2,dj,⟨A,n,c,e,by simpa using hl,_,G1,none_,fun _ h=>h,fun _ h=>h.elim,fun _ _ h=>h,row,CM.flatR (F:=none_) (Be.flat_eq.2 U)⟩,G2,none_,fun _ h=>h,fun _ h=>h.elim,fun _ _ h=>h,g1,trivial⟩
 exact this
theorem Hd.twN {r:Bl α} (H:Hd w0 F0 w (Y (Ai .i64) r.sv r.set::Y Ag r.pv r.pairs::BD us::As) Rs):Hd w0 F0 w (BD (us++[r])::As) Rs:=
 Hd.bigN (f:=E7) (x:=r) (Hd.stI (Bs:=[Y (Ai .i64) r.sv r.set,Y Ag r.pv r.pairs]) H)
theorem Hd.tw0 (H:Hd w0 F0 w As Rs):Hd w0 F0 w (BD ([]:List (Bl α))::As) Rs:=H.big0 E7
end
/-! ### Messages, letters, acts, snapshots -/
structure CV where
 kind:Int
 sp:Int
 att:Int
 part:Int
 seq:Int
 next:Int
 ep:Int
 why:Int
def SN:Gl CV where
 sz:=10
 enc m s p:=[.int .i64 m.kind,.int .i64 m.sp,.int .i64 m.att,.int .i64 m.part,.int .i64 m.seq,.int .i64 m.next,.int .i64 m.ep,.int .i64 m.why,s,p]
 len _ _ _:=rfl
 one _ _ _ c h:=by
  simp only [List.mem_cons,List.not_mem_nil,or_false] at h
  rcases h with rfl|rfl|rfl|rfl|rfl|rfl|rfl|rfl|rfl|rfl<;>first |exact .inr (.inr rfl)|exact .inl rfl|exact .inr (.inl rfl)
 pos:=by omega
structure f9 where
 won:Bool
 m:CV
 n:Int
structure f_ where
 hear:Bool
 fr:Int
 m:CV
structure BE where
 fr:Int
 to:Int
 m:CV
def SM:Gl BE where
 sz:=12
 enc a s p:=[.int .i64 a.fr,.int .i64 a.to,.int .i64 a.m.kind,.int .i64 a.m.sp,.int .i64 a.m.att,.int .i64 a.m.part,.int .i64 a.m.seq,.int .i64 a.m.next,.int .i64 a.m.ep,.int .i64 a.m.why,s,p]
 len _ _ _:=rfl
 one _ _ _ c h:=by
  simp only [List.mem_cons,List.not_mem_nil,or_false] at h
  rcases h with rfl|rfl|rfl|rfl|rfl|rfl|rfl|rfl|rfl|rfl|rfl|rfl<;>first |exact .inr (.inr rfl)|exact .inl rfl|exact .inr (.inl rfl)
 pos:=by omega
abbrev Mz:=E4 SN
abbrev EO:=IM SN
abbrev BF:=E4 SM
abbrev Ca:=IM SM
def CV.p (m:CV) (set:List Int) (ps:List Aq):DQ:=⟨m.kind,m.sp,m.att,m.part,m.seq,m.next,m.ep,m.why,set,ps⟩
def GO (x:Bl CV):DQ:=x.h.p x.set x.pairs
theorem Gc {a b:DQ}:a=b↔a.kind=b.kind∧a.sp=b.sp∧a.att=b.att∧a.part=b.part∧a.seq=b.seq∧a.next=b.next∧a.ep=b.ep∧a.why=b.why∧a.set=b.set∧a.pairs=b.pairs:=by
 constructor
 ·rintro rfl;exact ⟨rfl,rfl,rfl,rfl,rfl,rfl,rfl,rfl,rfl,rfl⟩
 ·rintro ⟨h1,h2,h3,h4,h5,h6,h7,h8,h9,h10⟩
  cases a;cases b
  simp only at h1 h2 h3 h4 h5 h6 h7 h8 h9 h10
  subst h1 h2 h3 h4 h5 h6 h7 h8 h9 h10
  rfl
instance msgD (a b:DQ):Decidable (a=b):=decidable_of_iff _ Gc.symm
/-! ### How they come in -/
section
variable {P:Program} {t:TypeId}
end
/-! ### A result in cells, and another one -/
section
variable {P:Program} {fn:Func} {R:Ending→World→Prop} {n:Nat} {l:BV} {w:World} {t:TypeId} {a:Act}
end
structure EZ where
 fr:Int
 to:Int
 m:DQ
def B4 (x:Bl BE):EZ:=⟨x.h.fr,x.h.to,x.h.m.p x.set x.pairs⟩
theorem JF {a b:EZ}:a=b↔a.fr=b.fr∧a.to=b.to∧a.m=b.m:=by
 constructor
 ·rintro rfl;exact ⟨rfl,rfl,rfl⟩
 ·rintro ⟨h1,h2,h3⟩
  cases a;cases b
  simp only at h1 h2 h3
  subst h1 h2 h3
  rfl
instance letPD (a b:EZ):Decidable (a=b):=decidable_of_iff _ JF.symm
structure Fu where
 ep:Int
 rs:List AX
 ts:List Cy
 over:Bool
def CR (r:AY):Bool:=decide (r.kind=6)
def G9 (recs:List AY):Int:=((1+cnt CR recs:Nat):Int)
def Ga (C:Cf) (id:Int) (k:Nat):List Nat:=(List.range k).filter fun (p:Nat)=>decide (DV C (p:Int)=id)
def Ez (C:Cf) (id:Int) (recs:List AY) (k:Nat):List AX:=(Ga C id k).map fun (p:Nat)=>Db C.J.us.length p (G9 recs) (recs.map AY.p)
def GP (C:Cf) (id:Int) (recs:List AY):Fu:=⟨G9 recs,Ez C id recs C.J.parts.toNat,[],false⟩
theorem Qa {C:Cf} {id:Int} {k:Nat} (h:DV C (k:Int)=id):Ga C id (k+1)=Ga C id k++[k]:=by
 unfold Ga
 rw [List.range_succ,List.filter_append]
 congr 1
 exact List.filter_cons_of_pos (decide_eq_true h)
theorem V9 {C:Cf} {id:Int} {k:Nat} (h:¬ DV C (k:Int)=id):Ga C id (k+1)=Ga C id k:=by
 unfold Ga
 rw [List.range_succ,List.filter_append]
 have e:[k].filter (fun (p:Nat)=>decide (DV C (p:Int)=id))=[]:=List.filter_cons_of_neg (by rw [decide_eq_false h];decide)
 rw [e,List.append_nil]
theorem V8 {C:Cf} {id:Int} {k p:Nat} (h:p∈Ga C id k):p<k:=List.mem_range.1 (List.mem_filter.1 h).1
theorem V7 (C:Cf) (id:Int) (k:Nat):(Ga C id k).length≤k:=Nat.le_trans (List.length_filter_le _ _) (by simp)
theorem bP {C:Cf} {id:Int} {recs:List AY} {k:Nat} (h:DV C (k:Int)=id):Ez C id recs (k+1)=Ez C id recs k++[Db C.J.us.length k (G9 recs) (recs.map AY.p)]:=by
 unfold Ez;rw [Qa h,List.map_append];rfl
theorem bN {C:Cf} {id:Int} {recs:List AY} {k:Nat} (h:¬ DV C (k:Int)=id):Ez C id recs (k+1)=Ez C id recs k:=by
 unfold Ez;rw [V9 h]
def RQ (R:AX):Int:=R.part
theorem bO (C:Cf) (id:Int) (recs:List AY) (k:Nat):(Ez C id recs k).map RQ=(Ga C id k).map fun (p:Nat)=>(p:Int):=by
 unfold Ez
 rw [List.map_map]
 exact List.map_congr_left fun p _=>(JK _ _ _ _).1
theorem bL (C:Cf) (id:Int) (recs:List AY) (k:Nat):(Ez C id recs k).length≤k:=by
 unfold Ez;rw [List.length_map];exact V7 C id k
/-! ### What it does -/
def SB (C:Cf) (sp att:Int):Prop:=0≤sp∧sp<((C.J.us.length:Nat):Int)∧1≤att∧att≤C.t
instance runMayD (C:Cf) (sp att:Int):Decidable (SB C sp att):=by unfold SB;infer_instance
def doneL (D:BA) (J:AR) (M:Cy):EZ:=
 if (A0 D J M.sp).2≠0 then ⟨0,0,⟨5,M.sp,M.att,0,0,0,0,(A0 D J M.sp).2,[],[]⟩⟩ else ⟨0,0,⟨4,M.sp,M.att,0,0,0,0,0,CX D J M.sp M.att,[]⟩⟩
def pushL (C:Cf) (m:DQ):EZ:=⟨0,DV C m.part,m⟩
def EV (D:BA) (C:Cf) (M:Cy):List EZ:=doneL D C.J M::(Hh D C.J M).map (pushL C)
def Gs (D:BA) (J:AR) (R:AX):EZ:=⟨0,0,AT D J R⟩
def Eh (D:BA) (C:Cf) (W:Fu):List EZ:=if W.over=true then [] else W.ts.flatMap (EV D C)++W.rs.map (Gs D C.J)
/-! ### In memory -/
def Cu (b:Bool):Int:=if b then 1 else 0
theorem Zl (b:Bool):decide (Cu b≠0)=b:=by cases b<;>rfl
structure Kj where
 sp:Int
 att:Int
 b:Nat
def O_ (t:Kj):List Value:=[.int .i64 t.sp,.int .i64 t.att,.pointer (some ⟨t.b,0,none⟩)]
def Dj:Kd Kj:=flat O_ 3 (by omega) (fun _=>rfl) (fun _ c h=>by simp [O_] at h;rcases h with rfl|rfl|rfl<;>rfl)
def BH (e:Nat×Cy):Kj:=⟨(e.2.sp:Int),e.2.att,e.1⟩
def Bw (e:Nat×AX):Int:=e.2.part
def CB (e:Nat×AX):Int×Value:=(e.2.part,.pointer (some ⟨e.1,0,none⟩))
def Nz (rl:List (Nat×AX)) (p:Int):Option Addr:=match rl.find? (fun e=>decide (e.2.part=p)) with
 |some e=>some ⟨e.1,0,none⟩
 |none=>none
theorem MU (p:Int):∀ rl:List (Nat×AX),(Gu p (rl.map CB)).getD (.pointer none)=.pointer (Nz rl p)
 |[]=>rfl
 |e::rl=>by
  have ih:=MU p rl
  rw [List.map_cons]
  unfold Nz at ih ⊢
  by_cases h:e.2.part=p
  ·have h1:(CB e).1=p:=h
   unfold Gu
   rw [if_pos h1,List.find?_cons_of_pos (p:=fun e:Nat×AX=>decide (e.2.part=p)) (decide_eq_true h)]
   rfl
  ·have h1:¬ (CB e).1=p:=h
   unfold Gu
   rw [if_neg h1,List.find?_cons_of_neg (p:=fun e:Nat×AX=>decide (e.2.part=p)) (by rw [decide_eq_false h];decide)]
   exact ih
theorem bK {rl:List (Nat×AX)} {i:Nat} {e:Nat×AX} (hn:((rl.map CB).map fun p=>p.1).Nodup) (h:rl[i]?=some e):Nz rl (e.2.part)=some ⟨e.1,0,none⟩:=by
 have h1:(rl.map CB)[i]?=some (e.2.part,.pointer (some ⟨e.1,0,none⟩)):=by rw [List.getElem?_map,h];rfl
 have h2:=MT hn h1
 have h3:=MU e.2.part rl
 rw [h2] at h3
 simpa using h3.symm
theorem X4 {rl:List (Nat×AX)} {b:Nat} {R:AX} {p:Int} (hp:R.part=p) (h:¬ p∈rl.map Bw):Hl p (.pointer (some ⟨b,0,none⟩)) (rl.map CB)=(rl++[(b,R)]).map CB:=by
 rw [Lu]
 ·rw [List.map_append]
  subst hp
  rfl
 ·intro q hq
  obtain ⟨e,he,rfl⟩:=List.mem_map.1 hq
  exact fun g=>h (List.mem_map.2 ⟨e,he,g⟩)
theorem ZD {rl:List (Nat×AX)} {rs:List AX} (h:rl.map Prod.snd=rs):rl.map Bw=rs.map RQ:=by
 rw [←h,List.map_map];rfl
theorem Bk.doneL {A B:AR} (h:Bk A B) (D:BA) (M:Cy):doneL D A M=doneL D B M:=by
 unfold X.doneL
 rw [h.split,OW h]
theorem D6.home {A B:Cf} (h:D6 A B) (p:Int):DV A p=DV B p:=by
 unfold DV
 have h1:Dq A↔Dq B:=⟨h.may,h.symm.may⟩
 rw [h.J.parts,h.w]
 by_cases g:¬ Dq B∨¬ (0≤p∧p≤B.J.parts - 1)
 ·rw [if_pos g,if_pos (by rw [h1];exact g)]
 ·rw [if_neg g,if_neg (by rw [h1];exact g)]
def Bp (J:AR) (C:Cf):Cf:=⟨J,C.w,C.t,C.o⟩
theorem Hk {J:AR} {C:Cf} (h:Bk J C.J):D6 (Bp J C) C:=⟨h,rfl,rfl,rfl⟩
def lf (C:Cf) (m:Bl CV):Bl BE:=⟨⟨0,DV C m.h.part,m.h⟩,m.sv,m.set,m.pv,m.pairs⟩
theorem eE (C:Cf) (zs:List (Bl CV)):BD (zs.map (lf C))=BD zs:=by
 unfold BD BN
 rw [List.map_map]
 rfl
section
variable {w0 w:World} {F0:AU} {As Rs:List SP}
theorem Hd.bigC {α:Type} {f:α→SP} {l:List α} {x:α} (h:Hd w0 F0 w (f x::BN f l::As) Rs):Hd w0 F0 w (BN f (x::l)::As) Rs:=by
 have h1:Hd w0 F0 w (BN f l::(As++[f x])) Rs:=h.perm (List.perm_append_comm (l₁:=[f x]) (l₂:=BN f l::As))
 have h2:Hd w0 F0 w (l.map f++As++[f x]) Rs:=by rw [List.append_assoc];exact h1.stA
 have h3:Hd w0 F0 w ((x::l).map f++As) Rs:=h2.perm (List.perm_append_comm (l₁:=l.map f++As) (l₂:=[f x]))
 exact h3.stI
theorem Hd.twC {α:Type} {r:Bl α} {us:List (Bl α)} (H:Hd w0 F0 w (Y (Ai .i64) r.sv r.set::Y Ag r.pv r.pairs::BD us::As) Rs):Hd w0 F0 w (BD (r::us)::As) Rs:=
 Hd.bigC (f:=E7) (show Hd w0 F0 w (E7 r::BN E7 us::As) Rs from Hd.stI (Bs:=[Y (Ai .i64) r.sv r.set,Y Ag r.pv r.pairs]) H)
theorem NP {α:Type} {a b:List (Bl α)} (H:Hd w0 F0 w (BD a::BD b::As) Rs):Hd w0 F0 w (BD (a++b)::As) Rs:=by
 have h1:Hd w0 F0 w (a.map E7++(BD b::As)) Rs:=Hd.stA (Bs:=a.map E7) H
 have h2:Hd w0 F0 w (BD b::(a.map E7++As)) Rs:=h1.perm List.perm_middle
 have h3:Hd w0 F0 w (b.map E7++(a.map E7++As)) Rs:=Hd.stA (Bs:=b.map E7) h2
 have h4:Hd w0 F0 w ((a++b).map E7++As) Rs:=h3.perm (by
  rw [List.map_append,List.append_assoc]
  exact (List.perm_append_comm_assoc _ _ _))
 exact h4.stI
end
theorem YE {zs:List (Bl CV)} {k:Nat} {x:Di CV} (hx:(zs.map A_)[k]?=some x):∃ m,zs[k]?=some m∧x=A_ m:=by
 rw [List.getElem?_map] at hx
 obtain ⟨m,hm,rfl⟩:=Option.map_eq_some_iff.1 hx
 exact ⟨m,hm,rfl⟩
theorem R6 (D:BA) (J:AR) (s:Nat) (att:Int):∀ (ws:List C2) (p:Nat) (m:DQ),m∈DW D J s att ws p→∃ q:Nat,m.part=(q:Int)∧q<p+ws.length
 |[],_,_,h=>by cases h
 |w::ws,p,m,h=>by
  have h':m∈Ew D J s att w p++DW D J s att ws (p+1):=h
  rcases List.mem_append.1 h' with g|g
  ·obtain ⟨q,_,rfl⟩:=List.mem_map.1 g
   exact ⟨p,rfl,by rw [List.length_cons];omega⟩
  ·obtain ⟨q,h1,h2⟩:=R6 D J s att ws (p+1) m g
   exact ⟨q,h1,by rw [List.length_cons];omega⟩
theorem ZQ {D:BA} {J:AR} {M:Cy} (hM:GS M) {zs:List (Bl CV)} (hz:zs.map GO=Hh D J M) {k:Nat} {m:Bl CV} (hm:zs[k]?=some m):AG m.h.part:=by
 have h1:GO m∈Hh D J M:=by rw [←hz];exact List.mem_map_of_mem (List.mem_of_getElem? hm)
 obtain ⟨q,h2,h3⟩:=R6 D J M.sp M.att M.ws 0 _ h1
 have h4:=hM.2
 have h5:m.h.part=(q:Int):=h2
 unfold AG
 omega
theorem YF {D:BA} {J:AR} {M:Cy} (hM:GS M) {zs:List (Bl CV)} (hz:zs.map GO=Hh D J M):zs.length≤4000:=by
 have h1:=congrArg List.length hz
 rw [List.length_map] at h1
 have h2:=Lc (D:=D) (J:=J) (s:=M.sp) (att:=M.att) 0 hM.1
 have h3:=hM.2
 have h4:(Hh D J M).length=(DW D J M.sp M.att M.ws 0).length:=rfl
 omega
theorem d_ {D:BA} {C:Cf} {M:Cy} {z0:Bl BE} {zs:List (Bl CV)} (h0:B4 z0=doneL D C.J M) (hz:zs.map GO=Hh D C.J M):(z0::zs.map (lf C)).map B4=EV D C M:=by
 unfold EV
 rw [List.map_cons,h0,←hz,List.map_map,List.map_map]
 rfl
theorem SW {D:BA} {C:Cf} {M:Cy} (hM:GS M):(EV D C M).length≤4001:=by
 have h2:=Lc (D:=D) (J:=C.J) (s:=M.sp) (att:=M.att) 0 hM.1
 have h3:=hM.2
 have h4:(Hh D C.J M).length=(DW D C.J M.sp M.att M.ws 0).length:=rfl
 unfold EV
 rw [List.length_cons,List.length_map]
 omega
theorem Bk.hello {A B:AR} (h:Bk A B) (D:BA) (R:AX):AT D A R=AT D B R:=by
 unfold AT
 rw [h.out,h.len]
theorem Vp {α β:Type} {f:α→List β} {l:List α} {k:Nat} {x:α} (h:l[k]?=some x):(l.take (k+1)).flatMap f=(l.take k).flatMap f++f x:=by
 rw [Eo h,List.flatMap_append]
 simp
theorem KS {α β:Type} {f:α→β} {l:List α} {k:Nat} {x:α} (h:l[k]?=some x):(l.take (k+1)).map f=(l.take k).map f++[f x]:=by
 rw [Eo h,List.map_append]
 rfl
theorem V4 {D:BA} {J:AR} {R:AX}:(AT D J R).pairs=[]:=by
 unfold AT
 split<;>rfl
theorem YH {m:DQ} (h:m.pairs=[]):(⟨m.kind,m.sp,m.att,m.part,m.seq,m.next,m.ep,m.why,m.set,[]⟩:DQ)=m:=by
 cases m
 simp only at h
 subst h
 rfl
theorem ZB {rl:List (Nat×AX)} {rs:List AX} (hrl:rl.map Prod.snd=rs) {k:Nat} {x:Int} (hx:(rl.map Bw)[k]?=some x):∃ e,rl[k]?=some e∧rs[k]?=some e.2∧x=Bw e:=by
 rw [List.getElem?_map] at hx
 obtain ⟨e,he,rfl⟩:=Option.map_eq_some_iff.1 hx
 exact ⟨e,he,by rw [←hrl,List.getElem?_map,he];rfl,rfl⟩
theorem bM {C:Cf} {id:Int} {recs:List AY} {p:Nat} {rl:List (Nat×AX)} (hrl:rl.map Prod.snd=Ez C id recs p):¬ ((p:Nat):Int)∈rl.map Bw:=fun h=>by
 rw [ZD hrl,bO] at h
 obtain ⟨q,hq,e⟩:=List.mem_map.1 h
 have:=V8 hq
 omega
section
variable {α:Type} {J:AR} {rs:List AY} {acts:List (Bl α)} {most:Int}
end
/-! ### Lists of structs held against one another -/
theorem dG {a b:N_}:a=b↔a.why=b.why∧a.set=b.set∧a.pairs=b.pairs:=by
 constructor
 ·rintro rfl;exact ⟨rfl,rfl,rfl⟩
 ·rintro ⟨h1,h2,h3⟩
  cases a;cases b
  simp only at h1 h2 h3
  subst h1 h2 h3
  rfl
instance snapPD (a b:N_):Decidable (a=b):=decidable_of_iff _ dG.symm
theorem Yr {α β γ:Type} {f:α→γ} {g:β→γ} {a:List α} {b:List β} {k:Nat} {x:α} {y:β} (hx:a[k]?=some x) (hy:b[k]?=some y) (e:f x=g y) (h:(a.take k).map f=(b.take k).map g):(a.take (k+1)).map f=(b.take (k+1)).map g:=by
 rw [Eo hx,Eo hy,List.map_append,List.map_append,h]
 simp [e]
theorem MX {α β γ:Type} {f:α→γ} {g:β→γ} {a:List α} {b:List β} {k:Nat} {x:α} {y:β} (hx:a[k]?=some x) (hy:b[k]?=some y) (e:a.map f=b.map g):f x=g y:=by
 have h:=congrArg (·[k]?) e
 simp only [List.getElem?_map,hx,hy,Option.map_some] at h
 exact Option.some.inj h
/-! ### A small configuration -/
def IS:AY:=⟨6,0,0,0,0,KZ,[],KZ,[]⟩
theorem Ye {w:World} {F:AU} {n:Nat}:∀ r∈List.replicate n IS,(Ac (Ai .i64) r.sv r.set).P w F∧(Ac Ag r.pv r.pairs).P w F:=fun r hr=>by
 rw [List.eq_of_mem_replicate hr]
 exact ⟨I4 _ _ _ trivial (by decide),I4 _ _ _ trivial (by decide)⟩
theorem QW:∀ n:Nat,cnt CR (List.replicate n IS)=n
 |0=>rfl
 |n+1=>by
  have ih:=QW n
  unfold cnt at ih ⊢
  rw [List.replicate_succ,List.filter_cons_of_pos (show CR IS=true from rfl),List.length_cons,ih]
theorem Yd (n:Nat):G9 (List.replicate n IS)=((n+1:Nat):Int):=by
 unfold G9
 rw [QW,Nat.add_comm]
/-! ### Each part has one home -/
section
variable {w w0:World} {F F0:AU} {α:Type} {d:Kd α} {A:Option Addr} {m c:Nat} {xs:List α} {As Rs:List SP}
theorem Hd.cutO (H:Hd w0 F0 w (Y d (.slice A m c) xs::As) Rs) {i:Nat} (hi:i≤m):Hd w0 F0 w (Y d (.slice A i c) (xs.take i)::As) Rs:=H.turn fun F h=>RM h hi
end
def DZ (L k:Nat) (keep:Int):Nat:=k+(IntKind.u64.wrap keep%(((L - k+1:Nat)):Int)).toNat
theorem UD {L k:Nat} {keep:Int} (h:k≤L):k≤DZ L k keep∧DZ L k keep≤L:=by
 unfold DZ
 have h1:=Int.emod_nonneg (IntKind.u64.wrap keep) (show (((L - k+1:Nat)):Int)≠0 by omega)
 have h2:=Int.emod_lt_of_pos (IntKind.u64.wrap keep) (show 0<(((L - k+1:Nat)):Int) by omega)
 omega
theorem OY {L k:Nat} {keep:Int} (h:L≤1000000):IntKind.i64.wrap (IntKind.u64.wrap keep%((L - k+1:Nat):Int))=IntKind.u64.wrap keep%((L - k+1:Nat):Int):=by
 have h1:=Int.emod_nonneg (IntKind.u64.wrap keep) (show (((L - k+1:Nat)):Int)≠0 by omega)
 have h2:=Int.emod_lt_of_pos (IntKind.u64.wrap keep) (show 0<(((L - k+1:Nat)):Int) by omega)
 exact AI (by omega) (by omega)
theorem OZ {L k:Nat} {keep:Int} (hk:k≤L) (h:L≤1000000):IntKind.i64.wrap (((k:Nat):Int)+IntKind.u64.wrap keep%((L - k+1:Nat):Int))=((DZ L k keep:Nat):Int):=by
 have h1:=Int.emod_nonneg (IntKind.u64.wrap keep) (show (((L - k+1:Nat)):Int)≠0 by omega)
 have h2:=Int.emod_lt_of_pos (IntKind.u64.wrap keep) (show 0<(((L - k+1:Nat)):Int) by omega)
 unfold DZ
 rw [AI (by omega) (by omega)]
 generalize IntKind.u64.wrap keep%((L - k+1:Nat):Int)=z at h1 h2 ⊢
 omega
theorem OX (L k:Nat):DZ L k 0=k:=by
 unfold DZ
 rw [show IntKind.u64.wrap 0=0 from rfl,Int.zero_emod]
 rfl
def Gb:Bd:=⟨6,0,0,0,0,[],[]⟩
theorem QX:Cq Gb:=by decide
def D8 (n:Nat):List Bd:=List.replicate n Gb
theorem Yh (n:Nat):∀ r∈D8 n,Cq r:=fun r hr=>by rw [List.eq_of_mem_replicate hr];exact QX
theorem MR (n:Nat):D8 (n+1)=D8 n++[Gb]:=List.replicate_succ'
theorem Ie (n:Nat):(Ct (D8 n)).length=64*n:=by
 induction n with
 |zero=>rfl
 |succ n ih=>
  rw [MR,QS,List.length_append,ih,LD]
  have:(CG Gb).length=56:=by
   unfold CG Ed
   rw [List.length_append,List.length_append,HK,EL]
   rfl
  omega
theorem QT:FA [Gb]=Ct (D8 1):=by
 unfold FA
 rw [if_pos (fun r hr=>by rw [List.mem_singleton.1 hr];exact QX)]
 rfl
theorem X9 (n:Nat):Ct (D8 n)++FA [Gb]=Ct (D8 (n+1)):=by
 rw [QT,MR n,QR]
 rfl
theorem X7 (n:Nat):(Ct (D8 (n+1))).take (64*n)=Ct (D8 n):=by
 rw [MR,QR,←Ie n,List.take_left]
theorem d6  :
    Cn Tryz.prog 128 [] [] [] (fun v Bs=>∃ b,v=.pointer (some ⟨b,0,none⟩)∧Bs=[blk b [.int .i64 0,.int .i64 0,.int .i64 0,.int .i64 0,.int .i64 0,.int .i64 0,.int .i64 0,.int .i64 0] 254]):=by
 intro w0 F0 H
 refine enter Tryz.func128 U U (Nat.le_of_ble_eq_true U) (Aa (Ae (Ad U (Ab (Z (Aa (Ae (V U U (Dl (parts:=[]) (vs:=[]) (cs:=[.int .i64 0,.int .i64 0,.int .i64 0,.int .i64 0,.int .i64 0,.int .i64 0,.int .i64 0,.int .i64 0]) U TJ U U) (CZ U U U U H (fun b1 w H=>(Ad U (Ab (Z ?_)))))))))))))
 replace H:Hd _ _ _ [blk b1 [.int .i64 0,.int .i64 0,.int .i64 0,.int .i64 0,.int .i64 0,.int .i64 0,.int .i64 0,.int .i64 0] 254] []:=H
 exact An (Ap U U (Al ⟨_,rfl,rfl⟩ H))
theorem d5 (t:Nat):
    Cn Tryz.prog 142 [.pointer (some ⟨t,0,none⟩),.int .i64 0] [] [] (fun v Bs=>v=.pointer (some ⟨t,0,none⟩)∧Bs=[]):=by
 intro w0 F0 H
 refine enter Tryz.func142 U U (Nat.le_of_ble_eq_true U) (Aa (Ae (Ad U (Ab (Z (Aa (Aa (Ae (Ad U (V U U (Dg U eQ U U) (Ah 2 U (V U U (Br U U U) (Ah 3 U (V U U (C7 U U U) (Ad U (Ab (Z (Ch U (Az (Z (Aa (Ae (Ah 2 U (V U U (AJ U U) (V U U (Aj U Vx U) (V U U (HM (p:=0) U eW Wk U U (by omega) (by omega) U) (Ad U (Ab (Z (An (Ap U U ?_)))))))))))))))))))))))))))))))
 replace H:Hd _ _ _ [] []:=H
 exact Al ⟨rfl,rfl⟩ H
theorem Tv (nb:Nat) (n o:Int) (hn:0≤n∧n≤1099511627776) (ho:0≤o∧o≤1099511627776):
    Cn Tryz.prog 143 [.int .i64 o,.pointer (some ⟨nb,0,none⟩)] [] [blk nb [.int .i64 n] 3] (fun v Bs=>v=.int .i64 (min (o+n) 1099511627776)∧Bs=[]):=by
 intro w0 F0 H
 refine enter Tryz.func143 U U (Nat.le_of_ble_eq_true U) (Aa (Ae (Ad U (Ab (Z (Aa (Ae (Ad U (V U U (Am U AE U (H.cellRI 0 U U)) (V U U (Bc (z:=o+n) U U U (AI (by omega) (by omega))) (V U U (Ih (z:=min (o+n) 1099511627776) U U U U) (Ad U (Ab (Z (An (Ap U U ?_))))))))))))))))
 replace H:Hd _ _ _ [] [blk nb [.int .i64 n] 3]:=H
 exact Al ⟨rfl,rfl⟩ H
theorem Yi (t:Nat) (c0 c1 c2 c3 c4 c5 c6 c7:Int):
    Cn Tryz.prog 195 [.pointer (some ⟨t,0,none⟩)] [] [blk t [.int .i64 c0,.int .i64 c1,.int .i64 c2,.int .i64 c3,.int .i64 c4,.int .i64 c5,.int .i64 c6,.int .i64 c7] 254] (fun v Bs=>v=.int .i64 c0∧Bs=[]):=by
 intro w0 F0 H
 refine enter Tryz.func195 U U (Nat.le_of_ble_eq_true U) (Aa (Ae (Ad U (Ab (Z (Aa (Ae (Ad U (V U U (AJ U U) (V U U (Aj U Pz U) (V U U (Ld Vd U U (H.cellRI 0 U U)) (Ad U (Ab (Z (An (Ap U U ?_))))))))))))))))
 replace H:Hd _ _ _ [] [blk t [.int .i64 c0,.int .i64 c1,.int .i64 c2,.int .i64 c3,.int .i64 c4,.int .i64 c5,.int .i64 c6,.int .i64 c7] 254]:=H
 exact Al ⟨rfl,rfl⟩ H
theorem T9 (t:Nat) (c0 c1 c2 c3 c4 c5 c6 c7:Int) (n:Int):
    Cn Tryz.prog 196 [.pointer (some ⟨t,0,none⟩),.int .i64 c0,.int .i64 n] [blk t [.int .i64 c0,.int .i64 c1,.int .i64 c2,.int .i64 c3,.int .i64 c4,.int .i64 c5,.int .i64 c6,.int .i64 c7] 254] [] (fun v Bs=>v=.bool true∧Bs=[blk t [.int .i64 n,.int .i64 c1,.int .i64 c2,.int .i64 c3,.int .i64 c4,.int .i64 c5,.int .i64 c6,.int .i64 c7] 254]):=by
 intro w0 F0 H
 refine enter Tryz.func196 U U (Nat.le_of_ble_eq_true U) (Aa (Ae (Ad U (Ab (Z (Aa (Ae (Ad U (V U U (AJ U U) (V U U (Aj U Pz U) (Ah 2 U (SF Ve U U U U H U (fun w H=>?_)))))))))))))
 replace H:Hd _ _ _ [blk t [.int .i64 n,.int .i64 c1,.int .i64 c2,.int .i64 c3,.int .i64 c4,.int .i64 c5,.int .i64 c6,.int .i64 c7] 254] []:=H
 exact Ad U (Ab (Z (An (Ap U U (Al ⟨rfl,rfl⟩ H)))))
theorem Uh (t:Nat) (c0 c1 c2 c3 c4 c5 c6 c7:Int) (nb:Nat) (n:Int) (hn:0≤n∧n≤1099511627776) (ho:0≤c0∧c0≤1099511627776):
    Cn Tryz.prog 141 [.pointer (some ⟨t,0,none⟩),.func (.func 143) #[] #[.pointer (some ⟨nb,0,none⟩)]] [blk t [.int .i64 c0,.int .i64 c1,.int .i64 c2,.int .i64 c3,.int .i64 c4,.int .i64 c5,.int .i64 c6,.int .i64 c7] 254] [blk nb [.int .i64 n] 3] (fun v Bs=>v=.int .i64 (min (c0+n) 1099511627776)∧Bs=[blk t [.int .i64 (min (c0+n) 1099511627776),.int .i64 c1,.int .i64 c2,.int .i64 c3,.int .i64 c4,.int .i64 c5,.int .i64 c6,.int .i64 c7] 254]):=by
 intro w0 F0 H
 refine enter Tryz.func141 U U (Nat.le_of_ble_eq_true U) (Aa (Ae (Ad U (Ab (Z (Aa (Aa (Ae (Ad U (V U U (Dg U eT U U) (Ab (Z (Ch U (Az (Z (AW (B1 (σ:=Unit) (fun u=>[(0,.pointer (some ⟨t,0,none⟩)),(1,.func (.func 143) #[] #[.pointer (some ⟨nb,0,none⟩)])]) (fun u w=>(Hd w0 F0 w [blk t [.int .i64 c0,.int .i64 c1,.int .i64 c2,.int .i64 c3,.int .i64 c4,.int .i64 c5,.int .i64 c6,.int .i64 c7] 254] [blk nb [.int .i64 n] 3])) (fun u=>0) () ⟨rfl,rfl,trivial⟩ H ?_)))))))))))))))))
 rintro u w H
 refine AW (Aa (Ae (Ad U (sc (Yi t c0 c1 c2 c3 c4 c5 c6 c7) H (lA 0 U (fun _ h=>h) l0) U U (Av WX U U) ?_))))
 rintro _ _ w ⟨rfl,rfl⟩ H
 refine Ad U (Ab (Z (Aa (Ae (Ah 2 U (sc (Tv nb n c0 hn ho) H (lR 0 U l0) U U (GI (vs:=[.int .i64 c0]) (fs:=#[]) (cs:=#[.pointer (some ⟨nb,0,none⟩)]) WK U U U) ?_))))))
 rintro _ _ w ⟨rfl,rfl⟩ H
 refine Ad U (Ab (Z (Aa (Ae (Ah 2 U (V U U (Bh U U U) (Ad U ?_)))))))
 refine AQ (d:=17) U (fun h1=>?_) (fun h1=>?_)
 ·refine Ah 5 U (Ab (Z (CN U (Aa (Ae (Ah 2 U (Ab (Z (An (AZ (AA (AZ (Ap U U ?_)))))))))))))
  replace H:Hd w0 F0 w [blk t [.int .i64 (min (c0+n) 1099511627776),.int .i64 c1,.int .i64 c2,.int .i64 c3,.int .i64 c4,.int .i64 c5,.int .i64 c6,.int .i64 c7] 254] [blk nb [.int .i64 n] 3]:=by rw [h1];exact H
  exact Al ⟨rfl,rfl⟩ H
 refine Ah 3 U (sc (T9 t c0 c1 c2 c3 c4 c5 c6 c7 (min (c0+n) 1099511627776)) H l0 U U (Av WY U U) ?_)
 rintro _ _ w ⟨rfl,rfl⟩ H
 refine Ad U (Ab (Z ?_))
 replace H:Hd _ _ _ [blk t [.int .i64 (min (c0+n) 1099511627776),.int .i64 c1,.int .i64 c2,.int .i64 c3,.int .i64 c4,.int .i64 c5,.int .i64 c6,.int .i64 c7] 254] [blk nb [.int .i64 n] 3]:=H
 exact CN U (Aa (Ae (Ah 2 U (Ab (Z (An (AZ (AA (AZ (Ap U U (Al ⟨rfl,rfl⟩ H)))))))))))
theorem SV (t:Nat) (c0 c1 c2 c3 c4 c5 c6 c7:Int) (n:Int) (hn:0≤n∧n≤1099511627776) (ho:0≤c0∧c0≤1099511627776):
    Cn Tryz.prog 85 [.pointer (some ⟨t,0,none⟩),.int .i64 0,.int .i64 n] [blk t [.int .i64 c0,.int .i64 c1,.int .i64 c2,.int .i64 c3,.int .i64 c4,.int .i64 c5,.int .i64 c6,.int .i64 c7] 254] [] (fun v Bs=>v=.int .i64 (min (c0+n) 1099511627776)∧Bs=[blk t [.int .i64 (min (c0+n) 1099511627776),.int .i64 c1,.int .i64 c2,.int .i64 c3,.int .i64 c4,.int .i64 c5,.int .i64 c6,.int .i64 c7] 254]):=by
 intro w0 F0 H
 refine enter Tryz.func85 U U (Nat.le_of_ble_eq_true U) (Aa (Ae (CZ U U U U H (fun b1 w H=>(Ad U (Ab (Z ?_)))))))
 replace H:Hd _ _ _ [blk b1 [.int .i64 n] 3,blk t [.int .i64 c0,.int .i64 c1,.int .i64 c2,.int .i64 c3,.int .i64 c4,.int .i64 c5,.int .i64 c6,.int .i64 c7] 254] []:=H
 refine Aa (Aa (Ae (V U U (Am U AE U (H.cellI 0 U U)) (V U U (Br U U U) (Ad U ?_)))))
 refine AQ (d:=9) U (fun h2=>?_) (fun h2=>?_)
 ·exfalso;omega
 refine V U U (Am U AE U (H.cellI 0 U U)) (V U U (CH U U U) (Ad U (Ab (Z ?_))))
 refine AC U (fun h3=>?_) (fun h3=>?_)
 ·exfalso;omega
 refine Az (Z (Aa (Ae (Ah 2 U (sc (d5 t) H l0 U U (Av WJ U U) ?_)))))
 rintro _ _ w ⟨rfl,rfl⟩ H
 refine V U U (JP (fs:=#[]) (cs:=#[.pointer (some ⟨b1,0,none⟩)]) U U U) ?_
 replace H:=H.p1
 refine sc (Uh t c0 c1 c2 c3 c4 c5 c6 c7 b1 n hn ho) H (lA 0 U (fun _ h=>h) l0) U U (Av WI U U) ?_
 rintro _ _ w ⟨rfl,rfl⟩ H
 replace H:=H.h1 (A:=blk t [.int .i64 (min (c0+n) 1099511627776),.int .i64 c1,.int .i64 c2,.int .i64 c3,.int .i64 c4,.int .i64 c5,.int .i64 c6,.int .i64 c7] 254)
 refine Ad U (Ab (Z (An (Ap U U ?_))))
 replace H:=H.k1
 exact Al ⟨rfl,rfl⟩ H
theorem Ws (op:Int):
    Cn Tryz.prog 333 [.int .i64 op] [] [] (fun v Bs=>v=.string (Bq op)∧Bs=[]):=by
 intro w0 F0 H
 refine enter Tryz.func333 U U (Nat.le_of_ble_eq_true U) (Aa (Ae (Ad U (Ab (Z (Aa (Aa (Ae (Ad U (Ab (Z (AW (Aa (Aa (Ae (V U U (Bh U U U) (Ad U (Ab (Z ?_)))))))))))))))))))
 refine AC U (fun h1=>?_) (fun h1=>?_)
 ·refine Az (Z ?_)
  refine AC U (fun h2=>?_) (fun h2=>?_)
  ·exact Aa (Ae (Ad U (Ab (Z (An (AZ (AA (Ap U U (Al ⟨congrArg Value.string (by unfold Bq;repeat (first |rw [if_pos (by omega)]|rw [if_neg (by omega)])),rfl⟩ H)))))))))
  exact absurd h1 h2
 refine Aa (Ae (V U U (Bh U U U) (Ad U (Ab (Z ?_)))))
 refine AC U (fun h3=>?_) (fun h3=>?_)
 ·refine Az (Z ?_)
  refine AC U (fun h4=>?_) (fun h4=>?_)
  ·exact Aa (Ae (Ad U (Ab (Z (An (AZ (AA (Ap U U (Al ⟨congrArg Value.string (by unfold Bq;repeat (first |rw [if_pos (by omega)]|rw [if_neg (by omega)])),rfl⟩ H)))))))))
  exact absurd h3 h4
 refine Ae (V U U (Bh U U U) (Ad U (Ab (Z ?_))))
 refine AC U (fun h5=>?_) (fun h5=>?_)
 ·exact Aa (Ae (Ad U (Ab (Z (An (AZ (AA (Ap U U (Al ⟨congrArg Value.string (by unfold Bq;repeat (first |rw [if_pos (by omega)]|rw [if_neg (by omega)])),rfl⟩ H)))))))))
 refine Aa (Aa (Ae (V U U (Bh U U U) (Ad U (Ab (Z ?_))))))
 refine AC U (fun h6=>?_) (fun h6=>?_)
 ·refine Az (Z ?_)
  refine AC U (fun h7=>?_) (fun h7=>?_)
  ·exact Aa (Ae (Ad U (Ab (Z (An (AZ (AA (Ap U U (Al ⟨congrArg Value.string (by unfold Bq;repeat (first |rw [if_pos (by omega)]|rw [if_neg (by omega)])),rfl⟩ H)))))))))
  exact absurd h6 h7
 refine Ae (V U U (Bh U U U) (Ad U (Ab (Z ?_))))
 refine AC U (fun h8=>?_) (fun h8=>?_)
 ·exact Aa (Ae (Ad U (Ab (Z (An (AZ (AA (Ap U U (Al ⟨congrArg Value.string (by unfold Bq;repeat (first |rw [if_pos (by omega)]|rw [if_neg (by omega)])),rfl⟩ H)))))))))
 refine Aa (Aa (Ae (V U U (Bh U U U) (Ad U (Ab (Z ?_))))))
 refine AC U (fun h9=>?_) (fun h9=>?_)
 ·refine Az (Z ?_)
  refine AC U (fun h10=>?_) (fun h10=>?_)
  ·exact Aa (Ae (Ad U (Ab (Z (An (AZ (AA (Ap U U (Al ⟨congrArg Value.string (by unfold Bq;repeat (first |rw [if_pos (by omega)]|rw [if_neg (by omega)])),rfl⟩ H)))))))))
  exact absurd h9 h10
 refine Aa (Ae (V U U (Bh U U U) (Ad U (Ab (Z ?_)))))
 refine AC U (fun h11=>?_) (fun h11=>?_)
 ·refine Az (Z ?_)
  refine AC U (fun h12=>?_) (fun h12=>?_)
  ·exact Aa (Ae (Ad U (Ab (Z (An (AZ (AA (Ap U U (Al ⟨congrArg Value.string (by unfold Bq;repeat (first |rw [if_pos (by omega)]|rw [if_neg (by omega)])),rfl⟩ H)))))))))
  exact absurd h11 h12
 refine Aa (Ae (V U U (Bh U U U) (Ad U (Ab (Z ?_)))))
 refine AC U (fun h13=>?_) (fun h13=>?_)
 ·refine Az (Z ?_)
  refine AC U (fun h14=>?_) (fun h14=>?_)
  ·exact Aa (Ae (Ad U (Ab (Z (An (AZ (AA (Ap U U (Al ⟨congrArg Value.string (by unfold Bq;repeat (first |rw [if_pos (by omega)]|rw [if_neg (by omega)])),rfl⟩ H)))))))))
  exact absurd h13 h14
 refine Ae (V U U (Bh U U U) (Ad U (Ab (Z ?_))))
 refine AC U (fun h15=>?_) (fun h15=>?_)
 ·exact Aa (Ae (Ad U (Ab (Z (An (AZ (AA (Ap U U (Al ⟨congrArg Value.string (by unfold Bq;repeat (first |rw [if_pos (by omega)]|rw [if_neg (by omega)])),rfl⟩ H)))))))))
 refine Aa (Aa (Ae (V U U (Bh U U U) (Ad U (Ab (Z ?_))))))
 refine AC U (fun h16=>?_) (fun h16=>?_)
 ·refine Az (Z ?_)
  refine AC U (fun h17=>?_) (fun h17=>?_)
  ·exact Aa (Ae (Ad U (Ab (Z (An (AZ (AA (Ap U U (Al ⟨congrArg Value.string (by unfold Bq;repeat (first |rw [if_pos (by omega)]|rw [if_neg (by omega)])),rfl⟩ H)))))))))
  exact absurd h16 h17
 refine Ae (V U U (Bh U U U) (Ad U (Ab (Z ?_))))
 refine AC U (fun h18=>?_) (fun h18=>?_)
 ·exact Aa (Ae (Ad U (Ab (Z (An (AZ (AA (Ap U U (Al ⟨congrArg Value.string (by unfold Bq;repeat (first |rw [if_pos (by omega)]|rw [if_neg (by omega)])),rfl⟩ H)))))))))
 refine Aa (Aa (Ae (V U U (Bh U U U) (Ad U (Ab (Z ?_))))))
 refine AC U (fun h19=>?_) (fun h19=>?_)
 ·refine Az (Z ?_)
  refine AC U (fun h20=>?_) (fun h20=>?_)
  ·exact Aa (Ae (Ad U (Ab (Z (An (AZ (AA (Ap U U (Al ⟨congrArg Value.string (by unfold Bq;repeat (first |rw [if_pos (by omega)]|rw [if_neg (by omega)])),rfl⟩ H)))))))))
  exact absurd h19 h20
 refine Ae (V U U (Bh U U U) (Ad U (Ab (Z ?_))))
 refine AC U (fun h21=>?_) (fun h21=>?_)
 ·exact Aa (Ae (Ad U (Ab (Z (An (AZ (AA (Ap U U (Al ⟨congrArg Value.string (by unfold Bq;repeat (first |rw [if_pos (by omega)]|rw [if_neg (by omega)])),rfl⟩ H)))))))))
 refine Aa (Ae (V U U (Bh U U U) (Ad U (Ab (Z ?_)))))
 refine AC U (fun h22=>?_) (fun h22=>?_)
 ·exact Aa (Ae (Ad U (Ab (Z (An (AZ (AA (Ap U U (Al ⟨congrArg Value.string (by unfold Bq;repeat (first |rw [if_pos (by omega)]|rw [if_neg (by omega)])),rfl⟩ H)))))))))
 refine Aa (Ae (V U U (Bh U U U) (Ad U (Ab (Z ?_)))))
 refine AC U (fun h23=>?_) (fun h23=>?_)
 ·exact Aa (Ae (Ad U (Ab (Z (An (AZ (AA (Ap U U (Al ⟨congrArg Value.string (by unfold Bq;repeat (first |rw [if_pos (by omega)]|rw [if_neg (by omega)])),rfl⟩ H)))))))))
 refine Aa (Aa (Ae (V U U (Bh U U U) (Ad U (Ab (Z ?_))))))
 refine AC U (fun h24=>?_) (fun h24=>?_)
 ·refine Az (Z ?_)
  refine AC U (fun h25=>?_) (fun h25=>?_)
  ·exact Aa (Ae (Ad U (Ab (Z (An (AZ (AA (Ap U U (Al ⟨congrArg Value.string (by unfold Bq;repeat (first |rw [if_pos (by omega)]|rw [if_neg (by omega)])),rfl⟩ H)))))))))
  exact absurd h24 h25
 refine Ae (V U U (Bh U U U) (Ad U (Ab (Z ?_))))
 refine AC U (fun h26=>?_) (fun h26=>?_)
 ·exact Aa (Ae (Ad U (Ab (Z (An (AZ (AA (Ap U U (Al ⟨congrArg Value.string (by unfold Bq;repeat (first |rw [if_pos (by omega)]|rw [if_neg (by omega)])),rfl⟩ H)))))))))
 exact Az (Bb (Z (Aa (Ae (Ad U (Ab (Z (An (Ap U U (Al ⟨congrArg Value.string (by unfold Bq;repeat (first |rw [if_pos (by omega)]|rw [if_neg (by omega)])),rfl⟩ H))))))))))
theorem GD (n:Int):
    Cn Tryz.prog 302 [.int .i64 n] [] [] (fun v Bs=>v=.agg #[.bool false,.int .i64 n,.string ⟨#[]⟩]∧Bs=[]):=by
 intro w0 F0 H
 refine enter Tryz.func302 U U (Nat.le_of_ble_eq_true U) (Aa (Ae (DD U U U DK H (fun b1 w H=>(Ab (Z ?_))))))
 replace H:Hd _ _ _ [blk b1 [.bool false,.int .i64 0,.string ⟨#[]⟩] 330] []:=H
 refine Aa (Ae (Ad U (V U U (Dl (parts:=[(1,.tmp 3)]) (vs:=[.int .i64 n]) (cs:=[.bool false,.int .i64 n,.string ⟨#[]⟩]) U OD U U) (Bx U U U Dz U U H U (Nat.le_of_ble_eq_true U) (fun u hu=>by simp [Value.cells] at hu;rcases hu with rfl|rfl|rfl<;>rfl) (fun w H=>?_)))))
 replace H:=H.h1 (A:=blk b1 [.bool false,.int .i64 n,.string ⟨#[]⟩] 330)
 refine Ab (Z (An (FP (cs:=[.bool false,.int .i64 n,.string ⟨#[]⟩]) U U Dz U (H.cellsI 0 U U) ?_)))
 replace H:=H.nil
 exact Al ⟨rfl,rfl⟩ H
theorem Jd (s:ByteArray):
    Cn Tryz.prog 303 [.string s] [] [] (fun v Bs=>v=.agg #[.bool true,.int .i64 0,.string s]∧Bs=[]):=by
 intro w0 F0 H
 refine enter Tryz.func303 U U (Nat.le_of_ble_eq_true U) (Aa (Ae (DD U U U DK H (fun b1 w H=>(Ab (Z ?_))))))
 replace H:Hd _ _ _ [blk b1 [.bool false,.int .i64 0,.string ⟨#[]⟩] 330] []:=H
 refine Aa (Ae (Ad U (V U U (Dl (parts:=[(0,.const (.bool true)),(2,.tmp 3)]) (vs:=[.bool true,.string s]) (cs:=[.bool true,.int .i64 0,.string s]) U OD U U) (Bx U U U Dz U U H U (Nat.le_of_ble_eq_true U) (fun u hu=>by simp [Value.cells] at hu;rcases hu with rfl|rfl|rfl<;>rfl) (fun w H=>?_)))))
 replace H:=H.h1 (A:=blk b1 [.bool true,.int .i64 0,.string s] 330)
 refine Ab (Z (An (FP (cs:=[.bool true,.int .i64 0,.string s]) U U Dz U (H.cellsI 0 U U) ?_)))
 replace H:=H.nil
 exact Al ⟨rfl,rfl⟩ H
theorem RH (b:Bool):
    Cn Tryz.prog 306 [.bool b] [] [] (fun v Bs=>v=.agg #[.bool false,.int .i64 (if b=true then 1 else 0),.string ⟨#[]⟩]∧Bs=[]):=by
 intro w0 F0 H
 refine enter Tryz.func306 U U (Nat.le_of_ble_eq_true U) (Aa (Ae (DD U U U DK H (fun b1 w H=>(Ab (Z ?_))))))
 replace H:Hd _ _ _ [blk b1 [.bool false,.int .i64 0,.string ⟨#[]⟩] 330] []:=H
 refine Aa (Aa (Ae (Ad U (Ab (Z ?_)))))
 refine Dp (b:=b) U (fun h2=>?_) (fun h2=>?_)
 ·refine Aa (Ae (sc (GD 1) H l0 U U (Av Gt U U) ?_))
  rintro _ _ w ⟨rfl,rfl⟩ H
  refine Bx U U U Dz U U H U (Nat.le_of_ble_eq_true U) (fun u hu=>by simp [Value.cells] at hu;rcases hu with rfl|rfl|rfl<;>rfl) (fun w H=>?_)
  replace H:=H.h1 (A:=blk b1 [.bool false,.int .i64 1,.string ⟨#[]⟩] 330)
  refine Ab (Z (An (AA (FP (cs:=[.bool false,.int .i64 1,.string ⟨#[]⟩]) U U Dz U (H.cellsI 0 U U) ?_))))
  replace H:=H.nil
  exact Al ⟨by simp only [h2];rfl,rfl⟩ H
 refine Az (Z (Aa (Ae (sc (GD 0) H l0 U U (Av Gt U U) ?_))))
 rintro _ _ w ⟨rfl,rfl⟩ H
 refine Bx U U U Dz U U H U (Nat.le_of_ble_eq_true U) (fun u hu=>by simp [Value.cells] at hu;rcases hu with rfl|rfl|rfl<;>rfl) (fun w H=>(Ab (Z (An (FP (cs:=[.bool false,.int .i64 0,.string ⟨#[]⟩]) U U Dz U (H.cellsI 0 U U) ?_)))))
 replace H:=H.nil
 exact Al ⟨by simp only [h2];rfl,rfl⟩ H
theorem K6 (op:Int) (a:Int) (b:Int):
    Cn Tryz.prog 305 [.int .i64 op,.int .i64 a,.int .i64 b] [] [] (fun v Bs=>v=.agg #[.bool ((BR op a b).t),.int .i64 ((BR op a b).n),.string ((BR op a b).b)]∧Bs=[]):=by
 intro w0 F0 H
 refine enter Tryz.func305 U U (Nat.le_of_ble_eq_true U) (Aa (Ae (DD U U U DK H (fun b1 w H=>(Ab (Z ?_))))))
 replace H:Hd _ _ _ [blk b1 [.bool false,.int .i64 0,.string ⟨#[]⟩] 330] []:=H
 refine Aa (Aa (Ae (Ad U (Ab (Z (AW (Aa (Ae (V U U (Bh U U U) (Ad U (Ab (Z ?_))))))))))))
 refine AC U (fun h2=>?_) (fun h2=>?_)
 ·refine Aa (Ae (Ah 2 U (V U U (Bc (z:=IntKind.i64.wrap (a+b)) U U U U) (sc (GD (IntKind.i64.wrap (a+b))) H l0 U U (Av Gt U U) ?_))))
  rintro _ _ w ⟨rfl,rfl⟩ H
  refine Bx U U U Dz U U H U (Nat.le_of_ble_eq_true U) (fun u hu=>by simp [Value.cells] at hu;rcases hu with rfl|rfl|rfl<;>rfl) (fun w H=>?_)
  replace H:=H.h1 (A:=blk b1 [.bool false,.int .i64 (IntKind.i64.wrap (a+b)),.string ⟨#[]⟩] 330)
  refine Ab (Z (An (AZ (AA (FP (cs:=[.bool false,.int .i64 (IntKind.i64.wrap (a+b)),.string ⟨#[]⟩]) U U Dz U (H.cellsI 0 U U) ?_)))))
  have e:BR op a b=DA (IntKind.i64.wrap (a+b)):=by unfold BR;rw [if_pos h2]
  replace H:=H.nil
  exact Al ⟨by rw [e];rfl,rfl⟩ H
 refine Aa (Ae (V U U (Bh U U U) (Ad U (Ab (Z ?_)))))
 refine AC U (fun h3=>?_) (fun h3=>?_)
 ·refine Aa (Ae (Ah 2 U (V U U (CP (z:=IntKind.i64.wrap (a - b)) U U U U) (sc (GD (IntKind.i64.wrap (a - b))) H l0 U U (Av Gt U U) ?_))))
  rintro _ _ w ⟨rfl,rfl⟩ H
  refine Bx U U U Dz U U H U (Nat.le_of_ble_eq_true U) (fun u hu=>by simp [Value.cells] at hu;rcases hu with rfl|rfl|rfl<;>rfl) (fun w H=>?_)
  replace H:=H.h1 (A:=blk b1 [.bool false,.int .i64 (IntKind.i64.wrap (a - b)),.string ⟨#[]⟩] 330)
  refine Ab (Z (An (AZ (AA (FP (cs:=[.bool false,.int .i64 (IntKind.i64.wrap (a - b)),.string ⟨#[]⟩]) U U Dz U (H.cellsI 0 U U) ?_)))))
  have e:BR op a b=DA (IntKind.i64.wrap (a - b)):=by unfold BR;rw [if_neg h2,if_pos h3]
  replace H:=H.nil
  exact Al ⟨by rw [e];rfl,rfl⟩ H
 refine Aa (Ae (V U U (Bh U U U) (Ad U (Ab (Z ?_)))))
 refine AC U (fun h4=>?_) (fun h4=>?_)
 ·refine Aa (Ae (Ah 2 U (V U U (HN (z:=IntKind.i64.wrap (a*b)) U U U U) (sc (GD (IntKind.i64.wrap (a*b))) H l0 U U (Av Gt U U) ?_))))
  rintro _ _ w ⟨rfl,rfl⟩ H
  refine Bx U U U Dz U U H U (Nat.le_of_ble_eq_true U) (fun u hu=>by simp [Value.cells] at hu;rcases hu with rfl|rfl|rfl<;>rfl) (fun w H=>?_)
  replace H:=H.h1 (A:=blk b1 [.bool false,.int .i64 (IntKind.i64.wrap (a*b)),.string ⟨#[]⟩] 330)
  refine Ab (Z (An (AZ (AA (FP (cs:=[.bool false,.int .i64 (IntKind.i64.wrap (a*b)),.string ⟨#[]⟩]) U U Dz U (H.cellsI 0 U U) ?_)))))
  have e:BR op a b=DA (IntKind.i64.wrap (a*b)):=by unfold BR;rw [if_neg h2,if_neg h3,if_pos h4]
  replace H:=H.nil
  exact Al ⟨by rw [e];rfl,rfl⟩ H
 refine Az (Bb (Z (Aa (Ae (Ah 2 U (V U U (Br U U U) (sc (RH (decide (a<b))) H l0 U U (Av QD U U) ?_)))))))
 rintro _ _ w ⟨rfl,rfl⟩ H
 refine Bx U U U Dz U U H U (Nat.le_of_ble_eq_true U) (fun u hu=>by simp [Value.cells] at hu;rcases hu with rfl|rfl|rfl<;>rfl) (fun w H=>?_)
 replace H:=H.h1 (A:=blk b1 [.bool false,.int .i64 (if (decide (a<b))=true then 1 else 0),.string ⟨#[]⟩] 330)
 refine Ab (Z (An (FP (cs:=[.bool false,.int .i64 (if (decide (a<b))=true then 1 else 0),.string ⟨#[]⟩]) U U Dz U (H.cellsI 0 U U) ?_)))
 have e:BR op a b=DA (if a<b then 1 else 0):=by unfold BR;rw [if_neg h2,if_neg h3,if_neg h4]
 replace H:=H.nil
 exact Al ⟨by rw [e];simp [DA],rfl⟩ H
theorem fB (a:A9) (b:A9):
    Cn Tryz.prog 307 [.agg #[.bool a.t,.int .i64 a.n,.string a.b],.agg #[.bool b.t,.int .i64 b.n,.string b.b]] [] [] (fun v Bs=>v=.bool (E6 a b)∧Bs=[]):=by
 intro w0 F0 H
 refine enter Tryz.func307 U U (Nat.le_of_ble_eq_true U) (Aa (Ae (CZ U U U U H (fun b1 w H=>(CZ U U U U H (fun b2 w H=>(Ad U (Ab (Z ?_)))))))))
 replace H:Hd _ _ _ [blk b2 [.bool b.t,.int .i64 b.n,.string b.b] 330,blk b1 [.bool a.t,.int .i64 a.n,.string a.b] 330] []:=H
 refine Aa (Aa (Ae (V U U (Aj U H_ U) (V U U (Am U DP U (H.cellI 1 U U)) (Ab (Z ?_))))))
 refine Dp (b:=a.t) U (fun h3=>?_) (fun h3=>?_)
 ·refine Aa (Ae (V U U (Aj U H_ U) (V U U (Am U DP U (H.cellI 0 U U)) (Ad U ?_))))
  refine FC (d:=9) (b:=b.t) U (fun h4=>?_) (fun h4=>?_)
  ·refine V U U (Aj U Gp U) (V U U (Am U Cl U (H.cellI 1 U U)) (V U U (Aj U Gp U) (V U U (Am U Cl U (H.cellI 0 U U)) (V U U (Np U U U) (Ah 2 U (Ab (Z (An (AA (Ap U U ?_))))))))))
   replace H:=H.nil
   exact Al ⟨congrArg Value.bool (by unfold E6;simp [h3,h4]),rfl⟩ H
  refine Ah 7 U (Ab (Z (An (AA (Ap U U ?_)))))
  replace H:=H.nil
  exact Al ⟨congrArg Value.bool (by unfold E6;simp [h3,h4]),rfl⟩ H
 refine Az (Z (Aa (Ae (V U U (Aj U H_ U) (V U U (Am U DP U (H.cellI 0 U U)) (V U U (ES U U U) (Ad U ?_)))))))
 refine FC (d:=19) (b:=!b.t) U (fun h5=>?_) (fun h5=>?_)
 ·refine V U U (Aj U Fk U) (V U U (Am U Eg U (H.cellI 1 U U)) (V U U (Aj U Fk U) (V U U (Am U Eg U (H.cellI 0 U U)) (V U U (Bh U U U) (Ah 2 U (Ab (Z (An (Ap U U ?_)))))))))
  replace H:=H.nil
  exact Al ⟨congrArg Value.bool (by unfold E6;simp [h3,h5]),rfl⟩ H
 refine Ah 7 U (Ab (Z (An (Ap U U ?_))))
 replace H:=H.nil
 exact Al ⟨congrArg Value.bool (by unfold E6;simp [h3,h5]),rfl⟩ H
theorem e7 (s:ByteArray) (i:Int):
    Cn Tryz.prog 308 [.string s,.int .i64 i] [] [] (fun v Bs=>v=.int .i64 (Fe s i)∧Bs=[]):=by
 intro w0 F0 H
 refine enter Tryz.func308 U U (Nat.le_of_ble_eq_true U) (Aa (Ae (Ad U (Ab (Z (Aa (Aa (Ae (Ad U (V U U (Br U U U) (Ad U ?_)))))))))))
 refine AQ (d:=7) U (fun h1=>?_) (fun h1=>?_)
 ·exact Ah 5 U (Ab (Z (CN U (Aa (Ae (Ad U (Ab (Z (An (AA (Ap U U (Al ⟨congrArg (Value.int .i64) (if_pos (by omega)).symm,rfl⟩ H))))))))))))
 refine Ah 2 U (V U U (DN U CK U) (V U U (C7 U U U) (Ad U (Ab (Z ?_)))))
 refine AC U (fun h2=>?_) (fun h2=>?_)
 ·exact Aa (Ae (Ad U (Ab (Z (An (AA (Ap U U (Al ⟨congrArg (Value.int .i64) (if_pos (by omega)).symm,rfl⟩ H))))))))
 refine Az (Z (Aa (Ae (Ah 2 U ?_))))
 obtain ⟨c0,hc0⟩:∃ c0,s[i.toNat]?=some c0:=⟨_,getElem?_pos s i.toNat (by omega)⟩
 exact V U U (JQ U CK U U (by omega) hc0) (V U U (DC (z:=((c0).toNat:Int)) U U HV Jb (AI (by omega) (by have:=UInt8.toNat_lt c0;omega))) (Ad U (Ab (Z (An (Ap U U (Al ⟨congrArg (Value.int .i64) (by unfold Fe;rw [if_neg (by omega),hc0];rfl),rfl⟩ H)))))))
theorem e_ (s:ByteArray) (f:Int) (t:Int):
    Cn Tryz.prog 309 [.string s,.int .i64 f,.int .i64 t] [] [] (fun v Bs=>v=.string (F5 s f t)∧Bs=[]):=by
 intro w0 F0 H
 refine enter Tryz.func309 U U (Nat.le_of_ble_eq_true U) (Aa (Ae (Ad U (Ab (Z (Aa (Ae (Ad U (V U U (DN U CK U) (Ad U (Ab (Z (Aa (Ae (Ad U (V U U (Se (z:=max f 0) U U U U) (Ad U (V U U (Ih (z:=min (max f 0) ((s.size:Nat):Int)) U U U U) (Ad U (V U U (Se (z:=max t 0) U U U U) (Ad U (V U U (Ih (z:=min (max t 0) ((s.size:Nat):Int)) U U U U) (Ah 2 U (Ab (Z (Aa (Aa (Ae (Ah 2 U (V U U (CD U U U) (Ab (Z ?_))))))))))))))))))))))))))))))))
 refine AC U (fun h1=>?_) (fun h1=>?_)
 ·exact Aa (Ae (Ad U (Ab (Z (An (AA (Ap U U (Al ⟨congrArg Value.string (if_pos h1).symm,rfl⟩ H))))))))
 exact Az (Z (Aa (Ae (Ah 3 U (V U U (ZX (r:=s.extract (min (max f 0) ((s.size:Nat):Int)).toNat (min (max t 0) ((s.size:Nat):Int)).toNat) U CK U U U (by omega) (by omega) (by omega) U) (Ad U (Ab (Z (An (Ap U U (Al ⟨congrArg Value.string (if_neg h1).symm,rfl⟩ H)))))))))))
theorem YN (r:Nat) (pv:Value) (key:ByteArray) (vv:Value) (fuel pos steps:Int) (halted:Bool) (sv:Value) (g:Nat→A9) (tv mv:Value) (stk:List A9) (op:Int) (hst:stk.length≤16):
    Cn Tryz.prog 300 [.pointer (some ⟨r,0,none⟩),.int .i64 op] [blk r (Bn pv key vv fuel pos steps halted sv g tv mv) 334,Y Bf sv stk] [] (fun v Bs=>∃ u sv2,v=.tuple #[u,.int .i64 (AD op stk).1]∧Bs=[blk r (Bn pv key vv fuel pos steps halted sv2 g tv mv) 334,Y Bf sv2 (AD op stk).2.1,Y Bf u (AD op stk).2.2]):=by
 intro w0 F0 H
 obtain ⟨A1,c2,rfl,hc3,hm4,hp5⟩:=H.fA 1 rfl
 refine enter Tryz.func300 U U (Nat.le_of_ble_eq_true U) (Aa (Ae (Ah 2 U (Ab (Z ?_)))))
 replace H:Hd _ _ _ [blk r (Bn pv key vv fuel pos steps halted (.slice A1 stk.length c2) g tv mv) 334,Y Bf (.slice A1 stk.length c2) stk] []:=H
 refine Aa (Ae (Ad U (sc (Ws op) H l0 U U (Av XH U U) ?_)))
 rintro _ _ w ⟨rfl,rfl⟩ H
 refine Ad U (Ab (Z (Aa (Aa (Ae (Ad U (V U U (DN U CK U) (Ad U (V U U (AJ U U) (V U U (Aj U Ha U) (V U U (Am U Hn U (H.cellI 0 U U)) (V U U (Bj U It U) (V U U (CH U U U) (Ab (Z ?_)))))))))))))))
 refine AC U (fun h6=>?_) (fun h6=>?_)
 ·refine Aa (Ae (Ah 2 U (Ab (Z (An (AA (Dy U U U ?_)))))))
  have e:=M3 (op:=op) (stk:=stk) (by omega)
  replace H:=H.newnil Bf|>.sel 3 [1,2,0] [] rfl (by kernel_rfl)
  replace H:Hd _ _ _ [blk r (Bn pv key vv fuel pos steps halted (.slice A1 stk.length c2) g tv mv) 334,Y Bf (.slice A1 stk.length c2) stk,Y Bf (.slice none 0 0) []] []:=H
  exact Al ⟨_,_,by rw [e]<;>rfl,by rw [e]<;>rfl⟩ H
 refine Az (Z (Aa (G4 mo (by kernel_rfl) H (Ep U (BK U U (fun w H=>AJ U U) (BK U U (fun w H=>Aj U Ha U) (BK U U (fun w H=>Am U Hn U (H.cellI 0 U U)) (Ep U (BK U U (fun w H=>AJ U U) (BK U U (fun w H=>Aj U Ha U) (BK U U (fun w H=>Am U Hn U (H.cellI 0 U U)) (BK U U (fun w H=>Bj U It U) (Ep U (BK U U (fun w H=>DN U CK U) (BK U U (fun w H=>CP (z:=((stk.length - ((Bq op).size):Nat):Int)) U U U (by rw [AI (by omega) (by omega)];omega)) (BK U U (fun w H=>Le U Ck U U (by omega) (by omega) U) (Ep U (BK U U (fun w H=>AJ U U) (BK U U (fun w H=>Aj U Ha U) (BK U U (fun w H=>Am U Hn U (H.cellI 0 U U)) ?_))))))))))))))))))))
 refine Ep U (BK U U (fun w H=>AJ U U) (BK U U (fun w H=>Aj U Ha U) (BK U U (fun w H=>Am U Hn U (H.cellI 0 U U)) (BK U U (fun w H=>Bj U It U) (Ep U (BK U U (fun w H=>DN U CK U) (BK U U (fun w H=>CP (z:=((stk.length - ((Bq op).size):Nat):Int)) U U U (by rw [AI (by omega) (by omega)];omega)) (BK U U (fun w H=>JO U Ck U U (by omega) (by omega) U) (Kc 2 U (Ho (fun w H=>(Z (Aa (Aa (Ae (Ad U (V U U (Bj U It U) (Ad U (Ab (Z (AW (B1 (σ:=Nat) (fun i=>[(0,.pointer (some ⟨r,0,none⟩)),(6,.string (Bq op)),(7,.slice A1 (stk.length - ((Bq op).size)) c2),(8,.slice (D7 A1 c2 (stk.length - ((Bq op).size)) 3) (stk.length - (stk.length - ((Bq op).size))) (c2 - (stk.length - ((Bq op).size)))),(48,.slice (D7 A1 c2 (stk.length - ((Bq op).size)) 3) (stk.length - (stk.length - ((Bq op).size))) (c2 - (stk.length - ((Bq op).size)))),(49,.int .i64 ((stk.length - (stk.length - ((Bq op).size)):Nat):Int)),(50,.int .i64 ((i:Nat):Int))]) (fun i w=>(Hd w0 F0 w [blk r (Bn pv key vv fuel pos steps halted (.slice A1 stk.length c2) g tv mv) 334,Y Bf (.slice A1 stk.length c2) stk] [])∧(i≤(Bq op).size)∧(Fx ((Bq op).data.toList.drop i) ((stk.drop (stk.length - (Bq op).size)).drop i)=Fx (Bq op).data.toList (stk.drop (stk.length - (Bq op).size)))) (fun i=>(Bq op).size - i) 0 ⟨rfl,rfl,rfl,rfl,rfl,rfl,rfl,trivial⟩ ⟨H,Nat.zero_le _,rfl⟩ ?_))))))))))))))))))))))
 rintro i w ⟨H,hi,hf⟩
 refine Aa (Ae (V U U (Br U U U) (Ab (Z (Aa ?_)))))
 refine AC U (fun h7=>?_) (fun h7=>?_)
 ·refine Az (Z (Aa (AW (Aa (Ae (Ad U ?_))))))
  obtain ⟨x8,hx9⟩:∃ z9,(stk.drop (stk.length - ((Bq op).size)))[i]?=some z9:=⟨_,List.getElem?_eq_getElem (show i<(stk.drop (stk.length - ((Bq op).size))).length by simp only [List.length_take,List.length_drop];omega)⟩
  have th10:=H.thX (fun F hA hR=>I5 (B2 F (hA _ (List.mem_of_getElem? (i:=1) rfl))) (i:=stk.length - ((Bq op).size)) (by omega)) hx9
  refine V U U (Bi (p:=Ba (D7 A1 c2 (stk.length - ((Bq op).size)) 3)+i*3) U Ck U U (by omega) (by omega) th10 U) (V U U (BG (cs:=[.bool x8.t,.int .i64 x8.n,.string x8.b]) U Dz U U (H.elsX (fun F hA hR=>I5 (B2 F (hA _ (List.mem_of_getElem? (i:=1) U))) (i:=stk.length - ((Bq op).size)) (by omega)) hx9 U)) (DD U U U DK H (fun b11 w H=>(Ad U (Bx U U U Dz U U H U (Nat.le_of_ble_eq_true U) (fun u hu=>by simp [Value.cells] at hu;rcases hu with rfl|rfl|rfl<;>rfl) (fun w H=>?_))))))
  replace H:Hd _ _ _ [blk b11 [.bool x8.t,.int .i64 x8.n,.string x8.b] 330,blk r (Bn pv key vv fuel pos steps halted (.slice A1 stk.length c2) g tv mv) 334,Y Bf (.slice A1 stk.length c2) stk] []:=H
  refine Ab (Z (Aa (Ae (Ah 2 U ?_))))
  obtain ⟨c12,hb13⟩:∃ c0,(Bq op)[i]?=some c0:=⟨_,getElem?_pos (Bq op) i (by omega)⟩
  refine V U U (JQ U CK U U (by omega) hb13) (V U U (Bh U U U) (Ad U ?_))
  refine AQ (d:=59) U (fun h14=>?_) (fun h14=>?_)
  ·refine V U U (Aj U H_ U) (V U U (Am U DP U (H.cellI 0 U U)) (Ah 2 U ?_))
   refine FC (d:=63) (b:=x8.t) U (fun h15=>?_) (fun h15=>?_)
   ·refine Ah 10 U (Ab (Z (CN U (Aa (Ae (Ah 2 U (Ab (Z (An (AZ (AA (AA (AZ (AA (Dy U U U ?_)))))))))))))))
    have hfit:F6 c12 x8=false:=by rw [H7];simp_all
    have e:=JI (op:=op) (stk:=stk) (by omega) (hf.symm.trans (Mb (H6 hb13) hx9 hfit))
    replace H:=H.p2.p2.k2.newnil Bf|>.p2|>.p2
    exact Al ⟨_,_,by rw [e]<;>rfl,by rw [e]<;>rfl⟩ H
   refine Ah 2 U (V U U (JQ U CK U U (by omega) hb13) (V U U (Bh U U U) (Ad U ?_)))
   refine AQ (d:=68) U (fun h16=>?_) (fun h16=>?_)
   ·refine V U U (Aj U H_ U) (V U U (Am U DP U (H.cellI 0 U U)) (V U U (ES U U U) (Ah 2 U (Ab (Z ?_)))))
    refine Dp (b:=!x8.t) U (fun h17=>?_) (fun h17=>?_)
    ·refine Aa (Ae (Ah 2 U (Ab (Z (An (AZ (AA (AA (AZ (AA (Dy U U U ?_)))))))))))
     have hfit:F6 c12 x8=false:=by rw [H7];simp_all
     have e:=JI (op:=op) (stk:=stk) (by omega) (hf.symm.trans (Mb (H6 hb13) hx9 hfit))
     replace H:=H.p2.p2.k2.newnil Bf|>.p2|>.p2
     exact Al ⟨_,_,by rw [e]<;>rfl,by rw [e]<;>rfl⟩ H
    refine Az (Bb (Z (Ae (V U U (Bc (z:=((i+1:Nat):Int)) U U U (by rw [AI (by omega) (by omega)];omega)) (Ad U (Ab ?_))))))
    have hfit:F6 c12 x8=true:=by rw [H7];simp_all
    have hf2:=(Kz (H6 hb13) hx9 hfit).trans hf
    replace H:=H.p2.p2.k2
    exact Bo (s:=i) (i+1) ⟨rfl,rfl,rfl,rfl,rfl,rfl,rfl,trivial⟩ ⟨H,by (try dsimp only);omega,hf2⟩ (by (try dsimp only);omega)
   refine Ah 5 U (Ab (Z (Ch U (Az (Bb (Z (Ae (V U U (Bc (z:=((i+1:Nat):Int)) U U U (by rw [AI (by omega) (by omega)];omega)) (Ad U (Ab ?_))))))))))
   have hfit:F6 c12 x8=true:=by rw [H7];simp_all
   have hf2:=(Kz (H6 hb13) hx9 hfit).trans hf
   replace H:=H.p2.p2.k2
   exact Bo (s:=i) (i+1) ⟨rfl,rfl,rfl,rfl,rfl,rfl,rfl,trivial⟩ ⟨H,by (try dsimp only);omega,hf2⟩ (by (try dsimp only);omega)
  refine Ah 6 U (V U U (JQ U CK U U (by omega) hb13) (V U U (Bh U U U) (Ad U ?_)))
  refine AQ (d:=68) U (fun h18=>?_) (fun h18=>?_)
  ·refine V U U (Aj U H_ U) (V U U (Am U DP U (H.cellI 0 U U)) (V U U (ES U U U) (Ah 2 U (Ab (Z ?_)))))
   refine Dp (b:=!x8.t) U (fun h19=>?_) (fun h19=>?_)
   ·refine Aa (Ae (Ah 2 U (Ab (Z (An (AZ (AA (AA (AZ (AA (Dy U U U ?_)))))))))))
    have hfit:F6 c12 x8=false:=by rw [H7];simp_all
    have e:=JI (op:=op) (stk:=stk) (by omega) (hf.symm.trans (Mb (H6 hb13) hx9 hfit))
    replace H:=H.p2.p2.k2.newnil Bf|>.p2|>.p2
    exact Al ⟨_,_,by rw [e]<;>rfl,by rw [e]<;>rfl⟩ H
   refine Az (Bb (Z (Ae (V U U (Bc (z:=((i+1:Nat):Int)) U U U (by rw [AI (by omega) (by omega)];omega)) (Ad U (Ab ?_))))))
   have hfit:F6 c12 x8=true:=by rw [H7];simp_all
   have hf2:=(Kz (H6 hb13) hx9 hfit).trans hf
   replace H:=H.p2.p2.k2
   exact Bo (s:=i) (i+1) ⟨rfl,rfl,rfl,rfl,rfl,rfl,rfl,trivial⟩ ⟨H,by (try dsimp only);omega,hf2⟩ (by (try dsimp only);omega)
  refine Ah 5 U (Ab (Z (Ch U (Az (Bb (Z (Ae (V U U (Bc (z:=((i+1:Nat):Int)) U U U (by rw [AI (by omega) (by omega)];omega)) (Ad U (Ab ?_))))))))))
  have hfit:F6 c12 x8=true:=by rw [H7];simp_all
  have hf2:=(Kz (H6 hb13) hx9 hfit).trans hf
  replace H:=H.p2.p2.k2
  exact Bo (s:=i) (i+1) ⟨rfl,rfl,rfl,rfl,rfl,rfl,rfl,trivial⟩ ⟨H,by (try dsimp only);omega,hf2⟩ (by (try dsimp only);omega)
 refine BQ (AV (AV (BS (Z (Aa (Ae (Ad U ?_)))))))
 replace H:=H.newnil Bf
 refine CE (xs:=[]) (ys:=stk.drop (stk.length - ((Bq op).size))) U U U Ck DK U (by decide) U U H (by simp only [List.length_nil];omega) (fun F hA hR=>I5 (B2 F (hA _ (List.mem_of_getElem? (i:=1) U))) (i:=stk.length - ((Bq op).size)) (by omega)) (fun v20 w H=>(Ad U (Ab (Z ?_))))
 replace H:Hd _ _ _ [Y Bf v20 ([]++(stk.drop (stk.length - ((Bq op).size)))),blk r (Bn pv key vv fuel pos steps halted (.slice A1 stk.length c2) g tv mv) 334,Y Bf (.slice A1 stk.length c2) stk] []:=H
 refine Aa (Ae (Ah 2 U (V U U (AJ U U) (V U U (Aj U Ha U) ?_))))
 replace H:=H.p1
 refine Bx U U U Hn U U H U (Nat.le_of_ble_eq_true U) (fun u hu=>by simp [Value.cells] at hu;subst hu;rfl) (fun w H=>?_)
 replace H:=H.h1 (A:=blk r (Bn pv key vv fuel pos steps halted (.slice A1 (stk.length - ((Bq op).size)) c2) g tv mv) 334)
 refine Ab (Z (Aa ?_))
 replace H:=H.p2.preO (stk.length - (Bq op).size) (by omega)|>.h1 (A:=Y Bf (.slice A1 (stk.length - ((Bq op).size)) c2) (stk.take (stk.length - (Bq op).size)))
 refine Ae (Ah 3 U (Ab (Z (An (Dy U U U ?_)))))
 replace H:=H.p1.h3 (C:=Y Bf v20 (stk.drop (stk.length - (Bq op).size)))
 have e:=M1 (op:=op) (stk:=stk) (by omega) (hf.symm.trans (Vm (by simp only [List.length_drop];omega)))
 exact Al ⟨_,_,by rw [e]<;>rfl,by rw [e]<;>rfl⟩ H
theorem Ey (r:Nat) (pv:Value) (key:ByteArray) (vv:Value) (fuel pos steps:Int) (halted:Bool) (sv:Value) (g:Nat→A9) (tv mv:Value) (stk:List A9) (vvs:Value) (vs:List A9) (hst:stk.length≤16) (hvs:vs.length≤16):
    Cn Tryz.prog 301 [.pointer (some ⟨r,0,none⟩),vvs] [blk r (Bn pv key vv fuel pos steps halted sv g tv mv) 334,Y Bf sv stk] [Ac Bf vvs vs] (fun v Bs=>∃ sv2,v=.int .i64 (Bu stk vs).1∧Bs=[blk r (Bn pv key vv fuel pos steps halted sv2 g tv mv) 334,Y Bf sv2 (Bu stk vs).2]):=by
 intro w0 F0 H
 obtain ⟨A1,c2,rfl,hc3,hm4,hp5⟩:=H.fR 0 rfl
 refine enter Tryz.func301 U U (Nat.le_of_ble_eq_true U) (Aa (Ae (Ad U (Ab (Z ?_)))))
 replace H:Hd _ _ _ [blk r (Bn pv key vv fuel pos steps halted sv g tv mv) 334,Y Bf sv stk] [Ac Bf (.slice A1 vs.length c2) vs]:=H
 refine Aa (Aa (Ae (Ad U (V U U (Bj U It U) (Ad U (Ab (Z (AW (B1 (σ:=Nat) (fun k=>[(0,.pointer (some ⟨r,0,none⟩)),(1,.slice A1 vs.length c2),(7,.slice A1 vs.length c2),(8,.int .i64 ((vs.length:Nat):Int)),(9,.int .i64 ((k:Nat):Int))]) (fun k w=>(Hd w0 F0 w [blk r (Bn pv key vv fuel pos steps halted sv g tv mv) 334,Y Bf sv stk] [Ac Bf (.slice A1 vs.length c2) vs])∧(k≤vs.length)∧(∀ y∈vs.take k,Ff y=false)) (fun k=>vs.length - k) 0 ⟨rfl,rfl,rfl,rfl,rfl,trivial⟩ ⟨H,Nat.zero_le _,by (try dsimp only);simp⟩ ?_)))))))))
 rintro k w ⟨H,hk,hn⟩
 refine Aa (Ae (V U U (Br U U U) (Ab (Z (Aa ?_)))))
 refine AC U (fun h6=>?_) (fun h6=>?_)
 ·refine Az (Z (Aa (AW (Aa (Ae ?_)))))
  obtain ⟨x7,hx8⟩:∃ z9,vs[k]?=some z9:=⟨_,List.getElem?_eq_getElem (show k<vs.length by omega)⟩
  have th9:=H.thR 0 rfl hx8
  refine V U U (Bi (p:=Ba A1+k*3) U Ck U U (by omega) (by omega) th9 U) (V U U (BG (cs:=[.bool x7.t,.int .i64 x7.n,.string x7.b]) U Dz U U (H.elsR 0 U hx8 U)) (DD U U U DK H (fun b10 w H=>(Bx U U U Dz U U H U (Nat.le_of_ble_eq_true U) (fun u hu=>by simp [Value.cells] at hu;rcases hu with rfl|rfl|rfl<;>rfl) (fun w H=>?_)))))
  replace H:=H.h1 (A:=blk b10 [.bool x7.t,.int .i64 x7.n,.string x7.b] 330)
  refine Ab (Z (Aa (Ae (V U U (Aj U H_ U) (V U U (Am U DP U (H.cellI 0 U U)) (Ad U ?_))))))
  refine FC (d:=15) (b:=x7.t) U (fun h11=>?_) (fun h11=>?_)
  ·refine V U U (Aj U Gp U) (V U U (Am U Cl U (H.cellI 0 U U)) (V U U (DN U CK U) (V U U (CH U U U) (Ad U (Ab (Z ?_))))))
   refine AC U (fun h12=>?_) (fun h12=>?_)
   ·refine Aa (Ae (Ad U (Ab (Z (An (AZ (AA (AA (AZ (AA (Ap U U ?_)))))))))))
    have e:=ZN (stk:=stk) hx8 (TY h11 h12)
    replace H:=H.p2.p2.k2
    exact Al ⟨_,by rw [e]<;>rfl,by rw [e]<;>rfl⟩ H
   refine Az (Bb (Z (Ae (V U U (Bc (z:=((k+1:Nat):Int)) U U U (by rw [AI (by omega) (by omega)];omega)) (Ad U (Ab ?_))))))
   replace H:=H.p2.p2.k2
   exact Bo (s:=k) (k+1) ⟨rfl,rfl,rfl,rfl,rfl,trivial⟩ ⟨H,by (try dsimp only);omega,J8 hn hx8 (OG (.inr h12))⟩ (by (try dsimp only);omega)
  refine Ah 5 U (Ab (Z (Ch U (Az (Bb (Z (Ae (V U U (Bc (z:=((k+1:Nat):Int)) U U U (by rw [AI (by omega) (by omega)];omega)) (Ad U (Ab ?_))))))))))
  replace H:=H.p2.p2.k2
  exact Bo (s:=k) (k+1) ⟨rfl,rfl,rfl,rfl,rfl,trivial⟩ ⟨H,by (try dsimp only);omega,J8 hn hx8 (OG (.inl h11))⟩ (by (try dsimp only);omega)
 refine BQ (AV (AV (BS (Z (Aa (Aa (Ae (Ad U (V U U (AJ U U) (V U U (Aj U Ha U) (V U U (Am U Hn U (H.cellI 0 U U)) ?_)))))))))))
 obtain ⟨A13,c14,rfl,hc15,hm16,hp17⟩:=H.fA 1 rfl
 refine V U U (Bj U It U) (Ad U (V U U (Bj U It U) (V U U (Bc (z:=((stk.length+vs.length:Nat):Int)) U U U (by rw [AI (by omega) (by omega)];omega)) (V U U (CH U U U) (Ab (Z ?_))))))
 refine AC U (fun h18=>?_) (fun h18=>?_)
 ·refine Aa (Ae (Ad U (Ab (Z (An (AA (Ap U U ?_)))))))
  have e:=ZP (stk:=stk) (vs:=vs) (by rw [List.take_of_length_le (by omega)] at hn;exact hn) (by omega)
  exact Al ⟨_,by rw [e]<;>rfl,by rw [e]<;>rfl⟩ H
 refine Az (Z (Aa (Ae (Ah 2 U (V U U (AJ U U) (V U U (Aj U Ha U) (V U U (Am U Hn U (H.cellI 0 U U)) (Ad U ?_))))))))
 replace H:=H.p1
 refine CE (xs:=stk) (ys:=vs) U U U Ck DK U (by decide) U U H (by omega) (fun F hA hR=>hR _ (List.mem_of_getElem? (i:=0) U)) (fun v19 w H=>(V U U (AJ U U) (V U U (Aj U Ha U) ?_)))
 obtain ⟨A20,c21,rfl,hc22,hm23,hp24⟩:=H.fA 0 rfl
 replace H:=H.p1
 refine Bx U U U Hn U U H U (Nat.le_of_ble_eq_true U) (fun u hu=>by simp [Value.cells] at hu;subst hu;rfl) (fun w H=>?_)
 replace H:Hd _ _ _ [blk r (Bn pv key vv fuel pos steps halted (.slice A20 ((stk++vs).length) c21) g tv mv) 334,Y Bf (.slice A20 ((stk++vs).length) c21) (stk++vs)] [Ac Bf (.slice A1 vs.length c2) vs]:=H
 refine Ab (Z (Aa (Ae (Ad U (Ab (Z (An (Ap U U ?_))))))))
 have e:=ZO (stk:=stk) (vs:=vs) (by rw [List.take_of_length_le (by omega)] at hn;exact hn) (by omega)
 exact Al ⟨_,by rw [e]<;>rfl,by rw [e]<;>rfl⟩ H
theorem YV (r:Nat) (pv:Value) (key:ByteArray) (vv:Value) (fuel pos steps:Int) (halted:Bool) (sv:Value) (g:Nat→A9) (tv mv:Value) (stk:List A9) (vals:List ByteArray) (hst:stk.length≤16):
    Cn Tryz.prog 304 [.pointer (some ⟨r,0,none⟩)] [blk r (Bn pv key vv fuel pos steps halted sv g tv mv) 334,Y Bf sv stk] [Ac Bt vv vals] (fun v Bs=>∃ sv2 vv2,v=.int .i64 (FM stk vals).1∧Do Bt vv vals vv2 (FM stk vals).2.2∧Bs=[blk r (Bn pv key vv2 fuel pos steps halted sv2 g tv mv) 334,Y Bf sv2 (FM stk vals).2.1]):=by
 intro w0 F0 H
 obtain ⟨A1,c2,rfl,hc3,hm4,hp5⟩:=H.fR 0 rfl
 refine enter Tryz.func304 U U (Nat.le_of_ble_eq_true U) (Aa (Ae (Ad U (Ab (Z ?_)))))
 replace H:Hd _ _ _ [blk r (Bn pv key (.slice A1 vals.length c2) fuel pos steps halted sv g tv mv) 334,Y Bf sv stk] [Ac Bt (.slice A1 vals.length c2) vals]:=H
 refine Aa (Aa (Ae (Ad U (V U U (AJ U U) (V U U (Aj U KE U) (V U U (Am U LG U (H.cellI 0 U U)) (V U U (Bj U S_ U) (V U U (Bh U U U) (Ab (Z ?_))))))))))
 refine AC U (fun h6=>?_) (fun h6=>?_)
 ·refine Aa ?_
  have hv0:vals=[]:=List.eq_nil_of_length_eq_zero (by omega)
  refine Ae (Ad U (sc (GD 0) H l0 U U (Av Gt U U) ?_))
  rintro _ _ w ⟨rfl,rfl⟩ H
  refine Cg (parts:=[(0,.tmp 11)]) (vs:=[.agg #[.bool false,.int .i64 0,.string ⟨#[]⟩]]) (cs:=[.bool false,.int .i64 0,.string ⟨#[]⟩]) U U U Ck DK U (by decide) (by decide) U U H (fun b7 w H=>?_)
  replace H:=H.h1 (A:=blk b7 [.bool false,.int .i64 0,.string ⟨#[]⟩] 330)|>.p2|>.p2
  refine sc (Ey r pv key (.slice A1 vals.length c2) fuel pos steps halted sv g tv mv stk (.slice (some ⟨b7,0,none⟩) 1 1) [(⟨false,0,⟨#[]⟩⟩:A9)] (by omega) (Nat.le_of_ble_eq_true U)) H (lA 0 U (fun F h=>CC h rfl (by decide) (Be.flat_eq.2 U)) l0) U U (Av Eu U U) ?_
  rintro _ _ w ⟨s8,rfl,rfl⟩ H
  replace H:=H.h2 (A:=blk r (Bn pv key (.slice A1 vals.length c2) fuel pos steps halted s8 g tv mv) 334) (B:=Y Bf s8 ((Bu stk [(⟨false,0,⟨#[]⟩⟩:A9)]).2))
  refine Ad U (Ab (Z (An (AA (Ap U U ?_)))))
  replace H:=H.k2
  have e:FM stk vals=((Bu stk [DA 0]).1,(Bu stk [DA 0]).2,[]):=by rw [hv0];rfl
  exact Al ⟨s8,.slice A1 vals.length c2,by rw [e]<;>rfl,by rw [e,hv0]<;>exact Do.refl _ _ _,by rw [e]<;>rfl⟩ H
 refine Az (Z (Aa (Ae (Ad U (V U U (AJ U U) (V U U (Aj U KE U) (V U U (Am U LG U (H.cellI 0 U U)) ?_)))))))
 obtain ⟨x9,hx10⟩:∃ z9,vals[0]?=some z9:=⟨_,List.getElem?_eq_getElem (show 0<vals.length by omega)⟩
 have th11:=H.thR 0 rfl hx10
 refine V U U (Bi (p:=Ba A1+0*1) U Io U U (by omega) (by omega) th11 (by omega)) (V U U (Am U Cl U (H.elR 0 U hx10 (q:=0) U U)) (Ad U (Ab (Z (Aa (Ae (Ah 2 U (V U U (AJ U U) (V U U (Aj U KE U) (V U U (Am U LG U (H.cellI 0 U U)) (V U U (JO U Io U U (by omega) (by omega) U) (V U U (AJ U U) (V U U (Aj U KE U) (Bx U U U LG U U H U (Nat.le_of_ble_eq_true U) (fun u hu=>by simp [Value.cells] at hu;subst hu;rfl) (fun w H=>?_)))))))))))))))
 replace H:=H.h1 (A:=blk r (Bn pv key (.slice (D7 A1 c2 1 1) (vals.length - 1) (c2 - 1)) fuel pos steps halted sv g tv mv) 334)
 refine Ab (Z (Aa (Ae (Ah 2 U (sc (Jd x9) H l0 U U (Av IP U U) ?_)))))
 rintro _ _ w ⟨rfl,rfl⟩ H
 refine sc (GD 1) H l0 U U (Av Gt U U) ?_
 rintro _ _ w ⟨rfl,rfl⟩ H
 refine Cg (parts:=[(0,.tmp 30),(1,.tmp 31)]) (vs:=[.agg #[.bool true,.int .i64 0,.string x9],.agg #[.bool false,.int .i64 1,.string ⟨#[]⟩]]) (cs:=[.bool true,.int .i64 0,.string x9,.bool false,.int .i64 1,.string ⟨#[]⟩]) U U U Ck DK U (by decide) (by decide) U U H (fun b12 w H=>?_)
 replace H:=H.h1 (A:=blk b12 [.bool true,.int .i64 0,.string x9,.bool false,.int .i64 1,.string ⟨#[]⟩] 330)|>.p2|>.p2
 refine sc (Ey r pv key (.slice (D7 A1 c2 1 1) (vals.length - 1) (c2 - 1)) fuel pos steps halted sv g tv mv stk (.slice (some ⟨b12,0,none⟩) 2 2) [(⟨true,0,x9⟩:A9),(⟨false,1,⟨#[]⟩⟩:A9)] (by omega) (Nat.le_of_ble_eq_true U)) H (lA 0 U (fun F h=>CC h rfl (by decide) (Be.flat_eq.2 U)) l0) U U (Av Eu U U) ?_
 rintro _ _ w ⟨s13,rfl,rfl⟩ H
 replace H:=H.h2 (A:=blk r (Bn pv key (.slice (D7 A1 c2 1 1) (vals.length - 1) (c2 - 1)) fuel pos steps halted s13 g tv mv) 334) (B:=Y Bf s13 ((Bu stk [(⟨true,0,x9⟩:A9),(⟨false,1,⟨#[]⟩⟩:A9)]).2))
 refine Ad U (Ab (Z (An (Ap U U ?_))))
 replace H:=H.k2
 have e:=YU (stk:=stk) hx10
 exact Al ⟨s13,.slice (D7 A1 c2 1 1) (vals.length - 1) (c2 - 1),by rw [e]<;>rfl,by rw [e];exact fun w F h=>I5 h (by omega),by rw [e]<;>rfl⟩ H
theorem U2 (r:Nat) (pv:Value) (key:ByteArray) (vv:Value) (fuel pos steps:Int) (halted:Bool) (sv:Value) (g:Nat→A9) (tv mv:Value) (told:List Aq) (ek ew:ByteArray) (hto:told.length≤40):
    Cn Tryz.prog 312 [.pointer (some ⟨r,0,none⟩),.string ek,.string ew] [blk r (Bn pv key vv fuel pos steps halted sv g tv mv) 334,Y Ag tv told] [] (fun v Bs=>∃ tv2,v=.int .i64 (Eb told ek ew).1∧Bs=[blk r (Bn pv key vv fuel pos steps halted sv g tv2 mv) 334,Y Ag tv2 (Eb told ek ew).2]):=by
 intro w0 F0 H
 obtain ⟨A1,c2,rfl,hc3,hm4,hp5⟩:=H.fA 1 rfl
 refine enter Tryz.func312 U U (Nat.le_of_ble_eq_true U) (Aa (Ae (Ad U (Ab (Z ?_)))))
 replace H:Hd _ _ _ [blk r (Bn pv key vv fuel pos steps halted sv g (.slice A1 told.length c2) mv) 334,Y Ag (.slice A1 told.length c2) told] []:=H
 refine Aa (AW (Aa (Ae (Ad U (V U U (DN U CK U) (V U U (CH U U U) (Ad U (Ab (Z ?_)))))))))
 refine AC U (fun h6=>?_) (fun h6=>?_)
 ·refine Aa (Ae (Ad U (Ab (Z (An (AZ (AA (Ap U U ?_))))))))
  have e:=UY (told:=told) (k:=ek) (v:=ew) h6
  exact Al ⟨_,by rw [e]<;>rfl,by rw [e]<;>rfl⟩ H
 refine Aa (Ae (Ad U (V U U (AJ U U) (V U U (Aj U KF U) (V U U (Am U DJ U (H.cellI 0 U U)) (V U U (Bj U Dt U) (V U U (C7 U U U) (Ad U (Ab (Z ?_))))))))))
 refine AC U (fun h7=>?_) (fun h7=>?_)
 ·refine Aa (Ae (Ad U (Ab (Z (An (AZ (AA (Ap U U ?_))))))))
  have e:=U1 (told:=told) (k:=ek) (v:=ew) h6 (by omega)
  exact Al ⟨_,by rw [e]<;>rfl,by rw [e]<;>rfl⟩ H
 refine Az (Bb (Z (Aa (Ae (Ah 2 U (V U U (AJ U U) (V U U (Aj U KF U) (V U U (Am U DJ U (H.cellI 0 U U)) (Ah 2 U (V U U (Dl (parts:=[(0,.tmp 23),(1,.tmp 24)]) (vs:=[.string ek,.string ew]) (cs:=[.string ek,.string ew]) U LV U U) (Cg (parts:=[(0,.tmp 25)]) (vs:=[.agg #[.string ek,.string ew]]) (cs:=[.string ek,.string ew]) U U U BM Dh U (by decide) (by decide) U U H (fun b8 w H=>?_))))))))))))
 replace H:=H.p2
 refine CE (xs:=told) (ys:=[(⟨ek,ew⟩:Aq)]) U U U BM Dh U (by decide) U U H (by first |omega|(simp only [List.length_cons,List.length_nil];omega)) (fun F hA hR=>CC (hA _ (List.mem_of_getElem? (i:=0) U)) U (by decide) (Be.flat_eq.2 U)) (fun v9 w H=>(V U U (AJ U U) (V U U (Aj U KF U) ?_)))
 obtain ⟨A10,c11,rfl,hc12,hm13,hp14⟩:=H.fA 0 rfl
 replace H:=H.p2
 refine Bx U U U DJ U U H U (Nat.le_of_ble_eq_true U) (fun u hu=>by simp [Value.cells] at hu;subst hu;rfl) (fun w H=>?_)
 replace H:Hd _ _ _ [blk r (Bn pv key vv fuel pos steps halted sv g (.slice A10 ((told++[(⟨ek,ew⟩:Aq)]).length) c11) mv) 334,Y Ag (.slice A10 ((told++[(⟨ek,ew⟩:Aq)]).length) c11) (told++[(⟨ek,ew⟩:Aq)]),blk b8 [.string ek,.string ew] 122] []:=H
 refine Ab (Z (Aa (Ae (Ad U (Ab (Z (An (Ap U U ?_))))))))
 replace H:=H.k2
 have e:=UZ (told:=told) (k:=ek) (v:=ew) h6 (by omega)
 exact Al ⟨_,by rw [e]<;>rfl,by rw [e]<;>rfl⟩ H
def gl:SP:=OL (Ms Tryz.prog "internal/strconv.uint64pow10" (fun cs=>cs=(Lib.pow10Tab.map fun z=>Value.int .u64 z).toArray)) (OL (Ms Tryz.prog "strconv.ErrSyntax" (fun cs=>∃ tp p,cs=#[.iface tp p])) (Ms Tryz.prog "strconv.ErrRange" (fun cs=>∃ tp p,cs=#[.iface tp p])))
def Hf (s:ByteArray):Int:=match Lib.parseIntB 64 s.data.toList with
 |.ok v=>if ID v=s then v else 0
 |_=>0
def dg:BA:=⟨ID,Hf⟩
abbrev B9 (b:Nat):SP:=Ks 305 b
theorem K5 (s:ByteArray):AG (dg.num s):=by
 show AG (Hf s)
 unfold Hf
 split
 ·rename_i v h
  have:=Lib.parseIntB_bounds h
  split
  ·unfold AG;omega
  ·exact IL
 ·exact IL
theorem VH (n:Int) (hn:AG n):Cn Tryz.prog 350 [.int .i64 n,.int .i64 10] [] [gl] (fun v Bs=>v=.string (dg.dig n)∧Bs=[]):=by
 intro w F H
 have htab:Lib.TabIs Tryz.prog w "internal/strconv.uint64pow10" .u64 Lib.pow10Tab:=H.factR (List.mem_cons_self ..) fun F h=>by
  obtain ⟨⟨g,h1,h2,cs,h3,rfl⟩,_⟩:=h
  exact h3
 refine (Go.Proofs.Tryz.strconv_FormatInt_10 n hn.1 hn.2 w htab).mono ?_
 rintro e w' ⟨rfl,k,os,rfl⟩
 exact ⟨_,rfl,[],⟨rfl,rfl⟩,H.after (e6 w k os)⟩
theorem Zy (s:ByteArray) (hs:s.size≤64) (v:Int) (h:Lib.parseIntB 64 s.data.toList=.ok v):Cn Tryz.prog 336 [.string s,.int .i64 10,.int .i64 64] [] [gl] (fun r Bs=>r=.tuple #[.int .i64 v,.nilIface]∧Bs=[]):=by
 intro w F H
 refine (Go.Proofs.Tryz.strconv_ParseInt_10_at64_ok s (by omega) v h w).mono ?_
 rintro e w' ⟨rfl,hw⟩
 refine ⟨_,rfl,[],⟨rfl,rfl⟩,?_⟩
 rcases hw with rfl|⟨t,rfl⟩
 ·exact H
 ·exact H.after (NW (Lib.bytesWorld_below ..))
theorem Zx (s:ByteArray) (hs:s.size≤64) (h:∀ v,Lib.parseIntB 64 s.data.toList≠.ok v):Cn Tryz.prog 336 [.string s,.int .i64 10,.int .i64 64] [] [gl] (fun r Bs=>∃ x te pe,r=.tuple #[.int .i64 x,.iface te pe]∧Bs=[]):=by
 intro w F H
 obtain ⟨tp,p,hS⟩:∃ tp p,w.var? Tryz.prog "strconv.ErrSyntax" =some #[.iface tp p]:=H.factR (List.mem_cons_self ..) fun F h=>by
  obtain ⟨_,⟨g,h1,h2,cs,h3,tp,p,rfl⟩,_⟩:=h
  exact ⟨tp,p,h3⟩
 obtain ⟨tq,q,hR⟩:∃ tp p,w.var? Tryz.prog "strconv.ErrRange" =some #[.iface tp p]:=H.factR (List.mem_cons_self ..) fun F h=>by
  obtain ⟨_,_,⟨g,h1,h2,cs,h3,tp,p,rfl⟩⟩:=h
  exact ⟨tp,p,h3⟩
 rcases hh:Lib.parseIntB 64 s.data.toList with v|_|_
 ·exact absurd hh (h v)
 ·refine (Go.Proofs.Tryz.strconv_ParseInt_10_at64_syntax_var s (by omega) (fun e he=>by rw [hh] at he;subst he;exact ⟨fun v=>nofun,nofun⟩) tp p w hS).mono ?_
  rintro e w' ⟨N,rfl,_,_,hb⟩
  exact ⟨_,rfl,[],⟨_,_,_,rfl,rfl⟩,H.after (NW hb)⟩
 ·refine (Go.Proofs.Tryz.strconv_ParseInt_10_at64_range_var s (by omega) hh tq q w hR).mono ?_
  rintro e w' ⟨N,rfl,_,_,hb⟩
  exact ⟨_,rfl,[],⟨_,_,_,rfl,rfl⟩,H.after (NW hb)⟩
theorem O3 (n:Int) (hn:AG n):
    Cn Tryz.prog 335 [.int .i64 n] [] [gl] (fun v Bs=>v=.string (dg.dig n)∧Bs=[]):=by
 intro w0 F0 H
 refine enter Tryz.func335 U U (Nat.le_of_ble_eq_true U) (Aa (Ae (Ad U (Ab (Z (Aa (Ae (Ad U (sc (VH n (by assumption)) H (lR 0 U l0) U U (Av XK U U) ?_)))))))))
 rintro _ _ w ⟨rfl,rfl⟩ H
 exact Ad U (Ab (Z (An (Ap U U (Al ⟨rfl,rfl⟩ H)))))
theorem Y1 {s:ByteArray} (h:∀ v,Lib.parseIntB 64 s.data.toList≠.ok v):dg.num s=0:=by
 show Hf s=0
 unfold Hf
 split
 ·rename_i v hh
  exact absurd hh (h v)
 ·rfl
theorem Y2 (s:ByteArray) (hs:s.size≤64):
    Cn Tryz.prog 311 [.string s] [] [gl] (fun v Bs=>v=.int .i64 (dg.num s)∧Bs=[]):=by
 intro w0 F0 H
 refine enter Tryz.func311 U U (Nat.le_of_ble_eq_true U) (Aa (Ae (Ad U (Ab (Z (Aa ?_))))))
 by_cases hok:∃ v,Lib.parseIntB 64 s.data.toList=.ok v
 ·refine Ae (Ad U ?_)
  obtain ⟨x0,hx0⟩:=hok
  have hxb:=Lib.parseIntB_bounds hx0
  have hx64:AG x0:=by unfold AG;omega
  refine sc (Zy s hs x0 hx0) H (lR 0 U l0) U U (Av QH U U) ?_
  rintro _ _ w ⟨rfl,rfl⟩ H
  refine Ah 5 U (Ab (Z (Aa (Aa (Ae (Ad U (V U U (Sb U S8 U (.inl ⟨rfl,rfl⟩)) (Ah 2 U (sc (O3 x0 (by assumption)) H (lR 0 U l0) U U (Av QG U U) ?_)))))))))
  rintro _ _ w ⟨rfl,rfl⟩ H
  refine Ad U (V U U (Nq U U U) (Ad U (Ab (Z ?_))))
  refine AC U (fun h1=>?_) (fun h1=>?_)
  ·refine Aa (Ae (Ad U (Ab (Z (An (AA (Ap U U ?_)))))))
   have e:dg.num s=0:=by show Hf s=_;unfold Hf;rw [hx0];exact if_neg h1
   exact Al ⟨by rw [e]<;>rfl,rfl⟩ H
  refine Az (Z (Aa (Ae (Ah 2 U (Ab (Z (An (Ap U U ?_))))))))
  have e:dg.num s=x0:=by show Hf s=_;unfold Hf;rw [hx0];exact if_pos (Classical.not_not.1 h1)
  exact Al ⟨by rw [e]<;>rfl,rfl⟩ H
 refine Ae (Ad U (sc (Zx s hs (fun v h=>hok ⟨v,h⟩)) H (lR 0 U l0) U U (Av QH U U) ?_))
 rintro _ _ w ⟨x0,te,pe,rfl,rfl⟩ H
 refine Ah 5 U (Ab (Z (Aa (Aa (Ae (Ad U (V U U (Sb U S8 U (.inr ⟨_,_,rfl,rfl⟩)) (Ah 6 U (Ab (Z (CN U (Aa (Ae (Ad U (Ab (Z (An (AA (Ap U U ?_)))))))))))))))))))
 have e:dg.num s=0:=Y1 (fun v h=>hok ⟨v,h⟩)
 exact Al ⟨by rw [e]<;>rfl,rfl⟩ H
theorem OA (b:Bool):
    Cn Tryz.prog 156 [.bool b] [] [] (fun v Bs=>v=.int .u32 (if b=true then 1 else 0)∧Bs=[]):=by
 intro w0 F0 H
 refine enter Tryz.func156 U U (Nat.le_of_ble_eq_true U) (Aa (Ae (Ad U (Ab (Z (Aa (Aa (Ae (Ad U (Ab (Z ?_)))))))))))
 refine Dp (b:=b) U (fun h1=>?_) (fun h1=>?_)
 ·exact Aa (Ae (Ad U (Ab (Z (An (AA (Ap U U (Al ⟨by simp [h1],rfl⟩ H))))))))
 exact Az (Z (Aa (Ae (Ad U (Ab (Z (An (Ap U U (Al ⟨by simp [h1],rfl⟩ H)))))))))
theorem ST (c:Nat) (d m:Int) (sm:Value) (md:Int) (fv:Value) (tx:ByteArray):
    Cn Tryz.prog 96 [.pointer (some ⟨c,3,none⟩),.bool true] [blk c [.int .u32 d,.int .i32 m,sm,.int .u32 md,fv,.string tx] 305] [] (fun v Bs=>v=.tuple #[]∧Bs=[blk c [.int .u32 d,.int .i32 m,sm,.int .u32 1,fv,.string tx] 305]):=by
 intro w0 F0 H
 refine enter Tryz.func96 U U (Nat.le_of_ble_eq_true U) (Ce (.e 0 (.e 1 (.e 2 (.e 3 (.m 4 (.m 5 .z)))))) (fun w=>∃ Ar,Hd w0 F0 w (Ar) []) mo (by kernel_rfl) (fun w H=>⟨_,H⟩) H (fun w H=>(Au U (Ao U U U (fun w ⟨Ar,H⟩=>AJ U U) (Ao U U U (fun w ⟨Ar,H⟩=>Aj U Jr U) (Au U (AO U (sc (OA true) H l0 U U (Av Qs U U) ?_))))))))
 rintro _ _ w ⟨rfl,rfl⟩ H
 refine AH ⟨_,H⟩ (AO U (SG Pf U U U U H U (fun w H=>?_)))
 replace H:Hd _ _ _ [blk c [.int .u32 d,.int .i32 m,sm,.int .u32 1,fv,.string tx] 305] []:=H
 exact AH ⟨_,H⟩ (BO (DX U (Al ⟨rfl,rfl⟩ H)))
theorem dU (c:Nat) (d m:Int) (sm:Value) (md:Int) (fv:Value) (tx:ByteArray):
    LS Tryz.prog 96 [.pointer (some ⟨c,0,none⟩),.bool true] [blk c [.int .u32 d,.int .i32 m,sm,.int .u32 md,fv,.string tx] 305] [] (fun v Bs=>v=.tuple #[]∧Bs=[blk c [.int .u32 1,.int .i32 m,sm,.int .u32 md,fv,.string tx] 305]):=by
 intro w0 F0 ufm H
 refine Pb Tryz.func96 U U (Nat.le_of_ble_eq_true U) (Ce (.e 0 (.e 1 (.e 2 (.e 3 (.m 4 (.m 5 .z)))))) (fun w=>∃ Ar,Hd w0 F0 w (Ar) []) mo (by kernel_rfl) (fun w H=>⟨_,H⟩) H (fun w H=>(Au U (Ao U U U (fun w ⟨Ar,H⟩=>AJ U U) (Ao U U U (fun w ⟨Ar,H⟩=>Aj U Jr U) (Au U (AO U (sc (OA true) H l0 U U (Av Qs U U) ?_))))))))
 rintro _ _ w ⟨rfl,rfl⟩ H
 refine AH ⟨_,H⟩ (AO U (SG Pf U U U U H U (fun w H=>?_)))
 replace H:Hd _ _ _ [blk c [.int .u32 1,.int .i32 m,sm,.int .u32 md,fv,.string tx] 305] []:=H
 exact AH ⟨_,H⟩ (BO (DX U (Al ⟨rfl,rfl⟩ H)))
theorem QZ (c:Nat) (m:Int) (sm:Value) (md:Int) (fv:Value) (tx:ByteArray):
    Cn Tryz.prog 135 [.pointer (some ⟨c,0,none⟩)] [] [blk c [.int .u32 0,.int .i32 m,sm,.int .u32 md,fv,.string tx] 305] (fun v Bs=>v=.bool false∧Bs=[]):=by
 intro w0 F0 H
 refine enter Tryz.func135 U U (Nat.le_of_ble_eq_true U) (Aa (Ae (Ad U (Ab (Z (Aa (Ae (Ad U (V U U (AJ U U) (V U U (Aj U Jr U) (V U U (Ld L8 U U (H.cellRI 0 U U)) (V U U (Cx U U U) (Ad U (Ab (Z (An (Ap U U ?_)))))))))))))))))
 replace H:Hd _ _ _ [] [blk c [.int .u32 0,.int .i32 m,sm,.int .u32 md,fv,.string tx] 305]:=H
 exact Al ⟨rfl,rfl⟩ H
theorem Yj (c:Nat) (m:Int) (sm:Value) (md:Int) (fv:Value) (tx:ByteArray):
    Cn Tryz.prog 135 [.pointer (some ⟨c,0,none⟩)] [] [blk c [.int .u32 1,.int .i32 m,sm,.int .u32 md,fv,.string tx] 305] (fun v Bs=>v=.bool true∧Bs=[]):=by
 intro w0 F0 H
 refine enter Tryz.func135 U U (Nat.le_of_ble_eq_true U) (Aa (Ae (Ad U (Ab (Z (Aa (Ae (Ad U (V U U (AJ U U) (V U U (Aj U Jr U) (V U U (Ld L8 U U (H.cellRI 0 U U)) (V U U (Cx U U U) (Ad U (Ab (Z (An (Ap U U ?_)))))))))))))))))
 replace H:Hd _ _ _ [] [blk c [.int .u32 1,.int .i32 m,sm,.int .u32 md,fv,.string tx] 305]:=H
 exact Al ⟨rfl,rfl⟩ H
theorem V_ (c:Nat) (d:Int) (sm:Value) (md:Int) (fv:Value) (tx:ByteArray):
    Cn Tryz.prog 281 [.pointer (some ⟨c,1,none⟩)] [blk c [.int .u32 d,.int .i32 0,sm,.int .u32 md,fv,.string tx] 305] [] (fun v Bs=>v=.tuple #[]∧Bs=[blk c [.int .u32 d,.int .i32 1,sm,.int .u32 md,fv,.string tx] 305]):=by
 intro w0 F0 H
 refine enter Tryz.func281 U U (Nat.le_of_ble_eq_true U) (Aa (Ae (V U U (Lg Pg U U) (Ab (Z (Aa (Aa (Ae (Ad U (V U U (AJ U U) (V U U (Aj U Mi U) (SF Vf U U U U H U (fun w H=>?_)))))))))))))
 replace H:Hd _ _ _ [blk c [.int .u32 d,.int .i32 1,sm,.int .u32 md,fv,.string tx] 305] []:=H
 exact Ab (Z (CN U (Aa (CN U (Aa (Ae (V U U (Lg Ph U U) (Ab (Z (Ae (Ad U (V U U (Sg U Tb Tf RD U (H.cellI 0 U U)) (V U U (Sd Vg U U) (Ab (Z (An (AA (No U (Al ⟨rfl,rfl⟩ H)))))))))))))))))))
theorem Yk (c:Nat) (d:Int) (sm:Value) (md:Int) (fv:Value) (tx:ByteArray):
    Cn Tryz.prog 265 [.pointer (some ⟨c,1,none⟩)] [blk c [.int .u32 d,.int .i32 0,sm,.int .u32 md,fv,.string tx] 305] [] (fun v Bs=>v=.tuple #[]∧Bs=[blk c [.int .u32 d,.int .i32 1,sm,.int .u32 md,fv,.string tx] 305]):=by
 intro w0 F0 H
 refine enter Tryz.func265 U U (Nat.le_of_ble_eq_true U) (Ae (Ad U (V U U (AJ U U) (V U U (Aj U PD U) (sc (V_ c d sm md fv tx) H l0 U U (Av Xq U U) ?_)))))
 rintro _ _ w ⟨rfl,rfl⟩ H
 refine Ab (DX U ?_)
 replace H:Hd _ _ _ [blk c [.int .u32 d,.int .i32 1,sm,.int .u32 md,fv,.string tx] 305] []:=H
 exact Al ⟨rfl,rfl⟩ H
theorem Wn (c:Nat) (d:Int) (sm:Value) (md:Int) (fv:Value) (tx:ByteArray):
    Cn Tryz.prog 282 [.pointer (some ⟨c,1,none⟩)] [blk c [.int .u32 d,.int .i32 1,sm,.int .u32 md,fv,.string tx] 305] [] (fun v Bs=>v=.tuple #[]∧Bs=[blk c [.int .u32 d,.int .i32 0,sm,.int .u32 md,fv,.string tx] 305]):=by
 intro w0 F0 H
 refine enter Tryz.func282 U U (Nat.le_of_ble_eq_true U) (Aa (CN U (Aa (Ae (Ad U (V U U (AJ U U) (V U U (Aj U Mi U) (V U U (Am U eJ U (H.cellI 0 U U)) (Ab (Z (Aa (Ae (Ad U (V U U (Sg U Tb Tf RD U (H.cellI 0 U U)) (V U U (Sd Vh U U) (Ab (Z (Ae (V U U (Lg Pg U U) (Ab (Z (Aa (Ae (Ad U (V U U (AJ U U) (V U U (Aj U Mi U) (cI Vi U U U U H U U (fun w H=>?_))))))))))))))))))))))))))))
 replace H:Hd _ _ _ [blk c [.int .u32 d,.int .i32 0,sm,.int .u32 md,fv,.string tx] 305] []:=H
 exact Ad U (Ab (Z (Aa (Aa (Ae (Ad U (V U U (Cx U U U) (Ab (Z (Ch U (Az (Z (Ae (V U U (Lg Ph U U) (Ab (DX U (Al ⟨rfl,rfl⟩ H)))))))))))))))))
theorem eY (c:Nat) (d:Int) (sm:Value) (md:Int) (fv:Value) (tx:ByteArray):
    LS Tryz.prog 266 [.pointer (some ⟨c,1,none⟩)] [blk c [.int .u32 d,.int .i32 1,sm,.int .u32 md,fv,.string tx] 305] [] (fun v Bs=>v=.tuple #[]∧Bs=[blk c [.int .u32 d,.int .i32 0,sm,.int .u32 md,fv,.string tx] 305]):=by
 intro w0 F0 ufm H
 refine Pb Tryz.func266 U U (Nat.le_of_ble_eq_true U) (Ae (Ad U (V U U (AJ U U) (V U U (Aj U PD U) (sc (Wn c d sm md fv tx) H l0 U U (Av Xr U U) ?_)))))
 rintro _ _ w ⟨rfl,rfl⟩ H
 refine Ab (DX U ?_)
 replace H:Hd _ _ _ [blk c [.int .u32 d,.int .i32 0,sm,.int .u32 md,fv,.string tx] 305] []:=H
 exact Al ⟨rfl,rfl⟩ H
set_option maxRecDepth 100000 in
theorem UU (c pl:Nat) (sm:Value) (md:Int) (fv:Value) (tx tx2:ByteArray) (Rs:List SP)
  (hcl:Cn Tryz.prog 233 [.pointer (some ⟨pl,0,none⟩)] [blk c [.int .u32 0,.int .i32 1,sm,.int .u32 md,fv,.string tx] 305] Rs (fun v Bs=>v=.tuple #[]∧Bs=[blk c [.int .u32 0,.int .i32 1,sm,.int .u32 md,fv,.string tx2] 305])):
  Cn Tryz.prog 252 [.pointer (some ⟨c,0,none⟩),.func (.func 233) #[] #[.pointer (some ⟨pl,0,none⟩)]] [blk c [.int .u32 0,.int .i32 0,sm,.int .u32 md,fv,.string tx] 305] Rs (fun v Bs=>v=.tuple #[]∧Bs=[blk c [.int .u32 1,.int .i32 0,sm,.int .u32 md,fv,.string tx2] 305]):=by
 intro w F H
 have hnot:∀ (x:Bool) (w:World),(Op.unary .not (.bool x)).run Tryz.prog w=.ok (.bool (!x)) w:=fun _ _=>rfl
 go_enter_defers Tryz.func252,Tryz.ntmps252
 go_wp2_with (first
  |(go_at_call 265;refine (IB (As:=[]) (Yk c 0 sm md fv tx) H l0).mono ?_;rintro e w1 ⟨v,rfl,Bs,⟨rfl,rfl⟩,H1⟩)
  |(go_at_call 135;refine (IB (Cs:=[]) (QZ c 1 sm md fv tx) H1 (lA 0 rfl (fun _ h=>h) l0)).mono ?_;rintro e w2 ⟨v,rfl,Bs,⟨rfl,rfl⟩,H2⟩)
  |(go_at_call 233;refine (IB (As:=[]) hcl H2 MO).mono ?_;rintro e w3 ⟨v,rfl,Bs,⟨rfl,rfl⟩,H3⟩))
 refine leaves_cons (f:=96) (args:=#[.pointer (some ⟨c,0,none⟩),.bool true]) (by simp) (by simp [go_sem]) ?_
 refine (ON (As:=[]) (dU c 0 1 sm md fv tx2) H3 l0).mono ?_
 rintro e u' w4 ⟨rfl,v,rfl,Bs,⟨rfl,rfl⟩,H4⟩
 refine leaves_cons (f:=266) (args:=#[.pointer (some ⟨c,1,none⟩)]) (by simp [settle]) (by simp [go_sem]) ?_
 refine (ON (As:=[]) (eY c 1 sm md fv tx2) H4 l0).mono ?_
 rintro e u' w5 ⟨rfl,v,rfl,Bs,⟨rfl,rfl⟩,H5⟩
 exact ⟨.tuple #[],by simp [results,Tryz.results252],.tuple #[],rfl,_,⟨rfl,rfl⟩,H5⟩
theorem eA (nb:Nat) (n:Int) (hn:AG n):
    Cn Tryz.prog 334 [.pointer (some ⟨nb,0,none⟩)] [] [blk nb [.int .i64 n] 2,gl] (fun v Bs=>v=.string (dg.dig n)∧Bs=[]):=by
 intro w0 F0 H
 refine enter Tryz.func334 U U (Nat.le_of_ble_eq_true U) (Aa (Ae (Ad U (Ab (Z (Aa (Ae (V U U (Am U Eg U (H.cellRI 0 U U)) (sc (O3 n (by assumption)) H (lR 1 U l0) U U (Av QG U U) ?_)))))))))
 rintro _ _ w ⟨rfl,rfl⟩ H
 refine Ad U (Ab (Z (An (Ap U U ?_))))
 replace H:Hd _ _ _ [] [blk nb [.int .i64 n] 2,gl]:=H
 exact Al ⟨rfl,rfl⟩ H
theorem VN (c pl nb:Nat) (n:Int) (hn:AG n) (sm:Value) (md:Int) (tx:ByteArray):
    Cn Tryz.prog 233 [.pointer (some ⟨pl,0,none⟩)] [blk c [.int .u32 0,.int .i32 1,sm,.int .u32 md,.func (.func 334) #[] #[.pointer (some ⟨nb,0,none⟩)],.string tx] 305] [blk pl [.pointer (some ⟨c,0,none⟩)] 212,blk nb [.int .i64 n] 2,gl] (fun v Bs=>v=.tuple #[]∧Bs=[blk c [.int .u32 0,.int .i32 1,sm,.int .u32 md,.func (.func 334) #[] #[.pointer (some ⟨nb,0,none⟩)],.string (dg.dig n)] 305]):=by
 intro w0 F0 H
 refine enter Tryz.func233 U U (Nat.le_of_ble_eq_true U) (Aa (Ae (V U U (Am U FT U (H.cellRI 0 U U)) (V U U (AJ U U) (V U U (Aj U PH U) (V U U (Am U S3 U (H.cellI 0 U U)) (V U U (ZZ U eR U U) (Ab (Z (CN U (Ce (.e 0 (.e 1 (.e 2 (.e 3 (.m 4 (.m 5 (.e 6 (.e 7 (.m 8 .z))))))))) (fun w=>∃ Ar,Hd w0 F0 w (Ar) [blk pl [.pointer (some ⟨c,0,none⟩)] 212,blk nb [.int .i64 n] 2,gl]) mo (by kernel_rfl) (fun w H=>⟨_,H⟩) H (fun w H=>(Ao U U U (fun w ⟨Ar,H⟩=>Am U FT U (H.cellRI 0 U U)) (Ao U U U (fun w ⟨Ar,H⟩=>Am U FT U (H.cellRI 0 U U)) (Ao U U U (fun w ⟨Ar,H⟩=>AJ U U) (Ao U U U (fun w ⟨Ar,H⟩=>Aj U PH U) (AO U (V U U (Am U S3 U (H.cellI 0 U U)) ?_))))))))))))))))))
 refine AH ⟨_,H⟩ (AO U (sc (eA nb n hn) H (lR 1 U (lR 2 U l0)) U U (GI (vs:=[]) (fs:=#[]) (cs:=#[.pointer (some ⟨nb,0,none⟩)]) XI U U U) ?_))
 rintro _ _ w ⟨rfl,rfl⟩ H
 refine AH ⟨_,H⟩ (Ao U U U (fun w ⟨Ar,H⟩=>AJ U U) (Ao U U U (fun w ⟨Ar,H⟩=>Aj U Mj U) (AO U (Bx U U U Cl U U H U (Nat.le_of_ble_eq_true U) (fun u hu=>by simp [Value.cells] at hu;subst hu;rfl) (fun w H=>?_)))))
 replace H:Hd _ _ _ [blk c [.int .u32 0,.int .i32 1,sm,.int .u32 md,.func (.func 334) #[] #[.pointer (some ⟨nb,0,none⟩)],.string (dg.dig n)] 305] [blk pl [.pointer (some ⟨c,0,none⟩)] 212,blk nb [.int .i64 n] 2,gl]:=H
 exact AH ⟨_,H⟩ (BO (DX U (Al ⟨rfl,rfl⟩ H)))
theorem US (c pl nb:Nat) (n:Int) (hn:AG n) (sm:Value) (md:Int) (tx:ByteArray):
    Cn Tryz.prog 232 [.pointer (some ⟨c,0,none⟩),.func (.func 233) #[] #[.pointer (some ⟨pl,0,none⟩)]] [blk c [.int .u32 0,.int .i32 0,sm,.int .u32 md,.func (.func 334) #[] #[.pointer (some ⟨nb,0,none⟩)],.string tx] 305] [blk pl [.pointer (some ⟨c,0,none⟩)] 212,blk nb [.int .i64 n] 2,gl] (fun v Bs=>v=.tuple #[]∧Bs=[blk c [.int .u32 1,.int .i32 0,sm,.int .u32 md,.func (.func 334) #[] #[.pointer (some ⟨nb,0,none⟩)],.string (dg.dig n)] 305]):=by
 intro w0 F0 H
 refine enter Tryz.func232 U U (Nat.le_of_ble_eq_true U) (Aa (Ae (Ad U (V U U (AJ U U) (V U U (Aj U PE U) (sc (QZ c 0 sm md (.func (.func 334) #[] #[.pointer (some ⟨nb,0,none⟩)]) tx) H (lA 0 U (fun _ h=>h) l0) U U (Av MF U U) ?_))))))
 rintro _ _ w ⟨rfl,rfl⟩ H
 refine V U U (ES U U U) (Ab (Z (CN U (Ae (Ah 2 U (sc (UU c pl sm md (.func (.func 334) #[] #[.pointer (some ⟨nb,0,none⟩)]) tx (dg.dig n) [blk pl [.pointer (some ⟨c,0,none⟩)] 212,blk nb [.int .i64 n] 2,gl] (VN c pl nb n hn sm md tx)) H (lR 0 U (lR 1 U (lR 2 U l0))) U U (Av Xd U U) ?_))))))
 rintro _ _ w ⟨rfl,rfl⟩ H
 refine Ab (DX U ?_)
 replace H:Hd _ _ _ [blk c [.int .u32 1,.int .i32 0,sm,.int .u32 md,.func (.func 334) #[] #[.pointer (some ⟨nb,0,none⟩)],.string (dg.dig n)] 305] [blk pl [.pointer (some ⟨c,0,none⟩)] 212,blk nb [.int .i64 n] 2,gl]:=H
 exact Al ⟨rfl,rfl⟩ H
theorem UT (c pl:Nat) (m:Int) (sm:Value) (md:Int) (fv:Value) (tx:ByteArray):
    Cn Tryz.prog 232 [.pointer (some ⟨c,0,none⟩),.func (.func 233) #[] #[.pointer (some ⟨pl,0,none⟩)]] [] [blk c [.int .u32 1,.int .i32 m,sm,.int .u32 md,fv,.string tx] 305] (fun v Bs=>v=.tuple #[]∧Bs=[]):=by
 intro w0 F0 H
 refine enter Tryz.func232 U U (Nat.le_of_ble_eq_true U) (Aa (Ae (Ad U (V U U (AJ U U) (V U U (Aj U PE U) (sc (Yj c m sm md fv tx) H (lR 0 U l0) U U (Av MF U U) ?_))))))
 rintro _ _ w ⟨rfl,rfl⟩ H
 refine V U U (ES U U U) (Ab (Z (Ch U (Az (DX U ?_)))))
 replace H:Hd _ _ _ [] [blk c [.int .u32 1,.int .i32 m,sm,.int .u32 md,fv,.string tx] 305]:=H
 exact Al ⟨rfl,rfl⟩ H
theorem VL (c nb:Nat) (n:Int) (hn:AG n):
    Cn Tryz.prog 191 [.pointer (some ⟨c,0,none⟩)] [blk c [.int .u32 0,.int .i32 0,.int .u32 0,.int .u32 0,.func (.func 334) #[] #[.pointer (some ⟨nb,0,none⟩)],.string ⟨#[]⟩] 305] [blk nb [.int .i64 n] 2,gl] (fun v Bs=>v=.string (dg.dig n)∧Bs=[blk c [.int .u32 1,.int .i32 0,.int .u32 0,.int .u32 1,.func (.func 334) #[] #[.pointer (some ⟨nb,0,none⟩)],.string (dg.dig n)] 305]):=by
 intro w0 F0 H
 refine enter Tryz.func191 U U (Nat.le_of_ble_eq_true U) (Aa (Ae (CZ U U U U H (fun b1 w H=>(Ad U (Ab (Z ?_)))))))
 replace H:Hd _ _ _ [blk b1 [.pointer (some ⟨c,0,none⟩)] 212,blk c [.int .u32 0,.int .i32 0,.int .u32 0,.int .u32 0,.func (.func 334) #[] #[.pointer (some ⟨nb,0,none⟩)],.string ⟨#[]⟩] 305] [blk nb [.int .i64 n] 2,gl]:=H
 refine Aa (Aa (Ae (V U U (Am U FT U (H.cellI 0 U U)) (V U U (Dg U LI U U) (Ab (Z (Ch U (Az (Z (Aa (Ae (V U U (Am U FT U (H.cellI 0 U U)) (V U U (AJ U U) (V U U (Aj U PG U) ?_))))))))))))))
 replace H:=H.p1
 refine sc (ST c 0 0 (.int .u32 0) 0 (.func (.func 334) #[] #[.pointer (some ⟨nb,0,none⟩)]) (⟨#[]⟩:ByteArray)) H l0 U U (Av QP U U) ?_
 rintro _ _ w ⟨rfl,rfl⟩ H
 replace H:=H.h1 (A:=blk c [.int .u32 0,.int .i32 0,.int .u32 0,.int .u32 1,.func (.func 334) #[] #[.pointer (some ⟨nb,0,none⟩)],.string ⟨#[]⟩] 305)
 refine Ab (Z (Aa (Ae (V U U (Am U FT U (H.cellI 1 U U)) (V U U (AJ U U) (V U U (Aj U PF U) (V U U (JP (fs:=#[]) (cs:=#[.pointer (some ⟨b1,0,none⟩)]) U U U) (sc (US c b1 nb n hn (.int .u32 0) 1 ⟨#[]⟩) H (lA 0 U (fun _ h=>h) (lR 0 U (lR 1 U l0))) U U (Av Qz U U) ?_))))))))
 rintro _ _ w ⟨rfl,rfl⟩ H
 replace H:=H.h1 (A:=blk c [.int .u32 1,.int .i32 0,.int .u32 0,.int .u32 1,.func (.func 334) #[] #[.pointer (some ⟨nb,0,none⟩)],.string (dg.dig n)] 305)
 refine Ab (Z (Aa (Ae (V U U (Am U FT U (H.cellI 1 U U)) (V U U (AJ U U) (V U U (Aj U Mj U) (V U U (Am U Cl U (H.cellI 0 U U)) (Ad U (Ab (Z (An (Ap U U ?_))))))))))))
 replace H:=H.k1
 exact Al ⟨rfl,rfl⟩ H
theorem Mr (c:Nat) (fv:Value) (tx:ByteArray):
    Cn Tryz.prog 191 [.pointer (some ⟨c,0,none⟩)] [blk c [.int .u32 1,.int .i32 0,.int .u32 0,.int .u32 1,fv,.string tx] 305] [] (fun v Bs=>v=.string tx∧Bs=[blk c [.int .u32 1,.int .i32 0,.int .u32 0,.int .u32 1,fv,.string tx] 305]):=by
 intro w0 F0 H
 refine enter Tryz.func191 U U (Nat.le_of_ble_eq_true U) (Aa (Ae (CZ U U U U H (fun b1 w H=>(Ad U (Ab (Z ?_)))))))
 replace H:Hd _ _ _ [blk b1 [.pointer (some ⟨c,0,none⟩)] 212,blk c [.int .u32 1,.int .i32 0,.int .u32 0,.int .u32 1,fv,.string tx] 305] []:=H
 refine Aa (Aa (Ae (V U U (Am U FT U (H.cellI 0 U U)) (V U U (Dg U LI U U) (Ab (Z (Ch U (Az (Z (Aa (Ae (V U U (Am U FT U (H.cellI 0 U U)) (V U U (AJ U U) (V U U (Aj U PG U) ?_))))))))))))))
 replace H:=H.p1
 refine sc (ST c 1 0 (.int .u32 0) 1 fv tx) H l0 U U (Av QP U U) ?_
 rintro _ _ w ⟨rfl,rfl⟩ H
 refine Ab (Z (Aa (Ae (V U U (Am U FT U (H.cellI 1 U U)) (V U U (AJ U U) (V U U (Aj U PF U) (V U U (JP (fs:=#[]) (cs:=#[.pointer (some ⟨b1,0,none⟩)]) U U U) (sc (UT c b1 0 (.int .u32 0) 1 fv tx) H (lA 0 U (fun _ h=>h) l0) U U (Av Qz U U) ?_))))))))
 rintro _ _ w ⟨rfl,rfl⟩ H
 refine Ab (Z (Aa (Ae (V U U (Am U FT U (H.cellI 1 U U)) (V U U (AJ U U) (V U U (Aj U Mj U) (V U U (Am U Cl U (H.cellI 0 U U)) (Ad U (Ab (Z (An (Ap U U ?_))))))))))))
 replace H:=H.k1
 exact Al ⟨rfl,rfl⟩ H
theorem X_ (nb:Nat):
    Cn Tryz.prog 200 [.func (.func 334) #[] #[.pointer (some ⟨nb,0,none⟩)]] [] [] (fun v Bs=>∃ b,v=.pointer (some ⟨b,0,none⟩)∧Bs=[blk b [.int .u32 0,.int .i32 0,.int .u32 0,.int .u32 0,.func (.func 334) #[] #[.pointer (some ⟨nb,0,none⟩)],.string ⟨#[]⟩] 305]):=by
 intro w0 F0 H
 refine enter Tryz.func200 U U (Nat.le_of_ble_eq_true U) (Aa (Ae (Ad U (Ab (Z (Aa (Ae (Ad U (V U U (Dl (parts:=[(2,.tmp 3)]) (vs:=[.func (.func 334) #[] #[.pointer (some ⟨nb,0,none⟩)]]) (cs:=[.int .u32 0,.int .i32 0,.int .u32 0,.int .u32 0,.func (.func 334) #[] #[.pointer (some ⟨nb,0,none⟩)],.string ⟨#[]⟩]) U TO U U) (CZ U U U U H (fun b1 w H=>(Ad U (Ab (Z ?_))))))))))))))
 replace H:Hd _ _ _ [blk b1 [.int .u32 0,.int .i32 0,.int .u32 0,.int .u32 0,.func (.func 334) #[] #[.pointer (some ⟨nb,0,none⟩)],.string ⟨#[]⟩] 305] []:=H
 exact An (Ap U U (Al ⟨_,rfl,rfl⟩ H))
theorem eB (r:Nat) (pv:Value) (key:ByteArray) (vv:Value) (fuel pos steps:Int) (halted:Bool) (sv:Value) (g:Nat→A9) (tv:Value) (mb:Nat) (n:Int) (hn:AG n):
    Cn Tryz.prog 310 [.pointer (some ⟨r,0,none⟩),.int .i64 n] [B9 mb] [blk r (Bn pv key vv fuel pos steps halted sv g tv (.map (some mb))) 334,gl] (fun v Bs=>v=.string (dg.dig n)∧Bs=[B9 mb]):=by
 intro w0 F0 H
 obtain ⟨kvs,H⟩:=UL H
 refine enter Tryz.func310 U U (Nat.le_of_ble_eq_true U) (Aa (Ae (CZ U U U U H (fun b1 w H=>(Ad U (Ab (Z ?_)))))))
 replace H:Hd _ _ _ [blk b1 [.int .i64 n] 2,Em mb (kvs.map ER),Ea 305 kvs] [blk r (Bn pv key vv fuel pos steps halted sv g tv (.map (some mb))) 334,gl]:=H
 refine Aa (Aa ?_)
 by_cases hno:E0 n (kvs.map ER)=none
 ·refine G4 mo (by kernel_rfl) H (Ep U (BK U U (fun w H=>AJ U U) (BK U U (fun w H=>Aj U Jz U) (BK U U (fun w H=>Am U Kb U (H.cellRI 0 U U)) (BK U U (fun w H=>Am U Eg U (H.cellI 0 U U)) (BK U U (fun w H=>Lf U Kg Jb LQ U U H 1 U (by rw [hno]<;>rfl)) (BK U U (fun w H=>Dg U LI U U) (Ho (fun w H=>(Z (CN U ?_)))))))))))
  replace H:=H.sel 3 [0,2,1] [] rfl (by kernel_rfl)
  replace H:Hd _ _ _ [blk b1 [.int .i64 n] 2,Ea 305 kvs,Em mb (kvs.map ER)] [blk r (Bn pv key vv fuel pos steps halted sv g tv (.map (some mb))) 334,gl]:=H
  refine Ce (.e 0 (.e 1 (.e 2 (.e 3 (.e 4 (.e 5 (.m 6 (.m 7 .z)))))))) (fun w=>∃ Ar,Hd w0 F0 w (blk b1 [.int .i64 n] 2::Ea 305 kvs::Ar) [blk r (Bn pv key vv fuel pos steps halted sv g tv (.map (some mb))) 334,gl]) mo (by kernel_rfl) (fun w H=>⟨_,H⟩) H (fun w H=>(Au U (Ao U U U (fun w ⟨Ar,H⟩=>AJ U U) (Ao U U U (fun w ⟨Ar,H⟩=>Aj U Jz U) (Ao U U U (fun w ⟨Ar,H⟩=>Am U Kb U (H.cellRI 0 U U)) (Ao U U U (fun w ⟨Ar,H⟩=>Am U Eg U (H.cellI 0 U U)) (Ao U U U (fun w ⟨Ar,H⟩=>JP (fs:=#[]) (cs:=#[.pointer (some ⟨b1,0,none⟩)]) U U U) (AO U (sc (X_ b1) H l0 U U (Av W5 U U) ?_)))))))))
  rintro _ _ w ⟨b2,rfl,rfl⟩ H
  replace H:=H.h1 (A:=blk b2 [.int .u32 0,.int .i32 0,.int .u32 0,.int .u32 0,.func (.func 334) #[] #[.pointer (some ⟨b1,0,none⟩)],.string ⟨#[]⟩] 305)|>.p2|>.p2
  refine AH ⟨_,H⟩ (AO U ?_)
  replace H:=H.p3
  refine cQ U U U Kg Jb U U U hno H (fun w H=>?_)
  replace H:=H.h1 (A:=Em mb (kvs.map ER++[(n,.pointer (some ⟨b2,0,none⟩))]))|>.p2|>.p2
  refine AH ⟨_,H⟩ (BO (Z (Aa (Ce (.e 0 (.e 1 (.e 2 (.e 3 (.e 4 (.e 5 (.m 6 (.e 7 .z)))))))) (fun w=>∃ Ar,Hd w0 F0 w (blk b1 [.int .i64 n] 2::Ea 305 kvs::Em mb (kvs.map ER++[(n,.pointer (some ⟨b2,0,none⟩))])::Ar) [blk r (Bn pv key vv fuel pos steps halted sv g tv (.map (some mb))) 334,gl]) mo (by kernel_rfl) (fun w H=>⟨_,H⟩) H (fun w H=>(Au U (Ao U U U (fun w ⟨Ar,H⟩=>AJ U U) (Ao U U U (fun w ⟨Ar,H⟩=>Aj U Jz U) (Ao U U U (fun w ⟨Ar,H⟩=>Am U Kb U (H.cellRI 0 U U)) (Ao U U U (fun w ⟨Ar,H⟩=>Am U Eg U (H.cellI 0 U U)) (Ao U U U (fun w ⟨Ar,H⟩=>Lf U Kg Jb LQ U U H 2 U (by rw [Oy hno]<;>rfl)) (AO U ?_))))))))))))
  replace H:=H.p3
  refine sc (VL b2 b1 n hn) H (lA 0 U (fun _ h=>h) (lR 1 U l0)) U U (Av KI U U) ?_
  rintro _ _ w ⟨rfl,rfl⟩ H
  replace H:=H.h1 (A:=blk b2 [.int .u32 1,.int .i32 0,.int .u32 0,.int .u32 1,.func (.func 334) #[] #[.pointer (some ⟨b1,0,none⟩)],.string (dg.dig n)] 305)|>.p3|>.p3|>.p3
  refine AH ⟨_,H⟩ (Au U (BO (Z (An (Ap U U ?_)))))
  replace H:=H.p2.p2.p3.k3
  replace H:=Uf (n:=n) (H.ex_in (A:=fun f:Value=>blk b2 [.int .u32 1,.int .i32 0,.int .u32 0,.int .u32 1,f,.string (ID n)] 305) (.func (.func 334) #[] #[.pointer (some ⟨b1,0,none⟩)]))
  replace H:=H.perm (List.Perm.swap _ _ _)
  rw [←Ys] at H
  replace H:=L2 _ H
  replace H:Hd _ _ _ [B9 mb] [blk r (Bn pv key vv fuel pos steps halted sv g tv (.map (some mb))) 334,gl]:=H
  exact Al ⟨rfl,rfl⟩ H
 refine G4 mo (by kernel_rfl) H (Ep U (BK U U (fun w H=>AJ U U) (BK U U (fun w H=>Aj U Jz U) (BK U U (fun w H=>Am U Kb U (H.cellRI 0 U U)) (BK U U (fun w H=>Am U Eg U (H.cellI 0 U U)) ?_)))))
 obtain ⟨v0,hv0⟩:=Option.ne_none_iff_exists'.1 hno
 obtain ⟨c,rfl,hmem⟩:=Ox hv0
 refine BK U U (fun w H=>Lf U Kg Jb LQ U U H 1 U (by rw [hv0]<;>rfl)) (BK U U (fun w H=>Dg U LI U U) (Ho (fun w H=>(Z (Ch U (Az (Z (Aa (Ce (.e 0 (.e 1 (.e 2 (.e 3 (.e 4 (.e 5 (.m 6 (.e 7 .z)))))))) (fun w=>∃ Ar,Hd w0 F0 w (blk b1 [.int .i64 n] 2::Em mb (kvs.map ER)::Ea 305 kvs::Ar) [blk r (Bn pv key vv fuel pos steps halted sv g tv (.map (some mb))) 334,gl]) mo (by kernel_rfl) (fun w H=>⟨_,H⟩) H (fun w H=>(Au U (Ao U U U (fun w ⟨Ar,H⟩=>AJ U U) (Ao U U U (fun w ⟨Ar,H⟩=>Aj U Jz U) (Ao U U U (fun w ⟨Ar,H⟩=>Am U Kb U (H.cellRI 0 U U)) (Ao U U U (fun w ⟨Ar,H⟩=>Am U Eg U (H.cellI 0 U U)) (Ao U U U (fun w ⟨Ar,H⟩=>Lf U Kg Jb LQ U U H 1 U (by rw [hv0]<;>rfl)) ?_))))))))))))))))
 refine AO U ?_
 replace H:=H.p2
 replace H:Hd _ _ _ [Ea 305 kvs,blk b1 [.int .i64 n] 2,Em mb (kvs.map ER)] [blk r (Bn pv key vv fuel pos steps halted sv g tv (.map (some mb))) 334,gl]:=H
 obtain ⟨rest,H,hback⟩:=Ug hmem H
 obtain ⟨f0,H⟩:=H.ex_out
 refine sc (Mr c f0 (ID n)) H l0 U U (Av KI U U) ?_
 rintro _ _ w ⟨rfl,rfl⟩ H
 replace H:=hback (H.ex_in (A:=fun f:Value=>blk c [.int .u32 1,.int .i32 0,.int .u32 0,.int .u32 1,f,.string (ID n)] 305) f0)
 replace H:=H.p2.p2
 refine AH ⟨_,H⟩ (Au U (BO (Z (An (Ap U U ?_)))))
 replace H:=H.p2.p2.k2
 replace H:=L2 _ H
 replace H:=H.h1 (A:=B9 mb)
 exact Al ⟨rfl,rfl⟩ H
end Go.Proofs.YthhajcnbjiiclaaGreatDoor.X
