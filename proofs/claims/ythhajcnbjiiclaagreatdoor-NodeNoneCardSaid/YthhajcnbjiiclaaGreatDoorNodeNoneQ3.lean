/- NodeNone: texts XRecd, XRed, XRed2, XOkR, XRedL, XStg, XRecO, XRedO, XOrd, XTwo, XWrk, XWrk2, XAct, XWrk3, XDisk, F1, V1, V2, V3, V4, O1, O2, joined by a program of ours; what nothing names is left out. -/
import Derived.Test.YthhajcnbjiiclaaGreatDoorNodeNoneQ2
import Derived.KernelRfl
import Derived.Test.YthhajcnbjiiclaaGreatDoorShelf
import Derived.Tactics2
import Derived.Laws.Pointers
import Derived.RegionTactic
import Derived.RegionCalls
import Derived.ChangeAlike
set_option linter.unusedVariables false
set_option linter.unusedSimpArgs false
set_option maxHeartbeats 8000000
namespace Go.Proofs.YthhajcnbjiiclaaGreatDoor.X
open Go
/-! ### Which records may be -/
def Bq (n l m:Int):Prop:=l≤n∧n≤m
instance (n l m:Int):Decidable (Bq n l m):=by unfold Bq;infer_instance
def ED:Int→List Int→Prop
 |_,[]=>True
 |last,n::ns=>Bq n 0 5∧last<n∧ED n ns
instance decUpR:∀ (last:Int) (l:List Int),Decidable (ED last l)
 |_,[]=>.isTrue trivial
 |last,n::ns=>have:=decUpR n ns;by unfold ED;infer_instance
def EJ (r:Ba):Prop:=Bq r.why 1 6∧((r.att=0∧Bq r.sp 0 5∧r.part=0)∨(r.att=1∧Bq r.part 0 3∧r.sp=0))
instance (r:Ba):Decidable (EJ r):=by unfold EJ;infer_instance
def Dc (r:Ba):Prop:=(r.kind≠1∧r.kind≠5∧0<r.set.length)∨(r.kind≠4∧0<r.pairs.length)∨(r.kind≠3∧r.why≠0)
instance (r:Ba):Decidable (Dc r):=by unfold Dc;infer_instance
def GQ (l:List Int):Prop:=l.length≤4∧∀ n∈l,Bq n 0 40
instance (l:List Int):Decidable (GQ l):=by unfold GQ;infer_instance
def Ck (r:Ba):Prop:=¬ Dc r∧((r.kind=1∧r.part=0∧Bq r.sp 0 5∧Bq r.att 1 3∧GQ r.set)∨((r.kind=2∨r.kind=6)∧r.part=0∧r.sp=0∧r.att=0)∨(r.kind=3∧EJ r)∨
 (r.kind=4∧Bq r.part 0 3∧Bq r.sp 0 5∧Bq r.att 1 3∧r.pairs.length≤40∧∀ p∈r.pairs,C2 p)∨(r.kind=5∧Bq r.part 0 3∧r.sp=0∧r.att=0∧ED (-1) r.set))
instance (r:Ba):Decidable (Ck r):=by unfold Ck;infer_instance
theorem TV {xs:List Int} (h:xs.length≤4):(!(xs.any (fun x=>!decide (0≤x∧x≤40))))=decide (GQ xs):=by
 rw [Bool.eq_iff_iff,decide_eq_true_eq]
 constructor
 ·intro g
  refine ⟨h,fun n hn=>Decidable.byContradiction fun c=>?_⟩
  have e:xs.any (fun x=>!decide (0≤x∧x≤40))=true:=List.any_eq_true.2 ⟨n,hn,by rw [decide_eq_false (show ¬ (0≤n∧n≤40) from c)];rfl⟩
  rw [e] at g
  cases g
 ·intro g
  have e:xs.any (fun x=>!decide (0≤x∧x≤40))=false:=List.any_eq_false.2 fun n hn=>by rw [decide_eq_true (show 0≤n∧n≤40 from g.2 n hn)];decide
  rw [e]
  rfl
theorem NG {last n:Int} {ns:List Int}:ED last (n::ns)↔Bq n 0 5∧last<n∧ED n ns:=Iff.rfl
theorem KJ {r:Ba} (hk:r.kind=1) (ho:¬ Dc r):Ck r↔r.part=0∧Bq r.sp 0 5∧Bq r.att 1 3∧GQ r.set:=by
 constructor
 ·rintro ⟨_,h⟩
  rcases h with ⟨h1,h⟩|⟨h1,h⟩|⟨h1,h⟩|⟨h1,h⟩|⟨h1,h⟩<;>first |exact h|(exfalso;omega)
 ·exact fun g=>⟨ho,.inl ⟨hk,g⟩⟩
theorem QQ {r:Ba} (hk:r.kind=2∨r.kind=6) (ho:¬ Dc r):Ck r↔r.part=0∧r.sp=0∧r.att=0:=by
 constructor
 ·rintro ⟨_,h⟩
  rcases h with ⟨h1,h⟩|⟨h1,h⟩|⟨h1,h⟩|⟨h1,h⟩|⟨h1,h⟩<;>first |exact h|(exfalso;omega)
 ·exact fun g=>⟨ho,.inr (.inl ⟨hk,g⟩)⟩
theorem XV {r:Ba} (hk:r.kind=3) (ho:¬ Dc r):Ck r↔EJ r:=by
 constructor
 ·rintro ⟨_,h⟩
  rcases h with ⟨h1,h⟩|⟨h1,h⟩|⟨h1,h⟩|⟨h1,h⟩|⟨h1,h⟩<;>first |exact h|(exfalso;omega)
 ·exact fun g=>⟨ho,.inr (.inr (.inl ⟨hk,g⟩))⟩
theorem Jr {r:Ba} (hk:r.kind=4) (ho:¬ Dc r):Ck r↔Bq r.part 0 3∧Bq r.sp 0 5∧Bq r.att 1 3∧r.pairs.length≤40∧∀ p∈r.pairs,C2 p:=by
 constructor
 ·rintro ⟨_,h⟩
  rcases h with ⟨h1,h⟩|⟨h1,h⟩|⟨h1,h⟩|⟨h1,h⟩|⟨h1,h⟩<;>first |exact h|(exfalso;omega)
 ·exact fun g=>⟨ho,.inr (.inr (.inr (.inl ⟨hk,g⟩)))⟩
theorem KK {r:Ba} (hk:r.kind=5) (ho:¬ Dc r):Ck r↔Bq r.part 0 3∧r.sp=0∧r.att=0∧ED (-1) r.set:=by
 constructor
 ·rintro ⟨_,h⟩
  rcases h with ⟨h1,h⟩|⟨h1,h⟩|⟨h1,h⟩|⟨h1,h⟩|⟨h1,h⟩<;>first |exact h|(exfalso;omega)
 ·exact fun g=>⟨ho,.inr (.inr (.inr (.inr (⟨hk,g⟩))))⟩
theorem XY {r:Ba} (h1:r.kind≠1) (h2:r.kind≠2) (h3:r.kind≠3) (h4:r.kind≠4) (h5:r.kind≠5) (h6:r.kind≠6):¬ Ck r:=by
 rintro ⟨_,h⟩
 rcases h with ⟨h1,h⟩|⟨h1,h⟩|⟨h1,h⟩|⟨h1,h⟩|⟨h1,h⟩<;>omega
theorem SH:∀ {last:Int} {l:List Int},ED last l→∀ n∈l,Bq n 0 5
 |_,_::_,⟨h,_,g⟩,n,hn=>by
  rcases List.mem_cons.1 hn with rfl|hn
  ·exact h
  ·exact SH g n hn
theorem SI:∀ {last:Int} {l:List Int}, -1≤last→last≤5→ED last l→(l.length:Int)≤5 - last
 |_,[],_,h,_=>by simp only [List.length_nil];omega
 |last,n::ns,h0,h1,⟨h,g,k⟩=>by
  have:=SI (by have:=h.1;omega) h.2 k
  simp only [List.length_cons]
  omega
structure JZ (r:Ba):Prop where
 kind:Bq r.kind 1 6
 part:Bq r.part 0 3
 sp:Bq r.sp 0 5
 att:Bq r.att 0 3
 why:Bq r.why 0 6
 set:r.set.length≤6
 sets:∀ n∈r.set,Bq n 0 40
 pairs:r.pairs.length≤40
 prs:∀ p∈r.pairs,C2 p
theorem KI {r:Ba} (h:Ck r):JZ r:=by
 obtain ⟨hm,h⟩:=h
 unfold Dc at hm
 have hs:∀ {P:Int→Prop},r.set.length=0→∀ n∈r.set,P n:=fun h n hn=>by rw [List.eq_nil_of_length_eq_zero h] at hn;cases hn
 have hp:∀ {P:Ap→Prop},r.pairs.length=0→∀ n∈r.pairs,P n:=fun h n hn=>by rw [List.eq_nil_of_length_eq_zero h] at hn;cases hn
 rcases h with ⟨h1,h2,h3,h4,h5,h6⟩|⟨h1,h2,h3,h4⟩|⟨h1,h2,h3⟩|⟨h1,h2,h3,h4,h5,h6⟩|⟨h1,h2,h3,h4,h5⟩
 ·unfold Bq at h3 h4
  exact ⟨by unfold Bq;omega,by unfold Bq;omega,by unfold Bq;omega,by unfold Bq;omega,by unfold Bq;omega,by omega,h6,by omega,hp (by omega)⟩
 ·exact ⟨by unfold Bq;omega,by unfold Bq;omega,by unfold Bq;omega,by unfold Bq;omega,by unfold Bq;omega,by omega,hs (by omega),by omega,hp (by omega)⟩
 ·unfold Bq at h2 h3
  exact ⟨by unfold Bq;omega,by unfold Bq;omega,by unfold Bq;omega,by unfold Bq;omega,by unfold Bq;omega,by omega,hs (by omega),by omega,hp (by omega)⟩
 ·unfold Bq at h2 h3 h4
  exact ⟨by unfold Bq;omega,by unfold Bq;omega,by unfold Bq;omega,by unfold Bq;omega,by unfold Bq;omega,by omega,hs (by omega),by omega,h6⟩
 ·have hl:=SI (by omega) (by omega) h5
  unfold Bq at h2
  exact ⟨by unfold Bq;omega,by unfold Bq;omega,by unfold Bq;omega,by unfold Bq;omega,by unfold Bq;omega,by omega,fun n hn=>by have:=SH h5 n hn;unfold Bq at this ⊢;omega,by omega,hp (by omega)⟩
/-! ### Laid -/
def B0 (l:List Int):List UInt8:=l.flatMap fun n=>B2 n.toNat
def HR (r:Ba):List Int:=[r.kind,r.part,r.sp,r.att,r.why,(r.set.length:Int)]
def CC (r:Ba):List UInt8:=B0 (HR r++r.set)++D9 r.pairs
def Cw (rs:List Ba):List UInt8:=rs.flatMap fun r=>Cr (DF (CC r))
def Fm (rs:List Ba):List UInt8:=if ∀ r∈rs,Ck r then Cw rs else []
theorem Hv (l:List Int):(B0 l).length=8*l.length:=by
 induction l with
 |nil=>rfl
 |cons n l ih=>unfold B0 at ih ⊢;rw [List.flatMap_cons,List.length_append,EF,ih,List.length_cons];omega
theorem Q6 (l:List Int) (n:Int):B0 (l++[n])=B0 l++B2 n.toNat:=by unfold B0;rw [List.flatMap_append];simp
theorem YF (l m:List Int) (n:Int):B0 (l++n::m)=B0 l++(B2 n.toNat++B0 m):=by unfold B0;rw [List.flatMap_append,List.flatMap_cons]
theorem Qs (l:List Ba) (r:Ba):Cw (l++[r])=Cw l++Cr (DF (CC r)):=by unfold Cw;rw [List.flatMap_append];simp
theorem Xx (a b:List Ba):Cw (a++b)=Cw a++Cw b:=by unfold Cw;rw [List.flatMap_append]
theorem LO {r:Ba} (h:JZ r):(CC r).length≤10000:=by
 have h1:=KV (ps:=r.pairs) fun p hp=>by have:=h.prs p hp;unfold C2 at this;omega
 have h2:=h.set
 have h3:=h.pairs
 unfold CC D9
 rw [List.length_append,List.length_append,Hv,List.length_append,EF]
 show 8*(6+r.set.length)+_≤_
 omega
theorem Lt (l:List UInt8):(Cr (DF l)).length=8+l.length:=by rw [GK,IY]
theorem Xy {rs:List Ba} (h:∀ r∈rs,Ck r):(Cw rs).length≤10008*rs.length:=by
 induction rs with
 |nil=>exact Nat.zero_le _
 |cons r rs ih=>
  have h1:=ih fun x hx=>h x (List.mem_cons_of_mem _ hx)
  have h2:=LO (KI (h r (List.mem_cons_self ..)))
  have e:Cw (r::rs)=Cr (DF (CC r))++Cw rs:=by unfold Cw;rw [List.flatMap_cons]
  rw [e,List.length_append,Lt,List.length_cons]
  omega
/-! ### Read -/
structure CY where
 at_:Int
 bad:Bool
def Ak (b:List UInt8) (s:CY):Int×CY:=((BU b s.at_).1,⟨if (BU b s.at_).2.2 then (BU b s.at_).2.1 else s.at_,s.bad||!(BU b s.at_).2.2⟩)
def Ay (b:List UInt8) (most:Int) (s:CY):Int×CY:=if Bq (Ak b s).1 0 most then Ak b s else (0,⟨(Ak b s).2.at_,true⟩)
def AM (b:List UInt8) (s:CY):ByteArray×CY:=((Ax b s.at_).1,⟨if (Ax b s.at_).2.2 then (Ax b s.at_).2.1 else s.at_,s.bad||!(Ax b s.at_).2.2⟩)
def Bf (b:List UInt8):Nat→CY→List Int×CY
 |0,s=>([],s)
 |k+1,s=>((Bf b k s).1++[(Ak b (Bf b k s).2).1],(Ak b (Bf b k s).2).2)
def AQ (b:List UInt8):Nat→CY→List Ap×CY
 |0,s=>([],s)
 |k+1,s=>((AQ b k s).1++[⟨(AM b (AQ b k s).2).1,(AM b (AM b (AQ b k s).2).2).1⟩],(AM b (AM b (AQ b k s).2).2).2)
def Aw (b:List UInt8) (k:Nat) (s:CY):CY:=(Bf b k s).2
def AJ (b:List UInt8) (s:CY):List Int×CY:=Bf b (Ay b 6 s).1.toNat (Ay b 6 s).2
def K7 (b:List UInt8) (s:CY):List Ap×CY:=AQ b (Ay b 40 s).1.toNat (Ay b 40 s).2
def AF (b:List UInt8) (s:CY):Ba×CY:=
 (⟨(Ak b s).1,(Ak b (Aw b 1 s)).1,(Ak b (Aw b 2 s)).1,(Ak b (Aw b 3 s)).1,(Ak b (Aw b 4 s)).1,(AJ b (Aw b 5 s)).1,(K7 b (AJ b (Aw b 5 s)).2).1⟩,(K7 b (AJ b (Aw b 5 s)).2).2)
def Fl (bs:List UInt8) (a:Int):Bool:=(Ax bs a).2.2 && !(AF (AA (Ax bs a).1) ⟨0,false⟩).2.bad && decide ((AF (AA (Ax bs a).1) ⟨0,false⟩).2.at_=((AA (Ax bs a).1).length:Int)) && decide (Ck (AF (AA (Ax bs a).1) ⟨0,false⟩).1)
def EL (bs:List UInt8):Nat→Int→List Ba→List Ba×Int
 |0,a,out=>(out,a)
 |k+1,a,out=>if Fl bs a=true then EL bs k (Ax bs a).2.1 (out++[(AF (AA (Ax bs a).1) ⟨0,false⟩).1]) else (out,a)
def CN (bs:List UInt8):List Ba×Int:=EL bs (bs.length+1) 0 []
theorem GD {b:List UInt8} {s:CY} (hl:b.length≤1000000) (h:AL s.at_):AL (Ak b s).2.at_:=by
 unfold Ak
 dsimp only
 split
 ·next hk=>have:=Nb hk;unfold AL;omega
 ·exact h
theorem Nf {b:List UInt8} {a:Int} (h:(Ax b a).2.2=true):a+8≤(Ax b a).2.1∧(Ax b a).2.1≤(b.length:Int)∧0≤a∧(((Ax b a).1.size:Nat):Int)≤(b.length:Int):=by
 by_cases hk:(BU b a).2.2=true
 ·have h1:=Nb hk
  have h2:=K8 hk
  rw [h2] at h ⊢
  by_cases h3:(BU b a).1<0∨(b.length:Int) - (BU b a).2.1<(BU b a).1
  ·rw [if_pos h3] at h;cases h
  ·rw [if_neg h3]
   refine ⟨?_,?_,h1.2.2.2,?_⟩
   ·show a+8≤(BU b a).2.1+(BU b a).1;omega
   ·show (BU b a).2.1+(BU b a).1≤_;omega
   ·show ((DF _).size:Int)≤_
    rw [IY,List.length_take,List.length_drop]
    omega
 ·have h2:=Ng (b:=b) (at_:=a) (by simpa using hk)
  rw [h2] at h
  cases h
theorem JS {b:List UInt8} {s:CY} (hl:b.length≤1000000) (h:AL s.at_):AL (AM b s).2.at_:=by
 unfold AM
 dsimp only
 split
 ·next hk=>have:=Nf hk;unfold AL;omega
 ·exact h
theorem J9 {b:List UInt8} {s:CY} {m:Int} (hl:b.length≤1000000) (h:AL s.at_):AL (Ay b m s).2.at_:=by
 unfold Ay
 split<;>exact GD hl h
theorem OB {b:List UInt8} {s:CY} {m:Int} (h:0≤m):0≤(Ay b m s).1∧(Ay b m s).1≤m:=by
 unfold Ay
 split
 ·next g=>exact g
 ·exact ⟨Int.le_refl _,h⟩
theorem KS {b:List UInt8} (hl:b.length≤1000000):∀ (k:Nat) {s:CY},AL s.at_→AL (Bf b k s).2.at_
 |0,_,h=>h
 |k+1,_,h=>GD hl (KS hl k h)
theorem Rv {b:List UInt8} (hl:b.length≤1000000):∀ (k:Nat) {s:CY},AL s.at_→AL (AQ b k s).2.at_
 |0,_,h=>h
 |k+1,_,h=>JS hl (JS hl (Rv hl k h))
theorem Q8 (b:List UInt8) (s:CY):∀ k,(Bf b k s).1.length=k
 |0=>rfl
 |k+1=>by unfold Bf;dsimp only;rw [List.length_append,Q8 b s k];rfl
theorem Rw (b:List UInt8) (s:CY):∀ k,(AQ b k s).1.length=k
 |0=>rfl
 |k+1=>by unfold AQ;dsimp only;rw [List.length_append,Rw b s k];rfl
theorem HS {bs:List UInt8} {a:Int}:Fl bs a=true↔(Ax bs a).2.2=true∧(AF (AA (Ax bs a).1) ⟨0,false⟩).2.bad=false∧(AF (AA (Ax bs a).1) ⟨0,false⟩).2.at_=((AA (Ax bs a).1).length:Int)∧Ck (AF (AA (Ax bs a).1) ⟨0,false⟩).1:=by
 unfold Fl
 simp only [Bool.and_eq_true,Bool.not_eq_true',decide_eq_true_eq]
 exact ⟨fun ⟨⟨⟨h1,h2⟩,h3⟩,h4⟩=>⟨h1,h2,h3,h4⟩,fun ⟨h1,h2,h3,h4⟩=>⟨⟨⟨h1,h2⟩,h3⟩,h4⟩⟩
theorem Z8 {bs:List UInt8} {k:Nat} {a:Int} {out:List Ba} (h:Fl bs a=true):EL bs (k+1) a out=EL bs k (Ax bs a).2.1 (out++[(AF (AA (Ax bs a).1) ⟨0,false⟩).1]):=if_pos h
theorem La {bs:List UInt8} {k:Nat} {a:Int} {out:List Ba} (h:¬ Fl bs a=true):EL bs (k+1) a out=(out,a):=if_neg h
/-! ### What was laid is read -/
theorem Sg {α:Type} {P:List α→Prop} (h0:P []) (h1:∀ l x,P l→P (l++[x])) (l:List α):P l:=by
 have key:∀ m:List α,P m.reverse:=by
  intro m
  induction m with
  |nil=>exact h0
  |cons x m ih=>rw [List.reverse_cons];exact h1 _ _ ih
 have:=key l.reverse
 rwa [List.reverse_reverse] at this
theorem Q5 {a c:List UInt8} {n:Int} (h:0≤n∧n<9223372036854775808) (bad:Bool):Ak (a++(B2 n.toNat++c)) ⟨(a.length:Int),bad⟩=(n,⟨((a.length+8:Nat):Int),bad⟩):=by
 have h1:=Nd (a:=a) (c:=c) (n:=n.toNat) (k:=a.length) (by omega) rfl
 have h2:BU (a++(B2 n.toNat++c)) (a.length:Int)=(n,((a.length+8:Nat):Int),true):=by
  unfold BU
  rw [h1]
  show (((n.toNat:Nat):Int),_,true)=_
  rw [Int.toNat_of_nonneg h.1]
 unfold Ak
 rw [h2]
 simp
theorem Sr {a c:List UInt8} {s:ByteArray} (h:s.size<9223372036854775808) (bad:Bool):AM (a++(Cr s++c)) ⟨(a.length:Int),bad⟩=(s,⟨((a.length+8+s.size:Nat):Int),bad⟩):=by
 have h1:=K9 (a:=a) (c:=c) (s:=s) (k:=a.length) h rfl
 have h2:Ax (a++(Cr s++c)) (a.length:Int)=(s,((a.length+8+s.size:Nat):Int),true):=by
  unfold Ax
  rw [h1]
 unfold AM
 rw [h2]
 simp
theorem Q7:∀ (l:List Int) (m:List Int) (a c:List UInt8) (bad:Bool),(∀ n∈l,0≤n∧n<9223372036854775808)→Bf (a++(B0 (l++m)++c)) l.length ⟨(a.length:Int),bad⟩=(l,⟨((a.length+8*l.length:Nat):Int),bad⟩):=by
 refine Sg (fun m a c bad _=>rfl) fun l n ih=>?_
 ·intro m a c bad h
  have h1:=ih (n::m) a c bad fun x hx=>h x (List.mem_append_left _ hx)
  rw [List.append_assoc,List.singleton_append,List.length_append,List.length_singleton]
  unfold Bf
  rw [h1]
  have e:a++(B0 (l++n::m)++c)=(a++B0 l)++(B2 n.toNat++(B0 m++c)):=by
   have:B0 (l++n::m)=B0 l++(B2 n.toNat++B0 m):=by unfold B0;rw [List.flatMap_append,List.flatMap_cons]
   rw [this];simp only [List.append_assoc]
  have h2:=Q5 (a:=a++B0 l) (c:=B0 m++c) (h n (by simp)) bad
  rw [List.length_append,Hv] at h2
  dsimp only
  rw [e,h2]
  rfl
theorem Zl:∀ (l m:List Ap) (a c:List UInt8) (bad:Bool),(∀ p∈l,p.key.size<9223372036854775808∧p.val.size<9223372036854775808)→AQ (a++(B9 (l++m)++c)) l.length ⟨(a.length:Int),bad⟩=(l,⟨((a.length+(B9 l).length:Nat):Int),bad⟩):=by
 refine Sg (fun m a c bad _=>by rw [show (B9 []).length=0 from rfl];rfl) fun l p ih=>?_
 ·intro m a c bad h
  have h1:=ih (p::m) a c bad fun x hx=>h x (List.mem_append_left _ hx)
  have hp:=h p (by simp)
  rw [List.append_assoc,List.singleton_append,List.length_append,List.length_singleton]
  unfold AQ
  rw [h1]
  have e:a++(B9 (l++p::m)++c)=(a++B9 l)++(Cr p.key++(Cr p.val++(B9 m++c))):=by
   have:B9 (l++p::m)=B9 l++((Cr p.key++Cr p.val)++B9 m):=by unfold B9;rw [List.flatMap_append,List.flatMap_cons]
   rw [this];simp only [List.append_assoc]
  have h2:=Sr (a:=a++B9 l) (c:=Cr p.val++(B9 m++c)) hp.1 bad
  have h3:=Sr (a:=a++B9 l++Cr p.key) (c:=B9 m++c) hp.2 bad
  rw [List.append_assoc (a++B9 l)] at h3
  rw [List.length_append,GK] at h3
  rw [List.length_append] at h2 h3
  dsimp only
  rw [e,h2]
  dsimp only
  rw [show a.length+(B9 l).length+8+p.key.size=a.length+(B9 l).length+(8+p.key.size) by omega,h3,MX,List.length_append,List.length_append,GK,GK]
  refine congrArg (fun z=>(l++[p],(⟨z,bad⟩:CY))) ?_
  omega
theorem OA {a c:List UInt8} {n most:Int} (h:0≤n∧n≤most∧n<9223372036854775808) (bad:Bool):Ay (a++(B2 n.toNat++c)) most ⟨(a.length:Int),bad⟩=(n,⟨((a.length+8:Nat):Int),bad⟩):=by
 unfold Ay
 rw [Q5 ⟨h.1,h.2.2⟩]
 exact if_pos ⟨h.1,h.2.1⟩
theorem YG {b:List UInt8} {k i:Nat} {s:CY} (h:i<k):(Bf b k s).1[i]?=some (Ak b (Aw b i s)).1:=by
 induction k with
 |zero=>omega
 |succ k ih=>
  have hl:∀ j,(Bf b j s).1.length=j:=by
   intro j
   induction j with
   |zero=>rfl
   |succ j ih=>unfold Bf;dsimp only;rw [List.length_append,ih];rfl
  unfold Bf
  dsimp only
  rcases Nat.lt_or_ge i k with h1|h1
  ·rw [List.getElem?_append_left (by rw [hl];exact h1)];exact ih h1
  ·obtain rfl:i=k:=by omega
   rw [List.getElem?_append_right (by rw [hl];exact Nat.le_refl _),hl,Nat.sub_self]
   rfl
theorem Z9 {r:Ba} (h:JZ r):AF (CC r) ⟨0,false⟩=(r,⟨((CC r).length:Nat),false⟩):=by
 have hk:=h.kind
 have hp:=h.part
 have hs:=h.sp
 have ha:=h.att
 have hw:=h.why
 unfold Bq at hk hp hs ha hw
 have hset:=h.set
 have hpr:=h.pairs
 have e0:CC r=[]++(B0 ([r.kind,r.part,r.sp,r.att,r.why]++((r.set.length:Int)::r.set))++D9 r.pairs):=rfl
 have hn:=Q7 [r.kind,r.part,r.sp,r.att,r.why] ((r.set.length:Int)::r.set) [] (D9 r.pairs) false (by intro n hn;simp only [List.mem_cons,List.not_mem_nil,or_false] at hn;rcases hn with rfl|rfl|rfl|rfl|rfl<;>omega)
 rw [←e0] at hn
 have hn:Bf (CC r) 5 ⟨0,false⟩=([r.kind,r.part,r.sp,r.att,r.why],⟨((40:Nat):Int),false⟩):=hn
 have g:∀ i,i<5→some (Ak (CC r) (Aw (CC r) i ⟨0,false⟩)).1=[r.kind,r.part,r.sp,r.att,r.why][i]?:=fun i hi=>by have:=YG (b:=CC r) (s:=⟨0,false⟩) hi;rw [hn] at this;exact this.symm
 have g0:=Option.some.inj (g 0 (by decide))
 have g1:=Option.some.inj (g 1 (by decide))
 have g2:=Option.some.inj (g 2 (by decide))
 have g3:=Option.some.inj (g 3 (by decide))
 have g4:=Option.some.inj (g 4 (by decide))
 have h5:Aw (CC r) 5 ⟨0,false⟩=⟨((40:Nat):Int),false⟩:=by unfold Aw;rw [hn]
 have hh:(B0 [r.kind,r.part,r.sp,r.att,r.why]).length=40:=Hv _
 have e1:CC r=B0 [r.kind,r.part,r.sp,r.att,r.why]++(B2 ((r.set.length:Int)).toNat++(B0 r.set++D9 r.pairs)):=by
  rw [e0,YF];simp only [List.append_assoc,List.nil_append]
 have hc:=OA (a:=B0 [r.kind,r.part,r.sp,r.att,r.why]) (c:=B0 r.set++D9 r.pairs) (n:=(r.set.length:Int)) (most:=6) (by omega) false
 rw [←e1,hh] at hc
 have e2:CC r=(B0 [r.kind,r.part,r.sp,r.att,r.why]++B2 ((r.set.length:Int)).toNat)++(B0 (r.set++[])++D9 r.pairs):=by rw [e1,List.append_nil,List.append_assoc]
 have hl2:(B0 [r.kind,r.part,r.sp,r.att,r.why]++B2 ((r.set.length:Int)).toNat).length=48:=by rw [List.length_append,hh,EF]
 have hm:=Q7 r.set [] (B0 [r.kind,r.part,r.sp,r.att,r.why]++B2 ((r.set.length:Int)).toNat) (D9 r.pairs) false (fun n hn=>by have:=h.sets n hn;unfold Bq at this;omega)
 rw [←e2,hl2] at hm
 have hst:AJ (CC r) ⟨((40:Nat):Int),false⟩=(r.set,⟨((48+8*r.set.length:Nat):Int),false⟩):=by
  unfold AJ
  rw [hc]
  dsimp only
  rw [Int.toNat_natCast]
  exact hm
 have e3:CC r=B0 (HR r++r.set)++(B2 ((r.pairs.length:Int)).toNat++(B9 r.pairs++[])):=by unfold CC D9;rw [List.append_nil,Int.toNat_natCast]
 have hl3:(B0 (HR r++r.set)).length=48+8*r.set.length:=by rw [Hv,List.length_append];show 8*(6+r.set.length)=_;omega
 have hd:=OA (a:=B0 (HR r++r.set)) (c:=B9 r.pairs++[]) (n:=(r.pairs.length:Int)) (most:=40) (by omega) false
 rw [←e3,hl3] at hd
 have e4:CC r=(B0 (HR r++r.set)++B2 ((r.pairs.length:Int)).toNat)++(B9 (r.pairs++[])++[]):=by rw [e3,List.append_nil r.pairs,List.append_assoc]
 have hl4:(B0 (HR r++r.set)++B2 ((r.pairs.length:Int)).toNat).length=48+8*r.set.length+8:=by rw [List.length_append,hl3,EF]
 have hq:=Zl r.pairs [] (B0 (HR r++r.set)++B2 ((r.pairs.length:Int)).toNat) [] false (fun p hp=>by have:=h.prs p hp;unfold C2 at this;omega)
 rw [←e4,hl4] at hq
 have hpt:K7 (CC r) ⟨((48+8*r.set.length:Nat):Int),false⟩=(r.pairs,⟨((48+8*r.set.length+8+(B9 r.pairs).length:Nat):Int),false⟩):=by
  unfold K7
  rw [hd]
  dsimp only
  rw [Int.toNat_natCast]
  exact hq
 have hlen:(CC r).length=48+8*r.set.length+8+(B9 r.pairs).length:=by
  rw [e3,List.length_append,hl3,List.length_append,EF,List.append_nil];omega
 unfold AF
 rw [h5,hst]
 dsimp only
 rw [hpt,hlen,show Ak (CC r) ⟨0,false⟩=Ak (CC r) (Aw (CC r) 0 ⟨0,false⟩) from rfl,g0,g1,g2,g3,g4]
theorem Z3 {a c:List UInt8} {s:ByteArray} (h:s.size<9223372036854775808):Ax (a++(Cr s++c)) (a.length:Int)=(s,((a.length+8+s.size:Nat):Int),true):=by
 unfold Ax
 rw [K9 h rfl]
theorem VJ {a c:List UInt8} {r:Ba} (h:Ck r):Fl (a++(Cr (DF (CC r))++c)) (a.length:Int)=true∧(Ax (a++(Cr (DF (CC r))++c)) (a.length:Int)).2.1=((a++Cr (DF (CC r))).length:Int)∧(AF (AA (Ax (a++(Cr (DF (CC r))++c)) (a.length:Int)).1) ⟨0,false⟩).1=r:=by
 have hm:=KI h
 have hl:=LO hm
 have h1:=Z3 (a:=a) (c:=c) (s:=DF (CC r)) (by rw [IY];omega)
 have h2:=Z9 hm
 unfold Fl
 rw [h1]
 dsimp only
 rw [Ox,h2]
 refine ⟨by simp [h],?_,rfl⟩
 rw [List.length_append,Lt,IY]
 omega
theorem Z4 {rs:List Ba}:∀ (a:List UInt8) (out:List Ba) (k:Nat),(∀ r∈rs,Ck r)→rs.length<k→EL (a++Cw rs) k (a.length:Int) out=(out++rs,((a++Cw rs).length:Int)):=by
 induction rs with
 |nil=>
  intro a out k _ hk
  obtain ⟨k,rfl⟩:∃ j,k=j+1:=⟨k - 1,by simp only [List.length_nil] at hk;omega⟩
  have e:a++Cw []=a:=List.append_nil _
  have hn:Fl a (a.length:Int)=false:=by
   have h1:BU a (a.length:Int)=(0,0,false):=IN (by omega)
   have h2:Ax a (a.length:Int)=(⟨#[]⟩,0,false):=Ng (by rw [h1])
   unfold Fl
   rw [h2]
   rfl
  rw [e]
  unfold EL
  rw [hn,List.append_nil]
  rfl
 |cons r rs ih=>
  intro a out k h hk
  obtain ⟨k,rfl⟩:∃ j,k=j+1:=⟨k - 1,by simp only [List.length_cons] at hk;omega⟩
  have e:a++Cw (r::rs)=a++(Cr (DF (CC r))++Cw rs):=by unfold Cw;rw [List.flatMap_cons]
  obtain ⟨g1,g2,g3⟩:=VJ (a:=a) (c:=Cw rs) (h r (List.mem_cons_self ..))
  have h2:=ih (a++Cr (DF (CC r))) (out++[r]) k (fun x hx=>h x (List.mem_cons_of_mem _ hx)) (by simp only [List.length_cons] at hk;omega)
  rw [List.append_assoc a] at h2
  rw [e]
  unfold EL
  rw [if_pos g1,g2,g3,h2,List.append_assoc]
  rfl
theorem Xz (rs:List Ba):rs.length≤(Cw rs).length:=by
 induction rs with
 |nil=>exact Nat.zero_le _
 |cons r rs ih=>
  have e:Cw (r::rs)=Cr (DF (CC r))++Cw rs:=by unfold Cw;rw [List.flatMap_cons]
  rw [e,List.length_append,Lt,List.length_cons]
  omega
theorem RR {bs:List UInt8}:∀ (k:Nat) (a:Int) (out:List Ba),(∀ r∈out,Ck r)→∀ r∈(EL bs k a out).1,Ck r
 |0,_,_,h=>h
 |k+1,a,out,h=>by
  unfold EL
  split
  ·next hy=>
   refine RR k _ _ fun r hr=>?_
   rcases List.mem_append.1 hr with g|g
   ·exact h r g
   ·rw [List.mem_singleton.1 g];exact (HS.1 hy).2.2.2
  ·exact h
theorem Z7 (bs:List UInt8):∀ r∈(CN bs).1,Ck r:=RR _ _ _ fun r h=>by cases h
theorem RQ {bs:List UInt8}:∀ (k:Nat) (a:Int) (out:List Ba),0≤a→a≤(bs.length:Int)→(out.length:Int)≤a→0≤(EL bs k a out).2∧(EL bs k a out).2≤(bs.length:Int)∧((EL bs k a out).1.length:Int)≤(EL bs k a out).2
 |0,_,_,h0,h1,h2=>⟨h0,h1,h2⟩
 |k+1,a,out,h0,h1,h2=>by
  unfold EL
  split
  ·next hy=>
   have g:=Nf (HS.1 hy).1
   exact RQ k _ _ (by omega) g.2.1 (by rw [List.length_append,List.length_singleton];omega)
  ·exact ⟨h0,h1,h2⟩
theorem Z6 (bs:List UInt8):0≤(CN bs).2∧(CN bs).2≤(bs.length:Int)∧((CN bs).1.length:Int)≤(CN bs).2:=RQ _ _ _ (Int.le_refl _) (Int.natCast_nonneg _) (Int.le_refl _)
theorem Z5 {rs:List Ba} (h:∀ r∈rs,Ck r):CN (Cw rs)=(rs,((Cw rs).length:Int)):=by
 have h1:=Xz rs
 have:=Z4 (rs:=rs) [] [] ((Cw rs).length+1) h (by omega)
 simpa [CN] using this
/-! ### Chunks that wait -/
abbrev D5:=List ((Int×Int)×List (List Ap))
def Ea:D5→Int→Int→List (List Ap)
 |[],_,_=>[]
 |e::s,a,b=>if e.1.1=a∧e.1.2=b then e.2 else Ea s a b
def JJ:D5→Int→Int→List Ap→D5
 |[],a,b,x=>[((a,b),[x])]
 |e::s,a,b,x=>if e.1.1=a∧e.1.2=b then (e.1,e.2++[x])::s else e::JJ s a b x
def Ll (s:D5) (a b:Int):Int:=((Ea s a b).length:Int)
def Nr (s:D5) (a b q:Int):Prop:=q=Ll s a b∧(0≤a∧a<6)∧(1≤b∧b≤3)∧q<40
instance (s:D5) (a b q:Int):Decidable (Nr s a b q):=by unfold Nr;infer_instance
def Lm (s:D5) (a b q:Int) (x:List Ap):D5:=if Nr s a b q then JJ s a b x else s
def cA (s:D5) (a b n:Int):Option (List Ap):=if n<0∨Ll s a b≠n then none else some (Ea s a b).flatten
def JK (s:D5) (a:Int):D5:=s.filter fun e=>decide (e.1.1≠a)
/-! ### A reducer -/
structure DB where
 merged:Bool
 pairs:List Ap
 told:Bool
 att:Int
 cnt:Int
def JL:DB:=⟨false,[],false,0,0⟩
def C5 {α:Type} (g:Nat→α) (k:Nat) (v:α):Nat→α:=fun j=>if j=k then v else g j
theorem H6 {α:Type} (g:Nat→α) (k:Nat) (v:α):C5 g k v k=v:=if_pos rfl
theorem H0 {α:Type} (g:Nat→α) {k j:Nat} (v:α) (h:j≠k):C5 g k v j=g j:=if_neg h
structure AV where
 part:Int
 ep:Int
 g:Nat→DB
 st:D5
 sets:List (List Int)
def HB (part ep:Int):AV:=⟨part,ep,fun _=>JL,[],[]⟩
def DJ (n:Nat) (R:AV) (x:Ba):AV:=
 if x.part≠R.part then R else
 let R1:AV:=if x.kind=4∧(0≤x.sp∧x.sp<n)∧(R.g x.sp.toNat).merged=false then { R with g:=C5 R.g x.sp.toNat { R.g x.sp.toNat with merged:=true,pairs:=x.pairs } } else R
 if x.kind=5 then { R1 with sets:=R1.sets++[x.set] } else R1
def C9 (n:Nat) (part ep:Int) (rs:List Ba):AV:=rs.foldl (DJ n) (HB part ep)
def C3 (n:Nat) (R:AV):List Int:=((List.range n).filter fun i=>(R.g i).merged).map fun (i:Nat)=>(i:Int)
def FC (n:Nat) (R:AV) (set:List Int):List Ap:=((List.range n).filter fun i=>(R.g i).merged && decide ((i:Int)∈set)).flatMap fun i=>(R.g i).pairs
def MP (D:By) (J:AS) (R:AV) (set:List Int):List Ap×Int:=DT D J.red (srt (FC J.us.length R set)) J.fuel false
def DV (D:By) (J:AS) (R:AV):List Ap×Int×Bool:=
 if (C3 J.us.length R).length<J.us.length then ([],0,false) else ((MP D J R (C3 J.us.length R)).1,(MP D J R (C3 J.us.length R)).2,true)
theorem QS (n:Nat) (R:AV):(C3 n R).length≤n:=by
 unfold C3
 rw [List.length_map]
 exact Nat.le_trans (List.length_filter_le _ _) (by simp)
theorem QV (n:Nat) (R:AV):C3 (n+1) R=C3 n R++(if (R.g n).merged then [(n:Int)] else []):=by
 unfold C3
 rw [List.range_succ,List.filter_append,List.map_append]
 cases h:(R.g n).merged<;>simp [h]
theorem bI (n:Nat) (R:AV) (set:List Int):FC (n+1) R set=FC n R set++(if (R.g n).merged=true∧(n:Int)∈set then (R.g n).pairs else []):=by
 unfold FC
 rw [List.range_succ,List.filter_append,List.flatMap_append]
 by_cases h:(R.g n).merged=true∧(n:Int)∈set
 ·rw [if_pos h];simp [h.1,h.2]
 ·rw [if_neg h]
  have:((R.g n).merged && decide ((n:Int)∈set))=false:=by
   cases h1:(R.g n).merged
   ·rfl
   ·simpa using fun h2=>h ⟨h1,h2⟩
  simp [this]
theorem QZ (n:Nat) (part ep:Int) (rs:List Ba) (x:Ba):C9 n part ep (rs++[x])=DJ n (C9 n part ep rs) x:=by
 unfold C9;rw [List.foldl_append];rfl
theorem aA (n:Nat) (R:AV) (x:Ba):(DJ n R x).part=R.part∧(DJ n R x).ep=R.ep∧(DJ n R x).st=R.st:=by
 unfold DJ
 dsimp only
 split
 ·exact ⟨rfl,rfl,rfl⟩
 ·split<;>(split<;>exact ⟨rfl,rfl,rfl⟩)
theorem Ju (n:Nat) (part ep:Int) (rs:List Ba):(C9 n part ep rs).part=part∧(C9 n part ep rs).ep=ep∧(C9 n part ep rs).st=[]:=by
 have:∀ (rs:List Ba) (R:AV),(rs.foldl (DJ n) R).part=R.part∧(rs.foldl (DJ n) R).ep=R.ep∧(rs.foldl (DJ n) R).st=R.st:=by
  intro rs
  induction rs with
  |nil=>exact fun R=>⟨rfl,rfl,rfl⟩
  |cons x rs ih=>
   intro R
   obtain ⟨h1,h2,h3⟩:=ih (DJ n R x)
   obtain ⟨g1,g2,g3⟩:=aA n R x
   exact ⟨h1.trans g1,h2.trans g2,h3.trans g3⟩
 exact this rs (HB part ep)
/-! ### What a part knows when it begins -/
/-! ### Records of all splits, in whatever order -/
/-! ### What it hears, what it tells -/
def KD (J:AS) (R:AV) (n:Nat):AV×List Ba:=
 if (R.g n).told=false then (R,[]) else
 match cA R.st n (R.g n).att (R.g n).cnt with
 |none=>(R,[])
 |some ps=>
  if 40<ps.length then (R,[]) else
  let R1:AV:={ R with g:=C5 R.g n { R.g n with merged:=true,pairs:=ps },st:=JK R.st n }
  let l:=C3 J.us.length R1
  if (l.length:Int)∈J.marks then ({ R1 with sets:=R1.sets++[l] },[⟨4,R.part,n,(R.g n).att,0,[],ps⟩,⟨5,R.part,0,0,0,l,[]⟩])
  else (R1,[⟨4,R.part,n,(R.g n).att,0,[],ps⟩])
def M4 (J:AS) (R:AV) (m:DK):Prop:=¬ (0≤m.sp∧m.sp<J.us.length)∨m.kind≠2∨m.part≠R.part
instance (J:AS) (R:AV) (m:DK):Decidable (M4 J R m):=by unfold M4;infer_instance
def M5 (R:AV) (m:DK):Prop:=(R.g m.sp.toNat).merged=false∧m.pairs.length≤8∧Hs m.pairs
instance (R:AV) (m:DK):Decidable (M5 R m):=by unfold M5;infer_instance
def Jx (J:AS) (R:AV) (m:DK):AV×List Ba:=
 if M5 R m then KD J { R with st:=Lm R.st m.sp m.att m.seq m.pairs } m.sp.toNat else (R,[])
def SS (R:AV) (m:DK):DK:=
 ⟨3,m.sp,m.att,R.part,0,if (R.g m.sp.toNat).merged=true then 40 else Ll R.st m.sp m.att,R.ep,0,[],[]⟩
def RA (J:AS) (R:AV) (m:DK):AV×DK×List Ba:=
 if M4 J R m then (R,X7,[]) else ((Jx J R m).1,SS (Jx J R m).1 m,(Jx J R m).2)
def NK (J:AS) (t:Int) (R:AV) (sp att:Int):Prop:=¬ (0≤sp∧sp<J.us.length)∨(R.g sp.toNat).merged=true∨(R.g sp.toNat).told=true∨att<1∨t<att
instance (J:AS) (t:Int) (R:AV) (sp att:Int):Decidable (NK J t R sp att):=by unfold NK;infer_instance
def SK (J:AS) (t:Int) (R:AV) (sp att cnt:Int):AV×List Ba:=
 if NK J t R sp att then (R,[]) else KD J { R with g:=C5 R.g sp.toNat { R.g sp.toNat with told:=true,att:=att,cnt:=cnt } } sp.toNat
structure NR where
 set:List Int
 why:Int
 pairs:List Ap
def AT (D:By) (J:AS) (R:AV):DK:=
 if (DV D J R).2.2=true then ⟨8,0,0,R.part,0,0,R.ep,(DV D J R).2.1,[],[]⟩ else ⟨6,0,0,R.part,0,0,R.ep,0,C3 J.us.length R,[]⟩
def BF (vS vM vC vR vK:Value) (J:AS) (w t o part ep:Int) (g:Nat→DB) (hv:Nat→Value) (sb:Nat) (vs:Value):List Value:=
 [vS,.int .i64 J.parts,vM,vC,vR,.int .i64 J.chunk,.int .i64 J.window,.int .i64 J.fuel,vK,.int .i64 w,.int .i64 t,.int .i64 o,.int .i64 part,.int .i64 ep,
  .bool (g 0).merged,hv 0,.bool (g 0).told,.int .i64 (g 0).att,.int .i64 (g 0).cnt,
  .bool (g 1).merged,hv 1,.bool (g 1).told,.int .i64 (g 1).att,.int .i64 (g 1).cnt,
  .bool (g 2).merged,hv 2,.bool (g 2).told,.int .i64 (g 2).att,.int .i64 (g 2).cnt,
  .bool (g 3).merged,hv 3,.bool (g 3).told,.int .i64 (g 3).att,.int .i64 (g 3).cnt,
  .bool (g 4).merged,hv 4,.bool (g 4).told,.int .i64 (g 4).att,.int .i64 (g 4).cnt,
  .bool (g 5).merged,hv 5,.bool (g 5).told,.int .i64 (g 5).att,.int .i64 (g 5).cnt,
  .pointer (some ⟨sb,0,none⟩),vs]
section
variable {vS vM vC vR vK vs:Value} {J:AS} {w t o part ep:Int} {g:Nat→DB} {hv:Nat→Value} {sb j:Nat}
theorem Nj (h:j<6):(BF vS vM vC vR vK J w t o part ep g hv sb vs)[14+j*5+0]?=some (.bool (g j).merged):=by
 match j,h with
 |0,_=>rfl
 |1,_=>rfl
 |2,_=>rfl
 |3,_=>rfl
 |4,_=>rfl
 |5,_=>rfl
theorem aH (h:j<6):(BF vS vM vC vR vK J w t o part ep g hv sb vs)[14+j*5+1]?=some (hv j):=by
 match j,h with
 |0,_=>rfl
 |1,_=>rfl
 |2,_=>rfl
 |3,_=>rfl
 |4,_=>rfl
 |5,_=>rfl
theorem aJ (h:j<6) (b:Bool):EV (BF vS vM vC vR vK J w t o part ep g hv sb vs) (14+j*5+0) [.bool b]=BF vS vM vC vR vK J w t o part ep (C5 g j { g j with merged:=b }) (hv) sb vs:=by
 match j,h with
 |0,_=>rfl
 |1,_=>rfl
 |2,_=>rfl
 |3,_=>rfl
 |4,_=>rfl
 |5,_=>rfl
theorem aK (h:j<6) (v:Value):EV (BF vS vM vC vR vK J w t o part ep g hv sb vs) (14+j*5+1) [v]=BF vS vM vC vR vK J w t o part ep (g) (C5 hv j v) sb vs:=by
 match j,h with
 |0,_=>rfl
 |1,_=>rfl
 |2,_=>rfl
 |3,_=>rfl
 |4,_=>rfl
 |5,_=>rfl
end
def HV (g:Nat→DB) (hv:Nat→Value):Nat→SP:=fun i=>Y Ag (hv i) (g i).pairs
def BY (g:Nat→DB) (hv:Nat→Value):SP:=BK (HV g hv) (List.range 6)
def M2 (g:Nat→DB) (hv:Nat→Value) (i:Nat):SP:=BK (HV g hv) ((List.range 6).eraseIdx i)
theorem RM {n i:Nat} (h:i<n):(List.range n)[i]?=some i:=by simp [h]
theorem Tl {α:Type} {f f':α→SP} {l:List α} (h:∀ x∈l,f x=f' x):BK f l=BK f' l:=by
 unfold BK;rw [List.map_congr_left h]
theorem UD {n i j:Nat} (hi:i<n) (h:j∈(List.range n).eraseIdx i):j≠i:=by
 intro e
 subst e
 have hn:((List.range n).eraseIdx j).Nodup:=(List.nodup_range (n:=n)).sublist (List.eraseIdx_sublist _ _)
 have hp:=Kg (List.range n) j (RM hi)
 have:=hp.nodup_iff.1 List.nodup_range
 exact (List.nodup_cons.1 this).1 h
theorem Oq {α:Type} {f:α→SP} {l:List α} {w:World} {F:AU} (h:(BK f l).P w F) {x:α} (hx:x∈l):(f x).P w F:=CF.mem h (List.mem_map_of_mem hx)
section
variable {w0 w:World} {F0:AU} {As Rs:List SP} {g:Nat→DB} {hv:Nat→Value} {i:Nat}
theorem Hd.prsO (hi:i<6) (H:Hd w0 F0 w (BY g hv::As) Rs):Hd w0 F0 w (Y Ag (hv i) (g i).pairs::M2 g hv i::As) Rs:=H.bigO (f:=HV g hv) i (RM hi)
theorem Hd.bigGI {f f':Nat→SP} {n:Nat} (hi:i<n) (he:∀ j,j≠i→f j=f' j) (H:Hd w0 F0 w (f' i::BK f ((List.range n).eraseIdx i)::As) Rs):Hd w0 F0 w (BK f' (List.range n)::As) Rs:=by
 rw [Tl fun j hj=>he j (UD hi hj)] at H
 have:=H.bigI (f:=f') i (by simpa using hi)
 rwa [show (List.range n).set i i=List.range n from ?_] at this
 apply List.ext_getElem? 
 intro k
 rw [List.getElem?_set]
 split
 ·rename_i e;subst e;simp [hi]
 ·rfl
theorem Hd.prsI (hi:i<6) {x:DB} {v:Value} (H:Hd w0 F0 w (Y Ag v x.pairs::M2 g hv i::As) Rs):Hd w0 F0 w (BY (C5 g i x) (C5 hv i v)::As) Rs:=by
 refine Hd.bigGI (f:=HV g hv) (f':=HV (C5 g i x) (C5 hv i v)) hi (fun j hj=>?_) ?_
 ·unfold HV;rw [H0 g x hj,H0 hv v hj]
 ·show Hd w0 F0 w (Y Ag (C5 hv i v i) (C5 g i x i).pairs::M2 g hv i::As) Rs
  rw [H6,H6];exact H
theorem Rx {F:AU} (hi:i<6) (h:(BY g hv).P w F):(Ae Ag (hv i) (g i).pairs).P w F:=B3 F (Oq h (x:=i) (List.mem_range.2 hi))
theorem Zm:∀ {w:World} {F:AU},(BY (fun _=>JL) (fun _=>.slice none 0 0)).P w F:=by
 intro w F
 have:∀ l:List Nat,CF (l.map (HV (fun _=>JL) (fun _=>.slice none 0 0))) w F:=by
  intro l
  induction l with
  |nil=>trivial
  |cons a l ih=>exact ⟨none_,F,fun _ h=>h.elim,fun _ h=>h,fun _ h=>h.elim,MU Ag w none_ trivial,ih⟩
 exact this _
theorem Hd.prsN (H:Hd w0 F0 w As Rs):Hd w0 F0 w (BY (fun _=>JL) (fun _=>.slice none 0 0)::As) Rs:=H.shut (Bs:=[]) fun _ _=>Zm
theorem Vn {α:Type} {d:Kd α} {F:AU} {v:Value} {us:List (Value×List α)} (h:(Ae DM v (us.map fun u=>Fx u.1)).P w F) (hu:∀ p∈us,(Ae d p.1 p.2).P w F):(Ae (At d) v us).P w F:=by
 obtain ⟨A,m,c,e,h1,h2,h3,cs,h4,h5⟩:=h
 refine ⟨A,m,c,e,by simpa using h1,h2,h3,cs,h4,?_⟩
 have hcs:cs=(us.map fun u=>Fx u.1).flatMap Jd:=Bc.flat_eq.1 h5
 have:(us.map fun u=>Fx u.1).flatMap Jd=us.map (·.1):=by
  clear h5 hcs h1
  induction us with
  |nil=>rfl
  |cons p us ih=>
   obtain ⟨A,c,e,_⟩:=D_ (hu p (List.mem_cons_self ..))
   rw [List.map_cons,List.flatMap_cons,ih fun q hq=>hu q (List.mem_cons_of_mem _ hq),List.map_cons,e]
   rfl
 rw [hcs,this]
 exact RU hu
end
/-! ### A row of headers held, and each slice held: a slice of slices held -/
section
variable {α:Type} {d:Kd α} {w0 w:World} {F F0:AU} {As Rs:List SP} {v:Value} {us:List (Value×List α)}
def BA (us:List (Value×List α)):List E3:=us.map fun u=>Fx u.1
def Gx (d:Kd α) (us:List (Value×List α)):SP:=BK (fun u:Value×List α=>Y d u.1 u.2) us
theorem RV:∀ {us:List (Value×List α)} {F:AU},(Gx d us).P w F→CI (At d) w F us (us.map (·.1))
 |[],_,_=>rfl
 |u::us,F,⟨F1,F2,h1,h2,h3,a,s⟩=>⟨F1,F2,[u.1],us.map (·.1),h1,h2,h3,rfl,⟨rfl,a⟩,RV (us:=us) s⟩
theorem PI (h:∀ u∈us,∃ A n c,u.1=.slice A n c):(BA us).flatMap Jd=us.map (·.1):=by
 unfold BA
 induction us with
 |nil=>rfl
 |cons p us ih=>
  obtain ⟨A,n,c,e⟩:=h p (List.mem_cons_self ..)
  rw [List.map_cons,List.flatMap_cons,ih fun q hq=>h q (List.mem_cons_of_mem _ hq),List.map_cons,e]
  rfl
theorem VA {w:World} {F:AU} (h:(Gx d us).P w F):∀ u∈us,∃ A n c,u.1=.slice A n c:=fun u hu=>by
 obtain ⟨A,c,e,_⟩:=D_ (B3 F (Oq h hu))
 exact ⟨A,_,c,e⟩
theorem Hd.hdI (H:Hd w0 F0 w (Y DM v (BA us)::Gx d us::As) Rs):Hd w0 F0 w (Y (At d) v us::As) Rs:=by
 refine H.turn2 fun F1 F2 hd h1 h2=>?_
 obtain ⟨A,n,c,e,hl,cs,G1,G2,s1,s2,dj,row,reps⟩:=h1
 have hcs:cs=us.map (·.1):=(Bc.flat_eq.1 reps.toR).trans (PI (VA h2))
 subst hcs
 exact ⟨A,n,c,e,by simpa [BA] using hl,_,G1,F2,fun k hk=>.inl (s1 k hk),fun k hk=>.inr hk,fun k hk hg=>hd k (s1 k hk) hg,row,RV h2⟩
theorem Vo {F:AU} (h:(Ae (At d) v us).P w F):(Ae DM v (BA us)).P w F:=by
 obtain ⟨A,m,c,e,h1,h2,h3,cs,h4,h5⟩:=h
 refine ⟨A,m,c,e,by simpa [BA] using h1,h2,h3,cs,h4,Bc.flat_eq.2 ?_⟩
 have hall:=PH h5
 have:∀ {us:List (Value×List α)} {cs:List Value},Bc (At d) w F us cs→cs=us.map (·.1):=by
  intro us
  induction us with
  |nil=>intro cs h;exact h
  |cons u us ih=>rintro cs ⟨c,cs',e,h1,h2⟩;rw [e,h1.1,ih h2];rfl
 rw [this h5]
 exact (PI fun u hu=>by
  obtain ⟨A,c,e,_⟩:=D_ (hall u hu)
  exact ⟨A,_,c,e⟩).symm
end
/-! ### Told anew -/
section
variable {w0 w:World} {F0:AU} {As Rs:List SP} {g g':Nat→DB} {hv:Nat→Value} {i:Nat}
theorem aI {vS vM vC vR vK vs:Value} {J:AS} {w t o part ep:Int} {sb:Nat} (h:∀ i,(g' i).merged=(g i).merged∧(g' i).told=(g i).told∧(g' i).att=(g i).att∧(g' i).cnt=(g i).cnt):
  BF vS vM vC vR vK J w t o part ep g hv sb vs=BF vS vM vC vR vK J w t o part ep g' hv sb vs:=by
 unfold BF
 rw [(h 0).1,(h 0).2.1,(h 0).2.2.1,(h 0).2.2.2,(h 1).1,(h 1).2.1,(h 1).2.2.1,(h 1).2.2.2,(h 2).1,(h 2).2.1,(h 2).2.2.1,(h 2).2.2.2,(h 3).1,(h 3).2.1,(h 3).2.2.1,(h 3).2.2.2,(h 4).1,(h 4).2.1,(h 4).2.2.1,(h 4).2.2.2,(h 5).1,(h 5).2.1,(h 5).2.2.1,(h 5).2.2.2]
theorem Hd.prsU (hi:i<6) {x:DB} {v:Value} (H:Hd w0 F0 w (Y Ag v x.pairs::BY g hv::As) Rs):Hd w0 F0 w (BY (C5 g i x) (C5 hv i v)::As) Rs:=by
 have h1:=(H.perm (List.Perm.swap _ _ _)).prsO hi
 exact Hd.prsI hi ((h1.drop.perm (List.Perm.swap _ _ _)))
def pick (g:Nat→DB) (set:List Int) (n:Nat):List Nat:=(List.range n).filter fun i=>(g i).merged && decide ((i:Int)∈set)
def DW (g:Nat→DB) (hv:Nat→Value) (set:List Int) (n:Nat):List (Value×List Ap):=(pick g set n).map fun i=>(hv i,(g i).pairs)
theorem M0 (g:Nat→DB) (hv:Nat→Value) (set:List Int) (n:Nat):DW g hv set (n+1)=DW g hv set n++(if (g n).merged=true∧(n:Int)∈set then [(hv n,(g n).pairs)] else []):=by
 unfold DW pick
 rw [List.range_succ,List.filter_append,List.map_append]
 by_cases h:(g n).merged=true∧(n:Int)∈set
 ·rw [if_pos h];simp [h.1,h.2]
 ·rw [if_neg h]
  have:((g n).merged && decide ((n:Int)∈set))=false:=by
   cases h1:(g n).merged
   ·rfl
   ·simpa using fun h2=>h ⟨h1,h2⟩
  simp [this]
theorem Ro (R:AV) (hv:Nat→Value) (set:List Int) (n:Nat):CV (DW R.g hv set n)=FC n R set:=by
 unfold CV DW FC pick
 rw [List.flatMap_map]
theorem Zh (g:Nat→DB) (hv:Nat→Value) (set:List Int) (n:Nat):(DW g hv set n).length≤n:=by
 unfold DW pick
 rw [List.length_map]
 exact Nat.le_trans (List.length_filter_le _ _) (by simp)
theorem Zi {F:AU} {set:List Int} {n:Nat} (hn:n≤6) (h:(BY g hv).P w F):∀ p∈DW g hv set n,(Ae Ag p.1 p.2).P w F:=by
 intro p hp
 obtain ⟨j,hj,rfl⟩:=List.mem_map.1 hp
 have:=List.mem_range.1 (List.mem_filter.1 hj).1
 exact Rx (by omega) h
theorem R8 {R:AV} {set:List Int} {b:Nat} (h:∀ i,(R.g i).pairs.length≤b):∀ n,(FC n R set).length≤n*b
 |0=>Nat.zero_le _
 |n+1=>by
  have ih:=R8 (set:=set) h n
  have:=h n
  rw [bI,List.length_append,Nat.succ_mul]
  split
  ·omega
  ·simp only [List.length_nil];omega
end
theorem Hd.prsFormR {w0 w:World} {F0:AU} {As Rs:List SP} {g:Nat→DB} {hv:Nat→Value} {i:Nat} (j:Nat) (hj:Rs[j]?=some (BY g hv)) (hi:i<6) (H:Hd w0 F0 w As Rs):∃ A c,hv i=.slice A (g i).pairs.length c∧(g i).pairs.length≤c∧c≤9223372036854775807∧Plain A:=
 H.factR (List.mem_of_getElem? hj) fun F h=>D_ (Rx hi h)
theorem aB {n:Nat} {N:AV} {x:Ba} (h1:x.part≠N.part):DJ n N x=N:=if_pos h1
theorem Lb {n:Nat} {N:AV} {x:Ba} (h1:x.part=N.part) (h4:¬ (x.kind=4∧(0≤x.sp∧x.sp<n)∧(N.g x.sp.toNat).merged=false)) (h5:x.kind≠5):DJ n N x=N:=by
 unfold DJ
 dsimp only
 rw [if_neg (fun h=>h h1),if_neg h5,if_neg h4]
theorem Z_ {n:Nat} {N:AV} {x:Ba} (h1:x.part=N.part) (h4:x.kind=4) (hr:0≤x.sp∧x.sp<n) (hm:(N.g x.sp.toNat).merged=false):DJ n N x={ N with g:=C5 N.g x.sp.toNat { N.g x.sp.toNat with merged:=true,pairs:=x.pairs } }:=by
 unfold DJ
 dsimp only
 rw [if_neg (fun h=>h h1),if_neg (show ¬ x.kind=5 by omega),if_pos ⟨h4,hr,hm⟩]
theorem Iq9 {n:Nat} {N:AV} {x:Ba} (h1:x.part=N.part) (h5:x.kind=5):DJ n N x={ N with sets:=N.sets++[x.set] }:=by
 unfold DJ
 dsimp only
 rw [if_neg (fun h=>h h1),if_pos h5,if_neg (fun h=>by have:=h.1;omega)]
theorem FV {n:Nat} {p ep:Int} {recs:List AW} {k:Nat} {x:AW} {R R2:AV} (hR:R=C9 n p ep ((recs.take k).map AW.p)) (hx:recs[k]?=some x) (e:DJ n R x.p=R2):R2=C9 n p ep ((recs.take (k+1)).map AW.p):=by
 rw [El hx,List.map_append]
 show R2=C9 n p ep (_++[x.p])
 rw [QZ,←hR,e]
theorem Ys {n:Nat} {p ep:Int} {b:Nat}:∀ {rs:List Ba},(∀ r∈rs,r.pairs.length≤b)→∀ i,((C9 n p ep rs).g i).pairs.length≤b:=by
 have:∀ (rs:List Ba) (R:AV),(∀ r∈rs,r.pairs.length≤b)→(∀ i,(R.g i).pairs.length≤b)→∀ i,((rs.foldl (DJ n) R).g i).pairs.length≤b:=by
  intro rs
  induction rs with
  |nil=>intro R _ h;exact h
  |cons x rs ih=>
   intro R hr h
   refine ih (DJ n R x) (fun r hr2=>hr r (List.mem_cons_of_mem _ hr2)) fun i=>?_
   have hx:=hr x (List.mem_cons_self ..)
   have key:∀ (R1:AV) (c:Prop) [Decidable c],(if c then { R1 with sets:=R1.sets++[x.set] } else R1).g=R1.g:=by
    intro R1 c _
    split<;>rfl
   unfold DJ
   dsimp only
   split
   ·exact h i
   ·rw [key]
    split
    ·dsimp only
     by_cases e:i=x.sp.toNat
     ·subst e;rw [H6];exact hx
     ·rw [H0 _ _ e];exact h i
    ·exact h i
 intro rs hr
 exact this rs (HB p ep) hr fun i=>Nat.zero_le _
def H8 (st:D5):Prop:=∀ a b,(Ea st a b).length≤40∧∀ x∈Ea st a b,x.length≤8
structure CX (n:Nat) (R:AV):Prop where
 pairs:∀ i,(R.g i).pairs.length≤1000
 st:H8 R.st
 sets:R.sets.length≤n
 setl:∀ s∈R.sets,s.length≤1000
theorem CX.mono {n m:Nat} {R:AV} (h:CX n R) (hm:n≤m):CX m R:=⟨h.pairs,h.st,Nat.le_trans h.sets hm,h.setl⟩
theorem UN {l:List (List Ap)} {n m:Nat} (h1:l.length≤n) (h2:∀ x∈l,x.length≤m):l.flatten.length≤n*m:=by
 have:∀ l:List (List Ap),(∀ x∈l,x.length≤m)→l.flatten.length≤l.length*m:=by
  intro l
  induction l with
  |nil=>intro _;simp
  |cons x l ih=>
   intro h
   have h3:=ih fun y hy=>h y (List.mem_cons_of_mem _ hy)
   have h4:=h x (List.mem_cons_self ..)
   rw [List.flatten_cons,List.length_append,List.length_cons,Nat.succ_mul]
   omega
 exact Nat.le_trans (this l h2) (Nat.mul_le_mul_right _ h1)
theorem CX.flat {n:Nat} {R:AV} (h:CX n R) (a b:Int):(Ea R.st a b).flatten.length≤320:=UN (h.st a b).1 (h.st a b).2
theorem Sf (c a b:Int):∀ st:D5,Ea (JK st c) a b=if a=c then [] else Ea st a b
 |[]=>by unfold JK;simp [Ea]
 |e::s=>by
  have ih:=Sf c a b s
  unfold JK at ih ⊢
  by_cases h:e.1.1=c
  ·rw [List.filter_cons_of_neg (by simpa using h),ih]
   by_cases h2:a=c
   ·rw [if_pos h2,if_pos h2]
   ·rw [if_neg h2,if_neg h2]
    exact (if_neg (fun h3=>h2 (h3.1.symm.trans h))).symm
  ·rw [List.filter_cons_of_pos (p:=fun e:(Int×Int)×List (List Ap)=>decide (e.1.1≠c)) (decide_eq_true h)]
   show (if e.1.1=a∧e.1.2=b then e.2 else Ea (List.filter _ s) a b)=if a=c then [] else (if e.1.1=a∧e.1.2=b then e.2 else Ea s a b)
   rw [ih]
   by_cases h2:a=c
   ·rw [if_pos h2,if_pos h2,if_neg fun h3=>h (h3.1.trans h2)]
   ·rw [if_neg h2,if_neg h2]
theorem Se (c d a b:Int) (x:List Ap):∀ st:D5,Ea (JJ st c d x) a b=if c=a∧d=b then Ea st a b++[x] else Ea st a b
 |[]=>by
  show (if c=a∧d=b then [x] else Ea [] a b)=_
  split<;>rfl
 |e::s=>by
  have ih:=Se c d a b x s
  show Ea (if e.1.1=c∧e.1.2=d then (e.1,e.2++[x])::s else e::JJ s c d x) a b=if c=a∧d=b then (if e.1.1=a∧e.1.2=b then e.2 else Ea s a b)++[x] else (if e.1.1=a∧e.1.2=b then e.2 else Ea s a b)
  by_cases h:e.1.1=c∧e.1.2=d
  ·rw [if_pos h]
   show (if e.1.1=a∧e.1.2=b then e.2++[x] else Ea s a b)=_
   by_cases h2:c=a∧d=b
   ·have h3:e.1.1=a∧e.1.2=b:=⟨h.1.trans h2.1,h.2.trans h2.2⟩
    rw [if_pos h2,if_pos h3,if_pos h3]
   ·have h3:¬ (e.1.1=a∧e.1.2=b):=fun h4=>h2 ⟨h.1.symm.trans h4.1,h.2.symm.trans h4.2⟩
    rw [if_neg h2,if_neg h3,if_neg h3]
  ·rw [if_neg h]
   show (if e.1.1=a∧e.1.2=b then e.2 else Ea (JJ s c d x) a b)=_
   rw [ih]
   by_cases h2:c=a∧d=b
   ·have h3:¬ (e.1.1=a∧e.1.2=b):=fun h4=>h ⟨h4.1.trans h2.1.symm,h4.2.trans h2.2.symm⟩
    rw [if_pos h2,if_neg h3,if_neg h3,if_pos h2]
   ·rw [if_neg h2,if_neg h2]
theorem H8.drop {st:D5} (h:H8 st) (c:Int):H8 (JK st c):=by
 intro a b
 rw [Sf]
 split
 ·exact ⟨by simp,fun x hx=>by cases hx⟩
 ·exact h a b
theorem H8.put {st:D5} (h:H8 st) {a b q:Int} {x:List Ap} (hx:x.length≤8):H8 (Lm st a b q x):=by
 unfold Lm
 split
 ·rename_i hm
  intro c d
  rw [Se]
  split
  ·rename_i e
   obtain ⟨rfl,rfl⟩:=e
   have h1:=hm.1
   have h2:=hm.2.2.2
   unfold Ll at h1
   refine ⟨by rw [List.length_append,List.length_singleton];omega,fun y hy=>?_⟩
   rcases List.mem_append.1 hy with hy|hy
   ·exact (h _ _).2 y hy
   ·rw [List.mem_singleton.1 hy];exact hx
  ·exact h c d
 ·exact h
theorem CX.looks {n:Nat} {J:AS} {R:AV} (h:CX n R) (h6:J.us.length≤6) (k:Nat):CX (n+1) (KD J R k).1:=by
 have hg:∀ ps:List Ap,ps.length≤40→∀ i,((C5 R.g k { R.g k with merged:=true,pairs:=ps }:Nat→DB) i).pairs.length≤1000:=fun ps hps i=>by
  by_cases e:i=k
  ·subst e
   rw [H6]
   show ps.length≤1000
   omega
  ·rw [H0 _ _ e]
   exact h.pairs i
 have h':CX (n+1) R:=h.mono (Nat.le_succ n)
 unfold KD
 split
 ·exact h'
 ·split
  ·exact h'
  ·split
   ·exact h'
   ·rename_i hl
    dsimp only
    split
    ·refine ⟨hg _ (by omega),h.st.drop _,by show (R.sets++[_]).length≤n+1;rw [List.length_append,List.length_singleton];have:=h.sets;omega,fun s hs=>?_⟩
     rcases List.mem_append.1 hs with hs|hs
     ·exact h.setl s hs
     ·rw [List.mem_singleton.1 hs]
      exact Nat.le_trans (QS _ _) (by omega)
    ·exact ⟨hg _ (by omega),h.st.drop _,Nat.le_succ_of_le h.sets,h.setl⟩
theorem CX.push {n:Nat} {J:AS} {R:AV} (h:CX n R) (h6:J.us.length≤6) (m:DK):CX (n+1) (RA J R m).1:=by
 unfold RA
 split
 ·exact h.mono (Nat.le_succ n)
 ·show CX (n+1) (Jx J R m).1
  unfold Jx
  split
  ·rename_i ht
   exact CX.looks (R:={ R with st:=Lm R.st m.sp m.att m.seq m.pairs }) ⟨h.pairs,h.st.put ht.2.1,h.sets,h.setl⟩ h6 _
  ·exact h.mono (Nat.le_succ n)
theorem CX.won {n:Nat} {J:AS} {t:Int} {R:AV} (h:CX n R) (h6:J.us.length≤6) (sp att cnt:Int):CX (n+1) (SK J t R sp att cnt).1:=by
 unfold SK
 split
 ·exact h.mono (Nat.le_succ n)
 ·refine CX.looks (R:={ R with g:=C5 R.g sp.toNat { R.g sp.toNat with told:=true,att:=att,cnt:=cnt } }) ⟨fun i=>?_,h.st,h.sets,h.setl⟩ h6 _
  show ((C5 R.g sp.toNat { R.g sp.toNat with told:=true,att:=att,cnt:=cnt }:Nat→DB) i).pairs.length≤1000
  by_cases e:i=sp.toNat
  ·subst e;rw [H6];exact h.pairs _
  ·rw [H0 _ _ e];exact h.pairs i
theorem Yw (n:Nat) (p ep:Int) (rs:List Ba):(C9 n p ep rs).sets.length≤rs.length:=by
 have key:∀ rs:List Ba,(C9 n p ep rs.reverse).sets.length≤rs.length:=by
  intro rs
  induction rs with
  |nil=>simp [C9,HB]
  |cons x rs ih=>
   rw [List.reverse_cons,QZ,List.length_cons]
   have hx:∀ R:AV,(DJ n R x).sets.length≤R.sets.length+1:=by
    intro R
    unfold DJ
    dsimp only
    split
    ·omega
    ·split<;>split<;>simp
   have:=hx (C9 n p ep rs.reverse)
   omega
 have:=key rs.reverse
 rwa [List.reverse_reverse,List.length_reverse] at this
theorem Yv (n:Nat) (p ep:Int) (b:Nat) (rs:List Ba) (h:∀ r∈rs,r.set.length≤b):∀ s∈(C9 n p ep rs).sets,s.length≤b:=by
 have key:∀ (rs:List Ba) (R:AV),(∀ r∈rs,r.set.length≤b)→(∀ s∈R.sets,s.length≤b)→∀ s∈(rs.foldl (DJ n) R).sets,s.length≤b:=by
  intro rs
  induction rs with
  |nil=>intro R _ h;exact h
  |cons x rs ih=>
   intro R hr hR
   refine ih (DJ n R x) (fun r hq=>hr r (List.mem_cons_of_mem _ hq)) ?_
   have hx:=hr x (List.mem_cons_self ..)
   have hc:∀ R1:AV,R1.sets=R.sets→∀ s∈(if x.kind=5 then ({ R1 with sets:=R1.sets++[x.set] }:AV) else R1).sets,s.length≤b:=by
    intro R1 e s hs
    split at hs
    ·rcases List.mem_append.1 hs with hs|hs
     ·rw [e] at hs;exact hR s hs
     ·rw [List.mem_singleton.1 hs];exact hx
    ·rw [e] at hs;exact hR s hs
   unfold DJ
   dsimp only
   split
   ·exact hR
   ·refine hc _ ?_
    split<;>rfl
 exact key rs (HB p ep) h fun s hs=>by cases hs
theorem CX.new {n:Nat} {p ep:Int} {rs:List Ba} (h:∀ r∈rs,r.pairs.length≤1000∧r.set.length≤1000):CX rs.length (C9 n p ep rs):=⟨Ys fun r hr=>(h r hr).1,by rw [(Ju n p ep rs).2.2];exact fun a b=>⟨by simp [Ea],fun x hx=>by cases hx⟩,Yw n p ep rs,Yv n p ep 1000 rs fun r hr=>(h r hr).2⟩
section
variable {J:AS} {R R1:AV} {k:Nat} {n:Int} {ps:List Ap}
end
/-! ### Once -/
/-! ### Records -/
structure fS (n:Nat) (R N:AV):Prop where
 part:N.part=R.part
 g:∀ s,s<n→(N.g s).merged=(R.g s).merged∧(N.g s).pairs=(R.g s).pairs
 sets:N.sets=R.sets
abbrev Hh:=(Int×Int)×Value×List (Value×List Ap)
def JO (e:Hh):(Int×Int)×List (List Ap):=(e.1,e.2.2.map (·.2))
def H9 (e:Hh):(Int×Int)×Value:=(e.1,e.2.1)
def HD (e:Hh):SP:=Y (At Ag) e.2.1 e.2.2
def Lq (mb:Nat) (st:D5):SP:=ex fun kvs:List Hh=>BV [BT (kvs.map JO=st),B5 Gy mb (kvs.map H9),BK HD kvs]
def CO (t sb:Nat) (st:D5):SP:=ex fun mb:Nat=>BV [blk sb [.map (some mb)] t,Lq mb st]
def FW:Value:=.slice none 0 0
section
variable {kvs:List Hh} {k:Int×Int} {x:Value×List (Value×List Ap)}
end
section
variable {w0 w:World} {F0:AU} {As Rs:List SP} {t sb mb:Nat} {st:D5} {kvs:List Hh} {k:Int×Int} {v:Value} {us:List (Value×List Ap)}
theorem Hd.stgC (he:kvs.map JO=st) (H:Hd w0 F0 w (blk sb [.map (some mb)] t::B5 Gy mb (kvs.map H9)::BK HD kvs::As) Rs):Hd w0 F0 w (CO t sb st::As) Rs:=by
 have h3:Hd w0 F0 w (BT (kvs.map JO=st)::B5 Gy mb (kvs.map H9)::BK HD kvs::blk sb [.map (some mb)] t::As) Rs:=
  (H.perm (((List.Perm.swap _ _ _).trans ((List.Perm.swap _ _ _).cons _)):(blk sb [.map (some mb)] t::B5 Gy mb (kvs.map H9)::BK HD kvs::As).Perm (B5 Gy mb (kvs.map H9)::BK HD kvs::blk sb [.map (some mb)] t::As))).puI he
 have h4:Hd w0 F0 w (Lq mb st::blk sb [.map (some mb)] t::As) Rs:=Hd.exI (A:=fun kvs:List Hh=>BV [BT (kvs.map JO=st),B5 Gy mb (kvs.map H9),BK HD kvs]) kvs (Hd.stI (Bs:=[BT (kvs.map JO=st),B5 Gy mb (kvs.map H9),BK HD kvs]) h3)
 exact Hd.exI (A:=fun mb:Nat=>BV [blk sb [.map (some mb)] t,Lq mb st]) mb (Hd.stI (Bs:=[blk sb [.map (some mb)] t,Lq mb st]) (h4.perm (List.Perm.swap _ _ _)))
theorem Hd.st0 (H:Hd w0 F0 w (blk sb [.map (some mb)] t::B5 Gy mb []::As) Rs):Hd w0 F0 w (CO t sb []::As) Rs:=
 Hd.stgC (kvs:=[]) rfl (((H.perm (List.Perm.swap _ _ _)).big0 HD).perm (((List.Perm.swap _ _ _).trans ((List.Perm.swap _ _ _).cons _)).trans (List.Perm.swap _ _ _)))
end
def JF (r:AW):SP:=BV [Y (Ai .i64) r.sv r.set,Y Ag r.pv r.pairs]
def EM (us:List AW):SP:=BK JF us
section
variable {w0 w:World} {F F0:AU} {As Rs:List SP} {v:Value} {us:List AW}
theorem aE {r:AW} (h:(JF r).P w F):GS r=E9 (C_ r):=by
 obtain ⟨F1,F2,_,_,_,a,F3,F4,_,_,_,b,_⟩:=h
 obtain ⟨A1,c1,e1,_⟩:=D_ (B3 _ a)
 obtain ⟨A2,c2,e2,_⟩:=D_ (B3 _ b)
 simp [GS,E9,C_,Fx,e1,e2]
theorem aD {r:AW} (h:(JF r).P w F):BI.O w F r (E9 (C_ r)):=by
 have e:=aE h
 obtain ⟨F1,F2,h1,h2,h3,a,F3,F4,g1,g2,g3,b,_⟩:=h
 exact ⟨e.symm,F1,F3,h1,fun k hk=>h2 k (g1 k hk),fun k hk hk2=>h3 k hk (g1 k hk2),a,b⟩
theorem RX:∀ {us:List AW} {F:AU},(EM us).P w F→CI BI w F us ((us.map C_).flatMap E9)
 |[],_,_=>rfl
 |u::us,F,⟨F1,F2,h1,h2,h3,a,s⟩=>⟨F1,F2,E9 (C_ u),(us.map C_).flatMap E9,h1,h2,h3,rfl,aD a,RX (us:=us) s⟩
theorem Hd.recI (H:Hd w0 F0 w (Y Eg v (us.map C_)::EM us::As) Rs):Hd w0 F0 w (Y BI v us::As) Rs:=by
 refine H.turn2 fun F1 F2 hd h1 h2=>?_
 obtain ⟨A,n,c,e,hl,cs,G1,G2,s1,s2,dj,row,reps⟩:=h1
 have hcs:cs=(us.map C_).flatMap E9:=Bc.flat_eq.1 reps.toR
 subst hcs
 exact ⟨A,n,c,e,by simpa using hl,_,G1,F2,fun k hk=>.inl (s1 k hk),fun k hk=>.inr hk,fun k hk hg=>hd k (s1 k hk) hg,row,RX h2⟩
theorem Hd.recN {r:AW} (H:Hd w0 F0 w (Y (Ai .i64) r.sv r.set::Y Ag r.pv r.pairs::EM us::As) Rs):Hd w0 F0 w (EM (us++[r])::As) Rs:=
 Hd.bigN (f:=JF) (x:=r) (Hd.stI (Bs:=[Y (Ai .i64) r.sv r.set,Y Ag r.pv r.pairs]) H)
theorem Hd.rec0 (H:Hd w0 F0 w As Rs):Hd w0 F0 w (EM []::As) Rs:=H.big0 JF
end
theorem Vs {D:By} {J:AS} {R:AV} (h:(DV D J R).2.2=true):AT D J R=⟨8,0,0,R.part,0,0,R.ep,(DV D J R).2.1,[],[]⟩:=if_pos h
theorem PL {D:By} {J:AS} {R:AV} (h:¬ (DV D J R).2.2=true):AT D J R=⟨6,0,0,R.part,0,0,R.ep,0,C3 J.us.length R,[]⟩:=if_neg h
/-! ### Six slices in a row -/
section
variable {w:World} {F:AU}
theorem aG {v:Value} {us:List AW} (h:(Ae Eg v (us.map C_)).P w F) (hu:∀ r∈us,(Ae (Ai .i64) r.sv r.set).P w F∧(Ae Ag r.pv r.pairs).P w F):(Ae BI v us).P w F:=by
 obtain ⟨A,m,c,e,h1,h2,h3,cs,h4,h5⟩:=h
 refine ⟨A,m,c,e,by simpa using h1,h2,h3,cs,h4,?_⟩
 have hcs:cs=(us.map C_).flatMap E9:=Bc.flat_eq.1 h5
 subst hcs
 clear h5 h4 h1 e
 induction us with
 |nil=>rfl
 |cons r us ih=>
  obtain ⟨g1,g2⟩:=hu r (List.mem_cons_self ..)
  obtain ⟨A1,c1,e1,_⟩:=D_ g1
  obtain ⟨A2,c2,e2,_⟩:=D_ g2
  refine ⟨E9 (C_ r),(us.map C_).flatMap E9,rfl,⟨?_,g1,g2⟩,ih fun q hq=>hu q (List.mem_cons_of_mem _ hq)⟩
  simp [GS,E9,C_,Fx,e1,e2]
def KO:Value:=.slice none 0 0
end
theorem Bj.out {A B:AS} (h:Bj A B) (D:By) (R:AV):DV D A R=DV D B R:=by
 unfold DV MP
 rw [h.len,h.red,h.fuel]
structure Fg (α:Type) where
 sz:Nat
 enc:α→Value→Value→List Value
 len:∀ a s p,(enc a s p).length=sz
 one:∀ a s p,∀ c∈enc a s p,c=s∨c=p∨c.oneCell'=true
 pos:0<sz
structure Bk (α:Type) where
 h:α
 sv:Value
 set:List Int
 pv:Value
 pairs:List Ap
structure Dg (α:Type) where
 h:α
 hs:E3
 hp:E3
section
variable {α:Type}
def Fg.e (S:Fg α) (x:Bk α):List Value:=S.enc x.h x.sv x.pv
def Fg.f (S:Fg α) (x:Dg α):List Value:=S.enc x.h (.slice x.hs.A x.hs.n x.hs.c) (.slice x.hp.A x.hp.n x.hp.c)
def EI (S:Fg α):Kd (Bk α) where
 sz:=S.sz
 O w F x cs:=cs=S.e x∧∃ F1 F2:AU,(∀ k,F1 k→F k)∧(∀ k,F2 k→F k)∧(∀ k,F1 k→¬ F2 k)∧(Cm (Ai .i64)).O w F1 x.set [x.sv]∧(Cm Ag).O w F2 x.pairs [x.pv]
 R w F x cs:=cs=S.e x∧(Cm (Ai .i64)).R w F x.set [x.sv]∧(Cm Ag).R w F x.pairs [x.pv]
 O_loc:=fun ⟨e,F1,F2,s1,s2,dj,h1,h2⟩ hk=>⟨e,F1,F2,s1,s2,dj,(Cm _).O_loc h1 (fun k x=>hk k (s1 k x)),(Cm _).O_loc h2 (fun k x=>hk k (s2 k x))⟩
 O_mono:=fun ⟨e,F1,F2,s1,s2,dj,h1,h2⟩ hk=>⟨e,F1,F2,fun k x=>hk k (s1 k x),fun k x=>hk k (s2 k x),dj,h1,h2⟩
 R_loc:=fun ⟨e,h1,h2⟩ hk=>⟨e,(Cm _).R_loc h1 hk,(Cm _).R_loc h2 hk⟩
 R_mono:=fun ⟨e,h1,h2⟩ hk=>⟨e,(Cm _).R_mono h1 hk,(Cm _).R_mono h2 hk⟩
 O_R:=fun ⟨e,F1,F2,s1,s2,dj,h1,h2⟩=>⟨e,(Cm _).R_mono ((Cm _).O_R h1) s1,(Cm _).R_mono ((Cm _).O_R h2) s2⟩
 len h:=by rw [h.1];exact S.len _ _ _
 one:=fun ⟨e,h1,h2⟩ c hc=>by
  have g1:=(Cm _).one h1
  have g2:=(Cm _).one h2
  subst e
  rcases S.one _ _ _ c hc with rfl|rfl|h
  ·exact g1 _ (List.mem_cons_self ..)
  ·exact g2 _ (List.mem_cons_self ..)
  ·exact h
 pos:=S.pos
def Iz (S:Fg α):Kd (Dg α):=flat S.f S.sz S.pos (fun x=>S.len _ _ _) (fun x c hc=>by
 rcases S.one _ _ _ c hc with rfl|rfl|h
 ·rfl
 ·rfl
 ·exact h)
def A9 (r:Bk α):Dg α:=⟨r.h,Fx r.sv,Fx r.pv⟩
variable {S:Fg α} {w w0:World} {F F0:AU} {As Rs:List SP} {A:Option Addr} {m c:Nat}
theorem JR {us:List (Bk α)} (h:(Ae (EI S) (.slice A m c) us).P w F) {i:Nat} {x:Bk α} (hx:us[i]?=some x):
  FK A∧(∀ q u,(S.e x)[q]?=some u→w.cell? ⟨Ep A,A_ A+i*S.sz+q,none⟩=some u)∧(Ae (Ai .i64) x.sv x.set).P w F∧(Ae Ag x.pv x.pairs).P w F:=by
 obtain ⟨b,off,cs,e,hl,hc,h1,h2,h3⟩:=JG h hx
 subst h1 e
 exact ⟨rfl,hc,h2,h3⟩
theorem NC {us:List (Bk α)} (h:(Ae (EI S) (.slice A m c) us).P w F) {i:Nat} {a:α} {sv pv:Value} {set:List Int} {pairs:List Ap} (hx:us[i]?=some ⟨a,sv,set,pv,pairs⟩):(Ae (Ai .i64) sv set).P w F:=(JR h hx).2.2.1
theorem NB {us:List (Bk α)} (h:(Ae (EI S) (.slice A m c) us).P w F) {i:Nat} {a:α} {sv pv:Value} {set:List Int} {pairs:List Ap} (hx:us[i]?=some ⟨a,sv,set,pv,pairs⟩):(Ae Ag pv pairs).P w F:=(JR h hx).2.2.2
theorem Hd.thRt {us:List (Bk α)} (H:Hd w0 F0 w As Rs) (j:Nat) (hj:Rs[j]?=some (Ae (EI S) (.slice A m c) us)) {i:Nat} {x:Bk α} (hx:us[i]?=some x):FK A:=H.factR (List.mem_of_getElem? hj) fun _ h=>(JR h hx).1
theorem Hd.elRt {us:List (Bk α)} (H:Hd w0 F0 w As Rs) (j:Nat) (hj:Rs[j]?=some (Ae (EI S) (.slice A m c) us)) {i:Nat} {x:Bk α} (hx:us[i]?=some x) {q p:Nat} {u:Value} (hu:(S.e x)[q]?=some u) (hp:A_ A+i*S.sz+q=p):w.cell? ⟨Ep A,p,none⟩=some u:=by
 subst hp
 exact H.factR (List.mem_of_getElem? hj) fun _ h=>(JR h hx).2.1 q u hu
theorem Ze {l cs:List Value} {d n q:Nat} {v:Value} (h:(l.drop d).take n=cs) (hq:cs[q]?=some v):l[d+q]?=some v:=by
 subst h
 rw [List.getElem?_take] at hq
 split at hq
 ·rwa [List.getElem?_drop] at hq
 ·cases hq
theorem Hd.elsRt {us:List (Bk α)} (H:Hd w0 F0 w As Rs) (j:Nat) (hj:Rs[j]?=some (Ae (EI S) (.slice A m c) us)) {i:Nat} {x:Bk α} (hx:us[i]?=some x) {p:Nat} (d n:Nat) {cs:List Value} (hc:((S.e x).drop d).take n=cs) (hpj:A_ A+i*S.sz+d=p):∀ q v,cs[q]?=some v→w.cell? ((⟨Ep A,p,none⟩:Addr).add q)=some v:=by
 intro q v hq
 rw [EE,←hpj,Nat.add_assoc]
 exact H.factR (List.mem_of_getElem? hj) fun F h=>(JR h hx).2.1 _ v (Ze hc hq)
theorem Hd.nestRt {us:List (Bk α)} (H:Hd w0 F0 w As Rs) (j:Nat) (hj:Rs[j]?=some (Ae (EI S) (.slice A m c) us)) {i:Nat} {a:α} {sv pv:Value} {set:List Int} {pairs:List Ap} (hx:us[i]?=some ⟨a,sv,set,pv,pairs⟩):
  ∃ A1 c1 A2 c2,sv=.slice A1 set.length c1∧pv=.slice A2 pairs.length c2∧set.length≤c1∧c1≤9223372036854775807∧pairs.length≤c2∧c2≤9223372036854775807:=by
 refine H.factR (List.mem_of_getElem? hj) fun _ h=>?_
 obtain ⟨A1,c1,e1,g1,g2,_⟩:=D_ (NC h hx)
 obtain ⟨A2,c2,e2,g3,g4,_⟩:=D_ (NB h hx)
 exact ⟨A1,c1,A2,c2,e1,e2,g1,g2,g3,g4⟩
/-! ### Held: the cells in one row, the slices apart -/
theorem Sq {r:Bk α} {A1 A2:Option Addr} {n1 c1 n2 c2:Nat} (e1:r.sv=.slice A1 n1 c1) (e2:r.pv=.slice A2 n2 c2):S.e r=S.f (A9 r):=by
 simp [Fg.e,Fg.f,A9,Fx,e1,e2]
theorem dP {v:Value} {us:List (Bk α)} (h:(Ae (Iz S) v (us.map A9)).P w F) (hu:∀ r∈us,(Ae (Ai .i64) r.sv r.set).P w F∧(Ae Ag r.pv r.pairs).P w F):(Ae (EI S) v us).P w F:=by
 obtain ⟨A,m,c,e,h1,h2,h3,cs,h4,h5⟩:=h
 refine ⟨A,m,c,e,by simpa using h1,h2,h3,cs,h4,?_⟩
 have hcs:cs=(us.map A9).flatMap S.f:=Bc.flat_eq.1 h5
 subst hcs
 clear h5 h4 h1 e
 induction us with
 |nil=>rfl
 |cons r us ih=>
  obtain ⟨g1,g2⟩:=hu r (List.mem_cons_self ..)
  obtain ⟨A1,c1,e1,_⟩:=D_ g1
  obtain ⟨A2,c2,e2,_⟩:=D_ g2
  exact ⟨S.f (A9 r),(us.map A9).flatMap S.f,rfl,⟨(Sq e1 e2).symm,g1,g2⟩,ih fun q hq=>hu q (List.mem_cons_of_mem _ hq)⟩
def EX (r:Bk α):SP:=BV [Y (Ai .i64) r.sv r.set,Y Ag r.pv r.pairs]
def BC (us:List (Bk α)):SP:=BK EX us
theorem Sp {r:Bk α} (h:(EX r).P w F):S.e r=S.f (A9 r):=by
 obtain ⟨F1,F2,_,_,_,a,F3,F4,_,_,_,b,_⟩:=h
 obtain ⟨A1,c1,e1,_⟩:=D_ (B3 _ a)
 obtain ⟨A2,c2,e2,_⟩:=D_ (B3 _ b)
 exact Sq e1 e2
theorem dN {r:Bk α} (h:(EX r).P w F):(EI S).O w F r (S.f (A9 r)):=by
 have e:=Sp (S:=S) h
 obtain ⟨F1,F2,h1,h2,h3,a,F3,F4,g1,g2,g3,b,_⟩:=h
 exact ⟨e.symm,F1,F3,h1,fun k hk=>h2 k (g1 k hk),fun k hk hk2=>h3 k hk (g1 k hk2),a,b⟩
theorem dO {r:Bk α} {cs:List Value} (h:(EI S).O w F r cs):(EX r).P w F∧cs=S.e r:=by
 obtain ⟨e,F1,F2,h1,h2,h3,a,b⟩:=h
 exact ⟨⟨F1,F2,h1,h2,h3,a,F2,none_,fun _ q=>q,fun _ q=>q.elim,fun _ _ q=>q,b,trivial⟩,e⟩
theorem RY:∀ {us:List (Bk α)} {F:AU},(BC us).P w F→CI (EI S) w F us ((us.map A9).flatMap S.f)
 |[],_,_=>rfl
 |u::us,F,⟨F1,F2,h1,h2,h3,a,s⟩=>⟨F1,F2,S.f (A9 u),(us.map A9).flatMap S.f,h1,h2,h3,rfl,dN a,RY (us:=us) s⟩
variable {v:Value} {us:List (Bk α)}
theorem Hd.twI (H:Hd w0 F0 w (Y (Iz S) v (us.map A9)::BC us::As) Rs):Hd w0 F0 w (Y (EI S) v us::As) Rs:=by
 refine H.turn2 fun F1 F2 hd h1 h2=>?_
 obtain ⟨A,n,c,e,hl,cs,G1,G2,s1,s2,dj,row,reps⟩:=h1
 have hcs:cs=(us.map A9).flatMap S.f:=Bc.flat_eq.1 reps.toR
 subst hcs
 exact ⟨A,n,c,e,by simpa using hl,_,G1,F2,fun k hk=>.inl (s1 k hk),fun k hk=>.inr hk,fun k hk hg=>hd k (s1 k hk) hg,row,RY h2⟩
theorem RZ:∀ {us:List (Bk α)} {F:AU} {cs:List Value},CI (EI S) w F us cs→(BC us).P w F∧cs=(us.map A9).flatMap S.f
 |[],_,_,h=>⟨trivial,h⟩
 |u::us,F,cs,⟨F1,F2,c,cs',h1,h2,h3,e,a,s⟩=>by
  obtain ⟨g1,g2⟩:=RZ s
  obtain ⟨b1,b2⟩:=dO a
  refine ⟨⟨F1,F2,h1,h2,h3,b1,g1⟩,?_⟩
  rw [e,b2,g2,Sp b1];rfl
theorem Hd.twO (H:Hd w0 F0 w (Y (EI S) v us::As) Rs):Hd w0 F0 w (Y (Iz S) v (us.map A9)::BC us::As) Rs:=by
 have:Hd w0 F0 w ([Y (Iz S) v (us.map A9),BC us]++As) Rs:=H.open_ fun F h=>by
  obtain ⟨A,n,c,e,hl,cs,G1,G2,s1,s2,dj,row,reps⟩:=h
  obtain ⟨g1,rfl⟩:=RZ reps
  exact ⟨G1,G2,s1,s2,dj,⟨A,n,c,e,by simpa using hl,_,G1,none_,fun _ h=>h,fun _ h=>h.elim,fun _ _ h=>h,row,CI.flatR (F:=none_) (Bc.flat_eq.2 U)⟩,G2,none_,fun _ h=>h,fun _ h=>h.elim,fun _ _ h=>h,g1,trivial⟩
 exact this
theorem Hd.twN {r:Bk α} (H:Hd w0 F0 w (Y (Ai .i64) r.sv r.set::Y Ag r.pv r.pairs::BC us::As) Rs):Hd w0 F0 w (BC (us++[r])::As) Rs:=
 Hd.bigN (f:=EX) (x:=r) (Hd.stI (Bs:=[Y (Ai .i64) r.sv r.set,Y Ag r.pv r.pairs]) H)
theorem Hd.tw0 (H:Hd w0 F0 w As Rs):Hd w0 F0 w (BC ([]:List (Bk α))::As) Rs:=H.big0 EX
end
/-! ### Messages, letters, acts, snapshots -/
structure CE where
 kind:Int
 sp:Int
 att:Int
 part:Int
 seq:Int
 next:Int
 ep:Int
 why:Int
def Lo:Fg CE where
 sz:=10
 enc m s p:=[.int .i64 m.kind,.int .i64 m.sp,.int .i64 m.att,.int .i64 m.part,.int .i64 m.seq,.int .i64 m.next,.int .i64 m.ep,.int .i64 m.why,s,p]
 len _ _ _:=rfl
 one _ _ _ c h:=by
  simp only [List.mem_cons,List.not_mem_nil,or_false] at h
  rcases h with rfl|rfl|rfl|rfl|rfl|rfl|rfl|rfl|rfl|rfl<;>first |exact .inr (.inr rfl)|exact .inl rfl|exact .inr (.inl rfl)
 pos:=by omega
structure fM where
 won:Bool
 m:CE
 n:Int
structure fN where
 hear:Bool
 fr:Int
 m:CE
structure BB where
 fr:Int
 to:Int
 m:CE
def Ln:Fg BB where
 sz:=12
 enc a s p:=[.int .i64 a.fr,.int .i64 a.to,.int .i64 a.m.kind,.int .i64 a.m.sp,.int .i64 a.m.att,.int .i64 a.m.part,.int .i64 a.m.seq,.int .i64 a.m.next,.int .i64 a.m.ep,.int .i64 a.m.why,s,p]
 len _ _ _:=rfl
 one _ _ _ c h:=by
  simp only [List.mem_cons,List.not_mem_nil,or_false] at h
  rcases h with rfl|rfl|rfl|rfl|rfl|rfl|rfl|rfl|rfl|rfl|rfl|rfl<;>first |exact .inr (.inr rfl)|exact .inl rfl|exact .inr (.inl rfl)
 pos:=by omega
abbrev Jm:=EI Lo
abbrev EH:=Iz Lo
abbrev BO:=EI Ln
abbrev B8:=Iz Ln
def CE.p (m:CE) (set:List Int) (ps:List Ap):DK:=⟨m.kind,m.sp,m.att,m.part,m.seq,m.next,m.ep,m.why,set,ps⟩
def GB (x:Bk CE):DK:=x.h.p x.set x.pairs
theorem FU {a b:DK}:a=b↔a.kind=b.kind∧a.sp=b.sp∧a.att=b.att∧a.part=b.part∧a.seq=b.seq∧a.next=b.next∧a.ep=b.ep∧a.why=b.why∧a.set=b.set∧a.pairs=b.pairs:=by
 constructor
 ·rintro rfl;exact ⟨rfl,rfl,rfl,rfl,rfl,rfl,rfl,rfl,rfl,rfl⟩
 ·rintro ⟨h1,h2,h3,h4,h5,h6,h7,h8,h9,h10⟩
  cases a;cases b
  simp only at h1 h2 h3 h4 h5 h6 h7 h8 h9 h10
  subst h1 h2 h3 h4 h5 h6 h7 h8 h9 h10
  rfl
instance msgD (a b:DK):Decidable (a=b):=decidable_of_iff _ FU.symm
/-! ### How they come in -/
section
variable {P:Program} {t:TypeId}
abbrev If (m:CE):Prop:=AL m.kind∧AL m.sp∧AL m.att∧AL m.part∧AL m.seq∧AL m.next∧AL m.ep∧AL m.why
def Ig {α:Type} (Q:α→Prop) (W2:Ap→Prop) (x:Bk α):Prop:=Q x.h∧((∀ i∈x.set,AL i)∧x.set.length≤9223372036854775807)∧((∀ p∈x.pairs,W2 p)∧x.pairs.length≤9223372036854775807)
theorem YT {i s p:TypeId} {W2:Ap→Prop} (hs:GI P t=some [(i,0,1),(i,1,1),(i,2,1),(i,3,1),(i,4,1),(i,5,1),(i,6,1),(i,7,1),(s,8,1),(p,9,1)]) (hc:P.cellsOf t=10) (hi:P.underlying i=some (.int .i64))
  (h1:Ga P s (Cm (Ai .i64)) (fun xs=>(∀ x∈xs,AL x)∧xs.length≤9223372036854775807)) (h2:Ga P p (Cm Ag) (fun xs=>(∀ x∈xs,W2 x)∧xs.length≤9223372036854775807)):
  Ga P t Jm (Ig If W2):=by
 intro H enc w fuel cs x h
 obtain ⟨hl,n,hf⟩:=KU hs h
 rw [hc] at hl
 match cs,hl with
 |[c0,c1,c2,c3,c4,c5,c6,c7,c8,c9],_=>
  obtain ⟨y0,g0⟩:=hf 0 _ _ _ rfl
  obtain ⟨y1,g1⟩:=hf 1 _ _ _ rfl
  obtain ⟨y2,g2⟩:=hf 2 _ _ _ rfl
  obtain ⟨y3,g3⟩:=hf 3 _ _ _ rfl
  obtain ⟨y4,g4⟩:=hf 4 _ _ _ rfl
  obtain ⟨y5,g5⟩:=hf 5 _ _ _ rfl
  obtain ⟨y6,g6⟩:=hf 6 _ _ _ rfl
  obtain ⟨y7,g7⟩:=hf 7 _ _ _ rfl
  obtain ⟨y8,g8⟩:=hf 8 _ _ _ rfl
  obtain ⟨y9,g9⟩:=hf 9 _ _ _ rfl
  obtain ⟨a0,r0,w0⟩:=Fz hi enc w n _ _ g0
  obtain ⟨a1,r1,w1⟩:=Fz hi enc w n _ _ g1
  obtain ⟨a2,r2,w2⟩:=Fz hi enc w n _ _ g2
  obtain ⟨a3,r3,w3⟩:=Fz hi enc w n _ _ g3
  obtain ⟨a4,r4,w4⟩:=Fz hi enc w n _ _ g4
  obtain ⟨a5,r5,w5⟩:=Fz hi enc w n _ _ g5
  obtain ⟨a6,r6,w6⟩:=Fz hi enc w n _ _ g6
  obtain ⟨a7,r7,w7⟩:=Fz hi enc w n _ _ g7
  obtain ⟨a8,r8,w8⟩:=h1 enc w n _ _ g8
  obtain ⟨a9,r9,w9⟩:=h2 enc w n _ _ g9
  have r8':(Cm (Ai .i64)).R w (Gr w) a8 [c8]:=r8
  have r9':(Cm Ag).R w (Gr w) a9 [c9]:=r9
  refine ⟨⟨⟨a0,a1,a2,a3,a4,a5,a6,a7⟩,c8,a8,c9,a9⟩,⟨?_,r8',r9'⟩,⟨w0,w1,w2,w3,w4,w5,w6,w7⟩,w8,w9⟩
  have q0:[c0]=[Value.int .i64 a0]:=r0
  have q1:[c1]=[Value.int .i64 a1]:=r1
  have q2:[c2]=[Value.int .i64 a2]:=r2
  have q3:[c3]=[Value.int .i64 a3]:=r3
  have q4:[c4]=[Value.int .i64 a4]:=r4
  have q5:[c5]=[Value.int .i64 a5]:=r5
  have q6:[c6]=[Value.int .i64 a6]:=r6
  have q7:[c7]=[Value.int .i64 a7]:=r7
  simp only [List.cons.injEq,and_true] at q0 q1 q2 q3 q4 q5 q6 q7
  subst q0 q1 q2 q3 q4 q5 q6 q7
  rfl
end
/-! ### A result in cells, and another one -/
section
variable {P:Program} {fn:Func} {R:Ending→World→Prop} {n:Nat} {l:BQ} {w:World} {t:TypeId} {a:Act}
end
structure EQ where
 fr:Int
 to:Int
 m:DK
def BZ (x:Bk BB):EQ:=⟨x.h.fr,x.h.to,x.h.m.p x.set x.pairs⟩
theorem Jp {a b:EQ}:a=b↔a.fr=b.fr∧a.to=b.to∧a.m=b.m:=by
 constructor
 ·rintro rfl;exact ⟨rfl,rfl,rfl⟩
 ·rintro ⟨h1,h2,h3⟩
  cases a;cases b
  simp only at h1 h2 h3
  subst h1 h2 h3
  rfl
instance letPD (a b:EQ):Decidable (a=b):=decidable_of_iff _ Jp.symm
structure Fs where
 ep:Int
 rs:List AV
 ts:List Cu
 over:Bool
def CM (r:AW):Bool:=decide (r.kind=6)
def GT (recs:List AW):Int:=((1+cnt CM recs:Nat):Int)
def FS (C:Cf) (id:Int) (k:Nat):List Nat:=(List.range k).filter fun (p:Nat)=>decide (DR C (p:Int)=id)
def Ev (C:Cf) (id:Int) (recs:List AW) (k:Nat):List AV:=(FS C id k).map fun (p:Nat)=>C9 C.J.us.length p (GT recs) (recs.map AW.p)
def GC (C:Cf) (id:Int) (recs:List AW):Fs:=⟨GT recs,Ev C id recs C.J.parts.toNat,[],false⟩
theorem PO {C:Cf} {id:Int} {k:Nat} (h:DR C (k:Int)=id):FS C id (k+1)=FS C id k++[k]:=by
 unfold FS
 rw [List.range_succ,List.filter_append]
 congr 1
 exact List.filter_cons_of_pos (decide_eq_true h)
theorem Vw {C:Cf} {id:Int} {k:Nat} (h:¬ DR C (k:Int)=id):FS C id (k+1)=FS C id k:=by
 unfold FS
 rw [List.range_succ,List.filter_append]
 have e:[k].filter (fun (p:Nat)=>decide (DR C (p:Int)=id))=[]:=List.filter_cons_of_neg (by rw [decide_eq_false h];decide)
 rw [e,List.append_nil]
theorem Vv {C:Cf} {id:Int} {k p:Nat} (h:p∈FS C id k):p<k:=List.mem_range.1 (List.mem_filter.1 h).1
theorem Vu (C:Cf) (id:Int) (k:Nat):(FS C id k).length≤k:=Nat.le_trans (List.length_filter_le _ _) (by simp)
theorem aT {C:Cf} {id:Int} {recs:List AW} {k:Nat} (h:DR C (k:Int)=id):Ev C id recs (k+1)=Ev C id recs k++[C9 C.J.us.length k (GT recs) (recs.map AW.p)]:=by
 unfold Ev;rw [PO h,List.map_append];rfl
theorem aR {C:Cf} {id:Int} {recs:List AW} {k:Nat} (h:¬ DR C (k:Int)=id):Ev C id recs (k+1)=Ev C id recs k:=by
 unfold Ev;rw [Vw h]
def Rm (R:AV):Int:=R.part
theorem aS (C:Cf) (id:Int) (recs:List AW) (k:Nat):(Ev C id recs k).map Rm=(FS C id k).map fun (p:Nat)=>(p:Int):=by
 unfold Ev
 rw [List.map_map]
 exact List.map_congr_left fun p _=>(Ju _ _ _ _).1
theorem aP (C:Cf) (id:Int) (recs:List AW) (k:Nat):(Ev C id recs k).length≤k:=by
 unfold Ev;rw [List.length_map];exact Vu C id k
/-! ### What it does -/
def R6 (C:Cf) (sp att:Int):Prop:=0≤sp∧sp<((C.J.us.length:Nat):Int)∧1≤att∧att≤C.t
instance runMayD (C:Cf) (sp att:Int):Decidable (R6 C sp att):=by unfold R6;infer_instance
def doneL (D:By) (J:AS) (M:Cu):EQ:=
 if (AZ D J M.sp).2≠0 then ⟨0,0,⟨5,M.sp,M.att,0,0,0,0,(AZ D J M.sp).2,[],[]⟩⟩ else ⟨0,0,⟨4,M.sp,M.att,0,0,0,0,0,CU D J M.sp M.att,[]⟩⟩
def pushL (C:Cf) (m:DK):EQ:=⟨0,DR C m.part,m⟩
def EN (D:By) (C:Cf) (M:Cu):List EQ:=doneL D C.J M::(G3 D C.J M).map (pushL C)
def Ge (D:By) (J:AS) (R:AV):EQ:=⟨0,0,AT D J R⟩
def Ec (D:By) (C:Cf) (W:Fs):List EQ:=if W.over=true then [] else W.ts.flatMap (EN D C)++W.rs.map (Ge D C.J)
/-! ### In memory -/
def Cp (b:Bool):Int:=if b then 1 else 0
theorem YY (b:Bool):decide (Cp b≠0)=b:=by cases b<;>rfl
structure J0 where
 sp:Int
 att:Int
 b:Nat
def OS (t:J0):List Value:=[.int .i64 t.sp,.int .i64 t.att,.pointer (some ⟨t.b,0,none⟩)]
def Dl:Kd J0:=flat OS 3 (by omega) (fun _=>rfl) (fun _ c h=>by simp [OS] at h;rcases h with rfl|rfl|rfl<;>rfl)
def BG (e:Nat×Cu):J0:=⟨(e.2.sp:Int),e.2.att,e.1⟩
def Bt (e:Nat×AV):Int:=e.2.part
def Cz (e:Nat×AV):Int×Value:=(e.2.part,.pointer (some ⟨e.1,0,none⟩))
def Nk (rl:List (Nat×AV)) (p:Int):Option Addr:=match rl.find? (fun e=>decide (e.2.part=p)) with
 |some e=>some ⟨e.1,0,none⟩
 |none=>none
theorem ME (p:Int):∀ rl:List (Nat×AV),(Gg p (rl.map Cz)).getD (.pointer none)=.pointer (Nk rl p)
 |[]=>rfl
 |e::rl=>by
  have ih:=ME p rl
  rw [List.map_cons]
  unfold Nk at ih ⊢
  by_cases h:e.2.part=p
  ·have h1:(Cz e).1=p:=h
   unfold Gg
   rw [if_pos h1,List.find?_cons_of_pos (p:=fun e:Nat×AV=>decide (e.2.part=p)) (decide_eq_true h)]
   rfl
  ·have h1:¬ (Cz e).1=p:=h
   unfold Gg
   rw [if_neg h1,List.find?_cons_of_neg (p:=fun e:Nat×AV=>decide (e.2.part=p)) (by rw [decide_eq_false h];decide)]
   exact ih
theorem aO {rl:List (Nat×AV)} {i:Nat} {e:Nat×AV} (hn:((rl.map Cz).map fun p=>p.1).Nodup) (h:rl[i]?=some e):Nk rl (e.2.part)=some ⟨e.1,0,none⟩:=by
 have h1:(rl.map Cz)[i]?=some (e.2.part,.pointer (some ⟨e.1,0,none⟩)):=by rw [List.getElem?_map,h];rfl
 have h2:=MD hn h1
 have h3:=ME e.2.part rl
 rw [h2] at h3
 simpa using h3.symm
theorem Xv {rl:List (Nat×AV)} {b:Nat} {R:AV} {p:Int} (hp:R.part=p) (h:¬ p∈rl.map Bt):G7 p (.pointer (some ⟨b,0,none⟩)) (rl.map Cz)=(rl++[(b,R)]).map Cz:=by
 rw [Li]
 ·rw [List.map_append]
  subst hp
  rfl
 ·intro q hq
  obtain ⟨e,he,rfl⟩:=List.mem_map.1 hq
  exact fun g=>h (List.mem_map.2 ⟨e,he,g⟩)
theorem Zf {rl:List (Nat×AV)} {rs:List AV} (h:rl.map Prod.snd=rs):rl.map Bt=rs.map Rm:=by
 rw [←h,List.map_map];rfl
theorem Bj.doneL {A B:AS} (h:Bj A B) (D:By) (M:Cu):doneL D A M=doneL D B M:=by
 unfold X.doneL
 rw [h.split,OH h]
theorem D0.home {A B:Cf} (h:D0 A B) (p:Int):DR A p=DR B p:=by
 unfold DR
 have h1:DE A↔DE B:=⟨h.may,h.symm.may⟩
 rw [h.J.parts,h.w]
 by_cases g:¬ DE B∨¬ (0≤p∧p≤B.J.parts - 1)
 ·rw [if_pos g,if_pos (by rw [h1];exact g)]
 ·rw [if_neg g,if_neg (by rw [h1];exact g)]
def Bw (J:AS) (C:Cf):Cf:=⟨J,C.w,C.t,C.o⟩
theorem HY {J:AS} {C:Cf} (h:Bj J C.J):D0 (Bw J C) C:=⟨h,rfl,rfl,rfl⟩
def lf (C:Cf) (m:Bk CE):Bk BB:=⟨⟨0,DR C m.h.part,m.h⟩,m.sv,m.set,m.pv,m.pairs⟩
theorem dM (C:Cf) (zs:List (Bk CE)):BC (zs.map (lf C))=BC zs:=by
 unfold BC BK
 rw [List.map_map]
 rfl
section
variable {w0 w:World} {F0:AU} {As Rs:List SP}
theorem Hd.bigC {α:Type} {f:α→SP} {l:List α} {x:α} (h:Hd w0 F0 w (f x::BK f l::As) Rs):Hd w0 F0 w (BK f (x::l)::As) Rs:=by
 have h1:Hd w0 F0 w (BK f l::(As++[f x])) Rs:=h.perm (List.perm_append_comm (l₁:=[f x]) (l₂:=BK f l::As))
 have h2:Hd w0 F0 w (l.map f++As++[f x]) Rs:=by rw [List.append_assoc];exact h1.stA
 have h3:Hd w0 F0 w ((x::l).map f++As) Rs:=h2.perm (List.perm_append_comm (l₁:=l.map f++As) (l₂:=[f x]))
 exact h3.stI
theorem Hd.twC {α:Type} {r:Bk α} {us:List (Bk α)} (H:Hd w0 F0 w (Y (Ai .i64) r.sv r.set::Y Ag r.pv r.pairs::BC us::As) Rs):Hd w0 F0 w (BC (r::us)::As) Rs:=
 Hd.bigC (f:=EX) (show Hd w0 F0 w (EX r::BK EX us::As) Rs from Hd.stI (Bs:=[Y (Ai .i64) r.sv r.set,Y Ag r.pv r.pairs]) H)
theorem NA {α:Type} {a b:List (Bk α)} (H:Hd w0 F0 w (BC a::BC b::As) Rs):Hd w0 F0 w (BC (a++b)::As) Rs:=by
 have h1:Hd w0 F0 w (a.map EX++(BC b::As)) Rs:=Hd.stA (Bs:=a.map EX) H
 have h2:Hd w0 F0 w (BC b::(a.map EX++As)) Rs:=h1.perm List.perm_middle
 have h3:Hd w0 F0 w (b.map EX++(a.map EX++As)) Rs:=Hd.stA (Bs:=b.map EX) h2
 have h4:Hd w0 F0 w ((a++b).map EX++As) Rs:=h3.perm (by
  rw [List.map_append,List.append_assoc]
  exact (List.perm_append_comm_assoc _ _ _))
 exact h4.stI
end
theorem X5 {zs:List (Bk CE)} {k:Nat} {x:Dg CE} (hx:(zs.map A9)[k]?=some x):∃ m,zs[k]?=some m∧x=A9 m:=by
 rw [List.getElem?_map] at hx
 obtain ⟨m,hm,rfl⟩:=Option.map_eq_some_iff.1 hx
 exact ⟨m,hm,rfl⟩
theorem RB (D:By) (J:AS) (s:Nat) (att:Int):∀ (ws:List CZ) (p:Nat) (m:DK),m∈DS D J s att ws p→∃ q:Nat,m.part=(q:Int)∧q<p+ws.length
 |[],_,_,h=>by cases h
 |w::ws,p,m,h=>by
  have h':m∈Et D J s att w p++DS D J s att ws (p+1):=h
  rcases List.mem_append.1 h' with g|g
  ·obtain ⟨q,_,rfl⟩:=List.mem_map.1 g
   exact ⟨p,rfl,by rw [List.length_cons];omega⟩
  ·obtain ⟨q,h1,h2⟩:=RB D J s att ws (p+1) m g
   exact ⟨q,h1,by rw [List.length_cons];omega⟩
theorem Zs {D:By} {J:AS} {M:Cu} (hM:GE M) {zs:List (Bk CE)} (hz:zs.map GB=G3 D J M) {k:Nat} {m:Bk CE} (hm:zs[k]?=some m):AL m.h.part:=by
 have h1:GB m∈G3 D J M:=by rw [←hz];exact List.mem_map_of_mem (List.mem_of_getElem? hm)
 obtain ⟨q,h2,h3⟩:=RB D J M.sp M.att M.ws 0 _ h1
 have h4:=hM.2
 have h5:m.h.part=(q:Int):=h2
 unfold AL
 omega
theorem X6 {D:By} {J:AS} {M:Cu} (hM:GE M) {zs:List (Bk CE)} (hz:zs.map GB=G3 D J M):zs.length≤4000:=by
 have h1:=congrArg List.length hz
 rw [List.length_map] at h1
 have h2:=KX (D:=D) (J:=J) (s:=M.sp) (att:=M.att) 0 hM.1
 have h3:=hM.2
 have h4:(G3 D J M).length=(DS D J M.sp M.att M.ws 0).length:=rfl
 omega
theorem dH {D:By} {C:Cf} {M:Cu} {z0:Bk BB} {zs:List (Bk CE)} (h0:BZ z0=doneL D C.J M) (hz:zs.map GB=G3 D C.J M):(z0::zs.map (lf C)).map BZ=EN D C M:=by
 unfold EN
 rw [List.map_cons,h0,←hz,List.map_map,List.map_map]
 rfl
theorem Sn {D:By} {C:Cf} {M:Cu} (hM:GE M):(EN D C M).length≤4001:=by
 have h2:=KX (D:=D) (J:=C.J) (s:=M.sp) (att:=M.att) 0 hM.1
 have h3:=hM.2
 have h4:(G3 D C.J M).length=(DS D C.J M.sp M.att M.ws 0).length:=rfl
 unfold EN
 rw [List.length_cons,List.length_map]
 omega
theorem Bj.hello {A B:AS} (h:Bj A B) (D:By) (R:AV):AT D A R=AT D B R:=by
 unfold AT
 rw [h.out,h.len]
theorem UO {α β:Type} {f:α→List β} {l:List α} {k:Nat} {x:α} (h:l[k]?=some x):(l.take (k+1)).flatMap f=(l.take k).flatMap f++f x:=by
 rw [El h,List.flatMap_append]
 simp
theorem KH {α β:Type} {f:α→β} {l:List α} {k:Nat} {x:α} (h:l[k]?=some x):(l.take (k+1)).map f=(l.take k).map f++[f x]:=by
 rw [El h,List.map_append]
 rfl
theorem Vr {D:By} {J:AS} {R:AV}:(AT D J R).pairs=[]:=by
 unfold AT
 split<;>rfl
theorem X8 {m:DK} (h:m.pairs=[]):(⟨m.kind,m.sp,m.att,m.part,m.seq,m.next,m.ep,m.why,m.set,[]⟩:DK)=m:=by
 cases m
 simp only at h
 subst h
 rfl
theorem Zd {rl:List (Nat×AV)} {rs:List AV} (hrl:rl.map Prod.snd=rs) {k:Nat} {x:Int} (hx:(rl.map Bt)[k]?=some x):∃ e,rl[k]?=some e∧rs[k]?=some e.2∧x=Bt e:=by
 rw [List.getElem?_map] at hx
 obtain ⟨e,he,rfl⟩:=Option.map_eq_some_iff.1 hx
 exact ⟨e,he,by rw [←hrl,List.getElem?_map,he];rfl,rfl⟩
theorem aQ {C:Cf} {id:Int} {recs:List AW} {p:Nat} {rl:List (Nat×AV)} (hrl:rl.map Prod.snd=Ev C id recs p):¬ ((p:Nat):Int)∈rl.map Bt:=fun h=>by
 rw [Zf hrl,aS] at h
 obtain ⟨q,hq,e⟩:=List.mem_map.1 h
 have:=Vv hq
 omega
def Ku (set:List Int) (pairs:List Ap):Bool:=decide (20<(set.length:Int))||Kt pairs 50
section
variable {α:Type} {J:AS} {rs:List AW} {acts:List (Bk α)} {most:Int}
end
/-! ### Lists of structs held against one another -/
theorem cL {a b:NR}:a=b↔a.why=b.why∧a.set=b.set∧a.pairs=b.pairs:=by
 constructor
 ·rintro rfl;exact ⟨rfl,rfl,rfl⟩
 ·rintro ⟨h1,h2,h3⟩
  cases a;cases b
  simp only at h1 h2 h3
  subst h1 h2 h3
  rfl
instance snapPD (a b:NR):Decidable (a=b):=decidable_of_iff _ cL.symm
theorem XS {α β γ:Type} {f:α→γ} {g:β→γ} {a:List α} {b:List β} {k:Nat} {x:α} {y:β} (hx:a[k]?=some x) (hy:b[k]?=some y) (e:f x=g y) (h:(a.take k).map f=(b.take k).map g):(a.take (k+1)).map f=(b.take (k+1)).map g:=by
 rw [El hx,El hy,List.map_append,List.map_append,h]
 simp [e]
theorem MH {α β γ:Type} {f:α→γ} {g:β→γ} {a:List α} {b:List β} {k:Nat} {x:α} {y:β} (hx:a[k]?=some x) (hy:b[k]?=some y) (e:a.map f=b.map g):f x=g y:=by
 have h:=congrArg (·[k]?) e
 simp only [List.getElem?_map,hx,hy,Option.map_some] at h
 exact Option.some.inj h
/-! ### A small configuration -/
def IE:AW:=⟨6,0,0,0,0,KO,[],KO,[]⟩
theorem XG {w:World} {F:AU} {n:Nat}:∀ r∈List.replicate n IE,(Ae (Ai .i64) r.sv r.set).P w F∧(Ae Ag r.pv r.pairs).P w F:=fun r hr=>by
 rw [List.eq_of_mem_replicate hr]
 exact ⟨IR _ _ _ trivial (by decide),IR _ _ _ trivial (by decide)⟩
theorem Qw:∀ n:Nat,cnt CM (List.replicate n IE)=n
 |0=>rfl
 |n+1=>by
  have ih:=Qw n
  unfold cnt at ih ⊢
  rw [List.replicate_succ,List.filter_cons_of_pos (show CM IE=true from rfl),List.length_cons,ih]
theorem XF (n:Nat):GT (List.replicate n IE)=((n+1:Nat):Int):=by
 unfold GT
 rw [Qw,Nat.add_comm]
/-! ### Each part has one home -/
section
variable {w w0:World} {F F0:AU} {α:Type} {d:Kd α} {A:Option Addr} {m c:Nat} {xs:List α} {As Rs:List SP}
theorem Hd.cutO (H:Hd w0 F0 w (Y d (.slice A m c) xs::As) Rs) {i:Nat} (hi:i≤m):Hd w0 F0 w (Y d (.slice A i c) (xs.take i)::As) Rs:=H.turn fun F h=>Ri h hi
end
def FT:Ba:=⟨6,0,0,0,0,[],[]⟩
theorem Qx:Ck FT:=by decide
def Ey (n:Nat):List Ba:=List.replicate n FT
theorem XI (n:Nat):∀ r∈Ey n,Ck r:=fun r hr=>by rw [List.eq_of_mem_replicate hr];exact Qx
theorem QA (n:Nat):Ey (n+1)=Ey n++[FT]:=List.replicate_succ'
theorem KB (n:Nat):(Cw (Ey n)).length=64*n:=by
 induction n with
 |zero=>rfl
 |succ n ih=>
  rw [QA,Qs,List.length_append,ih,Lt]
  have:(CC FT).length=56:=by
   unfold CC D9
   rw [List.length_append,List.length_append,Hv,EF]
   rfl
  omega
theorem Qt:Fm [FT]=Cw (Ey 1):=by
 unfold Fm
 rw [if_pos (fun r hr=>by rw [List.mem_singleton.1 hr];exact Qx)]
 rfl
theorem XA (n:Nat):Cw (Ey n)++Fm [FT]=Cw (Ey (n+1)):=by
 rw [Qt,QA n,Xx]
 rfl
theorem dE  :
    Cn Tryz.prog 128 [] [] [] (fun v Bs=>∃ b,v=.pointer (some ⟨b,0,none⟩)∧Bs=[blk b [.int .i64 0,.int .i64 0,.int .i64 0,.int .i64 0,.int .i64 0,.int .i64 0,.int .i64 0,.int .i64 0] 254]):=by
 intro w0 F0 H
 refine enter Tryz.func128 U U (Nat.le_of_ble_eq_true U) (Aa (Ad (Ac U (Ab (Z (Aa (Ad (V U U (Di (parts:=[]) (vs:=[]) (cs:=[.int .i64 0,.int .i64 0,.int .i64 0,.int .i64 0,.int .i64 0,.int .i64 0,.int .i64 0,.int .i64 0]) U Ta U U) (CT U U U U H (fun b1 w H=>(Ac U (Ab (Z ?_)))))))))))))
 replace H:Hd _ _ _ [blk b1 [.int .i64 0,.int .i64 0,.int .i64 0,.int .i64 0,.int .i64 0,.int .i64 0,.int .i64 0,.int .i64 0] 254] []:=H
 exact Am (Aq U U (Al ⟨_,rfl,rfl⟩ H))
theorem dD (t:Nat):
    Cn Tryz.prog 142 [.pointer (some ⟨t,0,none⟩),.int .i64 0] [] [] (fun v Bs=>v=.pointer (some ⟨t,0,none⟩)∧Bs=[]):=by
 intro w0 F0 H
 refine enter Tryz.func142 U U (Nat.le_of_ble_eq_true U) (Aa (Ad (Ac U (Ab (Z (Aa (Aa (Ad (Ac U (V U U (C1 U dZ U U) (Ah 2 U (V U U (Br U U U) (Ah 3 U (V U U (C4 U U U) (Ac U (Ab (Z (Cq U (AB (Z (Aa (Ad (Ah 2 U (V U U (AH U U) (V U U (Aj U UW U) (V U U (Hx (p:=0) U eA VI U U (by omega) (by omega) U) (Ac U (Ab (Z (Am (Aq U U ?_)))))))))))))))))))))))))))))))
 replace H:Hd _ _ _ [] []:=H
 exact Al ⟨rfl,rfl⟩ H
theorem SV (nb:Nat) (n o:Int) (hn:0≤n∧n≤1099511627776) (ho:0≤o∧o≤1099511627776):
    Cn Tryz.prog 143 [.int .i64 o,.pointer (some ⟨nb,0,none⟩)] [] [blk nb [.int .i64 n] 3] (fun v Bs=>v=.int .i64 (min (o+n) 1099511627776)∧Bs=[]):=by
 intro w0 F0 H
 refine enter Tryz.func143 U U (Nat.le_of_ble_eq_true U) (Aa (Ad (Ac U (Ab (Z (Aa (Ad (Ac U (V U U (An U AE U (H.cellRI 0 U U)) (V U U (Be (z:=o+n) U U U (AI (by omega) (by omega))) (V U U (HW (z:=min (o+n) 1099511627776) U U U U) (Ac U (Ab (Z (Am (Aq U U ?_))))))))))))))))
 replace H:Hd _ _ _ [] [blk nb [.int .i64 n] 3]:=H
 exact Al ⟨rfl,rfl⟩ H
theorem XJ (t:Nat) (c0 c1 c2 c3 c4 c5 c6 c7:Int):
    Cn Tryz.prog 195 [.pointer (some ⟨t,0,none⟩)] [] [blk t [.int .i64 c0,.int .i64 c1,.int .i64 c2,.int .i64 c3,.int .i64 c4,.int .i64 c5,.int .i64 c6,.int .i64 c7] 254] (fun v Bs=>v=.int .i64 c0∧Bs=[]):=by
 intro w0 F0 H
 refine enter Tryz.func195 U U (Nat.le_of_ble_eq_true U) (Aa (Ad (Ac U (Ab (Z (Aa (Ad (Ac U (V U U (AH U U) (V U U (Aj U Pf U) (V U U (KY UE U U (H.cellRI 0 U U)) (Ac U (Ab (Z (Am (Aq U U ?_))))))))))))))))
 replace H:Hd _ _ _ [] [blk t [.int .i64 c0,.int .i64 c1,.int .i64 c2,.int .i64 c3,.int .i64 c4,.int .i64 c5,.int .i64 c6,.int .i64 c7] 254]:=H
 exact Al ⟨rfl,rfl⟩ H
theorem Tx (t:Nat) (c0 c1 c2 c3 c4 c5 c6 c7:Int) (n:Int):
    Cn Tryz.prog 196 [.pointer (some ⟨t,0,none⟩),.int .i64 c0,.int .i64 n] [blk t [.int .i64 c0,.int .i64 c1,.int .i64 c2,.int .i64 c3,.int .i64 c4,.int .i64 c5,.int .i64 c6,.int .i64 c7] 254] [] (fun v Bs=>v=.bool true∧Bs=[blk t [.int .i64 n,.int .i64 c1,.int .i64 c2,.int .i64 c3,.int .i64 c4,.int .i64 c5,.int .i64 c6,.int .i64 c7] 254]):=by
 intro w0 F0 H
 refine enter Tryz.func196 U U (Nat.le_of_ble_eq_true U) (Aa (Ad (Ac U (Ab (Z (Aa (Ad (Ac U (V U U (AH U U) (V U U (Aj U Pf U) (Ah 2 U (R_ UF U U U U H U (fun w H=>?_)))))))))))))
 replace H:Hd _ _ _ [blk t [.int .i64 n,.int .i64 c1,.int .i64 c2,.int .i64 c3,.int .i64 c4,.int .i64 c5,.int .i64 c6,.int .i64 c7] 254] []:=H
 exact Ac U (Ab (Z (Am (Aq U U (Al ⟨rfl,rfl⟩ H)))))
theorem TG (t:Nat) (c0 c1 c2 c3 c4 c5 c6 c7:Int) (nb:Nat) (n:Int) (hn:0≤n∧n≤1099511627776) (ho:0≤c0∧c0≤1099511627776):
    Cn Tryz.prog 141 [.pointer (some ⟨t,0,none⟩),.func (.func 143) #[] #[.pointer (some ⟨nb,0,none⟩)]] [blk t [.int .i64 c0,.int .i64 c1,.int .i64 c2,.int .i64 c3,.int .i64 c4,.int .i64 c5,.int .i64 c6,.int .i64 c7] 254] [blk nb [.int .i64 n] 3] (fun v Bs=>v=.int .i64 (min (c0+n) 1099511627776)∧Bs=[blk t [.int .i64 (min (c0+n) 1099511627776),.int .i64 c1,.int .i64 c2,.int .i64 c3,.int .i64 c4,.int .i64 c5,.int .i64 c6,.int .i64 c7] 254]):=by
 intro w0 F0 H
 refine enter Tryz.func141 U U (Nat.le_of_ble_eq_true U) (Aa (Ad (Ac U (Ab (Z (Aa (Aa (Ad (Ac U (V U U (C1 U d8 U U) (Ab (Z (Cq U (AB (Z (AX (B1 (σ:=Unit) (fun u=>[(0,.pointer (some ⟨t,0,none⟩)),(1,.func (.func 143) #[] #[.pointer (some ⟨nb,0,none⟩)])]) (fun u w=>(Hd w0 F0 w [blk t [.int .i64 c0,.int .i64 c1,.int .i64 c2,.int .i64 c3,.int .i64 c4,.int .i64 c5,.int .i64 c6,.int .i64 c7] 254] [blk nb [.int .i64 n] 3])) (fun u=>0) () ⟨rfl,rfl,trivial⟩ H ?_)))))))))))))))))
 rintro u w H
 refine AX (Aa (Ad (Ac U (sc (XJ t c0 c1 c2 c3 c4 c5 c6 c7) H (lA 0 U (fun _ h=>h) l0) U U (Av Wl U U) ?_))))
 rintro _ _ w ⟨rfl,rfl⟩ H
 refine Ac U (Ab (Z (Aa (Ad (Ah 2 U (sc (SV nb n c0 hn ho) H (lR 0 U l0) U U (Gv (vs:=[.int .i64 c0]) (fs:=#[]) (cs:=#[.pointer (some ⟨nb,0,none⟩)]) V9 U U U) ?_))))))
 rintro _ _ w ⟨rfl,rfl⟩ H
 refine Ac U (Ab (Z (Aa (Ad (Ah 2 U (V U U (Bg U U U) (Ac U ?_)))))))
 refine AR (d:=17) U (fun h1=>?_) (fun h1=>?_)
 ·refine Ah 5 U (Ab (Z (Ct U (Aa (Ad (Ah 2 U (Ab (Z (Am (AY (Az (AY (Aq U U ?_)))))))))))))
  replace H:Hd w0 F0 w [blk t [.int .i64 (min (c0+n) 1099511627776),.int .i64 c1,.int .i64 c2,.int .i64 c3,.int .i64 c4,.int .i64 c5,.int .i64 c6,.int .i64 c7] 254] [blk nb [.int .i64 n] 3]:=by rw [h1];exact H
  exact Al ⟨rfl,rfl⟩ H
 refine Ah 3 U (sc (Tx t c0 c1 c2 c3 c4 c5 c6 c7 (min (c0+n) 1099511627776)) H l0 U U (Av Wm U U) ?_)
 rintro _ _ w ⟨rfl,rfl⟩ H
 refine Ac U (Ab (Z ?_))
 replace H:Hd _ _ _ [blk t [.int .i64 (min (c0+n) 1099511627776),.int .i64 c1,.int .i64 c2,.int .i64 c3,.int .i64 c4,.int .i64 c5,.int .i64 c6,.int .i64 c7] 254] [blk nb [.int .i64 n] 3]:=H
 exact Ct U (Aa (Ad (Ah 2 U (Ab (Z (Am (AY (Az (AY (Aq U U (Al ⟨rfl,rfl⟩ H)))))))))))
theorem Sm (t:Nat) (c0 c1 c2 c3 c4 c5 c6 c7:Int) (n:Int) (hn:0≤n∧n≤1099511627776) (ho:0≤c0∧c0≤1099511627776):
    Cn Tryz.prog 85 [.pointer (some ⟨t,0,none⟩),.int .i64 0,.int .i64 n] [blk t [.int .i64 c0,.int .i64 c1,.int .i64 c2,.int .i64 c3,.int .i64 c4,.int .i64 c5,.int .i64 c6,.int .i64 c7] 254] [] (fun v Bs=>v=.int .i64 (min (c0+n) 1099511627776)∧Bs=[blk t [.int .i64 (min (c0+n) 1099511627776),.int .i64 c1,.int .i64 c2,.int .i64 c3,.int .i64 c4,.int .i64 c5,.int .i64 c6,.int .i64 c7] 254]):=by
 intro w0 F0 H
 refine enter Tryz.func85 U U (Nat.le_of_ble_eq_true U) (Aa (Ad (CT U U U U H (fun b1 w H=>(Ac U (Ab (Z ?_)))))))
 replace H:Hd _ _ _ [blk b1 [.int .i64 n] 3,blk t [.int .i64 c0,.int .i64 c1,.int .i64 c2,.int .i64 c3,.int .i64 c4,.int .i64 c5,.int .i64 c6,.int .i64 c7] 254] []:=H
 refine Aa (Aa (Ad (V U U (An U AE U (H.cellI 0 U U)) (V U U (Br U U U) (Ac U ?_)))))
 refine AR (d:=9) U (fun h2=>?_) (fun h2=>?_)
 ·exfalso;omega
 refine V U U (An U AE U (H.cellI 0 U U)) (V U U (CW U U U) (Ac U (Ab (Z ?_))))
 refine AC U (fun h3=>?_) (fun h3=>?_)
 ·exfalso;omega
 refine AB (Z (Aa (Ad (Ah 2 U (sc (dD t) H l0 U U (Av V8 U U) ?_)))))
 rintro _ _ w ⟨rfl,rfl⟩ H
 refine V U U (JA (fs:=#[]) (cs:=#[.pointer (some ⟨b1,0,none⟩)]) U U U) ?_
 replace H:=H.p1
 refine sc (TG t c0 c1 c2 c3 c4 c5 c6 c7 b1 n hn ho) H (lA 0 U (fun _ h=>h) l0) U U (Av V7 U U) ?_
 rintro _ _ w ⟨rfl,rfl⟩ H
 replace H:=H.h1 (A:=blk t [.int .i64 (min (c0+n) 1099511627776),.int .i64 c1,.int .i64 c2,.int .i64 c3,.int .i64 c4,.int .i64 c5,.int .i64 c6,.int .i64 c7] 254)
 refine Ac U (Ab (Z (Am (Aq U U ?_))))
 replace H:=H.k1
 exact Al ⟨rfl,rfl⟩ H
theorem VS (op:Int):
    Cn Tryz.prog 333 [.int .i64 op] [] [] (fun v Bs=>v=.string (Bm op)∧Bs=[]):=by
 intro w0 F0 H
 refine enter Tryz.func333 U U (Nat.le_of_ble_eq_true U) (Aa (Ad (Ac U (Ab (Z (Aa (Aa (Ad (Ac U (Ab (Z (AX (Aa (Aa (Ad (V U U (Bg U U U) (Ac U (Ab (Z ?_)))))))))))))))))))
 refine AC U (fun h1=>?_) (fun h1=>?_)
 ·refine AB (Z ?_)
  refine AC U (fun h2=>?_) (fun h2=>?_)
  ·exact Aa (Ad (Ac U (Ab (Z (Am (AY (Az (Aq U U (Al ⟨congrArg Value.string (by unfold Bm;repeat (first |rw [if_pos (by omega)]|rw [if_neg (by omega)])),rfl⟩ H)))))))))
  exact absurd h1 h2
 refine Aa (Ad (V U U (Bg U U U) (Ac U (Ab (Z ?_)))))
 refine AC U (fun h3=>?_) (fun h3=>?_)
 ·refine AB (Z ?_)
  refine AC U (fun h4=>?_) (fun h4=>?_)
  ·exact Aa (Ad (Ac U (Ab (Z (Am (AY (Az (Aq U U (Al ⟨congrArg Value.string (by unfold Bm;repeat (first |rw [if_pos (by omega)]|rw [if_neg (by omega)])),rfl⟩ H)))))))))
  exact absurd h3 h4
 refine Ad (V U U (Bg U U U) (Ac U (Ab (Z ?_))))
 refine AC U (fun h5=>?_) (fun h5=>?_)
 ·exact Aa (Ad (Ac U (Ab (Z (Am (AY (Az (Aq U U (Al ⟨congrArg Value.string (by unfold Bm;repeat (first |rw [if_pos (by omega)]|rw [if_neg (by omega)])),rfl⟩ H)))))))))
 refine Aa (Aa (Ad (V U U (Bg U U U) (Ac U (Ab (Z ?_))))))
 refine AC U (fun h6=>?_) (fun h6=>?_)
 ·refine AB (Z ?_)
  refine AC U (fun h7=>?_) (fun h7=>?_)
  ·exact Aa (Ad (Ac U (Ab (Z (Am (AY (Az (Aq U U (Al ⟨congrArg Value.string (by unfold Bm;repeat (first |rw [if_pos (by omega)]|rw [if_neg (by omega)])),rfl⟩ H)))))))))
  exact absurd h6 h7
 refine Ad (V U U (Bg U U U) (Ac U (Ab (Z ?_))))
 refine AC U (fun h8=>?_) (fun h8=>?_)
 ·exact Aa (Ad (Ac U (Ab (Z (Am (AY (Az (Aq U U (Al ⟨congrArg Value.string (by unfold Bm;repeat (first |rw [if_pos (by omega)]|rw [if_neg (by omega)])),rfl⟩ H)))))))))
 refine Aa (Aa (Ad (V U U (Bg U U U) (Ac U (Ab (Z ?_))))))
 refine AC U (fun h9=>?_) (fun h9=>?_)
 ·refine AB (Z ?_)
  refine AC U (fun h10=>?_) (fun h10=>?_)
  ·exact Aa (Ad (Ac U (Ab (Z (Am (AY (Az (Aq U U (Al ⟨congrArg Value.string (by unfold Bm;repeat (first |rw [if_pos (by omega)]|rw [if_neg (by omega)])),rfl⟩ H)))))))))
  exact absurd h9 h10
 refine Aa (Ad (V U U (Bg U U U) (Ac U (Ab (Z ?_)))))
 refine AC U (fun h11=>?_) (fun h11=>?_)
 ·refine AB (Z ?_)
  refine AC U (fun h12=>?_) (fun h12=>?_)
  ·exact Aa (Ad (Ac U (Ab (Z (Am (AY (Az (Aq U U (Al ⟨congrArg Value.string (by unfold Bm;repeat (first |rw [if_pos (by omega)]|rw [if_neg (by omega)])),rfl⟩ H)))))))))
  exact absurd h11 h12
 refine Aa (Ad (V U U (Bg U U U) (Ac U (Ab (Z ?_)))))
 refine AC U (fun h13=>?_) (fun h13=>?_)
 ·refine AB (Z ?_)
  refine AC U (fun h14=>?_) (fun h14=>?_)
  ·exact Aa (Ad (Ac U (Ab (Z (Am (AY (Az (Aq U U (Al ⟨congrArg Value.string (by unfold Bm;repeat (first |rw [if_pos (by omega)]|rw [if_neg (by omega)])),rfl⟩ H)))))))))
  exact absurd h13 h14
 refine Ad (V U U (Bg U U U) (Ac U (Ab (Z ?_))))
 refine AC U (fun h15=>?_) (fun h15=>?_)
 ·exact Aa (Ad (Ac U (Ab (Z (Am (AY (Az (Aq U U (Al ⟨congrArg Value.string (by unfold Bm;repeat (first |rw [if_pos (by omega)]|rw [if_neg (by omega)])),rfl⟩ H)))))))))
 refine Aa (Aa (Ad (V U U (Bg U U U) (Ac U (Ab (Z ?_))))))
 refine AC U (fun h16=>?_) (fun h16=>?_)
 ·refine AB (Z ?_)
  refine AC U (fun h17=>?_) (fun h17=>?_)
  ·exact Aa (Ad (Ac U (Ab (Z (Am (AY (Az (Aq U U (Al ⟨congrArg Value.string (by unfold Bm;repeat (first |rw [if_pos (by omega)]|rw [if_neg (by omega)])),rfl⟩ H)))))))))
  exact absurd h16 h17
 refine Ad (V U U (Bg U U U) (Ac U (Ab (Z ?_))))
 refine AC U (fun h18=>?_) (fun h18=>?_)
 ·exact Aa (Ad (Ac U (Ab (Z (Am (AY (Az (Aq U U (Al ⟨congrArg Value.string (by unfold Bm;repeat (first |rw [if_pos (by omega)]|rw [if_neg (by omega)])),rfl⟩ H)))))))))
 refine Aa (Aa (Ad (V U U (Bg U U U) (Ac U (Ab (Z ?_))))))
 refine AC U (fun h19=>?_) (fun h19=>?_)
 ·refine AB (Z ?_)
  refine AC U (fun h20=>?_) (fun h20=>?_)
  ·exact Aa (Ad (Ac U (Ab (Z (Am (AY (Az (Aq U U (Al ⟨congrArg Value.string (by unfold Bm;repeat (first |rw [if_pos (by omega)]|rw [if_neg (by omega)])),rfl⟩ H)))))))))
  exact absurd h19 h20
 refine Ad (V U U (Bg U U U) (Ac U (Ab (Z ?_))))
 refine AC U (fun h21=>?_) (fun h21=>?_)
 ·exact Aa (Ad (Ac U (Ab (Z (Am (AY (Az (Aq U U (Al ⟨congrArg Value.string (by unfold Bm;repeat (first |rw [if_pos (by omega)]|rw [if_neg (by omega)])),rfl⟩ H)))))))))
 refine Aa (Ad (V U U (Bg U U U) (Ac U (Ab (Z ?_)))))
 refine AC U (fun h22=>?_) (fun h22=>?_)
 ·exact Aa (Ad (Ac U (Ab (Z (Am (AY (Az (Aq U U (Al ⟨congrArg Value.string (by unfold Bm;repeat (first |rw [if_pos (by omega)]|rw [if_neg (by omega)])),rfl⟩ H)))))))))
 refine Aa (Ad (V U U (Bg U U U) (Ac U (Ab (Z ?_)))))
 refine AC U (fun h23=>?_) (fun h23=>?_)
 ·exact Aa (Ad (Ac U (Ab (Z (Am (AY (Az (Aq U U (Al ⟨congrArg Value.string (by unfold Bm;repeat (first |rw [if_pos (by omega)]|rw [if_neg (by omega)])),rfl⟩ H)))))))))
 refine Aa (Aa (Ad (V U U (Bg U U U) (Ac U (Ab (Z ?_))))))
 refine AC U (fun h24=>?_) (fun h24=>?_)
 ·refine AB (Z ?_)
  refine AC U (fun h25=>?_) (fun h25=>?_)
  ·exact Aa (Ad (Ac U (Ab (Z (Am (AY (Az (Aq U U (Al ⟨congrArg Value.string (by unfold Bm;repeat (first |rw [if_pos (by omega)]|rw [if_neg (by omega)])),rfl⟩ H)))))))))
  exact absurd h24 h25
 refine Ad (V U U (Bg U U U) (Ac U (Ab (Z ?_))))
 refine AC U (fun h26=>?_) (fun h26=>?_)
 ·exact Aa (Ad (Ac U (Ab (Z (Am (AY (Az (Aq U U (Al ⟨congrArg Value.string (by unfold Bm;repeat (first |rw [if_pos (by omega)]|rw [if_neg (by omega)])),rfl⟩ H)))))))))
 exact AB (Bb (Z (Aa (Ad (Ac U (Ab (Z (Am (Aq U U (Al ⟨congrArg Value.string (by unfold Bm;repeat (first |rw [if_pos (by omega)]|rw [if_neg (by omega)])),rfl⟩ H))))))))))
theorem Gp (n:Int):
    Cn Tryz.prog 302 [.int .i64 n] [] [] (fun v Bs=>v=.agg #[.bool false,.int .i64 n,.string ⟨#[]⟩]∧Bs=[]):=by
 intro w0 F0 H
 refine enter Tryz.func302 U U (Nat.le_of_ble_eq_true U) (Aa (Ad (Dz U U U DH H (fun b1 w H=>(Ab (Z ?_))))))
 replace H:Hd _ _ _ [blk b1 [.bool false,.int .i64 0,.string ⟨#[]⟩] 330] []:=H
 refine Aa (Ad (Ac U (V U U (Di (parts:=[(1,.tmp 3)]) (vs:=[.int .i64 n]) (cs:=[.bool false,.int .i64 n,.string ⟨#[]⟩]) U Ol U U) (Bx U U U Dv U U H U (Nat.le_of_ble_eq_true U) (fun u hu=>by simp [Value.cells] at hu;rcases hu with rfl|rfl|rfl<;>rfl) (fun w H=>?_)))))
 replace H:=H.h1 (A:=blk b1 [.bool false,.int .i64 n,.string ⟨#[]⟩] 330)
 refine Ab (Z (Am (FB (cs:=[.bool false,.int .i64 n,.string ⟨#[]⟩]) U U Dv U (H.cellsI 0 U U) ?_)))
 replace H:=H.nil
 exact Al ⟨rfl,rfl⟩ H
theorem I2 (s:ByteArray):
    Cn Tryz.prog 303 [.string s] [] [] (fun v Bs=>v=.agg #[.bool true,.int .i64 0,.string s]∧Bs=[]):=by
 intro w0 F0 H
 refine enter Tryz.func303 U U (Nat.le_of_ble_eq_true U) (Aa (Ad (Dz U U U DH H (fun b1 w H=>(Ab (Z ?_))))))
 replace H:Hd _ _ _ [blk b1 [.bool false,.int .i64 0,.string ⟨#[]⟩] 330] []:=H
 refine Aa (Ad (Ac U (V U U (Di (parts:=[(0,.const (.bool true)),(2,.tmp 3)]) (vs:=[.bool true,.string s]) (cs:=[.bool true,.int .i64 0,.string s]) U Ol U U) (Bx U U U Dv U U H U (Nat.le_of_ble_eq_true U) (fun u hu=>by simp [Value.cells] at hu;rcases hu with rfl|rfl|rfl<;>rfl) (fun w H=>?_)))))
 replace H:=H.h1 (A:=blk b1 [.bool true,.int .i64 0,.string s] 330)
 refine Ab (Z (Am (FB (cs:=[.bool true,.int .i64 0,.string s]) U U Dv U (H.cellsI 0 U U) ?_)))
 replace H:=H.nil
 exact Al ⟨rfl,rfl⟩ H
theorem Rc (b:Bool):
    Cn Tryz.prog 306 [.bool b] [] [] (fun v Bs=>v=.agg #[.bool false,.int .i64 (if b=true then 1 else 0),.string ⟨#[]⟩]∧Bs=[]):=by
 intro w0 F0 H
 refine enter Tryz.func306 U U (Nat.le_of_ble_eq_true U) (Aa (Ad (Dz U U U DH H (fun b1 w H=>(Ab (Z ?_))))))
 replace H:Hd _ _ _ [blk b1 [.bool false,.int .i64 0,.string ⟨#[]⟩] 330] []:=H
 refine Aa (Aa (Ad (Ac U (Ab (Z ?_)))))
 refine Dx (b:=b) U (fun h2=>?_) (fun h2=>?_)
 ·refine Aa (Ad (sc (Gp 1) H l0 U U (Av Gf U U) ?_))
  rintro _ _ w ⟨rfl,rfl⟩ H
  refine Bx U U U Dv U U H U (Nat.le_of_ble_eq_true U) (fun u hu=>by simp [Value.cells] at hu;rcases hu with rfl|rfl|rfl<;>rfl) (fun w H=>?_)
  replace H:=H.h1 (A:=blk b1 [.bool false,.int .i64 1,.string ⟨#[]⟩] 330)
  refine Ab (Z (Am (Az (FB (cs:=[.bool false,.int .i64 1,.string ⟨#[]⟩]) U U Dv U (H.cellsI 0 U U) ?_))))
  replace H:=H.nil
  exact Al ⟨by simp only [h2];rfl,rfl⟩ H
 refine AB (Z (Aa (Ad (sc (Gp 0) H l0 U U (Av Gf U U) ?_))))
 rintro _ _ w ⟨rfl,rfl⟩ H
 refine Bx U U U Dv U U H U (Nat.le_of_ble_eq_true U) (fun u hu=>by simp [Value.cells] at hu;rcases hu with rfl|rfl|rfl<;>rfl) (fun w H=>(Ab (Z (Am (FB (cs:=[.bool false,.int .i64 0,.string ⟨#[]⟩]) U U Dv U (H.cellsI 0 U U) ?_)))))
 replace H:=H.nil
 exact Al ⟨by simp only [h2];rfl,rfl⟩ H
theorem KR (op:Int) (a:Int) (b:Int):
    Cn Tryz.prog 305 [.int .i64 op,.int .i64 a,.int .i64 b] [] [] (fun v Bs=>v=.agg #[.bool ((BM op a b).t),.int .i64 ((BM op a b).n),.string ((BM op a b).b)]∧Bs=[]):=by
 intro w0 F0 H
 refine enter Tryz.func305 U U (Nat.le_of_ble_eq_true U) (Aa (Ad (Dz U U U DH H (fun b1 w H=>(Ab (Z ?_))))))
 replace H:Hd _ _ _ [blk b1 [.bool false,.int .i64 0,.string ⟨#[]⟩] 330] []:=H
 refine Aa (Aa (Ad (Ac U (Ab (Z (AX (Aa (Ad (V U U (Bg U U U) (Ac U (Ab (Z ?_))))))))))))
 refine AC U (fun h2=>?_) (fun h2=>?_)
 ·refine Aa (Ad (Ah 2 U (V U U (Be (z:=IntKind.i64.wrap (a+b)) U U U U) (sc (Gp (IntKind.i64.wrap (a+b))) H l0 U U (Av Gf U U) ?_))))
  rintro _ _ w ⟨rfl,rfl⟩ H
  refine Bx U U U Dv U U H U (Nat.le_of_ble_eq_true U) (fun u hu=>by simp [Value.cells] at hu;rcases hu with rfl|rfl|rfl<;>rfl) (fun w H=>?_)
  replace H:=H.h1 (A:=blk b1 [.bool false,.int .i64 (IntKind.i64.wrap (a+b)),.string ⟨#[]⟩] 330)
  refine Ab (Z (Am (AY (Az (FB (cs:=[.bool false,.int .i64 (IntKind.i64.wrap (a+b)),.string ⟨#[]⟩]) U U Dv U (H.cellsI 0 U U) ?_)))))
  have e:BM op a b=Dw (IntKind.i64.wrap (a+b)):=by unfold BM;rw [if_pos h2]
  replace H:=H.nil
  exact Al ⟨by rw [e];rfl,rfl⟩ H
 refine Aa (Ad (V U U (Bg U U U) (Ac U (Ab (Z ?_)))))
 refine AC U (fun h3=>?_) (fun h3=>?_)
 ·refine Aa (Ad (Ah 2 U (V U U (CK (z:=IntKind.i64.wrap (a - b)) U U U U) (sc (Gp (IntKind.i64.wrap (a - b))) H l0 U U (Av Gf U U) ?_))))
  rintro _ _ w ⟨rfl,rfl⟩ H
  refine Bx U U U Dv U U H U (Nat.le_of_ble_eq_true U) (fun u hu=>by simp [Value.cells] at hu;rcases hu with rfl|rfl|rfl<;>rfl) (fun w H=>?_)
  replace H:=H.h1 (A:=blk b1 [.bool false,.int .i64 (IntKind.i64.wrap (a - b)),.string ⟨#[]⟩] 330)
  refine Ab (Z (Am (AY (Az (FB (cs:=[.bool false,.int .i64 (IntKind.i64.wrap (a - b)),.string ⟨#[]⟩]) U U Dv U (H.cellsI 0 U U) ?_)))))
  have e:BM op a b=Dw (IntKind.i64.wrap (a - b)):=by unfold BM;rw [if_neg h2,if_pos h3]
  replace H:=H.nil
  exact Al ⟨by rw [e];rfl,rfl⟩ H
 refine Aa (Ad (V U U (Bg U U U) (Ac U (Ab (Z ?_)))))
 refine AC U (fun h4=>?_) (fun h4=>?_)
 ·refine Aa (Ad (Ah 2 U (V U U (Hy (z:=IntKind.i64.wrap (a*b)) U U U U) (sc (Gp (IntKind.i64.wrap (a*b))) H l0 U U (Av Gf U U) ?_))))
  rintro _ _ w ⟨rfl,rfl⟩ H
  refine Bx U U U Dv U U H U (Nat.le_of_ble_eq_true U) (fun u hu=>by simp [Value.cells] at hu;rcases hu with rfl|rfl|rfl<;>rfl) (fun w H=>?_)
  replace H:=H.h1 (A:=blk b1 [.bool false,.int .i64 (IntKind.i64.wrap (a*b)),.string ⟨#[]⟩] 330)
  refine Ab (Z (Am (AY (Az (FB (cs:=[.bool false,.int .i64 (IntKind.i64.wrap (a*b)),.string ⟨#[]⟩]) U U Dv U (H.cellsI 0 U U) ?_)))))
  have e:BM op a b=Dw (IntKind.i64.wrap (a*b)):=by unfold BM;rw [if_neg h2,if_neg h3,if_pos h4]
  replace H:=H.nil
  exact Al ⟨by rw [e];rfl,rfl⟩ H
 refine AB (Bb (Z (Aa (Ad (Ah 2 U (V U U (Br U U U) (sc (Rc (decide (a<b))) H l0 U U (Av Qe U U) ?_)))))))
 rintro _ _ w ⟨rfl,rfl⟩ H
 refine Bx U U U Dv U U H U (Nat.le_of_ble_eq_true U) (fun u hu=>by simp [Value.cells] at hu;rcases hu with rfl|rfl|rfl<;>rfl) (fun w H=>?_)
 replace H:=H.h1 (A:=blk b1 [.bool false,.int .i64 (if (decide (a<b))=true then 1 else 0),.string ⟨#[]⟩] 330)
 refine Ab (Z (Am (FB (cs:=[.bool false,.int .i64 (if (decide (a<b))=true then 1 else 0),.string ⟨#[]⟩]) U U Dv U (H.cellsI 0 U U) ?_)))
 have e:BM op a b=Dw (if a<b then 1 else 0):=by unfold BM;rw [if_neg h2,if_neg h3,if_neg h4]
 replace H:=H.nil
 exact Al ⟨by rw [e];simp [Dw],rfl⟩ H
theorem eI (a:A0) (b:A0):
    Cn Tryz.prog 307 [.agg #[.bool a.t,.int .i64 a.n,.string a.b],.agg #[.bool b.t,.int .i64 b.n,.string b.b]] [] [] (fun v Bs=>v=.bool (EW a b)∧Bs=[]):=by
 intro w0 F0 H
 refine enter Tryz.func307 U U (Nat.le_of_ble_eq_true U) (Aa (Ad (CT U U U U H (fun b1 w H=>(CT U U U U H (fun b2 w H=>(Ac U (Ab (Z ?_)))))))))
 replace H:Hd _ _ _ [blk b2 [.bool b.t,.int .i64 b.n,.string b.b] 330,blk b1 [.bool a.t,.int .i64 a.n,.string a.b] 330] []:=H
 refine Aa (Aa (Ad (V U U (Aj U HQ U) (V U U (An U D4 U (H.cellI 1 U U)) (Ab (Z ?_))))))
 refine Dx (b:=a.t) U (fun h3=>?_) (fun h3=>?_)
 ·refine Aa (Ad (V U U (Aj U HQ U) (V U U (An U D4 U (H.cellI 0 U U)) (Ac U ?_))))
  refine G5 (d:=9) (b:=b.t) U (fun h4=>?_) (fun h4=>?_)
  ·refine V U U (Aj U Gb U) (V U U (An U Cg U (H.cellI 1 U U)) (V U U (Aj U Gb U) (V U U (An U Cg U (H.cellI 0 U U)) (V U U (M8 U U U) (Ah 2 U (Ab (Z (Am (Az (Aq U U ?_))))))))))
   replace H:=H.nil
   exact Al ⟨congrArg Value.bool (by unfold EW;simp [h3,h4]),rfl⟩ H
  refine Ah 7 U (Ab (Z (Am (Az (Aq U U ?_)))))
  replace H:=H.nil
  exact Al ⟨congrArg Value.bool (by unfold EW;simp [h3,h4]),rfl⟩ H
 refine AB (Z (Aa (Ad (V U U (Aj U HQ U) (V U U (An U D4 U (H.cellI 0 U U)) (V U U (Ek U U U) (Ac U ?_)))))))
 refine G5 (d:=19) (b:=!b.t) U (fun h5=>?_) (fun h5=>?_)
 ·refine V U U (Aj U E_ U) (V U U (An U Eb U (H.cellI 1 U U)) (V U U (Aj U E_ U) (V U U (An U Eb U (H.cellI 0 U U)) (V U U (Bg U U U) (Ah 2 U (Ab (Z (Am (Aq U U ?_)))))))))
  replace H:=H.nil
  exact Al ⟨congrArg Value.bool (by unfold EW;simp [h3,h5]),rfl⟩ H
 refine Ah 7 U (Ab (Z (Am (Aq U U ?_))))
 replace H:=H.nil
 exact Al ⟨congrArg Value.bool (by unfold EW;simp [h3,h5]),rfl⟩ H
theorem eG (s:ByteArray) (i:Int):
    Cn Tryz.prog 308 [.string s,.int .i64 i] [] [] (fun v Bs=>v=.int .i64 (E5 s i)∧Bs=[]):=by
 intro w0 F0 H
 refine enter Tryz.func308 U U (Nat.le_of_ble_eq_true U) (Aa (Ad (Ac U (Ab (Z (Aa (Aa (Ad (Ac U (V U U (Br U U U) (Ac U ?_)))))))))))
 refine AR (d:=7) U (fun h1=>?_) (fun h1=>?_)
 ·exact Ah 5 U (Ab (Z (Ct U (Aa (Ad (Ac U (Ab (Z (Am (Az (Aq U U (Al ⟨congrArg (Value.int .i64) (if_pos (by omega)).symm,rfl⟩ H))))))))))))
 refine Ah 2 U (V U U (DO U CP U) (V U U (C4 U U U) (Ac U (Ab (Z ?_)))))
 refine AC U (fun h2=>?_) (fun h2=>?_)
 ·exact Aa (Ad (Ac U (Ab (Z (Am (Az (Aq U U (Al ⟨congrArg (Value.int .i64) (if_pos (by omega)).symm,rfl⟩ H))))))))
 refine AB (Z (Aa (Ad (Ah 2 U ?_))))
 obtain ⟨c0,hc0⟩:∃ c0,s[i.toNat]?=some c0:=⟨_,getElem?_pos s i.toNat (by omega)⟩
 exact V U U (JB U CP U U (by omega) hc0) (V U U (Ej (z:=((c0).toNat:Int)) U U HE I1 (AI (by omega) (by have:=UInt8.toNat_lt c0;omega))) (Ac U (Ab (Z (Am (Aq U U (Al ⟨congrArg (Value.int .i64) (by unfold E5;rw [if_neg (by omega),hc0];rfl),rfl⟩ H)))))))
theorem eH (s:ByteArray) (f:Int) (t:Int):
    Cn Tryz.prog 309 [.string s,.int .i64 f,.int .i64 t] [] [] (fun v Bs=>v=.string (FL s f t)∧Bs=[]):=by
 intro w0 F0 H
 refine enter Tryz.func309 U U (Nat.le_of_ble_eq_true U) (Aa (Ad (Ac U (Ab (Z (Aa (Ad (Ac U (V U U (DO U CP U) (Ac U (Ab (Z (Aa (Ad (Ac U (V U U (RJ (z:=max f 0) U U U U) (Ac U (V U U (HW (z:=min (max f 0) ((s.size:Nat):Int)) U U U U) (Ac U (V U U (RJ (z:=max t 0) U U U U) (Ac U (V U U (HW (z:=min (max t 0) ((s.size:Nat):Int)) U U U U) (Ah 2 U (Ab (Z (Aa (Aa (Ad (Ah 2 U (V U U (CD U U U) (Ab (Z ?_))))))))))))))))))))))))))))))))
 refine AC U (fun h1=>?_) (fun h1=>?_)
 ·exact Aa (Ad (Ac U (Ab (Z (Am (Az (Aq U U (Al ⟨congrArg Value.string (if_pos h1).symm,rfl⟩ H))))))))
 exact AB (Z (Aa (Ad (Ah 3 U (V U U (ZA (r:=s.extract (min (max f 0) ((s.size:Nat):Int)).toNat (min (max t 0) ((s.size:Nat):Int)).toNat) U CP U U U (by omega) (by omega) (by omega) U) (Ac U (Ab (Z (Am (Aq U U (Al ⟨congrArg Value.string (if_neg h1).symm,rfl⟩ H)))))))))))
theorem Yq (r:Nat) (pv:Value) (key:ByteArray) (vv:Value) (fuel pos steps:Int) (halted:Bool) (sv:Value) (g:Nat→A0) (tv mv:Value) (stk:List A0) (op:Int) (hst:stk.length≤16):
    Cn Tryz.prog 300 [.pointer (some ⟨r,0,none⟩),.int .i64 op] [blk r (Bl pv key vv fuel pos steps halted sv g tv mv) 334,Y Bd sv stk] [] (fun v Bs=>∃ u sv2,v=.tuple #[u,.int .i64 (AD op stk).1]∧Bs=[blk r (Bl pv key vv fuel pos steps halted sv2 g tv mv) 334,Y Bd sv2 (AD op stk).2.1,Y Bd u (AD op stk).2.2]):=by
 intro w0 F0 H
 obtain ⟨A1,c2,rfl,hc3,hm4,hp5⟩:=H.fA 1 rfl
 refine enter Tryz.func300 U U (Nat.le_of_ble_eq_true U) (Aa (Ad (Ah 2 U (Ab (Z ?_)))))
 replace H:Hd _ _ _ [blk r (Bl pv key vv fuel pos steps halted (.slice A1 stk.length c2) g tv mv) 334,Y Bd (.slice A1 stk.length c2) stk] []:=H
 refine Aa (Ad (Ac U (sc (VS op) H l0 U U (Av W9 U U) ?_)))
 rintro _ _ w ⟨rfl,rfl⟩ H
 refine Ac U (Ab (Z (Aa (Aa (Ad (Ac U (V U U (DO U CP U) (Ac U (V U U (AH U U) (V U U (Aj U GV U) (V U U (An U G_ U (H.cellI 0 U U)) (V U U (Bn U Ic U) (V U U (CW U U U) (Ab (Z ?_)))))))))))))))
 refine AC U (fun h6=>?_) (fun h6=>?_)
 ·refine Aa (Ad (Ah 2 U (Ab (Z (Am (Az (Du U U U ?_)))))))
  have e:=MN (op:=op) (stk:=stk) (by omega)
  replace H:=H.newnil Bd|>.sel 3 [1,2,0] [] rfl (by kernel_rfl)
  replace H:Hd _ _ _ [blk r (Bl pv key vv fuel pos steps halted (.slice A1 stk.length c2) g tv mv) 334,Y Bd (.slice A1 stk.length c2) stk,Y Bd (.slice none 0 0) []] []:=H
  exact Al ⟨_,_,by rw [e]<;>rfl,by rw [e]<;>rfl⟩ H
 refine AB (Z (Aa (GP mo (by kernel_rfl) H (Em U (BH U U (fun w H=>AH U U) (BH U U (fun w H=>Aj U GV U) (BH U U (fun w H=>An U G_ U (H.cellI 0 U U)) (Em U (BH U U (fun w H=>AH U U) (BH U U (fun w H=>Aj U GV U) (BH U U (fun w H=>An U G_ U (H.cellI 0 U U)) (BH U U (fun w H=>Bn U Ic U) (Em U (BH U U (fun w H=>DO U CP U) (BH U U (fun w H=>CK (z:=((stk.length - ((Bm op).size):Nat):Int)) U U U (by rw [AI (by omega) (by omega)];omega)) (BH U U (fun w H=>KZ U Cd U U (by omega) (by omega) U) (Em U (BH U U (fun w H=>AH U U) (BH U U (fun w H=>Aj U GV U) (BH U U (fun w H=>An U G_ U (H.cellI 0 U U)) ?_))))))))))))))))))))
 refine Em U (BH U U (fun w H=>AH U U) (BH U U (fun w H=>Aj U GV U) (BH U U (fun w H=>An U G_ U (H.cellI 0 U U)) (BH U U (fun w H=>Bn U Ic U) (Em U (BH U U (fun w H=>DO U CP U) (BH U U (fun w H=>CK (z:=((stk.length - ((Bm op).size):Nat):Int)) U U U (by rw [AI (by omega) (by omega)];omega)) (BH U U (fun w H=>Jz U Cd U U (by omega) (by omega) U) (JU 2 U (Ha (fun w H=>(Z (Aa (Aa (Ad (Ac U (V U U (Bn U Ic U) (Ac U (Ab (Z (AX (B1 (σ:=Nat) (fun i=>[(0,.pointer (some ⟨r,0,none⟩)),(6,.string (Bm op)),(7,.slice A1 (stk.length - ((Bm op).size)) c2),(8,.slice (D1 A1 c2 (stk.length - ((Bm op).size)) 3) (stk.length - (stk.length - ((Bm op).size))) (c2 - (stk.length - ((Bm op).size)))),(48,.slice (D1 A1 c2 (stk.length - ((Bm op).size)) 3) (stk.length - (stk.length - ((Bm op).size))) (c2 - (stk.length - ((Bm op).size)))),(49,.int .i64 ((stk.length - (stk.length - ((Bm op).size)):Nat):Int)),(50,.int .i64 ((i:Nat):Int))]) (fun i w=>(Hd w0 F0 w [blk r (Bl pv key vv fuel pos steps halted (.slice A1 stk.length c2) g tv mv) 334,Y Bd (.slice A1 stk.length c2) stk] [])∧(i≤(Bm op).size)∧(Fk ((Bm op).data.toList.drop i) ((stk.drop (stk.length - (Bm op).size)).drop i)=Fk (Bm op).data.toList (stk.drop (stk.length - (Bm op).size)))) (fun i=>(Bm op).size - i) 0 ⟨rfl,rfl,rfl,rfl,rfl,rfl,rfl,trivial⟩ ⟨H,Nat.zero_le _,rfl⟩ ?_))))))))))))))))))))))
 rintro i w ⟨H,hi,hf⟩
 refine Aa (Ad (V U U (Br U U U) (Ab (Z (Aa ?_)))))
 refine AC U (fun h7=>?_) (fun h7=>?_)
 ·refine AB (Z (Aa (AX (Aa (Ad (Ac U ?_))))))
  obtain ⟨x8,hx9⟩:∃ z9,(stk.drop (stk.length - ((Bm op).size)))[i]?=some z9:=⟨_,List.getElem?_eq_getElem (show i<(stk.drop (stk.length - ((Bm op).size))).length by simp only [List.length_take,List.length_drop];omega)⟩
  have th10:=H.thX (fun F hA hR=>IS (B3 F (hA _ (List.mem_of_getElem? (i:=1) rfl))) (i:=stk.length - ((Bm op).size)) (by omega)) hx9
  refine V U U (Bi (p:=A_ (D1 A1 c2 (stk.length - ((Bm op).size)) 3)+i*3) U Cd U U (by omega) (by omega) th10 U) (V U U (BD (cs:=[.bool x8.t,.int .i64 x8.n,.string x8.b]) U Dv U U (H.elsX (fun F hA hR=>IS (B3 F (hA _ (List.mem_of_getElem? (i:=1) U))) (i:=stk.length - ((Bm op).size)) (by omega)) hx9 U)) (Dz U U U DH H (fun b11 w H=>(Ac U (Bx U U U Dv U U H U (Nat.le_of_ble_eq_true U) (fun u hu=>by simp [Value.cells] at hu;rcases hu with rfl|rfl|rfl<;>rfl) (fun w H=>?_))))))
  replace H:Hd _ _ _ [blk b11 [.bool x8.t,.int .i64 x8.n,.string x8.b] 330,blk r (Bl pv key vv fuel pos steps halted (.slice A1 stk.length c2) g tv mv) 334,Y Bd (.slice A1 stk.length c2) stk] []:=H
  refine Ab (Z (Aa (Ad (Ah 2 U ?_))))
  obtain ⟨c12,hb13⟩:∃ c0,(Bm op)[i]?=some c0:=⟨_,getElem?_pos (Bm op) i (by omega)⟩
  refine V U U (JB U CP U U (by omega) hb13) (V U U (Bg U U U) (Ac U ?_))
  refine AR (d:=59) U (fun h14=>?_) (fun h14=>?_)
  ·refine V U U (Aj U HQ U) (V U U (An U D4 U (H.cellI 0 U U)) (Ah 2 U ?_))
   refine G5 (d:=63) (b:=x8.t) U (fun h15=>?_) (fun h15=>?_)
   ·refine Ah 10 U (Ab (Z (Ct U (Aa (Ad (Ah 2 U (Ab (Z (Am (AY (Az (Az (AY (Az (Du U U U ?_)))))))))))))))
    have hfit:FM c12 x8=false:=by rw [HN];simp_all
    have e:=Jt (op:=op) (stk:=stk) (by omega) (hf.symm.trans (LZ (HL hb13) hx9 hfit))
    replace H:=H.p2.p2.k2.newnil Bd|>.p2|>.p2
    exact Al ⟨_,_,by rw [e]<;>rfl,by rw [e]<;>rfl⟩ H
   refine Ah 2 U (V U U (JB U CP U U (by omega) hb13) (V U U (Bg U U U) (Ac U ?_)))
   refine AR (d:=68) U (fun h16=>?_) (fun h16=>?_)
   ·refine V U U (Aj U HQ U) (V U U (An U D4 U (H.cellI 0 U U)) (V U U (Ek U U U) (Ah 2 U (Ab (Z ?_)))))
    refine Dx (b:=!x8.t) U (fun h17=>?_) (fun h17=>?_)
    ·refine Aa (Ad (Ah 2 U (Ab (Z (Am (AY (Az (Az (AY (Az (Du U U U ?_)))))))))))
     have hfit:FM c12 x8=false:=by rw [HN];simp_all
     have e:=Jt (op:=op) (stk:=stk) (by omega) (hf.symm.trans (LZ (HL hb13) hx9 hfit))
     replace H:=H.p2.p2.k2.newnil Bd|>.p2|>.p2
     exact Al ⟨_,_,by rw [e]<;>rfl,by rw [e]<;>rfl⟩ H
    refine AB (Bb (Z (Ad (V U U (Be (z:=((i+1:Nat):Int)) U U U (by rw [AI (by omega) (by omega)];omega)) (Ac U (Ab ?_))))))
    have hfit:FM c12 x8=true:=by rw [HN];simp_all
    have hf2:=(Kj (HL hb13) hx9 hfit).trans hf
    replace H:=H.p2.p2.k2
    exact Bo (s:=i) (i+1) ⟨rfl,rfl,rfl,rfl,rfl,rfl,rfl,trivial⟩ ⟨H,by (try dsimp only);omega,hf2⟩ (by (try dsimp only);omega)
   refine Ah 5 U (Ab (Z (Cq U (AB (Bb (Z (Ad (V U U (Be (z:=((i+1:Nat):Int)) U U U (by rw [AI (by omega) (by omega)];omega)) (Ac U (Ab ?_))))))))))
   have hfit:FM c12 x8=true:=by rw [HN];simp_all
   have hf2:=(Kj (HL hb13) hx9 hfit).trans hf
   replace H:=H.p2.p2.k2
   exact Bo (s:=i) (i+1) ⟨rfl,rfl,rfl,rfl,rfl,rfl,rfl,trivial⟩ ⟨H,by (try dsimp only);omega,hf2⟩ (by (try dsimp only);omega)
  refine Ah 6 U (V U U (JB U CP U U (by omega) hb13) (V U U (Bg U U U) (Ac U ?_)))
  refine AR (d:=68) U (fun h18=>?_) (fun h18=>?_)
  ·refine V U U (Aj U HQ U) (V U U (An U D4 U (H.cellI 0 U U)) (V U U (Ek U U U) (Ah 2 U (Ab (Z ?_)))))
   refine Dx (b:=!x8.t) U (fun h19=>?_) (fun h19=>?_)
   ·refine Aa (Ad (Ah 2 U (Ab (Z (Am (AY (Az (Az (AY (Az (Du U U U ?_)))))))))))
    have hfit:FM c12 x8=false:=by rw [HN];simp_all
    have e:=Jt (op:=op) (stk:=stk) (by omega) (hf.symm.trans (LZ (HL hb13) hx9 hfit))
    replace H:=H.p2.p2.k2.newnil Bd|>.p2|>.p2
    exact Al ⟨_,_,by rw [e]<;>rfl,by rw [e]<;>rfl⟩ H
   refine AB (Bb (Z (Ad (V U U (Be (z:=((i+1:Nat):Int)) U U U (by rw [AI (by omega) (by omega)];omega)) (Ac U (Ab ?_))))))
   have hfit:FM c12 x8=true:=by rw [HN];simp_all
   have hf2:=(Kj (HL hb13) hx9 hfit).trans hf
   replace H:=H.p2.p2.k2
   exact Bo (s:=i) (i+1) ⟨rfl,rfl,rfl,rfl,rfl,rfl,rfl,trivial⟩ ⟨H,by (try dsimp only);omega,hf2⟩ (by (try dsimp only);omega)
  refine Ah 5 U (Ab (Z (Cq U (AB (Bb (Z (Ad (V U U (Be (z:=((i+1:Nat):Int)) U U U (by rw [AI (by omega) (by omega)];omega)) (Ac U (Ab ?_))))))))))
  have hfit:FM c12 x8=true:=by rw [HN];simp_all
  have hf2:=(Kj (HL hb13) hx9 hfit).trans hf
  replace H:=H.p2.p2.k2
  exact Bo (s:=i) (i+1) ⟨rfl,rfl,rfl,rfl,rfl,rfl,rfl,trivial⟩ ⟨H,by (try dsimp only);omega,hf2⟩ (by (try dsimp only);omega)
 refine BW (A8 (A8 (BX (Z (Aa (Ad (Ac U ?_)))))))
 replace H:=H.newnil Bd
 refine CA (xs:=[]) (ys:=stk.drop (stk.length - ((Bm op).size))) U U U Cd DH U (by decide) U U H (by simp only [List.length_nil];omega) (fun F hA hR=>IS (B3 F (hA _ (List.mem_of_getElem? (i:=1) U))) (i:=stk.length - ((Bm op).size)) (by omega)) (fun v20 w H=>(Ac U (Ab (Z ?_))))
 replace H:Hd _ _ _ [Y Bd v20 ([]++(stk.drop (stk.length - ((Bm op).size)))),blk r (Bl pv key vv fuel pos steps halted (.slice A1 stk.length c2) g tv mv) 334,Y Bd (.slice A1 stk.length c2) stk] []:=H
 refine Aa (Ad (Ah 2 U (V U U (AH U U) (V U U (Aj U GV U) ?_))))
 replace H:=H.p1
 refine Bx U U U G_ U U H U (Nat.le_of_ble_eq_true U) (fun u hu=>by simp [Value.cells] at hu;subst hu;rfl) (fun w H=>?_)
 replace H:=H.h1 (A:=blk r (Bl pv key vv fuel pos steps halted (.slice A1 (stk.length - ((Bm op).size)) c2) g tv mv) 334)
 refine Ab (Z (Aa ?_))
 replace H:=H.p2.preO (stk.length - (Bm op).size) (by omega)|>.h1 (A:=Y Bd (.slice A1 (stk.length - ((Bm op).size)) c2) (stk.take (stk.length - (Bm op).size)))
 refine Ad (Ah 3 U (Ab (Z (Am (Du U U U ?_)))))
 replace H:=H.p1.h3 (C:=Y Bd v20 (stk.drop (stk.length - (Bm op).size)))
 have e:=ML (op:=op) (stk:=stk) (by omega) (hf.symm.trans (UL (by simp only [List.length_drop];omega)))
 exact Al ⟨_,_,by rw [e]<;>rfl,by rw [e]<;>rfl⟩ H
theorem Eu (r:Nat) (pv:Value) (key:ByteArray) (vv:Value) (fuel pos steps:Int) (halted:Bool) (sv:Value) (g:Nat→A0) (tv mv:Value) (stk:List A0) (vvs:Value) (vs:List A0) (hst:stk.length≤16) (hvs:vs.length≤16):
    Cn Tryz.prog 301 [.pointer (some ⟨r,0,none⟩),vvs] [blk r (Bl pv key vv fuel pos steps halted sv g tv mv) 334,Y Bd sv stk] [Ae Bd vvs vs] (fun v Bs=>∃ sv2,v=.int .i64 (Bp stk vs).1∧Bs=[blk r (Bl pv key vv fuel pos steps halted sv2 g tv mv) 334,Y Bd sv2 (Bp stk vs).2]):=by
 intro w0 F0 H
 obtain ⟨A1,c2,rfl,hc3,hm4,hp5⟩:=H.fR 0 rfl
 refine enter Tryz.func301 U U (Nat.le_of_ble_eq_true U) (Aa (Ad (Ac U (Ab (Z ?_)))))
 replace H:Hd _ _ _ [blk r (Bl pv key vv fuel pos steps halted sv g tv mv) 334,Y Bd sv stk] [Ae Bd (.slice A1 vs.length c2) vs]:=H
 refine Aa (Aa (Ad (Ac U (V U U (Bn U Ic U) (Ac U (Ab (Z (AX (B1 (σ:=Nat) (fun k=>[(0,.pointer (some ⟨r,0,none⟩)),(1,.slice A1 vs.length c2),(7,.slice A1 vs.length c2),(8,.int .i64 ((vs.length:Nat):Int)),(9,.int .i64 ((k:Nat):Int))]) (fun k w=>(Hd w0 F0 w [blk r (Bl pv key vv fuel pos steps halted sv g tv mv) 334,Y Bd sv stk] [Ae Bd (.slice A1 vs.length c2) vs])∧(k≤vs.length)∧(∀ y∈vs.take k,E6 y=false)) (fun k=>vs.length - k) 0 ⟨rfl,rfl,rfl,rfl,rfl,trivial⟩ ⟨H,Nat.zero_le _,by (try dsimp only);simp⟩ ?_)))))))))
 rintro k w ⟨H,hk,hn⟩
 refine Aa (Ad (V U U (Br U U U) (Ab (Z (Aa ?_)))))
 refine AC U (fun h6=>?_) (fun h6=>?_)
 ·refine AB (Z (Aa (AX (Aa (Ad ?_)))))
  obtain ⟨x7,hx8⟩:∃ z9,vs[k]?=some z9:=⟨_,List.getElem?_eq_getElem (show k<vs.length by omega)⟩
  have th9:=H.thR 0 rfl hx8
  refine V U U (Bi (p:=A_ A1+k*3) U Cd U U (by omega) (by omega) th9 U) (V U U (BD (cs:=[.bool x7.t,.int .i64 x7.n,.string x7.b]) U Dv U U (H.elsR 0 U hx8 U)) (Dz U U U DH H (fun b10 w H=>(Bx U U U Dv U U H U (Nat.le_of_ble_eq_true U) (fun u hu=>by simp [Value.cells] at hu;rcases hu with rfl|rfl|rfl<;>rfl) (fun w H=>?_)))))
  replace H:=H.h1 (A:=blk b10 [.bool x7.t,.int .i64 x7.n,.string x7.b] 330)
  refine Ab (Z (Aa (Ad (V U U (Aj U HQ U) (V U U (An U D4 U (H.cellI 0 U U)) (Ac U ?_))))))
  refine G5 (d:=15) (b:=x7.t) U (fun h11=>?_) (fun h11=>?_)
  ·refine V U U (Aj U Gb U) (V U U (An U Cg U (H.cellI 0 U U)) (V U U (DO U CP U) (V U U (CW U U U) (Ac U (Ab (Z ?_))))))
   refine AC U (fun h12=>?_) (fun h12=>?_)
   ·refine Aa (Ad (Ac U (Ab (Z (Am (AY (Az (Az (AY (Az (Aq U U ?_)))))))))))
    have e:=Zp (stk:=stk) hx8 (Tn h11 h12)
    replace H:=H.p2.p2.k2
    exact Al ⟨_,by rw [e]<;>rfl,by rw [e]<;>rfl⟩ H
   refine AB (Bb (Z (Ad (V U U (Be (z:=((k+1:Nat):Int)) U U U (by rw [AI (by omega) (by omega)];omega)) (Ac U (Ab ?_))))))
   replace H:=H.p2.p2.k2
   exact Bo (s:=k) (k+1) ⟨rfl,rfl,rfl,rfl,rfl,trivial⟩ ⟨H,by (try dsimp only);omega,Lv hn hx8 (Oo (.inr h12))⟩ (by (try dsimp only);omega)
  refine Ah 5 U (Ab (Z (Cq U (AB (Bb (Z (Ad (V U U (Be (z:=((k+1:Nat):Int)) U U U (by rw [AI (by omega) (by omega)];omega)) (Ac U (Ab ?_))))))))))
  replace H:=H.p2.p2.k2
  exact Bo (s:=k) (k+1) ⟨rfl,rfl,rfl,rfl,rfl,trivial⟩ ⟨H,by (try dsimp only);omega,Lv hn hx8 (Oo (.inl h11))⟩ (by (try dsimp only);omega)
 refine BW (A8 (A8 (BX (Z (Aa (Aa (Ad (Ac U (V U U (AH U U) (V U U (Aj U GV U) (V U U (An U G_ U (H.cellI 0 U U)) ?_)))))))))))
 obtain ⟨A13,c14,rfl,hc15,hm16,hp17⟩:=H.fA 1 rfl
 refine V U U (Bn U Ic U) (Ac U (V U U (Bn U Ic U) (V U U (Be (z:=((stk.length+vs.length:Nat):Int)) U U U (by rw [AI (by omega) (by omega)];omega)) (V U U (CW U U U) (Ab (Z ?_))))))
 refine AC U (fun h18=>?_) (fun h18=>?_)
 ·refine Aa (Ad (Ac U (Ab (Z (Am (Az (Aq U U ?_)))))))
  have e:=Zr (stk:=stk) (vs:=vs) (by rw [List.take_of_length_le (by omega)] at hn;exact hn) (by omega)
  exact Al ⟨_,by rw [e]<;>rfl,by rw [e]<;>rfl⟩ H
 refine AB (Z (Aa (Ad (Ah 2 U (V U U (AH U U) (V U U (Aj U GV U) (V U U (An U G_ U (H.cellI 0 U U)) (Ac U ?_))))))))
 replace H:=H.p1
 refine CA (xs:=stk) (ys:=vs) U U U Cd DH U (by decide) U U H (by omega) (fun F hA hR=>hR _ (List.mem_of_getElem? (i:=0) U)) (fun v19 w H=>(V U U (AH U U) (V U U (Aj U GV U) ?_)))
 obtain ⟨A20,c21,rfl,hc22,hm23,hp24⟩:=H.fA 0 rfl
 replace H:=H.p1
 refine Bx U U U G_ U U H U (Nat.le_of_ble_eq_true U) (fun u hu=>by simp [Value.cells] at hu;subst hu;rfl) (fun w H=>?_)
 replace H:Hd _ _ _ [blk r (Bl pv key vv fuel pos steps halted (.slice A20 ((stk++vs).length) c21) g tv mv) 334,Y Bd (.slice A20 ((stk++vs).length) c21) (stk++vs)] [Ae Bd (.slice A1 vs.length c2) vs]:=H
 refine Ab (Z (Aa (Ad (Ac U (Ab (Z (Am (Aq U U ?_))))))))
 have e:=Zq (stk:=stk) (vs:=vs) (by rw [List.take_of_length_le (by omega)] at hn;exact hn) (by omega)
 exact Al ⟨_,by rw [e]<;>rfl,by rw [e]<;>rfl⟩ H
theorem Yy (r:Nat) (pv:Value) (key:ByteArray) (vv:Value) (fuel pos steps:Int) (halted:Bool) (sv:Value) (g:Nat→A0) (tv mv:Value) (stk:List A0) (vals:List ByteArray) (hst:stk.length≤16):
    Cn Tryz.prog 304 [.pointer (some ⟨r,0,none⟩)] [blk r (Bl pv key vv fuel pos steps halted sv g tv mv) 334,Y Bd sv stk] [Ae Bu vv vals] (fun v Bs=>∃ sv2 vv2,v=.int .i64 (Fy stk vals).1∧Dk Bu vv vals vv2 (Fy stk vals).2.2∧Bs=[blk r (Bl pv key vv2 fuel pos steps halted sv2 g tv mv) 334,Y Bd sv2 (Fy stk vals).2.1]):=by
 intro w0 F0 H
 obtain ⟨A1,c2,rfl,hc3,hm4,hp5⟩:=H.fR 0 rfl
 refine enter Tryz.func304 U U (Nat.le_of_ble_eq_true U) (Aa (Ad (Ac U (Ab (Z ?_)))))
 replace H:Hd _ _ _ [blk r (Bl pv key (.slice A1 vals.length c2) fuel pos steps halted sv g tv mv) 334,Y Bd sv stk] [Ae Bu (.slice A1 vals.length c2) vals]:=H
 refine Aa (Aa (Ad (Ac U (V U U (AH U U) (V U U (Aj U Kr U) (V U U (An U Lx U (H.cellI 0 U U)) (V U U (Bn U SA U) (V U U (Bg U U U) (Ab (Z ?_))))))))))
 refine AC U (fun h6=>?_) (fun h6=>?_)
 ·refine Aa ?_
  have hv0:vals=[]:=List.eq_nil_of_length_eq_zero (by omega)
  refine Ad (Ac U (sc (Gp 0) H l0 U U (Av Gf U U) ?_))
  rintro _ _ w ⟨rfl,rfl⟩ H
  refine Cb (parts:=[(0,.tmp 11)]) (vs:=[.agg #[.bool false,.int .i64 0,.string ⟨#[]⟩]]) (cs:=[.bool false,.int .i64 0,.string ⟨#[]⟩]) U U U Cd DH U (by decide) (by decide) U U H (fun b7 w H=>?_)
  replace H:=H.h1 (A:=blk b7 [.bool false,.int .i64 0,.string ⟨#[]⟩] 330)|>.p2|>.p2
  refine sc (Eu r pv key (.slice A1 vals.length c2) fuel pos steps halted sv g tv mv stk (.slice (some ⟨b7,0,none⟩) 1 1) [(⟨false,0,⟨#[]⟩⟩:A0)] (by omega) (Nat.le_of_ble_eq_true U)) H (lA 0 U (fun F h=>Cy h rfl (by decide) (Bc.flat_eq.2 U)) l0) U U (Av Er U U) ?_
  rintro _ _ w ⟨s8,rfl,rfl⟩ H
  replace H:=H.h2 (A:=blk r (Bl pv key (.slice A1 vals.length c2) fuel pos steps halted s8 g tv mv) 334) (B:=Y Bd s8 ((Bp stk [(⟨false,0,⟨#[]⟩⟩:A0)]).2))
  refine Ac U (Ab (Z (Am (Az (Aq U U ?_)))))
  replace H:=H.k2
  have e:Fy stk vals=((Bp stk [Dw 0]).1,(Bp stk [Dw 0]).2,[]):=by rw [hv0];rfl
  exact Al ⟨s8,.slice A1 vals.length c2,by rw [e]<;>rfl,by rw [e,hv0]<;>exact Dk.refl _ _ _,by rw [e]<;>rfl⟩ H
 refine AB (Z (Aa (Ad (Ac U (V U U (AH U U) (V U U (Aj U Kr U) (V U U (An U Lx U (H.cellI 0 U U)) ?_)))))))
 obtain ⟨x9,hx10⟩:∃ z9,vals[0]?=some z9:=⟨_,List.getElem?_eq_getElem (show 0<vals.length by omega)⟩
 have th11:=H.thR 0 rfl hx10
 refine V U U (Bi (p:=A_ A1+0*1) U H7 U U (by omega) (by omega) th11 (by omega)) (V U U (An U Cg U (H.elR 0 U hx10 (q:=0) U U)) (Ac U (Ab (Z (Aa (Ad (Ah 2 U (V U U (AH U U) (V U U (Aj U Kr U) (V U U (An U Lx U (H.cellI 0 U U)) (V U U (Jz U H7 U U (by omega) (by omega) U) (V U U (AH U U) (V U U (Aj U Kr U) (Bx U U U Lx U U H U (Nat.le_of_ble_eq_true U) (fun u hu=>by simp [Value.cells] at hu;subst hu;rfl) (fun w H=>?_)))))))))))))))
 replace H:=H.h1 (A:=blk r (Bl pv key (.slice (D1 A1 c2 1 1) (vals.length - 1) (c2 - 1)) fuel pos steps halted sv g tv mv) 334)
 refine Ab (Z (Aa (Ad (Ah 2 U (sc (I2 x9) H l0 U U (Av IC U U) ?_)))))
 rintro _ _ w ⟨rfl,rfl⟩ H
 refine sc (Gp 1) H l0 U U (Av Gf U U) ?_
 rintro _ _ w ⟨rfl,rfl⟩ H
 refine Cb (parts:=[(0,.tmp 30),(1,.tmp 31)]) (vs:=[.agg #[.bool true,.int .i64 0,.string x9],.agg #[.bool false,.int .i64 1,.string ⟨#[]⟩]]) (cs:=[.bool true,.int .i64 0,.string x9,.bool false,.int .i64 1,.string ⟨#[]⟩]) U U U Cd DH U (by decide) (by decide) U U H (fun b12 w H=>?_)
 replace H:=H.h1 (A:=blk b12 [.bool true,.int .i64 0,.string x9,.bool false,.int .i64 1,.string ⟨#[]⟩] 330)|>.p2|>.p2
 refine sc (Eu r pv key (.slice (D1 A1 c2 1 1) (vals.length - 1) (c2 - 1)) fuel pos steps halted sv g tv mv stk (.slice (some ⟨b12,0,none⟩) 2 2) [(⟨true,0,x9⟩:A0),(⟨false,1,⟨#[]⟩⟩:A0)] (by omega) (Nat.le_of_ble_eq_true U)) H (lA 0 U (fun F h=>Cy h rfl (by decide) (Bc.flat_eq.2 U)) l0) U U (Av Er U U) ?_
 rintro _ _ w ⟨s13,rfl,rfl⟩ H
 replace H:=H.h2 (A:=blk r (Bl pv key (.slice (D1 A1 c2 1 1) (vals.length - 1) (c2 - 1)) fuel pos steps halted s13 g tv mv) 334) (B:=Y Bd s13 ((Bp stk [(⟨true,0,x9⟩:A0),(⟨false,1,⟨#[]⟩⟩:A0)]).2))
 refine Ac U (Ab (Z (Am (Aq U U ?_))))
 replace H:=H.k2
 have e:=Yx (stk:=stk) hx10
 exact Al ⟨s13,.slice (D1 A1 c2 1 1) (vals.length - 1) (c2 - 1),by rw [e]<;>rfl,by rw [e];exact fun w F h=>IS h (by omega),by rw [e]<;>rfl⟩ H
theorem Us (r:Nat) (pv:Value) (key:ByteArray) (vv:Value) (fuel pos steps:Int) (halted:Bool) (sv:Value) (g:Nat→A0) (tv mv:Value) (told:List Ap) (ek ew:ByteArray) (hto:told.length≤40):
    Cn Tryz.prog 312 [.pointer (some ⟨r,0,none⟩),.string ek,.string ew] [blk r (Bl pv key vv fuel pos steps halted sv g tv mv) 334,Y Ag tv told] [] (fun v Bs=>∃ tv2,v=.int .i64 (D7 told ek ew).1∧Bs=[blk r (Bl pv key vv fuel pos steps halted sv g tv2 mv) 334,Y Ag tv2 (D7 told ek ew).2]):=by
 intro w0 F0 H
 obtain ⟨A1,c2,rfl,hc3,hm4,hp5⟩:=H.fA 1 rfl
 refine enter Tryz.func312 U U (Nat.le_of_ble_eq_true U) (Aa (Ad (Ac U (Ab (Z ?_)))))
 replace H:Hd _ _ _ [blk r (Bl pv key vv fuel pos steps halted sv g (.slice A1 told.length c2) mv) 334,Y Ag (.slice A1 told.length c2) told] []:=H
 refine Aa (AX (Aa (Ad (Ac U (V U U (DO U CP U) (V U U (CW U U U) (Ac U (Ab (Z ?_)))))))))
 refine AC U (fun h6=>?_) (fun h6=>?_)
 ·refine Aa (Ad (Ac U (Ab (Z (Am (AY (Az (Aq U U ?_))))))))
  have e:=Uo (told:=told) (k:=ek) (v:=ew) h6
  exact Al ⟨_,by rw [e]<;>rfl,by rw [e]<;>rfl⟩ H
 refine Aa (Ad (Ac U (V U U (AH U U) (V U U (Aj U Ks U) (V U U (An U DG U (H.cellI 0 U U)) (V U U (Bn U Do U) (V U U (C4 U U U) (Ac U (Ab (Z ?_))))))))))
 refine AC U (fun h7=>?_) (fun h7=>?_)
 ·refine Aa (Ad (Ac U (Ab (Z (Am (AY (Az (Aq U U ?_))))))))
  have e:=Ur (told:=told) (k:=ek) (v:=ew) h6 (by omega)
  exact Al ⟨_,by rw [e]<;>rfl,by rw [e]<;>rfl⟩ H
 refine AB (Bb (Z (Aa (Ad (Ah 2 U (V U U (AH U U) (V U U (Aj U Ks U) (V U U (An U DG U (H.cellI 0 U U)) (Ah 2 U (V U U (Di (parts:=[(0,.tmp 23),(1,.tmp 24)]) (vs:=[.string ek,.string ew]) (cs:=[.string ek,.string ew]) U LK U U) (Cb (parts:=[(0,.tmp 25)]) (vs:=[.agg #[.string ek,.string ew]]) (cs:=[.string ek,.string ew]) U U U BJ De U (by decide) (by decide) U U H (fun b8 w H=>?_))))))))))))
 replace H:=H.p2
 refine CA (xs:=told) (ys:=[(⟨ek,ew⟩:Ap)]) U U U BJ De U (by decide) U U H (by first |omega|(simp only [List.length_cons,List.length_nil];omega)) (fun F hA hR=>Cy (hA _ (List.mem_of_getElem? (i:=0) U)) U (by decide) (Bc.flat_eq.2 U)) (fun v9 w H=>(V U U (AH U U) (V U U (Aj U Ks U) ?_)))
 obtain ⟨A10,c11,rfl,hc12,hm13,hp14⟩:=H.fA 0 rfl
 replace H:=H.p2
 refine Bx U U U DG U U H U (Nat.le_of_ble_eq_true U) (fun u hu=>by simp [Value.cells] at hu;subst hu;rfl) (fun w H=>?_)
 replace H:Hd _ _ _ [blk r (Bl pv key vv fuel pos steps halted sv g (.slice A10 ((told++[(⟨ek,ew⟩:Ap)]).length) c11) mv) 334,Y Ag (.slice A10 ((told++[(⟨ek,ew⟩:Ap)]).length) c11) (told++[(⟨ek,ew⟩:Ap)]),blk b8 [.string ek,.string ew] 122] []:=H
 refine Ab (Z (Aa (Ad (Ac U (Ab (Z (Am (Aq U U ?_))))))))
 replace H:=H.k2
 have e:=Up (told:=told) (k:=ek) (v:=ew) h6 (by omega)
 exact Al ⟨_,by rw [e]<;>rfl,by rw [e]<;>rfl⟩ H
def gl:SP:=Ow (Mk Tryz.prog "internal/strconv.uint64pow10" (fun cs=>cs=(Lib.pow10Tab.map fun z=>Value.int .u64 z).toArray)) (Ow (Mk Tryz.prog "strconv.ErrSyntax" (fun cs=>∃ tp p,cs=#[.iface tp p])) (Mk Tryz.prog "strconv.ErrRange" (fun cs=>∃ tp p,cs=#[.iface tp p])))
def GZ (s:ByteArray):Int:=match Lib.parseIntB 64 s.data.toList with
 |.ok v=>if Ip v=s then v else 0
 |_=>0
def dg:By:=⟨Ip,GZ⟩
abbrev B4 (b:Nat):SP:=Kb 305 b
theorem KQ (s:ByteArray):AL (dg.num s):=by
 show AL (GZ s)
 unfold GZ
 split
 ·rename_i v h
  have:=Lib.parseIntB_bounds h
  split
  ·unfold AL;omega
  ·exact Iy
 ·exact Iy
theorem U8 (n:Int) (hn:AL n):Cn Tryz.prog 350 [.int .i64 n,.int .i64 10] [] [gl] (fun v Bs=>v=.string (dg.dig n)∧Bs=[]):=by
 intro w F H
 have htab:Lib.TabIs Tryz.prog w "internal/strconv.uint64pow10" .u64 Lib.pow10Tab:=H.factR (List.mem_cons_self ..) fun F h=>by
  obtain ⟨⟨g,h1,h2,cs,h3,rfl⟩,_⟩:=h
  exact h3
 refine (Go.Proofs.Tryz.strconv_FormatInt_10 n hn.1 hn.2 w htab).mono ?_
 rintro e w' ⟨rfl,k,os,rfl⟩
 exact ⟨_,rfl,[],⟨rfl,rfl⟩,H.after (eF w k os)⟩
theorem Za (s:ByteArray) (hs:s.size≤64) (v:Int) (h:Lib.parseIntB 64 s.data.toList=.ok v):Cn Tryz.prog 336 [.string s,.int .i64 10,.int .i64 64] [] [gl] (fun r Bs=>r=.tuple #[.int .i64 v,.nilIface]∧Bs=[]):=by
 intro w F H
 refine (Go.Proofs.Tryz.strconv_ParseInt_10_at64_ok s (by omega) v h w).mono ?_
 rintro e w' ⟨rfl,hw⟩
 refine ⟨_,rfl,[],⟨rfl,rfl⟩,?_⟩
 rcases hw with rfl|⟨t,rfl⟩
 ·exact H
 ·exact H.after (NH (Lib.bytesWorld_below ..))
theorem Y_ (s:ByteArray) (hs:s.size≤64) (h:∀ v,Lib.parseIntB 64 s.data.toList≠.ok v):Cn Tryz.prog 336 [.string s,.int .i64 10,.int .i64 64] [] [gl] (fun r Bs=>∃ x te pe,r=.tuple #[.int .i64 x,.iface te pe]∧Bs=[]):=by
 intro w F H
 obtain ⟨tp,p,hS⟩:∃ tp p,w.var? Tryz.prog "strconv.ErrSyntax" =some #[.iface tp p]:=H.factR (List.mem_cons_self ..) fun F h=>by
  obtain ⟨_,⟨g,h1,h2,cs,h3,tp,p,rfl⟩,_⟩:=h
  exact ⟨tp,p,h3⟩
 obtain ⟨tq,q,hR⟩:∃ tp p,w.var? Tryz.prog "strconv.ErrRange" =some #[.iface tp p]:=H.factR (List.mem_cons_self ..) fun F h=>by
  obtain ⟨_,_,⟨g,h1,h2,cs,h3,tp,p,rfl⟩⟩:=h
  exact ⟨tp,p,h3⟩
 rcases hh:Lib.parseIntB 64 s.data.toList with v|_|_
 ·exact absurd hh (h v)
 ·refine (Go.Proofs.Tryz.strconv_ParseInt_10_at64_syntax_var s (by omega) (fun e he=>by rw [hh] at he;subst he;exact ⟨fun v=>nofun,nofun⟩) tp p w hS).mono ?_
  rintro e w' ⟨N,rfl,_,_,hb⟩
  exact ⟨_,rfl,[],⟨_,_,_,rfl,rfl⟩,H.after (NH hb)⟩
 ·refine (Go.Proofs.Tryz.strconv_ParseInt_10_at64_range_var s (by omega) hh tq q w hR).mono ?_
  rintro e w' ⟨N,rfl,_,_,hb⟩
  exact ⟨_,rfl,[],⟨_,_,_,rfl,rfl⟩,H.after (NH hb)⟩
theorem OL (n:Int) (hn:AL n):
    Cn Tryz.prog 335 [.int .i64 n] [] [gl] (fun v Bs=>v=.string (dg.dig n)∧Bs=[]):=by
 intro w0 F0 H
 refine enter Tryz.func335 U U (Nat.le_of_ble_eq_true U) (Aa (Ad (Ac U (Ab (Z (Aa (Ad (Ac U (sc (U8 n (by assumption)) H (lR 0 U l0) U U (Av Xb U U) ?_)))))))))
 rintro _ _ w ⟨rfl,rfl⟩ H
 exact Ac U (Ab (Z (Am (Aq U U (Al ⟨rfl,rfl⟩ H)))))
theorem YD {s:ByteArray} (h:∀ v,Lib.parseIntB 64 s.data.toList≠.ok v):dg.num s=0:=by
 show GZ s=0
 unfold GZ
 split
 ·rename_i v hh
  exact absurd hh (h v)
 ·rfl
theorem YE (s:ByteArray) (hs:s.size≤64):
    Cn Tryz.prog 311 [.string s] [] [gl] (fun v Bs=>v=.int .i64 (dg.num s)∧Bs=[]):=by
 intro w0 F0 H
 refine enter Tryz.func311 U U (Nat.le_of_ble_eq_true U) (Aa (Ad (Ac U (Ab (Z (Aa ?_))))))
 by_cases hok:∃ v,Lib.parseIntB 64 s.data.toList=.ok v
 ·refine Ad (Ac U ?_)
  obtain ⟨x0,hx0⟩:=hok
  have hxb:=Lib.parseIntB_bounds hx0
  have hx64:AL x0:=by unfold AL;omega
  refine sc (Za s hs x0 hx0) H (lR 0 U l0) U U (Av Qi U U) ?_
  rintro _ _ w ⟨rfl,rfl⟩ H
  refine Ah 5 U (Ab (Z (Aa (Aa (Ad (Ac U (V U U (RG U Sy U (.inl ⟨rfl,rfl⟩)) (Ah 2 U (sc (OL x0 (by assumption)) H (lR 0 U l0) U U (Av Qh U U) ?_)))))))))
  rintro _ _ w ⟨rfl,rfl⟩ H
  refine Ac U (V U U (M9 U U U) (Ac U (Ab (Z ?_))))
  refine AC U (fun h1=>?_) (fun h1=>?_)
  ·refine Aa (Ad (Ac U (Ab (Z (Am (Az (Aq U U ?_)))))))
   have e:dg.num s=0:=by show GZ s=_;unfold GZ;rw [hx0];exact if_neg h1
   exact Al ⟨by rw [e]<;>rfl,rfl⟩ H
  refine AB (Z (Aa (Ad (Ah 2 U (Ab (Z (Am (Aq U U ?_))))))))
  have e:dg.num s=x0:=by show GZ s=_;unfold GZ;rw [hx0];exact if_pos (Classical.not_not.1 h1)
  exact Al ⟨by rw [e]<;>rfl,rfl⟩ H
 refine Ad (Ac U (sc (Y_ s hs (fun v h=>hok ⟨v,h⟩)) H (lR 0 U l0) U U (Av Qi U U) ?_))
 rintro _ _ w ⟨x0,te,pe,rfl,rfl⟩ H
 refine Ah 5 U (Ab (Z (Aa (Aa (Ad (Ac U (V U U (RG U Sy U (.inr ⟨_,_,rfl,rfl⟩)) (Ah 6 U (Ab (Z (Ct U (Aa (Ad (Ac U (Ab (Z (Am (Az (Aq U U ?_)))))))))))))))))))
 have e:dg.num s=0:=YD (fun v h=>hok ⟨v,h⟩)
 exact Al ⟨by rw [e]<;>rfl,rfl⟩ H
theorem Oi (b:Bool):
    Cn Tryz.prog 156 [.bool b] [] [] (fun v Bs=>v=.int .u32 (if b=true then 1 else 0)∧Bs=[]):=by
 intro w0 F0 H
 refine enter Tryz.func156 U U (Nat.le_of_ble_eq_true U) (Aa (Ad (Ac U (Ab (Z (Aa (Aa (Ad (Ac U (Ab (Z ?_)))))))))))
 refine Dx (b:=b) U (fun h1=>?_) (fun h1=>?_)
 ·exact Aa (Ad (Ac U (Ab (Z (Am (Az (Aq U U (Al ⟨by simp [h1],rfl⟩ H))))))))
 exact AB (Z (Aa (Ad (Ac U (Ab (Z (Am (Aq U U (Al ⟨by simp [h1],rfl⟩ H)))))))))
theorem Sk (c:Nat) (d m:Int) (sm:Value) (md:Int) (fv:Value) (tx:ByteArray):
    Cn Tryz.prog 96 [.pointer (some ⟨c,3,none⟩),.bool true] [blk c [.int .u32 d,.int .i32 m,sm,.int .u32 md,fv,.string tx] 305] [] (fun v Bs=>v=.tuple #[]∧Bs=[blk c [.int .u32 d,.int .i32 m,sm,.int .u32 1,fv,.string tx] 305]):=by
 intro w0 F0 H
 refine enter Tryz.func96 U U (Nat.le_of_ble_eq_true U) (Cc (.e 0 (.e 1 (.e 2 (.e 3 (.m 4 (.m 5 .z)))))) (fun w=>∃ Ar,Hd w0 F0 w (Ar) []) mo (by kernel_rfl) (fun w H=>⟨_,H⟩) H (fun w H=>(Au U (Ao U U U (fun w ⟨Ar,H⟩=>AH U U) (Ao U U U (fun w ⟨Ar,H⟩=>Aj U Jf U) (Au U (AO U (sc (Oi true) H l0 U U (Av P4 U U) ?_))))))))
 rintro _ _ w ⟨rfl,rfl⟩ H
 refine AG ⟨_,H⟩ (AO U (Sa OY U U U U H U (fun w H=>?_)))
 replace H:Hd _ _ _ [blk c [.int .u32 d,.int .i32 m,sm,.int .u32 1,fv,.string tx] 305] []:=H
 exact AG ⟨_,H⟩ (BN (DX U (Al ⟨rfl,rfl⟩ H)))
theorem cZ (c:Nat) (d m:Int) (sm:Value) (md:Int) (fv:Value) (tx:ByteArray):
    LI Tryz.prog 96 [.pointer (some ⟨c,0,none⟩),.bool true] [blk c [.int .u32 d,.int .i32 m,sm,.int .u32 md,fv,.string tx] 305] [] (fun v Bs=>v=.tuple #[]∧Bs=[blk c [.int .u32 1,.int .i32 m,sm,.int .u32 md,fv,.string tx] 305]):=by
 intro w0 F0 ufm H
 refine OU Tryz.func96 U U (Nat.le_of_ble_eq_true U) (Cc (.e 0 (.e 1 (.e 2 (.e 3 (.m 4 (.m 5 .z)))))) (fun w=>∃ Ar,Hd w0 F0 w (Ar) []) mo (by kernel_rfl) (fun w H=>⟨_,H⟩) H (fun w H=>(Au U (Ao U U U (fun w ⟨Ar,H⟩=>AH U U) (Ao U U U (fun w ⟨Ar,H⟩=>Aj U Jf U) (Au U (AO U (sc (Oi true) H l0 U U (Av P4 U U) ?_))))))))
 rintro _ _ w ⟨rfl,rfl⟩ H
 refine AG ⟨_,H⟩ (AO U (Sa OY U U U U H U (fun w H=>?_)))
 replace H:Hd _ _ _ [blk c [.int .u32 1,.int .i32 m,sm,.int .u32 md,fv,.string tx] 305] []:=H
 exact AG ⟨_,H⟩ (BN (DX U (Al ⟨rfl,rfl⟩ H)))
theorem QB (c:Nat) (m:Int) (sm:Value) (md:Int) (fv:Value) (tx:ByteArray):
    Cn Tryz.prog 135 [.pointer (some ⟨c,0,none⟩)] [] [blk c [.int .u32 0,.int .i32 m,sm,.int .u32 md,fv,.string tx] 305] (fun v Bs=>v=.bool false∧Bs=[]):=by
 intro w0 F0 H
 refine enter Tryz.func135 U U (Nat.le_of_ble_eq_true U) (Aa (Ad (Ac U (Ab (Z (Aa (Ad (Ac U (V U U (AH U U) (V U U (Aj U Jf U) (V U U (KY LV U U (H.cellRI 0 U U)) (V U U (CG U U U) (Ac U (Ab (Z (Am (Aq U U ?_)))))))))))))))))
 replace H:Hd _ _ _ [] [blk c [.int .u32 0,.int .i32 m,sm,.int .u32 md,fv,.string tx] 305]:=H
 exact Al ⟨rfl,rfl⟩ H
theorem XK (c:Nat) (m:Int) (sm:Value) (md:Int) (fv:Value) (tx:ByteArray):
    Cn Tryz.prog 135 [.pointer (some ⟨c,0,none⟩)] [] [blk c [.int .u32 1,.int .i32 m,sm,.int .u32 md,fv,.string tx] 305] (fun v Bs=>v=.bool true∧Bs=[]):=by
 intro w0 F0 H
 refine enter Tryz.func135 U U (Nat.le_of_ble_eq_true U) (Aa (Ad (Ac U (Ab (Z (Aa (Ad (Ac U (V U U (AH U U) (V U U (Aj U Jf U) (V U U (KY LV U U (H.cellRI 0 U U)) (V U U (CG U U U) (Ac U (Ab (Z (Am (Aq U U ?_)))))))))))))))))
 replace H:Hd _ _ _ [] [blk c [.int .u32 1,.int .i32 m,sm,.int .u32 md,fv,.string tx] 305]:=H
 exact Al ⟨rfl,rfl⟩ H
theorem Vx (c:Nat) (d:Int) (sm:Value) (md:Int) (fv:Value) (tx:ByteArray):
    Cn Tryz.prog 281 [.pointer (some ⟨c,1,none⟩)] [blk c [.int .u32 d,.int .i32 0,sm,.int .u32 md,fv,.string tx] 305] [] (fun v Bs=>v=.tuple #[]∧Bs=[blk c [.int .u32 d,.int .i32 1,sm,.int .u32 md,fv,.string tx] 305]):=by
 intro w0 F0 H
 refine enter Tryz.func281 U U (Nat.le_of_ble_eq_true U) (Aa (Ad (V U U (K5 OZ U U) (Ab (Z (Aa (Aa (Ad (Ac U (V U U (AH U U) (V U U (Aj U L9 U) (R_ UG U U U U H U (fun w H=>?_)))))))))))))
 replace H:Hd _ _ _ [blk c [.int .u32 d,.int .i32 1,sm,.int .u32 md,fv,.string tx] 305] []:=H
 exact Ab (Z (Ct U (Aa (Ct U (Aa (Ad (V U U (K5 O0 U U) (Ab (Z (Ad (Ac U (V U U (RL U SC SF Q9 U (H.cellI 0 U U)) (V U U (RI UH U U) (Ab (Z (Am (Az (M7 U (Al ⟨rfl,rfl⟩ H)))))))))))))))))))
theorem XL (c:Nat) (d:Int) (sm:Value) (md:Int) (fv:Value) (tx:ByteArray):
    Cn Tryz.prog 265 [.pointer (some ⟨c,1,none⟩)] [blk c [.int .u32 d,.int .i32 0,sm,.int .u32 md,fv,.string tx] 305] [] (fun v Bs=>v=.tuple #[]∧Bs=[blk c [.int .u32 d,.int .i32 1,sm,.int .u32 md,fv,.string tx] 305]):=by
 intro w0 F0 H
 refine enter Tryz.func265 U U (Nat.le_of_ble_eq_true U) (Ad (Ac U (V U U (AH U U) (V U U (Aj U Pj U) (sc (Vx c d sm md fv tx) H l0 U U (Av WP U U) ?_)))))
 rintro _ _ w ⟨rfl,rfl⟩ H
 refine Ab (DX U ?_)
 replace H:Hd _ _ _ [blk c [.int .u32 d,.int .i32 1,sm,.int .u32 md,fv,.string tx] 305] []:=H
 exact Al ⟨rfl,rfl⟩ H
theorem VL (c:Nat) (d:Int) (sm:Value) (md:Int) (fv:Value) (tx:ByteArray):
    Cn Tryz.prog 282 [.pointer (some ⟨c,1,none⟩)] [blk c [.int .u32 d,.int .i32 1,sm,.int .u32 md,fv,.string tx] 305] [] (fun v Bs=>v=.tuple #[]∧Bs=[blk c [.int .u32 d,.int .i32 0,sm,.int .u32 md,fv,.string tx] 305]):=by
 intro w0 F0 H
 refine enter Tryz.func282 U U (Nat.le_of_ble_eq_true U) (Aa (Ct U (Aa (Ad (Ac U (V U U (AH U U) (V U U (Aj U L9 U) (V U U (An U dR U (H.cellI 0 U U)) (Ab (Z (Aa (Ad (Ac U (V U U (RL U SC SF Q9 U (H.cellI 0 U U)) (V U U (RI UI U U) (Ab (Z (Ad (V U U (K5 OZ U U) (Ab (Z (Aa (Ad (Ac U (V U U (AH U U) (V U U (Aj U L9 U) (bN UJ U U U U H U U (fun w H=>?_))))))))))))))))))))))))))))
 replace H:Hd _ _ _ [blk c [.int .u32 d,.int .i32 0,sm,.int .u32 md,fv,.string tx] 305] []:=H
 exact Ac U (Ab (Z (Aa (Aa (Ad (Ac U (V U U (CG U U U) (Ab (Z (Cq U (AB (Z (Ad (V U U (K5 O0 U U) (Ab (DX U (Al ⟨rfl,rfl⟩ H)))))))))))))))))
theorem eC (c:Nat) (d:Int) (sm:Value) (md:Int) (fv:Value) (tx:ByteArray):
    LI Tryz.prog 266 [.pointer (some ⟨c,1,none⟩)] [blk c [.int .u32 d,.int .i32 1,sm,.int .u32 md,fv,.string tx] 305] [] (fun v Bs=>v=.tuple #[]∧Bs=[blk c [.int .u32 d,.int .i32 0,sm,.int .u32 md,fv,.string tx] 305]):=by
 intro w0 F0 ufm H
 refine OU Tryz.func266 U U (Nat.le_of_ble_eq_true U) (Ad (Ac U (V U U (AH U U) (V U U (Aj U Pj U) (sc (VL c d sm md fv tx) H l0 U U (Av WR U U) ?_)))))
 rintro _ _ w ⟨rfl,rfl⟩ H
 refine Ab (DX U ?_)
 replace H:Hd _ _ _ [blk c [.int .u32 d,.int .i32 0,sm,.int .u32 md,fv,.string tx] 305] []:=H
 exact Al ⟨rfl,rfl⟩ H
set_option maxRecDepth 100000 in
theorem Uk (c pl:Nat) (sm:Value) (md:Int) (fv:Value) (tx tx2:ByteArray) (Rs:List SP)
  (hcl:Cn Tryz.prog 233 [.pointer (some ⟨pl,0,none⟩)] [blk c [.int .u32 0,.int .i32 1,sm,.int .u32 md,fv,.string tx] 305] Rs (fun v Bs=>v=.tuple #[]∧Bs=[blk c [.int .u32 0,.int .i32 1,sm,.int .u32 md,fv,.string tx2] 305])):
  Cn Tryz.prog 252 [.pointer (some ⟨c,0,none⟩),.func (.func 233) #[] #[.pointer (some ⟨pl,0,none⟩)]] [blk c [.int .u32 0,.int .i32 0,sm,.int .u32 md,fv,.string tx] 305] Rs (fun v Bs=>v=.tuple #[]∧Bs=[blk c [.int .u32 1,.int .i32 0,sm,.int .u32 md,fv,.string tx2] 305]):=by
 intro w F H
 have hnot:∀ (x:Bool) (w:World),(Op.unary .not (.bool x)).run Tryz.prog w=.ok (.bool (!x)) w:=fun _ _=>rfl
 go_enter_defers Tryz.func252,Tryz.ntmps252
 go_wp2_with (first
  |(go_at_call 265;refine (Im (As:=[]) (XL c 0 sm md fv tx) H l0).mono ?_;rintro e w1 ⟨v,rfl,Bs,⟨rfl,rfl⟩,H1⟩)
  |(go_at_call 135;refine (Im (Cs:=[]) (QB c 1 sm md fv tx) H1 (lA 0 rfl (fun _ h=>h) l0)).mono ?_;rintro e w2 ⟨v,rfl,Bs,⟨rfl,rfl⟩,H2⟩)
  |(go_at_call 233;refine (Im (As:=[]) hcl H2 MB).mono ?_;rintro e w3 ⟨v,rfl,Bs,⟨rfl,rfl⟩,H3⟩))
 refine leaves_cons (f:=96) (args:=#[.pointer (some ⟨c,0,none⟩),.bool true]) (by simp) (by simp [go_sem]) ?_
 refine (Oy (As:=[]) (cZ c 0 1 sm md fv tx2) H3 l0).mono ?_
 rintro e u' w4 ⟨rfl,v,rfl,Bs,⟨rfl,rfl⟩,H4⟩
 refine leaves_cons (f:=266) (args:=#[.pointer (some ⟨c,1,none⟩)]) (by simp [settle]) (by simp [go_sem]) ?_
 refine (Oy (As:=[]) (eC c 1 sm md fv tx2) H4 l0).mono ?_
 rintro e u' w5 ⟨rfl,v,rfl,Bs,⟨rfl,rfl⟩,H5⟩
 exact ⟨.tuple #[],by simp [results,Tryz.results252],.tuple #[],rfl,_,⟨rfl,rfl⟩,H5⟩
theorem dI (nb:Nat) (n:Int) (hn:AL n):
    Cn Tryz.prog 334 [.pointer (some ⟨nb,0,none⟩)] [] [blk nb [.int .i64 n] 2,gl] (fun v Bs=>v=.string (dg.dig n)∧Bs=[]):=by
 intro w0 F0 H
 refine enter Tryz.func334 U U (Nat.le_of_ble_eq_true U) (Aa (Ad (Ac U (Ab (Z (Aa (Ad (V U U (An U Eb U (H.cellRI 0 U U)) (sc (OL n (by assumption)) H (lR 1 U l0) U U (Av Qh U U) ?_)))))))))
 rintro _ _ w ⟨rfl,rfl⟩ H
 refine Ac U (Ab (Z (Am (Aq U U ?_))))
 replace H:Hd _ _ _ [] [blk nb [.int .i64 n] 2,gl]:=H
 exact Al ⟨rfl,rfl⟩ H
theorem Vc (c pl nb:Nat) (n:Int) (hn:AL n) (sm:Value) (md:Int) (tx:ByteArray):
    Cn Tryz.prog 233 [.pointer (some ⟨pl,0,none⟩)] [blk c [.int .u32 0,.int .i32 1,sm,.int .u32 md,.func (.func 334) #[] #[.pointer (some ⟨nb,0,none⟩)],.string tx] 305] [blk pl [.pointer (some ⟨c,0,none⟩)] 212,blk nb [.int .i64 n] 2,gl] (fun v Bs=>v=.tuple #[]∧Bs=[blk c [.int .u32 0,.int .i32 1,sm,.int .u32 md,.func (.func 334) #[] #[.pointer (some ⟨nb,0,none⟩)],.string (dg.dig n)] 305]):=by
 intro w0 F0 H
 refine enter Tryz.func233 U U (Nat.le_of_ble_eq_true U) (Aa (Ad (V U U (An U FF U (H.cellRI 0 U U)) (V U U (AH U U) (V U U (Aj U Pn U) (V U U (An U St U (H.cellI 0 U U)) (V U U (ZC U d5 U U) (Ab (Z (Ct U (Cc (.e 0 (.e 1 (.e 2 (.e 3 (.m 4 (.m 5 (.e 6 (.e 7 (.m 8 .z))))))))) (fun w=>∃ Ar,Hd w0 F0 w (Ar) [blk pl [.pointer (some ⟨c,0,none⟩)] 212,blk nb [.int .i64 n] 2,gl]) mo (by kernel_rfl) (fun w H=>⟨_,H⟩) H (fun w H=>(Ao U U U (fun w ⟨Ar,H⟩=>An U FF U (H.cellRI 0 U U)) (Ao U U U (fun w ⟨Ar,H⟩=>An U FF U (H.cellRI 0 U U)) (Ao U U U (fun w ⟨Ar,H⟩=>AH U U) (Ao U U U (fun w ⟨Ar,H⟩=>Aj U Pn U) (AO U (V U U (An U St U (H.cellI 0 U U)) ?_))))))))))))))))))
 refine AG ⟨_,H⟩ (AO U (sc (dI nb n hn) H (lR 1 U (lR 2 U l0)) U U (Gv (vs:=[]) (fs:=#[]) (cs:=#[.pointer (some ⟨nb,0,none⟩)]) W_ U U U) ?_))
 rintro _ _ w ⟨rfl,rfl⟩ H
 refine AG ⟨_,H⟩ (Ao U U U (fun w ⟨Ar,H⟩=>AH U U) (Ao U U U (fun w ⟨Ar,H⟩=>Aj U L_ U) (AO U (Bx U U U Cg U U H U (Nat.le_of_ble_eq_true U) (fun u hu=>by simp [Value.cells] at hu;subst hu;rfl) (fun w H=>?_)))))
 replace H:Hd _ _ _ [blk c [.int .u32 0,.int .i32 1,sm,.int .u32 md,.func (.func 334) #[] #[.pointer (some ⟨nb,0,none⟩)],.string (dg.dig n)] 305] [blk pl [.pointer (some ⟨c,0,none⟩)] 212,blk nb [.int .i64 n] 2,gl]:=H
 exact AG ⟨_,H⟩ (BN (DX U (Al ⟨rfl,rfl⟩ H)))
theorem Ui (c pl nb:Nat) (n:Int) (hn:AL n) (sm:Value) (md:Int) (tx:ByteArray):
    Cn Tryz.prog 232 [.pointer (some ⟨c,0,none⟩),.func (.func 233) #[] #[.pointer (some ⟨pl,0,none⟩)]] [blk c [.int .u32 0,.int .i32 0,sm,.int .u32 md,.func (.func 334) #[] #[.pointer (some ⟨nb,0,none⟩)],.string tx] 305] [blk pl [.pointer (some ⟨c,0,none⟩)] 212,blk nb [.int .i64 n] 2,gl] (fun v Bs=>v=.tuple #[]∧Bs=[blk c [.int .u32 1,.int .i32 0,sm,.int .u32 md,.func (.func 334) #[] #[.pointer (some ⟨nb,0,none⟩)],.string (dg.dig n)] 305]):=by
 intro w0 F0 H
 refine enter Tryz.func232 U U (Nat.le_of_ble_eq_true U) (Aa (Ad (Ac U (V U U (AH U U) (V U U (Aj U Pk U) (sc (QB c 0 sm md (.func (.func 334) #[] #[.pointer (some ⟨nb,0,none⟩)]) tx) H (lA 0 U (fun _ h=>h) l0) U U (Av Mt U U) ?_))))))
 rintro _ _ w ⟨rfl,rfl⟩ H
 refine V U U (Ek U U U) (Ab (Z (Ct U (Ad (Ah 2 U (sc (Uk c pl sm md (.func (.func 334) #[] #[.pointer (some ⟨nb,0,none⟩)]) tx (dg.dig n) [blk pl [.pointer (some ⟨c,0,none⟩)] 212,blk nb [.int .i64 n] 2,gl] (Vc c pl nb n hn sm md tx)) H (lR 0 U (lR 1 U (lR 2 U l0))) U U (Av Wy U U) ?_))))))
 rintro _ _ w ⟨rfl,rfl⟩ H
 refine Ab (DX U ?_)
 replace H:Hd _ _ _ [blk c [.int .u32 1,.int .i32 0,sm,.int .u32 md,.func (.func 334) #[] #[.pointer (some ⟨nb,0,none⟩)],.string (dg.dig n)] 305] [blk pl [.pointer (some ⟨c,0,none⟩)] 212,blk nb [.int .i64 n] 2,gl]:=H
 exact Al ⟨rfl,rfl⟩ H
theorem Uj (c pl:Nat) (m:Int) (sm:Value) (md:Int) (fv:Value) (tx:ByteArray):
    Cn Tryz.prog 232 [.pointer (some ⟨c,0,none⟩),.func (.func 233) #[] #[.pointer (some ⟨pl,0,none⟩)]] [] [blk c [.int .u32 1,.int .i32 m,sm,.int .u32 md,fv,.string tx] 305] (fun v Bs=>v=.tuple #[]∧Bs=[]):=by
 intro w0 F0 H
 refine enter Tryz.func232 U U (Nat.le_of_ble_eq_true U) (Aa (Ad (Ac U (V U U (AH U U) (V U U (Aj U Pk U) (sc (XK c m sm md fv tx) H (lR 0 U l0) U U (Av Mt U U) ?_))))))
 rintro _ _ w ⟨rfl,rfl⟩ H
 refine V U U (Ek U U U) (Ab (Z (Cq U (AB (DX U ?_)))))
 replace H:Hd _ _ _ [] [blk c [.int .u32 1,.int .i32 m,sm,.int .u32 md,fv,.string tx] 305]:=H
 exact Al ⟨rfl,rfl⟩ H
theorem Vb (c nb:Nat) (n:Int) (hn:AL n):
    Cn Tryz.prog 191 [.pointer (some ⟨c,0,none⟩)] [blk c [.int .u32 0,.int .i32 0,.int .u32 0,.int .u32 0,.func (.func 334) #[] #[.pointer (some ⟨nb,0,none⟩)],.string ⟨#[]⟩] 305] [blk nb [.int .i64 n] 2,gl] (fun v Bs=>v=.string (dg.dig n)∧Bs=[blk c [.int .u32 1,.int .i32 0,.int .u32 0,.int .u32 1,.func (.func 334) #[] #[.pointer (some ⟨nb,0,none⟩)],.string (dg.dig n)] 305]):=by
 intro w0 F0 H
 refine enter Tryz.func191 U U (Nat.le_of_ble_eq_true U) (Aa (Ad (CT U U U U H (fun b1 w H=>(Ac U (Ab (Z ?_)))))))
 replace H:Hd _ _ _ [blk b1 [.pointer (some ⟨c,0,none⟩)] 212,blk c [.int .u32 0,.int .i32 0,.int .u32 0,.int .u32 0,.func (.func 334) #[] #[.pointer (some ⟨nb,0,none⟩)],.string ⟨#[]⟩] 305] [blk nb [.int .i64 n] 2,gl]:=H
 refine Aa (Aa (Ad (V U U (An U FF U (H.cellI 0 U U)) (V U U (C1 U LA U U) (Ab (Z (Cq U (AB (Z (Aa (Ad (V U U (An U FF U (H.cellI 0 U U)) (V U U (AH U U) (V U U (Aj U Pm U) ?_))))))))))))))
 replace H:=H.p1
 refine sc (Sk c 0 0 (.int .u32 0) 0 (.func (.func 334) #[] #[.pointer (some ⟨nb,0,none⟩)]) (⟨#[]⟩:ByteArray)) H l0 U U (Av Qq U U) ?_
 rintro _ _ w ⟨rfl,rfl⟩ H
 replace H:=H.h1 (A:=blk c [.int .u32 0,.int .i32 0,.int .u32 0,.int .u32 1,.func (.func 334) #[] #[.pointer (some ⟨nb,0,none⟩)],.string ⟨#[]⟩] 305)
 refine Ab (Z (Aa (Ad (V U U (An U FF U (H.cellI 1 U U)) (V U U (AH U U) (V U U (Aj U Pl U) (V U U (JA (fs:=#[]) (cs:=#[.pointer (some ⟨b1,0,none⟩)]) U U U) (sc (Ui c b1 nb n hn (.int .u32 0) 1 ⟨#[]⟩) H (lA 0 U (fun _ h=>h) (lR 0 U (lR 1 U l0))) U U (Av P_ U U) ?_))))))))
 rintro _ _ w ⟨rfl,rfl⟩ H
 replace H:=H.h1 (A:=blk c [.int .u32 1,.int .i32 0,.int .u32 0,.int .u32 1,.func (.func 334) #[] #[.pointer (some ⟨nb,0,none⟩)],.string (dg.dig n)] 305)
 refine Ab (Z (Aa (Ad (V U U (An U FF U (H.cellI 1 U U)) (V U U (AH U U) (V U U (Aj U L_ U) (V U U (An U Cg U (H.cellI 0 U U)) (Ac U (Ab (Z (Am (Aq U U ?_))))))))))))
 replace H:=H.k1
 exact Al ⟨rfl,rfl⟩ H
theorem Mj (c:Nat) (fv:Value) (tx:ByteArray):
    Cn Tryz.prog 191 [.pointer (some ⟨c,0,none⟩)] [blk c [.int .u32 1,.int .i32 0,.int .u32 0,.int .u32 1,fv,.string tx] 305] [] (fun v Bs=>v=.string tx∧Bs=[blk c [.int .u32 1,.int .i32 0,.int .u32 0,.int .u32 1,fv,.string tx] 305]):=by
 intro w0 F0 H
 refine enter Tryz.func191 U U (Nat.le_of_ble_eq_true U) (Aa (Ad (CT U U U U H (fun b1 w H=>(Ac U (Ab (Z ?_)))))))
 replace H:Hd _ _ _ [blk b1 [.pointer (some ⟨c,0,none⟩)] 212,blk c [.int .u32 1,.int .i32 0,.int .u32 0,.int .u32 1,fv,.string tx] 305] []:=H
 refine Aa (Aa (Ad (V U U (An U FF U (H.cellI 0 U U)) (V U U (C1 U LA U U) (Ab (Z (Cq U (AB (Z (Aa (Ad (V U U (An U FF U (H.cellI 0 U U)) (V U U (AH U U) (V U U (Aj U Pm U) ?_))))))))))))))
 replace H:=H.p1
 refine sc (Sk c 1 0 (.int .u32 0) 1 fv tx) H l0 U U (Av Qq U U) ?_
 rintro _ _ w ⟨rfl,rfl⟩ H
 refine Ab (Z (Aa (Ad (V U U (An U FF U (H.cellI 1 U U)) (V U U (AH U U) (V U U (Aj U Pl U) (V U U (JA (fs:=#[]) (cs:=#[.pointer (some ⟨b1,0,none⟩)]) U U U) (sc (Uj c b1 0 (.int .u32 0) 1 fv tx) H (lA 0 U (fun _ h=>h) l0) U U (Av P_ U U) ?_))))))))
 rintro _ _ w ⟨rfl,rfl⟩ H
 refine Ab (Z (Aa (Ad (V U U (An U FF U (H.cellI 1 U U)) (V U U (AH U U) (V U U (Aj U L_ U) (V U U (An U Cg U (H.cellI 0 U U)) (Ac U (Ab (Z (Am (Aq U U ?_))))))))))))
 replace H:=H.k1
 exact Al ⟨rfl,rfl⟩ H
theorem XB (nb:Nat):
    Cn Tryz.prog 200 [.func (.func 334) #[] #[.pointer (some ⟨nb,0,none⟩)]] [] [] (fun v Bs=>∃ b,v=.pointer (some ⟨b,0,none⟩)∧Bs=[blk b [.int .u32 0,.int .i32 0,.int .u32 0,.int .u32 0,.func (.func 334) #[] #[.pointer (some ⟨nb,0,none⟩)],.string ⟨#[]⟩] 305]):=by
 intro w0 F0 H
 refine enter Tryz.func200 U U (Nat.le_of_ble_eq_true U) (Aa (Ad (Ac U (Ab (Z (Aa (Ad (Ac U (V U U (Di (parts:=[(2,.tmp 3)]) (vs:=[.func (.func 334) #[] #[.pointer (some ⟨nb,0,none⟩)]]) (cs:=[.int .u32 0,.int .i32 0,.int .u32 0,.int .u32 0,.func (.func 334) #[] #[.pointer (some ⟨nb,0,none⟩)],.string ⟨#[]⟩]) U Te U U) (CT U U U U H (fun b1 w H=>(Ac U (Ab (Z ?_))))))))))))))
 replace H:Hd _ _ _ [blk b1 [.int .u32 0,.int .i32 0,.int .u32 0,.int .u32 0,.func (.func 334) #[] #[.pointer (some ⟨nb,0,none⟩)],.string ⟨#[]⟩] 305] []:=H
 exact Am (Aq U U (Al ⟨_,rfl,rfl⟩ H))
theorem dJ (r:Nat) (pv:Value) (key:ByteArray) (vv:Value) (fuel pos steps:Int) (halted:Bool) (sv:Value) (g:Nat→A0) (tv:Value) (mb:Nat) (n:Int) (hn:AL n):
    Cn Tryz.prog 310 [.pointer (some ⟨r,0,none⟩),.int .i64 n] [B4 mb] [blk r (Bl pv key vv fuel pos steps halted sv g tv (.map (some mb))) 334,gl] (fun v Bs=>v=.string (dg.dig n)∧Bs=[B4 mb]):=by
 intro w0 F0 H
 obtain ⟨kvs,H⟩:=Ua H
 refine enter Tryz.func310 U U (Nat.le_of_ble_eq_true U) (Aa (Ad (CT U U U U H (fun b1 w H=>(Ac U (Ab (Z ?_)))))))
 replace H:Hd _ _ _ [blk b1 [.int .i64 n] 2,Eh mb (kvs.map EK),D6 305 kvs] [blk r (Bl pv key vv fuel pos steps halted sv g tv (.map (some mb))) 334,gl]:=H
 refine Aa (Aa ?_)
 by_cases hno:ER n (kvs.map EK)=none
 ·refine GP mo (by kernel_rfl) H (Em U (BH U U (fun w H=>AH U U) (BH U U (fun w H=>Aj U Jj U) (BH U U (fun w H=>An U JT U (H.cellRI 0 U U)) (BH U U (fun w H=>An U Eb U (H.cellI 0 U U)) (BH U U (fun w H=>K0 U JX I1 LF U U H 1 U (by rw [hno]<;>rfl)) (BH U U (fun w H=>C1 U LA U U) (Ha (fun w H=>(Z (Ct U ?_)))))))))))
  replace H:=H.sel 3 [0,2,1] [] rfl (by kernel_rfl)
  replace H:Hd _ _ _ [blk b1 [.int .i64 n] 2,D6 305 kvs,Eh mb (kvs.map EK)] [blk r (Bl pv key vv fuel pos steps halted sv g tv (.map (some mb))) 334,gl]:=H
  refine Cc (.e 0 (.e 1 (.e 2 (.e 3 (.e 4 (.e 5 (.m 6 (.m 7 .z)))))))) (fun w=>∃ Ar,Hd w0 F0 w (blk b1 [.int .i64 n] 2::D6 305 kvs::Ar) [blk r (Bl pv key vv fuel pos steps halted sv g tv (.map (some mb))) 334,gl]) mo (by kernel_rfl) (fun w H=>⟨_,H⟩) H (fun w H=>(Au U (Ao U U U (fun w ⟨Ar,H⟩=>AH U U) (Ao U U U (fun w ⟨Ar,H⟩=>Aj U Jj U) (Ao U U U (fun w ⟨Ar,H⟩=>An U JT U (H.cellRI 0 U U)) (Ao U U U (fun w ⟨Ar,H⟩=>An U Eb U (H.cellI 0 U U)) (Ao U U U (fun w ⟨Ar,H⟩=>JA (fs:=#[]) (cs:=#[.pointer (some ⟨b1,0,none⟩)]) U U U) (AO U (sc (XB b1) H l0 U U (Av Wp U U) ?_)))))))))
  rintro _ _ w ⟨b2,rfl,rfl⟩ H
  replace H:=H.h1 (A:=blk b2 [.int .u32 0,.int .i32 0,.int .u32 0,.int .u32 0,.func (.func 334) #[] #[.pointer (some ⟨b1,0,none⟩)],.string ⟨#[]⟩] 305)|>.p2|>.p2
  refine AG ⟨_,H⟩ (AO U ?_)
  replace H:=H.p3
  refine bV U U U JX I1 U U U hno H (fun w H=>?_)
  replace H:=H.h1 (A:=Eh mb (kvs.map EK++[(n,.pointer (some ⟨b2,0,none⟩))]))|>.p2|>.p2
  refine AG ⟨_,H⟩ (BN (Z (Aa (Cc (.e 0 (.e 1 (.e 2 (.e 3 (.e 4 (.e 5 (.m 6 (.e 7 .z)))))))) (fun w=>∃ Ar,Hd w0 F0 w (blk b1 [.int .i64 n] 2::D6 305 kvs::Eh mb (kvs.map EK++[(n,.pointer (some ⟨b2,0,none⟩))])::Ar) [blk r (Bl pv key vv fuel pos steps halted sv g tv (.map (some mb))) 334,gl]) mo (by kernel_rfl) (fun w H=>⟨_,H⟩) H (fun w H=>(Au U (Ao U U U (fun w ⟨Ar,H⟩=>AH U U) (Ao U U U (fun w ⟨Ar,H⟩=>Aj U Jj U) (Ao U U U (fun w ⟨Ar,H⟩=>An U JT U (H.cellRI 0 U U)) (Ao U U U (fun w ⟨Ar,H⟩=>An U Eb U (H.cellI 0 U U)) (Ao U U U (fun w ⟨Ar,H⟩=>K0 U JX I1 LF U U H 2 U (by rw [Of hno]<;>rfl)) (AO U ?_))))))))))))
  replace H:=H.p3
  refine sc (Vb b2 b1 n hn) H (lA 0 U (fun _ h=>h) (lR 1 U l0)) U U (Av Kx U U) ?_
  rintro _ _ w ⟨rfl,rfl⟩ H
  replace H:=H.h1 (A:=blk b2 [.int .u32 1,.int .i32 0,.int .u32 0,.int .u32 1,.func (.func 334) #[] #[.pointer (some ⟨b1,0,none⟩)],.string (dg.dig n)] 305)|>.p3|>.p3|>.p3
  refine AG ⟨_,H⟩ (Au U (BN (Z (Am (Aq U U ?_)))))
  replace H:=H.p2.p2.p3.k3
  replace H:=TE (n:=n) (H.ex_in (A:=fun f:Value=>blk b2 [.int .u32 1,.int .i32 0,.int .u32 0,.int .u32 1,f,.string (Ip n)] 305) (.func (.func 334) #[] #[.pointer (some ⟨b1,0,none⟩)]))
  replace H:=H.perm (List.Perm.swap _ _ _)
  rw [←XT] at H
  replace H:=LR _ H
  replace H:Hd _ _ _ [B4 mb] [blk r (Bl pv key vv fuel pos steps halted sv g tv (.map (some mb))) 334,gl]:=H
  exact Al ⟨rfl,rfl⟩ H
 refine GP mo (by kernel_rfl) H (Em U (BH U U (fun w H=>AH U U) (BH U U (fun w H=>Aj U Jj U) (BH U U (fun w H=>An U JT U (H.cellRI 0 U U)) (BH U U (fun w H=>An U Eb U (H.cellI 0 U U)) ?_)))))
 obtain ⟨v0,hv0⟩:=Option.ne_none_iff_exists'.1 hno
 obtain ⟨c,rfl,hmem⟩:=Oe hv0
 refine BH U U (fun w H=>K0 U JX I1 LF U U H 1 U (by rw [hv0]<;>rfl)) (BH U U (fun w H=>C1 U LA U U) (Ha (fun w H=>(Z (Cq U (AB (Z (Aa (Cc (.e 0 (.e 1 (.e 2 (.e 3 (.e 4 (.e 5 (.m 6 (.e 7 .z)))))))) (fun w=>∃ Ar,Hd w0 F0 w (blk b1 [.int .i64 n] 2::Eh mb (kvs.map EK)::D6 305 kvs::Ar) [blk r (Bl pv key vv fuel pos steps halted sv g tv (.map (some mb))) 334,gl]) mo (by kernel_rfl) (fun w H=>⟨_,H⟩) H (fun w H=>(Au U (Ao U U U (fun w ⟨Ar,H⟩=>AH U U) (Ao U U U (fun w ⟨Ar,H⟩=>Aj U Jj U) (Ao U U U (fun w ⟨Ar,H⟩=>An U JT U (H.cellRI 0 U U)) (Ao U U U (fun w ⟨Ar,H⟩=>An U Eb U (H.cellI 0 U U)) (Ao U U U (fun w ⟨Ar,H⟩=>K0 U JX I1 LF U U H 1 U (by rw [hv0]<;>rfl)) ?_))))))))))))))))
 refine AO U ?_
 replace H:=H.p2
 replace H:Hd _ _ _ [D6 305 kvs,blk b1 [.int .i64 n] 2,Eh mb (kvs.map EK)] [blk r (Bl pv key vv fuel pos steps halted sv g tv (.map (some mb))) 334,gl]:=H
 obtain ⟨rest,H,hback⟩:=TF hmem H
 obtain ⟨f0,H⟩:=H.ex_out
 refine sc (Mj c f0 (Ip n)) H l0 U U (Av Kx U U) ?_
 rintro _ _ w ⟨rfl,rfl⟩ H
 replace H:=hback (H.ex_in (A:=fun f:Value=>blk c [.int .u32 1,.int .i32 0,.int .u32 0,.int .u32 1,f,.string (Ip n)] 305) f0)
 replace H:=H.p2.p2
 refine AG ⟨_,H⟩ (Au U (BN (Z (Am (Aq U U ?_)))))
 replace H:=H.p2.p2.k2
 replace H:=LR _ H
 replace H:=H.h1 (A:=B4 mb)
 exact Al ⟨rfl,rfl⟩ H
end Go.Proofs.YthhajcnbjiiclaaGreatDoor.X
