/- MapperScript: texts XByte, XMprI, XWrk, XWrk2, XRpr, XF2, RB1, XNum, R1, XRef, R2, R3, XRef2, R4, R5, R6, joined by a program of ours; what nothing names is left out. -/
import Derived.Test.YthgehekecfpikaaGreatDoorMapperScriptQ4
import Derived.Lib.ParseIntBTie
import Derived.Lib.ItoaMem
set_option linter.unusedVariables false
set_option linter.unusedSimpArgs false
set_option maxHeartbeats 8000000
namespace Go.Proofs.YthgehekecfpikaaGreatDoor.X
open Go
theorem GG:∀ l:List UInt8,l.flatMap ET=l.map fun b=>Value.int .u8 b.toNat
 |[]=>rfl
 |x::l=>by rw [List.flatMap_cons,GG l];rfl
section
variable {P:Program} {ops:Array Oper} {Q:Exit→Act→World→Prop} {rest:List Oper} {n:Nat} {l:BA} {w0 w:World} {F F0:AV} {o:Oper} {v:Value} {As Rs:List SP} {x y z:Operand} {t:TypeId}
section
variable {α:Type} {enc:α→List Value} {sz:Nat} {hp:0<sz} {hl:∀ x,(enc x).length=sz} {h1:∀ x,∀ c∈enc x,c.oneCell'=true}
theorem Zm {e bytes:Nat} {b bt:Nat} {xs ys:List α} {B:Option Addr} {m c c2:Nat} (hg:gd ops l o=some true) (hd:CB n o.dst=true) (ho:o.op=.call { callee:=.builtin .copy,args:=#[x,y],argTypes:=#[t,t] }) (hs:C0 P t=some (e,sz,bytes))
  (hx:ev l x=some (.slice (some ⟨b,0,none⟩) m c)) (hy:ev l y=some (.slice B m c2)) (H:Hd w0 F0 w (IX enc b bt xs::As) Rs) (hc:xs.length=c) (hmc:m≤c)
  (hn:∀ F,(∀ A∈As,A.P w F)→(∀ R∈Rs,R.P w F)→(Af (flat enc sz hp hl h1) (.slice B m c2) ys).P w F)
  (h:∀ w',Hd w0 F0 w' (IX enc b bt (ys++xs.drop m)::As) Rs→WL P ops Q rest n (Cp l o.dst (.int .i64 (m:Int))) w'):WL P ops Q (o::rest) n l w:=by
 obtain ⟨F,hF1,hF2⟩:∃ F,(∀ A∈As,A.P w F)∧(∀ R∈Rs,R.P w F):=H.read fun F a r=>⟨F,fun A hA=>a A (List.mem_cons_of_mem _ hA),r⟩
 obtain ⟨hyl,_,_,news,hnr,hnR⟩:M4 (flat enc sz hp hl h1) w F ys B m c2:=by
  obtain ⟨A',n',c',e',h'⟩:=hn F hF1 hF2
  cases e'
  exact h'
 have hnl:news.length=m*sz:=by rw [hnR.len,hyl];rfl
 have hm0:B=none→m=0:=by
  intro hB
  rcases hnr.2 with rfl|⟨b,off,C,t',fr,e',_⟩
  ·have:m*sz=0:=by rw [←hnl];rfl
   exact (Nat.mul_eq_zero.1 this).resolve_right (by omega)
  ·rw [hB] at e';cases e'
 obtain ⟨hu,i,hi,hi1,hi2⟩:=Fa hs
 have hfc:=LD (P:=P) (c:=c2) hnr hnl hm0
 have hnews:news=ys.flatMap enc:=AX.flat_eq.1 hnR
 obtain ⟨F1,hb⟩:∃ F,(IX enc b bt xs).P w F:=H.fact (List.mem_cons_self ..) fun F hb=>⟨F,hb⟩
 have hfit:0+0+news.length≤(xs.flatMap enc).length:=by rw [hnl,Gl hl,Nat.add_zero,Nat.zero_add];exact Nat.mul_le_mul_right _ (by omega)
 obtain ⟨w',hr,_,_⟩:=IZ (P:=P) news (xs.flatMap enc) 0 0 w hb hfit hnR.one
 have hnew:EL (xs.flatMap enc) (0+0) news=(ys++xs.drop m).flatMap enc:=by
  rw [Nat.add_zero,IM _ _ _ (by rw [Nat.zero_add] at hfit ⊢;simpa using hfit),hnews,List.take_zero,Gl hl,hyl,Nat.zero_add,Jv hl]
  simp
 refine V hg hd (v:=.int .i64 (m:Int)) (w':=w') (fun a ha=>?_) (h w' (H.write fun F' hb'=>?_))
 ·simp [execOp,ho,resolve,ha.eval hx,ha.eval hy,invoke,builtin,Builtin.copy_,run_underlying hu,sizeOf,typeInfo,hi,hi1,Builtin.lenOf,hfc w rfl,hr,goInt]
 ·obtain ⟨w'',hr',h2,h3⟩:=IZ (P:=P) news (xs.flatMap enc) 0 0 w hb' hfit hnR.one
  rw [hr] at hr'
  cases hr'
  refine ⟨?_,h3⟩
  show (blk b _ bt).P w' F'
  rw [←hnew]
  exact h2
end
theorem Zj {e bytes:Nat} {zv u:Value} {xs:List UInt8} {s:ByteArray} {ts:TypeId}
  (hg:gd ops l o=some true) (hd:CB n o.dst=true) (ho:o.op=.call { callee:=.builtin .append,args:=#[x,y],argTypes:=#[t,ts] }) (hs:C0 P t=some (e,1,bytes)) (hz:C8 P e=some zv) (hzs:zv.cells.size=1) (hb0:0<bytes) (hts:P.underlying ts=some .string)
  (hx:ev l x=some u) (hy:ev l y=some (.string s)) (H:Hd w0 F0 w (Ae Cx u xs::As) Rs) (hb:(xs.length+s.size)*bytes≤140737488355328)
  (h:∀ u' w',Hd w0 F0 w' (Ae Cx u' (xs++Cu s)::As) Rs→WL P ops Q rest n (Cp l o.dst u') w'):WL P ops Q (o::rest) n l w:=by
 obtain ⟨hu,i,hi,hi1,hi2⟩:=Fa hs
 have hfc:∀ w':World,w'.heap=w.heap→(Builtin.firstCells 1 s.size (.string s)).run P w'=.ok ((Cu s).flatMap ET).toArray w':=by
  intro w' _
  have e1:s.extract 0 s.size=s:=by simp
  simp only [Builtin.firstCells,e1,Sem.run_pure]
  rw [GG]
  congr 1
  apply Array.ext'
  simp [Cu]
 have hnl:((Cu s).flatMap ET).length=s.size*1:=by rw [GG,List.length_map,Gj,Nat.mul_one]
 have h1:∀ c∈(Cu s).flatMap ET,c.oneCell'=true:=by
  rw [GG]
  intro c hc
  obtain ⟨b,_,rfl⟩:=List.mem_map.1 hc
  rfl
 have key:∀ F1,(Ae Cx u xs).P w F1→(∀ k,F1 k→k<w.heap.size)→∃ A c A' c' w' F',u=.slice A xs.length c∧(Builtin.append_ #[t,ts] o.type #[u,.string s]).run P w=.ok (.slice A' (xs.length+s.size) c') w'∧(Ae Cx (.slice A' (xs.length+s.size) c') (xs++Cu s)).P w' F'∧Cb F1 w w'∧(∀ k,F' k→k<w'.heap.size∧(F1 k∨w.heap.size≤k)):=by
  rintro F1 ⟨A,n',c,e',hxl,cs,G1,G2,g1,g2,gd,hr,hR⟩ hlt
  cases e'
  subst hxl
  obtain ⟨A',c',w',F',hrun,hrow,hupd,hF'⟩:=MU (P:=P) (tx:=ts) (ty:=o.type) (x:=.string s) (m:=s.size) (news:=(Cu s).flatMap ET) hs hz hzs hts (.inr rfl) hr (fun k hk=>hlt k (g1 k hk)) (by simp [Builtin.lenOf]) hfc hnl h1 hb0 hb
  refine ⟨A,c,A',c',w',F',rfl,hrun,?_,⟨hupd.os,hupd.tape,hupd.output,hupd.size,fun k hk hn'=>hupd.block k hk (fun q=>hn' (g1 k q))⟩,fun k hk=>⟨(hF' k hk).1,(hF' k hk).2.imp (g1 k) id⟩⟩
  exact ⟨A',_,c',rfl,by rw [List.length_append,Gj],cs++(Cu s).flatMap ET,F',none_,fun _ q=>q,fun _ q=>q.elim,fun _ _ q=>q,hrow,Cr.flatR (F:=none_) (AX.flat_eq.2 (by rw [AX.flat_eq.1 hR.toR];simp))⟩
 have hall:∃ F1,(Ae Cx u xs).P w F1∧∀ k,F1 k→k<w.heap.size:=by
  obtain ⟨F,G,⟨F1,F2,a1,a2,a3,a,s⟩,r,d,f,g,u⟩:=H
  exact ⟨F1,a,fun k hk=>(f k (a1 k hk)).1⟩
 obtain ⟨F1,hO,hlt⟩:=hall
 obtain ⟨A,c,A',c',w',F',hue,hrun,_,_,_⟩:=key F1 hO hlt
 refine V hg hd (v:=.slice A' (xs.length+s.size) c') (w':=w') (fun a ha=>?_) (h _ _ (H.grow fun F2 hO2 hlt2=>?_))
 ·simp [execOp,ho,resolve,ha.eval hx,ha.eval hy,invoke,builtin,hrun]
 ·obtain ⟨A3,c3,A4,c4,w4,F4,_,hrun4,h4,h5,h6⟩:=key F2 hO2 hlt2
  rw [hrun] at hrun4
  cases hrun4
  exact ⟨F4,h4,h5,h6⟩
theorem Zr {src dst e:TypeId} {s:ByteArray} (hg:gd ops l o=some true) (hd:CB n o.dst=true) (ho:o.op=.convert src dst x) (hs:P.underlying src=some .string) (hd':P.underlying dst=some (.slice e)) (he:P.underlying e=some (.int .u8)) (hx:ev l x=some (.string s))
  (hb:s.size≤140737488355328) (H:Hd w0 F0 w As Rs)
  (h:∀ b c w',s.size≤c→c≤9223372036854775807→Hd w0 F0 w' As (Af Cx (.slice (some ⟨b,0,none⟩) s.size c) (Cu s)::Rs)→WL P ops Q rest n (Cp l o.dst (.slice (some ⟨b,0,none⟩) s.size c)) w'):WL P ops Q (o::rest) n l w:=by
 have hr:=run_bytes_of_string w src dst e s hs hd' he
 have hge:=grownCap_ge w s.size 0 e
 have hle:grownCap w s.size 0 e≤9223372036854775807:=by
  have:=grownCap_le_maxLen w s.size 0 e (by simp only [maxLen];omega)
  simpa [maxLen] using this
 generalize hc:grownCap w s.size 0 e=c at hr hge hle
 generalize hC:bytesRow s c=C at hr
 have hCl:C.toList.take s.size=(Cu s).flatMap ET:=by
  rw [←hC,GG]
  unfold bytesRow
  rw [Array.toList_append,List.take_append_of_le_length (by simp)]
  rw [List.take_of_length_le (by simp)]
  simp [Cu]
 refine V hg hd (v:=.slice (some ⟨w.heap.size,0,none⟩) s.size c) (w':=w.drew.alloc (.cells C e (C.size,C.size+1))) (fun a ha=>?_) (h _ c _ hge hle (Hd.lend (A:=Af Cx (.slice (some ⟨w.heap.size,0,none⟩) s.size c) (Cu s)) (H.new (F':=fun k=>k=w.heap.size) ?_ ?_ ?_) fun _ h=>h))
 ·simp [execOp,ho,ha.eval hx,hr]
 ·exact (Cb.alloc none_ w.drew _).trans (Cb.refl none_ _) (fun _ _ x=>x)|>fun u=>⟨u.os,u.tape,u.output,u.size,u.block⟩
 ·refine ⟨_,_,_,rfl,Gj s,hge,hle,(Cu s).flatMap ET,⟨trivial,.inr ⟨w.heap.size,0,C,e,(C.size,C.size+1),rfl,rfl,?_,?_⟩⟩,AX.flat_eq.2 rfl⟩
  ·show (w.heap.push _)[w.heap.size]?=_
   simp
  ·rw [List.drop_zero,show ((Cu s).flatMap ET).length=s.size by rw [GG,List.length_map,Gj]]
   exact hCl
 ·intro k hk
  subst hk
  simp
theorem Q1 {src dst e:TypeId} {A:Option Addr} {m c:Nat} {bs:List UInt8} (ho:o.op=.convert src dst x) (hs:P.underlying src=some (.slice e)) (he:P.underlying e=some (.int .u8)) (hd:P.underlying dst=some .string) (hx:ev l x=some (.slice A m c)) {r:ByteArray} (hr:FP bs=r) (h:(Af Cx (.slice A m c) bs).P w F):Bw P n l w o (.string r) w:=by
 subst hr
 obtain ⟨A',c',e',_,_,_,cs,h4,h5⟩:=MT h
 cases e'
 have hcs:cs=bs.flatMap ET:=AX.flat_eq.1 h5
 intro a ha
 cases A with
 |none=>
  have:bs=[]:=by
   rcases h4.2 with h6|⟨b,off,C,t',fr,e',_⟩
   ·rw [hcs,GG] at h6;simpa using h6
   ·cases e'
  subst this
  have:=run_convert_bytes_nil (P:=P) w src e hs he 0 c dst hd
  simp [execOp,ho,ha.eval hx,this]
  rfl
 |some ad=>
  have:=run_convert_bytes_back (P:=P) w src dst e ad c bs hs he hd (fun j hj=>by
   have hv:cs[j]?=some (.int .u8 (bs[j].toNat:Int)):=by rw [hcs,GG,List.getElem?_map,List.getElem?_eq_getElem hj];rfl
   obtain ⟨b,off,e1,h6⟩:=h4.cell hv
   cases e1
   rw [Eo]
   exact h6)
  simp [execOp,ho,ha.eval hx,this,FP]
theorem Hd.rd {p:Prop} (H:Hd w0 F0 w As Rs) {S:SP} (hS:∀ F,(∀ A∈As,A.P w F)→(∀ R∈Rs,R.P w F)→S.P w F) (h:∀ F,S.P w F→p):p:=H.read fun F a r=>h F (hS F a r)
theorem Q2 {tt e size bytes:TypeId} {A:Option Addr} {m c i' j' m':Nat} {k k':IntKind} {i j:Int} (ho:o.op=.slice tt x (some y) (some z) none) (hs:C0 P tt=some (e,size,bytes)) (hx:ev l x=some (.slice A m c)) (hy:ev l y=some (.int k i)) (hz:ev l z=some (.int k' j))
  (h0:0≤i) (h1:i≤j) (h2:j≤(c:Int)) (hi':i.toNat=i') (hj':j.toNat=j') (hm':j' - i'=m'):Bw P n l w o (.slice (EF A c i' size) m' (c - i')) w:=by
 intro a ha
 obtain ⟨hu,inf,hi,hzz,_⟩:=Fa hs
 subst hi' hj' hm'
 have h3:0≤j:=by omega
 have h4:i≤max j 0:=by omega
 have hb:(Instr.sliceBounds true m c (some (.int k i)) (some (.int k' j)) none).run P w=.ok (i.toNat,j.toNat,c) w:=by
  simp [Instr.sliceBounds,Instr.sliceBound,asIntOf,h0,h2,h3,h4]
 unfold EF
 by_cases e1:c=i.toNat
 ·rw [e1] at hb
  cases A<;>simp [execOp,ho,ha.eval hx,ha.eval hy,ha.eval hz,Instr.sliceAt,Instr.slice,hb,run_underlying hu,sizeOf,typeInfo,hi,hzz,e1]
 ·cases A<;>simp [execOp,ho,ha.eval hx,ha.eval hy,ha.eval hz,Instr.sliceAt,Instr.slice,hb,run_underlying hu,sizeOf,typeInfo,hi,hzz,e1]
end
theorem Ko {α:Type} {d:Kd α} {w:World} {F:AV} {A:Option Addr} {m c:Nat} {xs:List α} (h:(Af d (.slice A m c) xs).P w F) {i m':Nat} (hi:i+m'≤m):(Af d (.slice (EF A c i d.sz) m' (c - i)) ((xs.drop i).take m')).P w F:=Ib (F_ h (i:=i) (by omega)) (by omega)
theorem UE:∀ x,(ET x).length=1:=fun _=>rfl
/-! ### Numbers, byte by byte -/
theorem Zw (n:Nat) {i:Nat} (h:i<8):((n:Nat):Int).fdiv (2^(min ((8:Int)*(7 - ((i:Nat):Int))).toNat IntKind.u64.bits))=((n / 256^(7 - i):Nat):Int):=by
 have e:(2:Int)^(min ((8:Int)*(7 - ((i:Nat):Int))).toNat IntKind.u64.bits)=((256^(7 - i):Nat):Int):=by
  match i,h with
  |0,_=>decide
  |1,_=>decide
  |2,_=>decide
  |3,_=>decide
  |4,_=>decide
  |5,_=>decide
  |6,_=>decide
  |7,_=>decide
 rw [e,Int.fdiv_eq_ediv_of_nonneg _ (Int.natCast_nonneg _),Int.natCast_ediv]
theorem bE (m:Nat):IntKind.u8.wrap ((m:Nat):Int)=((UInt8.ofNat m).toNat:Int):=by
 unfold IntKind.wrap
 simp [IntKind.bits,IntKind.signed,UInt8.toNat_ofNat']
theorem Zv {m:Nat} (h:m<72057594037927936):IntKind.u64.wrap (((m:Nat):Int)*2^(min (8:Int).toNat IntKind.u64.bits))=((m*256:Nat):Int):=by
 have e:(2:Int)^(min (8:Int).toNat IntKind.u64.bits)=256:=by decide
 rw [e,D5 (by omega) (by omega)]
 omega
theorem Xw {P:Program} {w:World} {m:Nat} (h:m<72057594037927936) (x:UInt8):(Op.intBits .or .u64 ((m*256:Nat):Int) ((x.toNat:Nat):Int)).run P w=.ok (.int .u64 ((m*256+x.toNat:Nat):Int)) w:=by
 have hx:=UInt8.toNat_lt x
 have h1:m*256|||x.toNat=m*256+x.toNat:=by
  have:=Nat.shiftLeft_add_eq_or_of_lt (b:=x.toNat) (i:=8) (by omega) m
  rw [Nat.shiftLeft_eq] at this
  exact this.symm
 have h2:(BitVec.ofInt 64 ((m*256:Nat):Int)|||BitVec.ofInt 64 ((x.toNat:Nat):Int)).toNat=m*256+x.toNat:=by
  rw [BitVec.toNat_or]
  simp only [BitVec.ofInt_natCast,BitVec.toNat_ofNat]
  rw [Nat.mod_eq_of_lt (by omega),Nat.mod_eq_of_lt (by omega),h1]
 unfold Op.intBits
 show (pure (Value.int .u64 (IntKind.u64.wrap ((BitVec.ofInt 64 ((m*256:Nat):Int)|||BitVec.ofInt 64 ((x.toNat:Nat):Int)).toNat:Nat))):Sem Value).run P w=_
 rw [h2,D5 (by omega) (by omega)]
 rfl
/-! ### What the program tells of bytes -/
def Co (b:List UInt8) (at_:Int):Int×Int×Bool:=match Gw b at_ with
 |some x=>(x.1,x.2,true)
 |none=>(0,0,false)
def E_ (b:List UInt8) (at_:Int):ByteArray×Int×Bool:=match IS b at_ with
 |some x=>(x.1,x.2,true)
 |none=>(⟨#[]⟩,0,false)
theorem IR {b:List UInt8} {at_:Int} (h:at_<0∨(b.length:Int)<at_∨(b.length:Int) - at_<8):Co b at_=(0,0,false):=by
 unfold Co Gw;rw [if_pos h]
theorem MP {b:List UInt8} {at_:Int} (h:¬ (at_<0∨(b.length:Int)<at_∨(b.length:Int) - at_<8)):Co b at_=(IntKind.i64.wrap (EM ((b.drop at_.toNat).take 8):Nat),at_+8,true):=by
 unfold Co Gw;rw [if_neg h]
theorem YP {b:List UInt8} {at_:Int} (h:(Co b at_).2.2=false):E_ b at_=(⟨#[]⟩,0,false):=by
 unfold Co at h
 unfold E_ IS
 cases e:Gw b at_ with
 |none=>rfl
 |some x=>rw [e] at h;cases h
theorem MQ {b:List UInt8} {at_:Int} (h:(Co b at_).2.2=true):E_ b at_=if (Co b at_).1<0∨(b.length:Int) - (Co b at_).2.1<(Co b at_).1 then (⟨#[]⟩,0,false) else (FP ((b.drop (Co b at_).2.1.toNat).take (Co b at_).1.toNat),(Co b at_).2.1+(Co b at_).1,true):=by
 unfold Co at h ⊢
 unfold E_ IS
 cases e:Gw b at_ with
 |none=>rw [e] at h;cases h
 |some x=>
  dsimp only
  by_cases g:x.1<0∨(b.length:Int) - x.2<x.1
  ·rw [if_pos g,if_pos g]
  ·rw [if_neg g,if_neg g]
theorem YO {b:List UInt8} {at_:Int} (h:(Co b at_).2.2=true):8≤(Co b at_).2.1∧(Co b at_).2.1≤(b.length:Int)∧(Co b at_).2.1=at_+8∧0≤at_:=by
 by_cases g:at_<0∨(b.length:Int)<at_∨(b.length:Int) - at_<8
 ·rw [IR g] at h;cases h
 ·rw [MP g];dsimp only;omega
theorem YN {b:List UInt8} {at_:Int}: -9223372036854775808≤(Co b at_).1∧(Co b at_).1≤9223372036854775807:=by
 by_cases g:at_<0∨(b.length:Int)<at_∨(b.length:Int) - at_<8
 ·rw [IR g];decide
 ·rw [MP g]
  dsimp only
  unfold IntKind.wrap
  simp [IntKind.bits,IntKind.signed]
  omega
theorem SJ (n:Nat) {i:Nat} (h:i<8):(Ct n)[i]?=some (UInt8.ofNat (n / 256^(7 - i))):=by
 unfold Ct;rw [List.getElem?_map,List.getElem?_range h];rfl
theorem SL (n:Nat) {i:Nat} (h:i<8):(Ct n).take (i+1)=(Ct n).take i++[UInt8.ofNat (n / 256^(7 - i))]:=DV (SJ n h)
theorem YM {l:List UInt8} {i:Nat} {x:UInt8} (h:l[i]?=some x):EM (l.take (i+1))=EM (l.take i)*256+x.toNat:=by rw [DV h,YL]
def Ob (b:Nat):List Value:=[.pointer (some ⟨b,0,none⟩)]
def BW:Kd Nat:=flat Ob 1 (by omega) (fun _=>rfl) (fun _ c h=>by simp [Ob] at h;subst h;rfl)
def BG (t:Nat) (e:Nat×Bh):SP:=blk e.1 [.int .i64 e.2.c,.int .i64 e.2.s,.int .i64 e.2.e,.int .i64 e.2.x] t
def Bu (ps:List An):ByteArray:=FP (FK ps)
theorem ZT (l:List UInt8):(FP l).size=l.length:=by simp [FP,ByteArray.size]
theorem MC {ps:List An} (h:∀ p∈ps,p.key.size≤100∧p.val.size≤100):(CC ps).length≤ps.length*216:=by
 induction ps with
 |nil=>exact Nat.zero_le _
 |cons p ps ih=>
  have h1:=h p (List.mem_cons_self ..)
  have h2:=ih fun q hq=>h q (List.mem_cons_of_mem _ hq)
  have e:CC (p::ps)=(Da p.key++Da p.val)++CC ps:=by unfold CC;rw [List.flatMap_cons]
  rw [e,List.length_append,List.length_append,If,If,List.length_cons,Nat.succ_mul]
  omega
theorem XI {ps:List An} (h:∀ p∈ps,p.key.size≤100∧p.val.size≤100) (hl:ps.length≤1000):(Bu ps).size≤300000:=by
 have:=MC h
 unfold Bu
 rw [ZT]
 unfold FK
 rw [List.length_append,Fy]
 omega
theorem MD (ps:List An):Cu (Bu ps)=FK ps:=SW _
def Dy (ps:List An) (k:Nat):Nat:=8+(CC (ps.take k)).length
theorem XH {ps:List An} {k:Nat} {p:An} (h:ps[k]?=some p):Dy ps (k+1)=Dy ps k+8+p.key.size+8+p.val.size:=by
 unfold Dy
 rw [DV h,Qy,List.length_append,List.length_append,If,If]
 omega
theorem XK {ps:List An} (hl:ps.length<9223372036854775808):Co (FK ps) 0=(((ps.length:Nat):Int),8,true):=by
 have h:=Q8 (a:=[]) (c:=CC ps) (n:=ps.length) (k:=0) hl rfl
 unfold Co FK
 have h2:Gw (Ct ps.length++CC ps) 0=some (((ps.length:Nat):Int),((0+8:Nat):Int)):=h
 rw [h2]
 rfl
theorem XJ {ps:List An} {k:Nat} {p:An} (h:ps[k]?=some p) (hk:p.key.size<9223372036854775808):E_ (FK ps) (Dy ps k:Nat)=(p.key,((Dy ps k+8+p.key.size:Nat):Int),true):=by
 have e:FK ps=(Ct ps.length++CC (ps.take k))++(Da p.key++(Da p.val++CC (ps.drop (k+1)))):=by unfold FK;rw [Qz h,List.append_assoc]
 have h1:=Q9 (a:=Ct ps.length++CC (ps.take k)) (c:=Da p.val++CC (ps.drop (k+1))) (s:=p.key) (k:=Dy ps k) hk (by rw [List.length_append,Fy];rfl)
 unfold E_
 rw [e,h1]
theorem XL {ps:List An} {k:Nat} {p:An} (h:ps[k]?=some p) (hk:p.val.size<9223372036854775808):E_ (FK ps) ((Dy ps k+8+p.key.size:Nat):Int)=(p.val,((Dy ps (k+1):Nat):Int),true):=by
 have e:FK ps=(Ct ps.length++CC (ps.take k)++Da p.key)++(Da p.val++CC (ps.drop (k+1))):=by unfold FK;rw [Qz h];simp only [List.append_assoc]
 have h1:=Q9 (a:=Ct ps.length++CC (ps.take k)++Da p.key) (c:=CC (ps.drop (k+1))) (s:=p.val) (k:=Dy ps k+8+p.key.size) hk (by rw [List.length_append,List.length_append,Fy,If];unfold Dy;omega)
 unfold E_
 rw [e,h1,XH h]
theorem XG {ps:List An} (h:∀ p∈ps,p.key.size≤100∧p.val.size≤100) (hl:ps.length≤1000) (i:Nat):Dy ps i≤300000:=by
 have h1:=MC (ps:=ps.take i) fun p hp=>h p (List.mem_of_mem_take hp)
 have h2:(ps.take i).length≤ps.length:=by rw [List.length_take];omega
 unfold Dy
 omega
def D9 (D:Bc) (J:AR) (s:Nat) (att:Int) (k:Nat):List Int:=(List.range k).map fun (p:Nat)=>CK ((BE D J s p).length:Nat) (CA J.chunk att)
theorem Ln (D:Bc) (J:AR) (s:Nat) (att:Int) (k:Nat):D9 D J s att (k+1)=D9 D J s att k++[CK ((BE D J s k).length:Nat) (CA J.chunk att)]:=by
 unfold D9;rw [List.range_succ,List.map_append];rfl
theorem Lm (D:Bc) (J:AR) (s:Nat) (att:Int) (k:Nat):(D9 D J s att k).length=k:=by simp [D9]
theorem Lq {D:Bc} {J:AR} {s:Nat} {att:Int} (h:(AB D J s).2=0):BO D J s att=D9 D J s att J.parts.toNat:=by
 unfold BO;rw [if_neg (fun g=>g h)];rfl
theorem Lp {D:Bc} {J:AR} {s:Nat} {att:Int} (h:(AB D J s).2≠0):BO D J s att=[]:=by
 unfold BO;rw [if_pos h]
/-! ### Windows, in a row of pointers -/
def Hp (J:AR) (n:Int):Bh:=⟨n,J.window,0,0⟩
theorem Mp (D:Bc) (J:AR) (s:Nat) (att:Int):(Df D J s att).ws=(BO D J s att).map (Hp J):=rfl
theorem bB {ws:List (Nat×Bh)} {k:Nat} {e:Nat×Bh} (h:ws[k]?=some e):(ws.map Prod.fst)[k]?=some e.1:=by rw [List.getElem?_map,h];rfl
theorem Hr {ws:List (Nat×Bh)} {k:Nat} {e:Nat×Bh} (h:ws[k]?=some e):(ws.map Prod.snd)[k]?=some e.2:=by rw [List.getElem?_map,h];rfl
theorem KM {ws:List (Nat×Bh)} {k:Nat} {b:Nat} {x y:Bh} (h:ws[k]?=some (b,x)):(ws.set k (b,y)).map Prod.fst=ws.map Prod.fst∧(ws.set k (b,y)).map Prod.snd=(ws.map Prod.snd).set k y:=by
 refine ⟨?_,by rw [List.map_set]⟩
 rw [List.map_set]
 have:=bB h
 exact MY this
theorem I_ {ws:List (Nat×Bh)} {k:Nat} {e:Nat×Bh} (h:ws[k]?=some e):ws.set k e=ws:=MY h
theorem NR {n size q:Int} (h0:0≤q) (h1:q<CK n size) (hs:1≤size):0≤q*size∧q*size≤n - 1:=by
 unfold CK at h1
 by_cases h:n<1∨size<1
 ·rw [if_pos h] at h1;omega
 ·rw [if_neg h,Int.tdiv_eq_ediv_of_nonneg (by omega)] at h1
  exact ⟨Int.mul_nonneg h0 (by omega),(Int.le_ediv_iff_mul_le (by omega)).1 (by omega)⟩
theorem Tv {ps:List An} {size q:Int} {m k:Nat} (h0:0≤q) (h1:q<CK ps.length size) (hs:1≤size) (hm:q*size=(m:Int)) (hk:min size (((ps.length - m:Nat):Int))=(k:Int)):C9 ps size q=(ps.drop m).take k:=by
 unfold C9
 rw [if_neg (by omega),hm,Int.toNat_natCast]
 refine (List.take_eq_take_iff).2 ?_
 rw [List.length_drop]
 omega
theorem Jm {ps:List An} {size q:Int} (h:q<0∨CK ps.length size≤q):C9 ps size q=[]:=if_pos h
theorem R6 {n size:Int} (h:0≤n) (hs:1≤size):0≤n.tdiv size∧n.tdiv size≤n:=by
 rw [Int.tdiv_eq_ediv_of_nonneg h]
 exact ⟨Int.ediv_nonneg h (by omega),Int.ediv_le_self _ h⟩
/-! ### What is pushed, window by window -/
theorem QI (D:Bc) (J:AR) (s:Nat) (att:Int):∀ (a b:List Bh) (p:Nat),C6 D J s att (a++b) p=C6 D J s att a p++C6 D J s att b (p+a.length)
 |[],b,p=>rfl
 |w::a,b,p=>by
  show Dz D J s att w p++C6 D J s att (a++b) (p+1)=Dz D J s att w p++C6 D J s att a (p+1)++_
  rw [QI D J s att a b (p+1),List.append_assoc,List.length_cons,show p+1+a.length=p+(a.length+1) by omega]
theorem QJ {D:Bc} {J:AR} {s:Nat} {att:Int} {ws:List Bh} {k:Nat} {w:Bh} (h:ws[k]?=some w):C6 D J s att (ws.take (k+1)) 0=C6 D J s att (ws.take k) 0++Dz D J s att w k:=by
 rw [DV h,QI,List.length_take,Nat.zero_add,Nat.min_eq_left (Nat.le_of_lt (Gt h))]
 show _++(Dz D J s att w k++[])=_
 rw [List.append_nil]
theorem IK (D:Bc) (J:AR) (s:Nat) (att:Int) (w:Bh) (p:Nat):(Dz D J s att w p).length=(CQ w.c w.s w.x).length:=by unfold Dz;rw [List.length_map]
theorem QH {D:Bc} {J:AR} {s:Nat} {att:Int} {w:Bh} {p j:Nat} {q:Int} (h:(CQ w.c w.s w.x)[j]?=some q):(Dz D J s att w p).take (j+1)=(Dz D J s att w p).take j++[⟨2,s,att,p,q,0,0,0,[],BF D J s att p q⟩]:=
 DV (by unfold Dz;rw [List.getElem?_map,h];rfl)
theorem Mz {w:Bh} (h:Fp w):(CQ w.c w.s w.x).length≤4:=by
 rw [Xp]
 have:=h.1
 have:=h.2.1
 omega
theorem Kb {D:Bc} {J:AR} {s:Nat} {att:Int}:∀ {ws:List Bh} (p:Nat),(∀ w∈ws,Fp w)→(C6 D J s att ws p).length≤4*ws.length
 |[],_,_=>Nat.zero_le _
 |w::ws,p,h=>by
  have h1:=Mz (h w (List.mem_cons_self ..))
  have h2:=Kb (D:=D) (J:=J) (s:=s) (att:=att) (p+1) fun x hx=>h x (List.mem_cons_of_mem _ hx)
  show (Dz D J s att w p++C6 D J s att ws (p+1)).length≤_
  rw [List.length_append,IK,List.length_cons]
  omega
theorem NB {α:Type} {q:α→Bool} {l:List α} {k:Nat} {x:α} (h:(l.take k).all q=true) (hx:l[k]?=some x) (hq:q x=true):(l.take (k+1)).all q=true:=by
 rw [DV hx,List.all_append,h];simp [hq]
theorem NA {α:Type} {q:α→Bool} {l:List α} {k:Nat} {x:α} (hx:l[k]?=some x) (hq:¬ q x=true):l.all q=false:=by
 rw [List.all_eq_false];exact ⟨x,Bl hx,hq⟩
theorem Ts {A B:AR} (h:BL A B) (D:Bc) (s:Nat) (att:Int):BO D A s att=BO D B s att:=by
 unfold BO
 rw [h.split,h.parts,h.chunk]
 simp only [h.only]
theorem Tb {A B:AR} (h:BL A B) (D:Bc) (s:Nat) (att p q:Int):BF D A s att p q=BF D B s att p q:=by
 unfold BF
 rw [h.chunk,h.only]
theorem W7 {A B:AR} (h:BL A B) (D:Bc) (s:Nat) (att:Int):Df D A s att=Df D B s att:=by
 unfold Df BO
 rw [h.split,h.parts,h.chunk,h.window]
 simp only [h.only]
theorem Xd {A B:AR} (h:BL A B) {D:Bc} {s:Nat} {att:Int} {ws:List (Nat×Bh)} {k:Nat} (hw:ws.map Prod.snd=((BO D A s att).take k).map (Hp A)) (hk:(BO D A s att).length≤k):ws.map Prod.snd=(Df D B s att).ws:=by
 rw [hw,List.take_of_length_le hk,←W7 h];rfl
theorem QO {A B:AR} (h:BL A B) (D:Bc) (s:Nat) (att:Int):∀ (ws:List Bh) (p:Nat),C6 D A s att ws p=C6 D B s att ws p
 |[],_=>rfl
 |w::ws,p=>by
  show Dz D A s att w p++C6 D A s att ws (p+1)=Dz D B s att w p++C6 D B s att ws (p+1)
  rw [QO h D s att ws]
  unfold Dz BF
  rw [h.chunk]
  simp only [h.only]
theorem Jc {m:Ca} {p ep n:Int} {w:Bh} (h:0≤p∧p<m.ws.length) (hw:m.ws[p.toNat]?=some w):D7 m p ep n=({ m with ws:=m.ws.set p.toNat (Fk w ep n) },FX w.c w.e w.x ep n):=by
 unfold D7
 rw [if_pos (show Il m p from h),hw]
theorem Hy {m:Ca} {p ep n:Int} (h:¬ (0≤p∧p<m.ws.length)):D7 m p ep n=(m,false):=if_neg (show ¬ Il m p from h)
theorem Hq {ws:List (Nat×Bh)} {k x:Nat} (h:(ws.map Prod.fst)[k]?=some x):∃ wd,ws[k]?=some (x,wd):=by
 rw [List.getElem?_map] at h
 obtain ⟨e,he,rfl⟩:=Option.map_eq_some_iff.1 h
 exact ⟨e.2,he⟩
def Ez (M:Ca):Prop:=(∀ w∈M.ws,Fp w)∧M.ws.length≤1000
theorem Mu {D:Bc} {J:AR} (hJ:B3 J) (s:Nat) (att:Int):Ez (Df D J s att):=by
 refine ⟨W6 hJ s att,?_⟩
 have:=hJ.parts
 show ((BO D J s att).map _).length≤_
 rw [List.length_map,Lo]
 split<;>omega
theorem Qp {M:Ca} (h:Ez M) {p ep n:Int} (he:AF ep):Ez (D7 M p ep n).1:=by
 by_cases hp:0≤p∧p<M.ws.length
 ·obtain ⟨w,hw⟩:∃ w,M.ws[p.toNat]?=some w:=⟨_,List.getElem?_eq_getElem (show p.toNat<M.ws.length by omega)⟩
  rw [Jc hp hw]
  refine ⟨fun x hx=>?_,by rw [List.length_set];exact h.2⟩
  rcases List.mem_or_eq_of_mem_set hx with hx|rfl
  ·exact h.1 x hx
  ·exact St (h.1 _ (Bl hw)) he
 ·rw [Hy hp];exact h
theorem Hd.tellK {α:Type} {w0 w:World} {F0:AV} {K:Kd α} {v:Value} {xs ys:List α} {As Rs:List SP} (H:Hd w0 F0 w (Ae K v xs::As) Rs) (e:ys=xs):Hd w0 F0 w (Ae K v ys::As) Rs:=by rw [e];exact H
structure Ns where
 fr:Int
 to:Int
 m:DF
theorem Wl {a b:Ns}:a=b↔a.fr=b.fr∧a.to=b.to∧a.m=b.m:=by
 constructor
 ·rintro rfl;exact ⟨rfl,rfl,rfl⟩
 ·rintro ⟨h1,h2,h3⟩
  cases a;cases b
  simp only at h1 h2 h3
  subst h1 h2 h3
  rfl
instance letPD (a b:Ns):Decidable (a=b):=decidable_of_iff _ Wl.symm
structure bT where
 ep:Int
 rs:List B7
 ts:List Ca
 over:Bool
/-! ### What it does -/
def RF (C:Cf) (sp att:Int):Prop:=0≤sp∧sp<((C.J.us.length:Nat):Int)∧1≤att∧att≤C.t
instance runMayD (C:Cf) (sp att:Int):Decidable (RF C sp att):=by unfold RF;infer_instance
/-! ### In memory -/
structure bS where
 sp:Int
 att:Int
 b:Nat
section
variable {w0 w:World} {F0:AV} {As Rs:List SP}
end
theorem WW {zs:List (BU BQ)} {k:Nat} {x:GF BQ} (hx:(zs.map CD)[k]?=some x):∃ m,zs[k]?=some m∧x=CD m:=by
 rw [List.getElem?_map] at hx
 obtain ⟨m,hm,rfl⟩:=Option.map_eq_some_iff.1 hx
 exact ⟨m,hm,rfl⟩
theorem WX {D:Bc} {J:AR} {M:Ca} (hM:Ez M) {zs:List (BU BQ)} (hz:zs.map C5=Hg D J M):zs.length≤4000:=by
 have h1:=congrArg List.length hz
 rw [List.length_map] at h1
 have h2:=Kb (D:=D) (J:=J) (s:=M.sp) (att:=M.att) 0 hM.1
 have h3:=hM.2
 have h4:(Hg D J M).length=(C6 D J M.sp M.att M.ws 0).length:=rfl
 omega
def CY (D:Bc) (J:AR) (s:Nat):List (List An):=if (AB D J s).2≠0 then [] else (List.range J.parts.toNat).map fun (p:Nat)=>BE D J s p
theorem Y6 (D:Bc) (J:AR) (s:Nat):(CY D J s).length=if (AB D J s).2≠0 then 0 else J.parts.toNat:=by
 unfold CY
 split
 ·rfl
 ·simp
theorem RH {D:Bc} {J:AR} {s p:Nat} {x:List An} (h:(CY D J s)[p]?=some x):x=BE D J s p:=by
 unfold CY at h
 split at h
 ·cases h
 ·rw [List.getElem?_map] at h
  obtain ⟨q,hq,rfl⟩:=Option.map_eq_some_iff.1 h
  rw [List.getElem?_range (by have:=Gt hq;rwa [List.length_range] at this)] at hq
  cases hq
  rfl
theorem N6 {D:Bc} {p:List Bm} {ps:List An} {fuel:Int} {own:Bool}:∀ (ks:List ByteArray) (out:List An),(DK D p ps fuel own ks out).2≠0→(DK D p ps fuel own ks out).1=[]
 |[],out,h=>absurd rfl h
 |k::ks,out,h=>by
  unfold DK at h ⊢
  by_cases h1:(A_ D p k (Be ps k) fuel).2≠0
  ·rw [if_pos h1]
  ·rw [if_neg h1] at h ⊢
   by_cases h2:own=true∧F8 k (A_ D p k (Be ps k) fuel).1=true
   ·rw [if_pos h2]
   ·rw [if_neg h2] at h ⊢
    by_cases h3:40<out.length+(A_ D p k (Be ps k) fuel).1.length
    ·rw [if_pos h3]
    ·rw [if_neg h3] at h ⊢
     exact N6 ks _ h
theorem ZF {D:Bc} {J:AR} {s:Nat} (h:(AB D J s).2≠0):(AB D J s).1=[]:=by
 unfold AB at h ⊢
 by_cases h1:(mapM D J s).2≠0
 ·rw [if_pos h1]
 ·rw [if_neg h1] at h ⊢
  unfold Eu at h ⊢
  by_cases h2:J.comb.length=0
  ·rw [if_pos h2] at h;exact absurd rfl h
  ·rw [if_neg h2] at h ⊢;exact N6 _ _ h
theorem Xo (xs:List An) {n p:Int} (h1:1≤n) (h:n≤p):EA xs n p=[]:=by
 unfold EA
 refine List.filter_eq_nil_iff.2 fun x _ e=>?_
 have e:=of_decide_eq_true e
 unfold H0 at e
 rw [if_neg (by omega)] at e
 have:=Int.emod_lt_of_pos (CU x.key x.key.size) (show 0<n by omega)
 omega
theorem NS {D:Bc} {J:AR} {s:Nat} {att p q:Int} (hJ:1≤J.parts) (h:p<0∨((CY D J s).length:Int)≤p):BF D J s att p q=[]:=by
 unfold BF
 by_cases h1:p<0
 ·rw [if_pos h1]
 ·rw [if_neg h1]
  have e:BE D J s p=[]:=by
   have h2:=Y6 D J s
   by_cases h3:(AB D J s).2≠0
   ·unfold BE;rw [ZF h3];rfl
   ·rw [if_neg h3] at h2;exact Xo _ hJ (by omega)
  rw [e]
  unfold C9
  split
  ·rfl
  ·rw [List.drop_nil,List.take_nil]
theorem Ta {D:Bc} {J:AR} {s p:Nat} {att q:Int} {x:List An} (h:(CY D J s)[p]?=some x):BF D J s att p q=C9 x (CA J.chunk att) q:=by
 rw [RH h];exact if_neg (by omega)
theorem Y7 {D:Bc} {J:AR} {s k:Nat} {rs:List (Value×List An)} (hs:(AB D J s).2=0) (h:rs.map (·.2)=(List.range k).map fun (p:Nat)=>BE D J s p) (hk:k=J.parts.toNat):rs.map (·.2)=CY D J s:=by
 rw [h,hk];exact (if_neg (fun g=>g hs)).symm
theorem Y8 {D:Bc} {J:AR} {s:Nat} (hs:(AB D J s).2≠0):CY D J s=[]:=if_pos hs
theorem Y9 {D:Bc} {J:AR} {s k:Nat} {rs:List (Value×List An)} {u:Value} (h:rs.map (·.2)=(List.range k).map fun (p:Nat)=>BE D J s p):(rs++[(u,BE D J s k)]).map (·.2)=(List.range (k+1)).map fun (p:Nat)=>BE D J s p:=by
 rw [List.map_append,h,List.range_succ,List.map_append];rfl
theorem bC {D:Bc} {J:AR} {s k:Nat} {att:Int} {ws:List (Nat×Bh)} {b:Nat} (h:ws.map Prod.snd=(D9 D J s att k).map (Hp J)):(ws++[(b,(⟨CK ((BE D J s k).length:Nat) (CA J.chunk att),J.window,0,0⟩:Bh))]).map Prod.snd=(D9 D J s att (k+1)).map (Hp J):=by
 rw [List.map_append,h,Ln,List.map_append];rfl
theorem bA {D:Bc} {J:AR} {s k:Nat} {att:Int} {ws:List (Nat×Bh)} (hs:(AB D J s).2=0) (h:ws.map Prod.snd=(D9 D J s att k).map (Hp J)) (hk:k=J.parts.toNat):ws.map Prod.snd=(Df D J s att).ws:=by
 rw [h,Mp,Lq hs,hk]
theorem a_ {D:Bc} {J:AR} {s:Nat} {att:Int} (hs:(AB D J s).2≠0):(Df D J s att).ws=[]:=by rw [Mp,Lp hs];rfl
theorem Hd.twTake {w0 w:World} {F0:AV} {As Rs:List SP} {zs:List (BU BQ)} {k:Nat} {z:BU BQ} {x:GF BQ} (H:Hd w0 F0 w (Dp (zs.drop k)::As) Rs) (hz:zs[k]?=some z) (hx:x=CD z):
  Hd w0 F0 w (Ae (AN .i64) (.slice x.hs.A x.hs.n x.hs.c) z.set::Ae Al (.slice x.hp.A x.hp.n x.hp.c) z.pairs::Dp (zs.drop (k+1))::As) Rs:=by
 obtain ⟨h,sv,se,pv,pr⟩:=z
 rw [Dv hz] at H
 have H:=Hd.stA (Hd.bigO (f:=Hn) 0 rfl H)
 replace H:Hd w0 F0 w (Ae (AN .i64) sv se::Ae Al pv pr::Dp (zs.drop (k+1))::As) Rs:=H
 obtain ⟨A,c,rfl,_⟩:=H.fA 0 rfl
 obtain ⟨A2,c2,rfl,_⟩:=H.fA 1 rfl
 subst hx
 exact H
theorem NQ (D:Bc) (J:AR) (s:Nat) (att p q:Int):(BF D J s att p q).length≤40:=by
 unfold BF C9
 split
 ·exact Nat.zero_le _
 ·split
  ·exact Nat.zero_le _
  ·rw [List.length_take,List.length_drop]
   have:=GQ D J s p
   omega
theorem WY {D:Bc} {J:AR} {M:Ca} {zs:List (BU BQ)} (h:zs.map C5=Hg D J M) {z:BU BQ} (hz:z∈zs):z.set.length≤0∧z.pairs.length≤40:=by
 have h1:C5 z∈Hg D J M:=by rw [←h];exact List.mem_map_of_mem hz
 have key:∀ (ws:List Bh) (p:Nat) (m:DF),m∈C6 D J M.sp M.att ws p→m.set.length≤0∧m.pairs.length≤40:=by
  intro ws
  induction ws with
  |nil=>intro p m hm;cases hm
  |cons w ws ih=>
   intro p m hm
   rcases List.mem_append.1 hm with hm|hm
   ·obtain ⟨q,_,rfl⟩:=List.mem_map.1 hm
    refine ⟨Nat.le_refl _,?_⟩
    exact NQ D J M.sp M.att p q
   ·exact ih _ _ hm
 exact key _ _ _ h1
theorem Su {M:Ca} {p ep n:Int}:(D7 M p ep n).1.ws.map Bh.c=M.ws.map Bh.c:=by
 by_cases hp:0≤p∧p<M.ws.length
 ·obtain ⟨w,hw⟩:∃ w,M.ws[p.toNat]?=some w:=⟨_,List.getElem?_eq_getElem (show p.toNat<M.ws.length by omega)⟩
  rw [Jc hp hw]
  show (M.ws.set p.toNat (Fk w ep n)).map Bh.c=_
  rw [List.map_set]
  exact MY (by rw [List.getElem?_map,hw];rfl)
 ·rw [Hy hp]
theorem Nz {M:Ca} {p ep n:Int}:(D7 M p ep n).1.sp=M.sp∧(D7 M p ep n).1.att=M.att:=by
 unfold D7
 split
 ·split<;>exact ⟨rfl,rfl⟩
 ·exact ⟨rfl,rfl⟩
theorem Xa (D:Bc) (J:AR) (s:Nat) (att:Int):(Df D J s att).ws.map Bh.c=BO D J s att:=by
 rw [Mp,List.map_map]
 exact List.map_id' _
theorem SG:Es Tryz.prog 311=some (#[.slice none 0 0,.bool false,.int .i64 0,.string ⟨#[]⟩,.bool false,.int .i64 0,.string ⟨#[]⟩,.bool false,.int .i64 0,.string ⟨#[]⟩,.bool false,.int .i64 0,.string ⟨#[]⟩,.bool false,.int .i64 0,.string ⟨#[]⟩,.bool false,.int .i64 0,.string ⟨#[]⟩,.bool false,.int .i64 0,.string ⟨#[]⟩,.bool false,.int .i64 0,.string ⟨#[]⟩,.string ⟨#[]⟩,.slice none 0 0,.int .i64 0,.slice none 0 0],#[(0,1),(1,24),(25,1),(26,1),(27,1),(28,1)]):=by kernel_rfl
theorem SI:Es Tryz.prog 58=some (#[.slice none 0 0,.int .i64 0,.slice none 0 0,.slice none 0 0,.slice none 0 0,.int .i64 0,.int .i64 0,.int .i64 0,.slice none 0 0,.int .i64 0,.int .i64 0,.int .i64 0,.int .i64 0,.int .i64 0,.int .i64 0,.slice none 0 0,.slice none 0 0],#[(0,12),(12,1),(13,1),(14,1),(15,1),(16,1)]):=by kernel_rfl
theorem FZ:Bo Tryz.prog 311 0=some 0:=by kernel_rfl
theorem OD:Bo Tryz.prog 311 1=some 1:=by kernel_rfl
theorem Ui:Bo Tryz.prog 311 2=some 25:=by kernel_rfl
theorem OE:Bo Tryz.prog 311 3=some 26:=by kernel_rfl
theorem JG:Bo Tryz.prog 311 4=some 27:=by kernel_rfl
theorem HL:Bo Tryz.prog 311 5=some 28:=by kernel_rfl
theorem Uk:Bo Tryz.prog 58 0=some 0:=by kernel_rfl
theorem Ul:Bo Tryz.prog 58 1=some 12:=by kernel_rfl
theorem OG:Bo Tryz.prog 58 2=some 13:=by kernel_rfl
theorem LS:Bo Tryz.prog 58 3=some 14:=by kernel_rfl
theorem JH:Bo Tryz.prog 58 4=some 15:=by kernel_rfl
theorem FC:Bo Tryz.prog 58 5=some 16:=by kernel_rfl
theorem Pe:AJ Tryz.prog 100:=AM Tryz.func100 rfl rfl
theorem UV:AJ Tryz.prog 101:=AM Tryz.func101 rfl rfl
theorem UW:AJ Tryz.prog 102:=AM Tryz.func102 rfl rfl
theorem Pf:AJ Tryz.prog 103:=AM Tryz.func103 rfl rfl
theorem Pg:AJ Tryz.prog 104:=AM Tryz.func104 rfl rfl
theorem UY:AJ Tryz.prog 110:=AM Tryz.func110 rfl rfl
theorem U0:AJ Tryz.prog 112:=AM Tryz.func112 rfl rfl
theorem U2:AJ Tryz.prog 114:=AM Tryz.func114 rfl rfl
theorem U4:AJ Tryz.prog 116:=AM Tryz.func116 rfl rfl
theorem Pk:AJ Tryz.prog 161:=AM Tryz.func161 rfl rfl
theorem Gr:AJ Tryz.prog 162:=AM Tryz.func162 rfl rfl
theorem Pl:AJ Tryz.prog 163:=AM Tryz.func163 rfl rfl
theorem Va:AJ Tryz.prog 164:=AM Tryz.func164 rfl rfl
theorem Vb:AJ Tryz.prog 165:=AM Tryz.func165 rfl rfl
theorem Vc:AJ Tryz.prog 166:=AM Tryz.func166 rfl rfl
theorem Vk:AJ Tryz.prog 190:=AM Tryz.func190 rfl rfl
theorem JQ:AJ Tryz.prog 198:=AM Tryz.func198 rfl rfl
theorem Vm:AJ Tryz.prog 199:=AM Tryz.func199 rfl rfl
theorem Vo:AJ Tryz.prog 201:=AM Tryz.func201 rfl rfl
theorem Vp:AJ Tryz.prog 202:=AM Tryz.func202 rfl rfl
theorem VA:AJ Tryz.prog 237:=AM Tryz.func237 rfl rfl
theorem VB:AJ Tryz.prog 240:=AM Tryz.func240 rfl rfl
theorem VK:AJ Tryz.prog 260:=AM Tryz.func260 rfl rfl
theorem Py:AJ Tryz.prog 261:=AM Tryz.func261 rfl rfl
theorem PC:AJ Tryz.prog 28:=AM Tryz.func28 rfl rfl
theorem FE:AJ Tryz.prog 286:=AM Tryz.func286 rfl rfl
theorem HP:AJ Tryz.prog 287:=AM Tryz.func287 rfl rfl
theorem PD:AJ Tryz.prog 288:=AM Tryz.func288 rfl rfl
theorem VY:AJ Tryz.prog 289:=AM Tryz.func289 rfl rfl
theorem PE:AJ Tryz.prog 29:=AM Tryz.func29 rfl rfl
theorem VZ:AJ Tryz.prog 290:=AM Tryz.func290 rfl rfl
theorem V0:AJ Tryz.prog 291:=AM Tryz.func291 rfl rfl
theorem IB:AJ Tryz.prog 292:=AM Tryz.func292 rfl rfl
theorem V1:AJ Tryz.prog 293:=AM Tryz.func293 rfl rfl
theorem JV:AJ Tryz.prog 318:=AM Tryz.func318 rfl rfl
theorem V5:AJ Tryz.prog 34:=AM Tryz.func34 rfl rfl
theorem V6:AJ Tryz.prog 35:=AM Tryz.func35 rfl rfl
theorem V7:AJ Tryz.prog 36:=AM Tryz.func36 rfl rfl
theorem V8:AJ Tryz.prog 38:=AM Tryz.func38 rfl rfl
theorem PJ:AJ Tryz.prog 39:=AM Tryz.func39 rfl rfl
theorem V9:AJ Tryz.prog 40:=AM Tryz.func40 rfl rfl
theorem PL:AJ Tryz.prog 42:=AM Tryz.func42 rfl rfl
theorem PM:AJ Tryz.prog 43:=AM Tryz.func43 rfl rfl
theorem V_:AJ Tryz.prog 45:=AM Tryz.func45 rfl rfl
theorem PR:AJ Tryz.prog 99:=AM Tryz.func99 rfl rfl
theorem Ic:C0 Tryz.prog 56=some (171,1,8):=by kernel_rfl
theorem KE:B9 Tryz.prog 171=some (false,1):=by kernel_rfl
theorem Z7:B9 Tryz.prog 311=some (true,29):=by kernel_rfl
theorem FQ:B9 Tryz.prog 56=some (false,1):=by kernel_rfl
theorem KI:Tryz.prog.underlying 48=some (.pointer 58):=by kernel_rfl
theorem I9:Tryz.prog.underlying 56=some (.slice 171):=by kernel_rfl
theorem So:C8 Tryz.prog 171=some (.pointer none):=by kernel_rfl
theorem bH:C8 Tryz.prog 311=some (.agg #[.slice none 0 0,.bool false,.int .i64 0,.string ⟨#[]⟩,.bool false,.int .i64 0,.string ⟨#[]⟩,.bool false,.int .i64 0,.string ⟨#[]⟩,.bool false,.int .i64 0,.string ⟨#[]⟩,.bool false,.int .i64 0,.string ⟨#[]⟩,.bool false,.int .i64 0,.string ⟨#[]⟩,.bool false,.int .i64 0,.string ⟨#[]⟩,.bool false,.int .i64 0,.string ⟨#[]⟩,.string ⟨#[]⟩,.slice none 0 0,.int .i64 0,.slice none 0 0]):=by kernel_rfl
theorem Qw (v:Value) (xs:List Int) (hb:xs.length≤1000000):
    Cn Tryz.prog 39 [v] [Ae (AN .i64) v xs] [] (fun _ Bs=>Bs=[]):=by
 intro w0 F0 H
 obtain ⟨A1,c2,rfl,hc3,hm4,hp5⟩:=H.fA 0 rfl
 refine enter Tryz.func39 U U (Nat.le_of_ble_eq_true U) (Z (Z (Ac (Ab U (Aa (Y (AK (Br (σ:=Nat×List Int) (fun (k,ys)=>[(0,.slice A1 xs.length c2),(2,.int .i64 ((k:Nat):Int))]) (fun (k,ys) w=>(Hd w0 F0 w [Ae (AN .i64) (.slice A1 xs.length c2) ys] [])∧(k≤xs.length)∧(ys.length=xs.length)) (fun (k,ys)=>xs.length - k) (0,xs) ⟨rfl,rfl,trivial⟩ ⟨H,by omega,rfl⟩ ?_))))))))
 rintro ⟨k,ys⟩ w ⟨H,hk,hl⟩
 refine Z (Z (Ac (Ad 2 U (V U U (AO U EO U) (V U U (AQ U U U) (Aa (Y ?_)))))))
 refine Aq U (fun h6=>?_) (fun h6=>?_)
 ·refine Av (Y (Z (AK (Ac (Ad 2 U ?_)))))
  obtain ⟨x7,hx8⟩:∃ z9,ys[k]?=some z9:=⟨_,List.getElem?_eq_getElem (show k<ys.length by omega)⟩
  have th9:=H.thA 0 rfl hx8
  refine V U U (AG (p:=AA A1+k*1) U CZ U U (by omega) (by omega) th9 U) (FN (i:=k) (a:= -999) U U U Aw U U U H (by omega) U (fun w H=>(Aa (AS (Y (Ac (Ab U (V U U (AP (z:=((k+1:Nat):Int)) U U U (by rw [Ay (by omega) (by omega)];omega)) (Ab U (Aa ?_))))))))))
  have hl2:(ys.set k (-999:Int)).length=xs.length:=by rw [List.length_set];exact hl
  exact Bb (s:=(k,ys)) (k+1,ys.set k (-999:Int)) ⟨rfl,rfl,trivial⟩ ⟨H,by omega,hl2⟩ (by (try dsimp only);omega)
 refine Bj (AE (AE (Bk (Y (Ac (Ab U (Bv (parts:=[(0,.const (.int .i64 (-999)))]) (vs:=[.int .i64 (-999)]) (cs:=[.int .i64 (-999)]) U U U CZ EQ U (by decide) (by decide) U U H (fun b10 w H=>?_))))))))
 replace H:=H.p1
 refine BY (xs:=ys) (ys:=[-999]) U U U CZ EQ U (by decide) U U H (by omega) (fun F hA hR=>BZ (hA _ (List.mem_of_getElem? (i:=0) U)) U (by decide) (AX.flat_eq.2 U)) (fun v11 w H=>(Aa (Dg U ?_)))
 replace H:=H.nil
 exact Ag U H
theorem Zs (va:Value) (a:List (BU BQ)) (vb:Value) (b:List (BU BQ)):
    Cn Tryz.prog 35 [va,vb] [] [Af Gq va a,Af Gq vb b] (fun v Bs=>v=.bool (decide (a.map C5=b.map C5))∧Bs=[]):=by
 intro w0 F0 H
 obtain ⟨A1,c2,rfl,hc3,hm4,hp5⟩:=H.fR 0 rfl
 obtain ⟨A6,c7,rfl,hc8,hm9,hp10⟩:=H.fR 1 rfl
 refine enter Tryz.func35 U U (Nat.le_of_ble_eq_true U) (Z (Ac (Ab U (Aa (Y (Z (Z (Ac (Ab U (V U U (AO U I8 U) (Ab U (V U U (AO U I8 U) (V U U (CL U U U) (Aa (Y ?_)))))))))))))))
 refine Aq U (fun h11=>?_) (fun h11=>?_)
 ·refine Z (Ac (Ab U (Aa (Y (Ai (Ao (Am U U ?_)))))))
  have e:¬ a.map C5=b.map C5:=fun e=>by have:=congrArg List.length e;rw [List.length_map,List.length_map] at this;omega
  exact Ag ⟨by rw [decide_eq_false e]<;>rfl,rfl⟩ H
 refine Av (Y (Z (Z (Ac (Ab U (Aa (Y (AK ?_))))))))
 have hle:a.length=b.length:=by omega
 refine Br (σ:=Nat) (fun k=>[(0,.slice A1 a.length c2),(1,.slice A6 b.length c7),(5,.int .i64 ((k:Nat):Int))]) (fun k w=>(Hd w0 F0 w [] [Af Gq (.slice A1 a.length c2) a,Af Gq (.slice A6 b.length c7) b])∧(k≤a.length)∧(a.length=b.length)∧((a.take k).map C5=(b.take k).map C5)) (fun k=>a.length - k) 0 ⟨rfl,rfl,rfl,trivial⟩ ⟨H,by omega,hle,rfl⟩ ?_
 rintro k w ⟨H,hk,hle,ht⟩
 refine Z (Z (Ac (Ad 2 U (V U U (AO U I8 U) (V U U (AQ U U U) (Aa (Y ?_)))))))
 refine Aq U (fun h12=>?_) (fun h12=>?_)
 ·refine Av (Y (Z (AK (Z (BD (.e 0 (.e 1 (.e 2 (.e 3 (.e 4 (.e 5 (.e 6 (.e 7 (.m 8 (.e 9 .z)))))))))) (fun w=>∃ Ar,Hd w0 F0 w (Ar) [Af Gq (.slice A1 a.length c2) a,Af Gq (.slice A6 b.length c7) b]) mo (by kernel_rfl) (fun w H=>⟨_,H⟩) H (fun w H=>(Ap U (Ap U ?_))))))))
  obtain ⟨⟨⟨a15,a16,a17,a18,a19,a20,a21,a22⟩,sv23,se24,pv25,pr26⟩,hx14⟩:∃ z9,a[k]?=some z9:=⟨_,List.getElem?_eq_getElem (show k<a.length by omega)⟩
  obtain ⟨A27,c28,A29,c30,rfl,rfl,m31,m32,m33,m34⟩:=H.nestRt 0 rfl hx14
  have th35:=H.thRt 0 rfl hx14
  refine Ak U U U (fun w ⟨Ar,H⟩=>AG (p:=AA A1+k*10) U Hk U U (by omega) (by omega) th35 U) (Ak U U U (fun w ⟨Ar,H⟩=>Bp (cs:=[.int .i64 a15,.int .i64 a16,.int .i64 a17,.int .i64 a18,.int .i64 a19,.int .i64 a20,.int .i64 a21,.int .i64 a22,.slice A27 se24.length c28,.slice A29 pr26.length c30]) U Nh U U (H.elsRt 0 U hx14 0 10 U U)) (Ap U (Ap U ?_)))
  obtain ⟨⟨⟨a38,a39,a40,a41,a42,a43,a44,a45⟩,sv46,se47,pv48,pr49⟩,hx37⟩:∃ z9,b[k]?=some z9:=⟨_,List.getElem?_eq_getElem (show k<b.length by omega)⟩
  obtain ⟨A50,c51,A52,c53,rfl,rfl,m54,m55,m56,m57⟩:=H.nestRt 1 rfl hx37
  have th58:=H.thRt 1 rfl hx37
  refine Ak U U U (fun w ⟨Ar,H⟩=>AG (p:=AA A6+k*10) U Hk U U (by omega) (by omega) th58 U) (Ak U U U (fun w ⟨Ar,H⟩=>Bp (cs:=[.int .i64 a38,.int .i64 a39,.int .i64 a40,.int .i64 a41,.int .i64 a42,.int .i64 a43,.int .i64 a44,.int .i64 a45,.slice A50 se47.length c51,.slice A52 pr49.length c53]) U Nh U U (H.elsRt 1 U hx37 0 10 U U)) (AL U (sc (Zt (⟨a15,a16,a17,a18,a19,a20,a21,a22⟩:BQ) (.slice A27 se24.length c28) se24 (.slice A29 pr26.length c30) pr26 (⟨a38,a39,a40,a41,a42,a43,a44,a45⟩:BQ) (.slice A50 se47.length c51) se47 (.slice A52 pr49.length c53) pr49) H (lX (fun F hA hR=>Nf (hR _ (List.mem_of_getElem? (i:=0) U)) hx14) (lX (fun F hA hR=>Nd (hR _ (List.mem_of_getElem? (i:=0) U)) hx14) (lX (fun F hA hR=>Nf (hR _ (List.mem_of_getElem? (i:=1) U)) hx37) (lX (fun F hA hR=>Nd (hR _ (List.mem_of_getElem? (i:=1) U)) hx37) l0)))) U U (At Wb U U) ?_)))
  rintro _ _ w ⟨rfl,rfl⟩ H
  refine AH ⟨_,H⟩ (Ak U U U (fun w ⟨Ar,H⟩=>CX U U) (Bx (Y ?_)))
  refine Aq U (fun h59=>?_) (fun h59=>?_)
  ·refine Z (Ac (Ab U (Aa (Y (Ai (Ax (Ao (Ao (Ax (Ao (Am U U ?_)))))))))))
   have e:¬ a.map C5=b.map C5:=fun e=>by have g:=WH hx14 hx37 e;exact h59 g
   exact Ag ⟨by rw [decide_eq_false e]<;>rfl,rfl⟩ H
  refine Av (AS (Y (Ac (Ab U (V U U (AP (z:=((k+1:Nat):Int)) U U U (by rw [Ay (by omega) (by omega)];omega)) (Ab U (Aa ?_)))))))
  have e3:C5 (⟨⟨a15,a16,a17,a18,a19,a20,a21,a22⟩,.slice A27 se24.length c28,se24,.slice A29 pr26.length c30,pr26⟩:BU BQ)=C5 (⟨⟨a38,a39,a40,a41,a42,a43,a44,a45⟩,.slice A50 se47.length c51,se47,.slice A52 pr49.length c53,pr49⟩:BU BQ):=by first |exact h59|exact Classical.not_not.1 h59
  exact Bb (s:=k) (k+1) ⟨rfl,rfl,rfl,trivial⟩ ⟨H,by (try dsimp only);omega,hle,WF hx14 hx37 e3 ht⟩ (by (try dsimp only);omega)
 refine Bj (AE (AE (Bk (Y (Z (Ac (Ab U (Aa (Y (Ai (Am U U ?_)))))))))))
 have e:a.map C5=b.map C5:=by rw [←Gy (xs:=a) (k:=k) (by omega),←Gy (xs:=b) (k:=k) (by omega)];exact ht
 exact Ag ⟨by rw [decide_eq_true e]<;>rfl,rfl⟩ H
theorem Xy (x:GF BQ) (se:List Int) (pr:List An) (h1:se.length≤1000000) (h2:pr.length≤1000000):
    Cn Tryz.prog 40 [.agg #[.int .i64 x.h.kind,.int .i64 x.h.sp,.int .i64 x.h.att,.int .i64 x.h.part,.int .i64 x.h.seq,.int .i64 x.h.next,.int .i64 x.h.ep,.int .i64 x.h.why,.slice x.hs.A x.hs.n x.hs.c,.slice x.hp.A x.hp.n x.hp.c]] [Ae (AN .i64) (.slice x.hs.A x.hs.n x.hs.c) se,Ae Al (.slice x.hp.A x.hp.n x.hp.c) pr] [] (fun v Bs=>v=.tuple #[]∧Bs=[]):=by
 intro w0 F0 H
 refine enter Tryz.func40 U U (Nat.le_of_ble_eq_true U) (Z (Ac (B4 U U U U H (fun b1 w H=>(Aa (Y (Z (Ac (V U U (Ah U LT U) (V U U (Aj U EY U (H.cellI 0 U U)) ?_))))))))))
 replace H:=H.p1
 refine sc (Qw (.slice x.hs.A x.hs.n x.hs.c) se (by omega)) H l0 U U (At PJ U U) ?_
 rintro _ _ w rfl H
 refine Aa (Y (Ac (V U U (Ah U LU U) (V U U (Aj U Db U (H.cellI 0 U U)) ?_))))
 replace H:=H.p1
 refine sc (Qx (.slice x.hp.A x.hp.n x.hp.c) pr (by omega)) H l0 U U (At PM U U) ?_
 rintro _ _ w rfl H
 refine Aa (Dg U ?_)
 replace H:=H.nil
 exact Ag ⟨rfl,rfl⟩ H
def ES (u:Nat):ByteArray:=⟨(Lib.decDigits u).toArray⟩
theorem Ir (u:Nat) (h:u<10):(UInt8.ofNat (48+u)).toNat=48+u:=by
 rw [UInt8.toNat_ofNat'];omega
theorem QA (M:Nat):∀ (l1 l2:List UInt8) (acc a:Nat),Lib.parseUintM M acc l1=.ok a→Lib.parseUintM M acc (l1++l2)=Lib.parseUintM M a l2
 |[],l2,acc,a,h=>by
  simp only [Lib.parseUintM] at h
  injection h with h
  subst h;rfl
 |c::r,l2,acc,a,h=>by
  rw [List.cons_append]
  rw [Lib.parseUintM.eq_2] at h ⊢
  by_cases hc:48≤c.toNat∧c.toNat≤57
  ·rw [if_pos hc] at h ⊢
   by_cases h1:1844674407370955162≤acc
   ·rw [if_pos h1] at h;cases h
   ·rw [if_neg h1] at h ⊢
    by_cases h2:M<acc*10+(c.toNat - 48)
    ·rw [if_pos h2] at h;cases h
    ·rw [if_neg h2] at h ⊢
     exact QA M r l2 _ a h
  ·rw [if_neg hc] at h;cases h
theorem XR (M:Nat) (hM:M≤18446744073709551615) (u:Nat):u≤M→Lib.parseUintM M 0 (Lib.decDigits u)=.ok u:=by
 induction u using Nat.strongRecOn with
 |_ u ih=>
  intro hu
  rw [Lib.decDigits]
  split
  ·rename_i h
   unfold Lib.parseUintM
   have e:=Ir u h
   rw [if_pos (by omega),if_neg (by omega),if_neg (by omega)]
   unfold Lib.parseUintM
   congr 1;omega
  ·rename_i h
   rw [QA M _ _ _ _ (ih (u / 10) (by omega) (by omega))]
   unfold Lib.parseUintM
   have e:=Ir (u%10) (by omega)
   rw [if_pos (by omega),if_neg (by omega),if_neg (by omega)]
   unfold Lib.parseUintM
   congr 1;omega
theorem TC (u:Nat):Lib.decDigits u≠[]:=by
 rw [Lib.decDigits]
 split<;>simp
theorem TB (u:Nat):∃ c r,Lib.decDigits u=c::r∧48≤c.toNat∧c.toNat≤57:=by
 induction u using Nat.strongRecOn with
 |_ u ih=>
  rw [Lib.decDigits]
  split
  ·rename_i h
   have e:=Ir u h
   exact ⟨_,[],rfl,by omega,by omega⟩
  ·rename_i h
   obtain ⟨c,r,e,h1,h2⟩:=ih (u / 10) (by omega)
   rw [e]
   exact ⟨c,_,rfl,h1,h2⟩
theorem Ka {v:Int} (h:AF v):Lib.parseIntB 64 (Lib.itoa v)=.ok v:=by
 unfold AF at h
 have hu:Lib.parseUintB 64 (Lib.decDigits v.natAbs)=.ok v.natAbs:=by
  unfold Lib.parseUintB
  rw [if_neg (TC _)]
  exact XR _ (by decide) _ (by have:(2:Nat)^64 - 1=18446744073709551615:=(by decide);omega)
 by_cases hv:v<0
 ·rw [show Lib.itoa v=45::Lib.decDigits v.natAbs from if_pos hv,Lib.parseIntB_minus,hu]
  show (if (2:Nat)^63<v.natAbs then Lib.NumEnd.range else .ok (-(v.natAbs:Int)))=_
  rw [if_neg (by have:(2:Nat)^63=9223372036854775808:=(by decide);omega)]
  congr 1;omega
 ·have e:Lib.itoa v=Lib.decDigits v.natAbs:=by
   unfold Lib.itoa;rw [if_neg hv];congr 1;omega
  obtain ⟨c,r,ec,c1,c2⟩:=TB v.natAbs
  rw [e,ec,Lib.parseIntB_plain _ _ _ (by omega) (by omega),←ec,hu]
  show (if (2:Nat)^63≤v.natAbs then Lib.NumEnd.range else .ok (v.natAbs:Int))=_
  rw [if_neg (by have:(2:Nat)^63=9223372036854775808:=(by decide);omega)]
  congr 1;omega
theorem UN {a b:Int} (ha:AF a) (hb:AF b) (h:Lib.itoa a=Lib.itoa b):a=b:=by
 have h1:=Ka ha
 rw [h,Ka hb] at h1
 injection h1 with h1
 exact h1.symm
theorem TE {a b:Int} (ha:AF a) (hb:AF b) (h:Dt a=Dt b):a=b:=by
 refine UN ha hb ?_
 have:=congrArg (fun s:ByteArray=>s.data.toList) h
 simpa [Dt] using this
/-! ### What the digits spell, with what goes over let go -/
def Fj (n:Int) (b:UInt8):Int:=if 48≤b.toNat∧b.toNat≤57 then IntKind.i64.wrap (IntKind.i64.wrap (n*10)+((b.toNat:Int) - 48)) else n
def DH (l:List UInt8):Int:=l.foldl Fj 0
theorem Ik (l:List UInt8) (b:UInt8):DH (l++[b])=Fj (DH l) b:=by simp [DH]
theorem Nr (x:Int):IntKind.i64.wrap x=(x+9223372036854775808)%18446744073709551616 - 9223372036854775808:=by
 simp only [IntKind.wrap,IntKind.bits,IntKind.signed]
 simp
 omega
theorem Nw (pre:List UInt8) (hp:DH pre=0) (u:Nat):DH (pre++Lib.decDigits u)=IntKind.i64.wrap u:=by
 induction u using Nat.strongRecOn with
 |_ u ih=>
  rw [Lib.decDigits]
  split
  ·rename_i h
   have e:=Ir u h
   rw [Ik,hp]
   unfold Fj
   rw [if_pos (by omega),e]
   simp only [Nr]
   omega
  ·rename_i h
   have e:=Ir (u%10) (by omega)
   rw [←List.append_assoc,Ik,ih (u / 10) (by omega)]
   unfold Fj
   rw [if_pos (by omega),e]
   simp only [Nr]
   omega
theorem Lt:∀ (k u:Nat),u<10^(k+1)→(Lib.decDigits u).length≤k+1
 |0,u,h=>by
  rw [Lib.decDigits,dif_pos (by simpa using h)];simp
 |k+1,u,h=>by
  rw [Lib.decDigits]
  split
  ·simp
  ·rw [List.length_append]
   have:=Lt k (u / 10) (by rw [Nat.pow_succ] at h;omega)
   simp only [List.length_cons,List.length_nil]
   omega
theorem UO {v:Int} (h:AF v):(Lib.itoa v).length≤20:=by
 unfold AF at h
 have h1:=Lt 18 v.natAbs (by have:(10:Nat)^(18+1)=10000000000000000000:=(by decide);omega)
 unfold Lib.itoa
 split
 ·rw [List.length_cons];omega
 ·have:v.toNat=v.natAbs:=by omega
  rw [this];omega
theorem Sq {v:Int} (h:AF v):DH (Lib.itoa v)=IntKind.i64.wrap v.natAbs:=by
 unfold Lib.itoa
 split
 ·exact Nw [45] U _
 ·have:v.toNat=v.natAbs:=by omega
  rw [this];exact Nw [] rfl _
def Dd (s:ByteArray):Int:=if s.size≤20 then DH s.data.toList else 0
def IU (s:ByteArray):Int:=if Dt (Dd s)=s then Dd s else if Dt (IntKind.i64.wrap (-Dd s))=s then IntKind.i64.wrap (-Dd s) else 0
theorem Ny (l:List UInt8):AF (DH l):=by
 have:∀ (l:List UInt8) (n:Int),AF n→AF (l.foldl Fj n):=by
  intro l
  induction l with
  |nil=>intro n h;exact h
  |cons b r ih=>
   intro n h
   refine ih _ ?_
   unfold Fj
   split
   ·exact GY _
   ·exact h
 exact this l 0 Hb
theorem KU (s:ByteArray):AF (Dd s):=by
 unfold Dd
 split
 ·exact Ny _
 ·exact Hb
theorem YS {s:ByteArray} {v:Int} (hv:AF v) (h:Dt v=s):IU s=v:=by
 have hs:s.data.toList=Lib.itoa v:=by rw [←h];simp [Dt]
 have hl:s.size≤20:=by
  have:=UO hv
  rw [←hs] at this
  simpa using this
 have ha:Dd s=IntKind.i64.wrap v.natAbs:=by unfold Dd;rw [if_pos hl,hs,Sq hv]
 have hv':=hv
 unfold AF at hv'
 unfold IU
 rw [ha]
 by_cases h1:Dt (IntKind.i64.wrap v.natAbs)=s
 ·rw [if_pos h1];exact TE (GY _) hv (h1.trans h.symm)
 ·rw [if_neg h1]
  have e:IntKind.i64.wrap (-IntKind.i64.wrap v.natAbs)=v:=by
   have:¬ IntKind.i64.wrap v.natAbs=v:=fun e=>h1 (by rw [e];exact h)
   simp only [Nr] at this ⊢
   omega
  rw [e,if_pos h]
theorem Rd {s:ByteArray} (h:∀ v,AF v→Dt v≠s):IU s=0:=by
 unfold IU
 rw [if_neg (h _ (KU s)),if_neg (h _ (GY _))]
theorem TD {n:Nat} (h:n<10):(⟨#[48,49,50,51,52,53,54,55,56,57]⟩:ByteArray).extract n (n+1)=ES n:=by
 unfold ES
 rw [Lib.decDigits,dif_pos h]
 match n,h with
 |0,_=>decide
 |1,_=>decide
 |2,_=>decide
 |3,_=>decide
 |4,_=>decide
 |5,_=>decide
 |6,_=>decide
 |7,_=>decide
 |8,_=>decide
 |9,_=>decide
theorem TA {n:Nat} (h:¬ n<10):ES (n / 10)++ES (n%10)=ES n:=by
 have e:Lib.decDigits (n%10)=[UInt8.ofNat (48+n%10)]:=by rw [Lib.decDigits,dif_pos (by omega)]
 unfold ES
 rw [e]
 conv=>rhs;rw [Lib.decDigits,dif_neg h]
 apply ByteArray.ext
 simp [ByteArray.data_append]
theorem Jp (u:Nat) (h:u<18446744073709551616):(ES u).size≤20:=by
 have:=Lt 19 u (by have:(10:Nat)^(19+1)=100000000000000000000:=(by decide);omega)
 show (Lib.decDigits u).toArray.size≤20
 simpa using this
theorem TF {n:Int} (h:n<0):(⟨#[45]⟩:ByteArray)++ES n.natAbs=Dt n:=by
 unfold Dt Lib.itoa ES
 rw [if_pos h]
 apply ByteArray.ext
 simp [ByteArray.data_append]
theorem TG {n:Int} (h:¬ n<0):ES n.natAbs=Dt n:=by
 unfold Dt Lib.itoa ES
 rw [if_neg h,show n.toNat=n.natAbs by omega]
theorem Nx {s:ByteArray} {i:Nat} (hi:i≤s.size∧(i=0∨s.size≤20)) (h:s.size≤i∨20<s.size):DH (s.data.toList.take i)=Dd s:=by
 unfold Dd
 split
 ·rename_i h2
  rw [List.take_of_length_le (by have:s.data.toList.length=s.size:=(by simp);omega)]
 ·have:i=0:=by omega
  subst this;rfl
theorem bF {x:Int} (h:0≤x) (h2:x<256):IntKind.u8.wrap x=x:=by
 simp only [IntKind.wrap,IntKind.bits,IntKind.signed]
 simp
 omega
theorem HW (s:ByteArray):dg.num s=IU s:=by
 show FH s=_
 unfold FH
 split
 ·rename_i v h
  have hb:=Lib.parseIntB_bounds h
  split
  ·rename_i he;exact (YS (by unfold AF;omega) he).symm
  ·rename_i hne
   refine (Rd fun w hw e=>?_).symm
   have h2:=Ka hw
   rw [show Lib.itoa w=s.data.toList by rw [←e];simp [Dt],h] at h2
   injection h2 with h2
   subst h2;exact hne e
 ·rename_i hno
  refine (Rd fun w hw e=>?_).symm
  have h2:=Ka hw
  rw [show Lib.itoa w=s.data.toList by rw [←e];simp [Dt]] at h2
  exact hno w h2
theorem aE (n:Nat) (hn:n<18446744073709551616) (ih:∀ u,u<n→Cn Tryz.prog 318 [.int .u64 ((u:Nat):Int)] [] [] (fun v Bs=>v=.string (ES u)∧Bs=[])):
    Cn Tryz.prog 318 [.int .u64 ((n:Nat):Int)] [] [] (fun v Bs=>v=.string (ES n)∧Bs=[]):=by
 intro w0 F0 H
 have hsz:(⟨#[48,49,50,51,52,53,54,55,56,57]⟩:ByteArray).size=10:=rfl
 refine enter Tryz.func318 U U (Nat.le_of_ble_eq_true U) (Z (Ac (Ab U (Aa (Y (Z (Z (Ac (Ab U (V U U (AQ U U U) (Aa (Y ?_))))))))))))
 refine Aq U (fun h1=>?_) (fun h1=>?_)
 ·refine Z (Ac (Ad 2 U (V U U (AP (z:=((n+1:Nat):Int)) U U U (by rw [D5 (by omega) (by omega)];omega)) (V U U (MK (r:=(⟨#[48,49,50,51,52,53,54,55,56,57]⟩:ByteArray).extract (((n:Nat):Int)).toNat (((n+1:Nat):Int)).toNat) U BJ U U U (by omega) (by omega) (by omega) U) (Ab U (Aa (Y (Ai (Ao (Am U U ?_))))))))))
  have e:=TD (show n<10 by omega)
  exact Ag ⟨congrArg Value.string e,rfl⟩ H
 refine Av (Y (Z (Ac (Ab U (V U U (MO (z:=((n / 10:Nat):Int)) U U U (by decide) (by rw [Int.tdiv_eq_ediv_of_nonneg (by omega),show ((n:Nat):Int) / 10=((n / 10:Nat):Int) by omega];exact D5 (by omega) (by omega))) (sc (ih (n / 10) (by omega)) H l0 U U (At JV U U) ?_))))))
 rintro _ _ w ⟨rfl,rfl⟩ H
 have hds2:=Jp (n / 10) (by omega)
 refine Ab U (V U U (IQ (z:=((n%10:Nat):Int)) U U U (by decide) (by rw [Int.tmod_eq_emod_of_nonneg (by omega)];omega)) (sc (ih (n%10) (by omega)) H l0 U U (At JV U U) ?_))
 rintro _ _ w ⟨rfl,rfl⟩ H
 have hds3:=Jp (n%10) (by omega)
 refine V U U (Kc U U U (by omega)) (Ab U (Aa (Y (Ai (Am U U ?_)))))
 have e:=TA (show ¬ n<10 by omega)
 exact Ag ⟨congrArg Value.string e,rfl⟩ H
theorem Sg (n:Nat) (hn:n<18446744073709551616):Cn Tryz.prog 318 [.int .u64 ((n:Nat):Int)] [] [] (fun v Bs=>v=.string (ES n)∧Bs=[]):=by
 induction n using Nat.strongRecOn with
 |_ n ih=>exact aE n hn fun u hu=>ih u hu (by omega)
theorem IN (n:Int) (hn:AF n):
    Cn Tryz.prog 292 [.int .i64 n] [] [] (fun v Bs=>v=.string (Dt n)∧Bs=[]):=by
 intro w0 F0 H
 unfold AF at hn
 have hs1:(⟨#[45]⟩:ByteArray).size=1:=rfl
 refine enter Tryz.func292 U U (Nat.le_of_ble_eq_true U) (Z (Ac (Ab U (Aa (Y (Z (Z (Ac (Ab U (V U U (AQ U U U) (Aa (Y ?_))))))))))))
 refine Aq U (fun h1=>?_) (fun h1=>?_)
 ·refine Z (Ac (Ab U (V U U (AP (z:=n+1) U U U (Ay (by omega) (by omega))) (V U U (IP U U (Ay (by omega) (by omega))) (V U U (CW (z:=0 - (n+1)) U U Gd Fv (D5 (by omega) (by omega))) (V U U (AP (z:=((n.natAbs:Nat):Int)) U U U ((D5 (by omega) (by omega)).trans (by omega))) (sc (Sg n.natAbs (by omega)) H l0 U U (At JV U U) ?_)))))))
  rintro _ _ w ⟨rfl,rfl⟩ H
  have hds:=Jp n.natAbs (by omega)
  exact V U U (Kc U U U (by omega)) (Ab U (Aa (Y (Ai (Ao (Am U U (Ag ⟨congrArg Value.string (TF h1),rfl⟩ H)))))))
 refine Av (Y (Z (Ac (Ab U (V U U (CW (z:=((n.natAbs:Nat):Int)) U U Gd Fv ((D5 (by omega) (by omega)).trans (by omega))) (sc (Sg n.natAbs (by omega)) H l0 U U (At JV U U) ?_))))))
 rintro _ _ w ⟨rfl,rfl⟩ H
 have hds:=Jp n.natAbs (by omega)
 exact Ab U (Aa (Y (Ai (Am U U (Ag ⟨congrArg Value.string (TG h1),rfl⟩ H)))))
theorem Yk (s:ByteArray) (hs0:s.size≤9223372036854775807):
    Cn Tryz.prog 293 [.string s] [] [] (fun v Bs=>v=.int .i64 (dg.num s)∧Bs=[]):=by
 intro w0 F0 H
 refine enter Tryz.func293 U U (Nat.le_of_ble_eq_true U) (Z (Ac (Ab U (Aa (Y (Z (Ac (Ab U (Aa (Y (Z (Z (Ac (Ab U (Aa (Y (AK (Br (σ:=Nat) (fun i=>[(0,.string s),(2,.int .i64 0),(3,.int .i64 (DH (s.data.toList.take i))),(4,.int .i64 ((i:Nat):Int))]) (fun i w=>(Hd w0 F0 w [] [])∧(i≤s.size∧(i=0∨s.size≤20))) (fun i=>s.size - i) 0 ⟨rfl,rfl,rfl,rfl,trivial⟩ ⟨H,⟨Nat.zero_le _,.inl rfl⟩⟩ ?_))))))))))))))))))
 rintro i w ⟨H,hi⟩
 have hac:=Ny (s.data.toList.take i)
 unfold AF at hac
 refine Z (Z (Ac (Ad 2 U (V U U (Cl U BJ U) (V U U (AQ U U U) (Ab U ?_))))))
 refine AD (d:=9) U (fun h1=>?_) (fun h1=>?_)
 ·refine Ab U (V U U (Cl U BJ U) (V U U (BX U U U) (Ab U (Aa (Y ?_)))))
  refine Aq U (fun h2=>?_) (fun h2=>?_)
  ·refine Av (Y (Z (AK (Z (Ac (Ad 2 U ?_))))))
   obtain ⟨b,hb⟩:∃ b,s[i]?=some b:=⟨_,getElem?_pos s i (by omega)⟩
   refine V U U (E8 U BJ U U (by omega) hb) (V U U (BN U U U) (Ab U ?_))
   refine AD (d:=20) U (fun h3=>?_) (fun h3=>?_)
   ·refine Ad 2 U (V U U (E8 U BJ U U (by omega) hb) (V U U (BX U U U) (Ab U (Aa (Y ?_)))))
    refine Aq U (fun h4=>?_) (fun h4=>?_)
    ·refine Ac (Ab U (V U U (Fs (z:=IntKind.i64.wrap (DH (s.data.toList.take i)*10)) U U U U) (Ad 2 U (V U U (E8 U BJ U U (by omega) hb) (V U U (Cm (z:=(b.toNat:Int) - 48) U U U (bF (by omega) (by omega))) (V U U (CW (z:=(b.toNat:Int) - 48) U U Ge Gd (Ay (by have:=UInt8.toNat_lt b;omega) (by have:=UInt8.toNat_lt b;omega))) (V U U (AP (z:=IntKind.i64.wrap (IntKind.i64.wrap (DH (s.data.toList.take i)*10)+((b.toNat:Int) - 48))) U U U U) (Ab U (Aa (AS (Y (Ac (Ab U (V U U (AP (z:=((i+1:Nat):Int)) U U U (by rw [Ay (by omega) (by omega)];omega)) (Ab U (Aa ?_))))))))))))))))
     have ha2:DH (s.data.toList.take (i+1))=Fj (DH (s.data.toList.take i)) b:=by rw [DV (Ed hb),Ik]
     unfold Fj at ha2
     rw [if_pos (by omega)] at ha2
     exact Bb (s:=i) (i+1) ⟨rfl,rfl,(by rw [ha2]<;>rfl),rfl,trivial⟩ ⟨H,by (try dsimp only);omega⟩ (by (try dsimp only);omega)
    refine Av (AS (Y (Ac (Ab U (V U U (AP (z:=((i+1:Nat):Int)) U U U (by rw [Ay (by omega) (by omega)];omega)) (Ab U (Aa ?_)))))))
    have ha2:DH (s.data.toList.take (i+1))=Fj (DH (s.data.toList.take i)) b:=by rw [DV (Ed hb),Ik]
    unfold Fj at ha2
    rw [if_neg (by omega)] at ha2
    exact Bb (s:=i) (i+1) ⟨rfl,rfl,(by rw [ha2]<;>rfl),rfl,trivial⟩ ⟨H,by (try dsimp only);omega⟩ (by (try dsimp only);omega)
   refine Ad 5 U (Aa (Y (B0 U (Av (AS (Y (Ac (Ab U (V U U (AP (z:=((i+1:Nat):Int)) U U U (by rw [Ay (by omega) (by omega)];omega)) (Ab U (Aa ?_)))))))))))
   have ha2:DH (s.data.toList.take (i+1))=Fj (DH (s.data.toList.take i)) b:=by rw [DV (Ed hb),Ik]
   unfold Fj at ha2
   rw [if_neg (by omega)] at ha2
   exact Bb (s:=i) (i+1) ⟨rfl,rfl,(by rw [ha2]<;>rfl),rfl,trivial⟩ ⟨H,by (try dsimp only);omega⟩ (by (try dsimp only);omega)
  refine Bj (AE (AE (Bk (Y (Z (Z ?_))))))
  have hacc:DH (s.data.toList.take i)=Dd s:=Nx hi (by omega)
  have hai:=KU s
  rw [hacc]
  refine Ac (Ab U (sc (IN (Dd s) hai) H l0 U U (At IB U U) ?_))
  rintro _ _ w ⟨rfl,rfl⟩ H
  refine Ab U (V U U (EB U U U) (Aa (Y ?_)))
  refine Aq U (fun h5=>?_) (fun h5=>?_)
  ·refine Z (Ac (Ad 2 U (Aa (Y (Ai (Ao (Am U U ?_)))))))
   have e:dg.num s=Dd s:=(HW s).trans (if_pos h5)
   exact Ag ⟨by rw [e]<;>rfl,rfl⟩ H
  refine Av (Y (Z (Z (Ac (Ab U (V U U (IP (z:=IntKind.i64.wrap (-Dd s)) U U (by rw [Int.zero_sub])) (sc (IN (IntKind.i64.wrap (-Dd s)) (GY _)) H l0 U U (At IB U U) ?_)))))))
  rintro _ _ w ⟨rfl,rfl⟩ H
  refine Ab U (V U U (EB U U U) (Aa (Y ?_)))
  refine Aq U (fun h6=>?_) (fun h6=>?_)
  ·refine Z (Ac (Ab U (V U U (IP (z:=IntKind.i64.wrap (-Dd s)) U U (by rw [Int.zero_sub])) (Ab U (Aa (Y (Ai (Ao (Am U U ?_)))))))))
   have e:dg.num s=IntKind.i64.wrap (-Dd s):=(HW s).trans ((if_neg h5).trans (if_pos h6))
   exact Ag ⟨by rw [e]<;>rfl,rfl⟩ H
  refine Av (Y (Z (Ac (Ab U (Aa (Y (Ai (Am U U ?_))))))))
  have e:dg.num s=0:=(HW s).trans ((if_neg h5).trans (if_neg h6))
  exact Ag ⟨by rw [e]<;>rfl,rfl⟩ H
 refine Ad 4 U (Aa (Y (B0 U (Bj (AE (AE (Bk (Y (Z (Z ?_))))))))))
 have hacc:DH (s.data.toList.take i)=Dd s:=Nx hi (by omega)
 have hai:=KU s
 rw [hacc]
 refine Ac (Ab U (sc (IN (Dd s) hai) H l0 U U (At IB U U) ?_))
 rintro _ _ w ⟨rfl,rfl⟩ H
 refine Ab U (V U U (EB U U U) (Aa (Y ?_)))
 refine Aq U (fun h7=>?_) (fun h7=>?_)
 ·refine Z (Ac (Ad 2 U (Aa (Y (Ai (Ao (Am U U ?_)))))))
  have e:dg.num s=Dd s:=(HW s).trans (if_pos h7)
  exact Ag ⟨by rw [e]<;>rfl,rfl⟩ H
 refine Av (Y (Z (Z (Ac (Ab U (V U U (IP (z:=IntKind.i64.wrap (-Dd s)) U U (by rw [Int.zero_sub])) (sc (IN (IntKind.i64.wrap (-Dd s)) (GY _)) H l0 U U (At IB U U) ?_)))))))
 rintro _ _ w ⟨rfl,rfl⟩ H
 refine Ab U (V U U (EB U U U) (Aa (Y ?_)))
 refine Aq U (fun h8=>?_) (fun h8=>?_)
 ·refine Z (Ac (Ab U (V U U (IP (z:=IntKind.i64.wrap (-Dd s)) U U (by rw [Int.zero_sub])) (Ab U (Aa (Y (Ai (Ao (Am U U ?_)))))))))
  have e:dg.num s=IntKind.i64.wrap (-Dd s):=(HW s).trans ((if_neg h7).trans (if_pos h8))
  exact Ag ⟨by rw [e]<;>rfl,rfl⟩ H
 refine Av (Y (Z (Ac (Ab U (Aa (Y (Ai (Am U U ?_))))))))
 have e:dg.num s=0:=(HW s).trans ((if_neg h7).trans (if_neg h8))
 exact Ag ⟨by rw [e]<;>rfl,rfl⟩ H
def Cc (sv:Value) (g:Nat→Az) (key:ByteArray) (vv:Value) (k:Int) (tv:Value):List Value:=
 [sv,.bool (g 0).t,.int .i64 (g 0).n,.string (g 0).b,.bool (g 1).t,.int .i64 (g 1).n,.string (g 1).b,.bool (g 2).t,.int .i64 (g 2).n,.string (g 2).b,.bool (g 3).t,.int .i64 (g 3).n,.string (g 3).b,
  .bool (g 4).t,.int .i64 (g 4).n,.string (g 4).b,.bool (g 5).t,.int .i64 (g 5).n,.string (g 5).b,.bool (g 6).t,.int .i64 (g 6).n,.string (g 6).b,.bool (g 7).t,.int .i64 (g 7).n,.string (g 7).b,
  .string key,vv,.int .i64 k,tv]
section
variable {sv vv tv:Value} {g:Nat→Az} {key:ByteArray} {k:Int}
theorem Wz {j:Nat} (h:j<8):((Cc sv g key vv k tv).drop (1+j*3)).take 3=HE (g j):=by
 match j,h with
 |0,_=>rfl
 |1,_=>rfl
 |2,_=>rfl
 |3,_=>rfl
 |4,_=>rfl
 |5,_=>rfl
 |6,_=>rfl
 |7,_=>rfl
theorem WA {j:Nat} (h:j<8) (v:Az):EL (Cc sv g key vv k tv) (1+j*3) (HE v)=Cc sv (Ga g j v) key vv k tv:=by
 match j,h with
 |0,_=>rfl
 |1,_=>rfl
 |2,_=>rfl
 |3,_=>rfl
 |4,_=>rfl
 |5,_=>rfl
 |6,_=>rfl
 |7,_=>rfl
end
def A0 (op:Int):ByteArray:=
 if op=3∨op=4∨op=22 then ⟨#[63]⟩ else if op=5∨op=12 then ⟨#[63,63]⟩ else if op=8∨op=9∨op=10∨op=11 then ⟨#[110,110]⟩
 else if op=13∨op=23 then ⟨#[116,116]⟩ else if op=14∨op=18 then ⟨#[116]⟩ else if op=15 then ⟨#[116,110]⟩ else if op=16 then ⟨#[116,110,110]⟩ else if op=17∨op=20 then ⟨#[110]⟩ else ⟨#[]⟩
def DM (c:UInt8) (v:Az):Bool:=!((c==110 && v.t)||(c==116 && !v.t))
def Ev:List UInt8→List Az→Bool
 |c::cs,v::vs=>DM c v && Ev cs vs
 |_,_=>true
theorem Iy (op:Int):(A0 op).size=(AW op).size:=by
 unfold A0 AW
 repeat (first |rfl|split)
theorem Oo (op:Int) (vs:List Az):Ev (A0 op).data.toList vs=DN (AW op).data.toList vs:=by
 have e1:∀ v,DM 63 v=DL 101 v:=fun v=>by unfold DM DL;simp
 have e2:∀ v,DM 110 v=DL 110 v:=fun v=>by unfold DM DL;simp
 have e3:∀ v,DM 116 v=DL 98 v:=fun v=>by unfold DM DL;simp
 have n0:∀ vs,Ev [] vs=DN [] vs:=fun vs=>rfl
 have st:∀ (a b:UInt8) (xs ys:List UInt8),(∀ v,DM a v=DL b v)→(∀ vs,Ev xs vs=DN ys vs)→∀ vs,Ev (a::xs) vs=DN (b::ys) vs:=by
  intro a b xs ys h1 h2 vs
  cases vs with
  |nil=>rfl
  |cons v vs=>show (DM a v && Ev xs vs)=(DL b v && DN ys vs);rw [h1,h2]
 unfold A0 AW
 split
 ·exact st _ _ _ _ e1 n0 vs
 ·split
  ·exact st _ _ _ _ e1 (st _ _ _ _ e1 n0) vs
  ·split
   ·exact st _ _ _ _ e2 (st _ _ _ _ e2 n0) vs
   ·split
    ·exact st _ _ _ _ e3 (st _ _ _ _ e3 n0) vs
    ·split
     ·exact st _ _ _ _ e3 n0 vs
     ·split
      ·exact st _ _ _ _ e3 (st _ _ _ _ e2 n0) vs
      ·split
       ·exact st _ _ _ _ e3 (st _ _ _ _ e2 (st _ _ _ _ e2 n0)) vs
       ·split
        ·exact st _ _ _ _ e2 n0 vs
        ·rfl
structure CT where
 out:List Az
 why:Int
 g:Nat→Az
 k:Nat
 told:List An
def AY (D:Bc) (key:ByteArray) (g:Nat→Az) (full:List ByteArray) (k:Nat) (told:List An) (i:Bm) (v:List Az):CT:=
 let v0:=v.getD 0 Bt;let v1:=v.getD 1 Bt;let v2:=v.getD 2 Bt
 if i.op=1 then ⟨[Ch i.a],0,g,k,told⟩
 else if i.op=2 then ⟨[C2 i.s],0,g,k,told⟩
 else if i.op=3 then ⟨[v0,v0],0,g,k,told⟩
 else if i.op=5 then ⟨[v1,v0],0,g,k,told⟩
 else if i.op=6 then ⟨[C2 key],0,g,k,told⟩
 else if i.op=7 then (match full[k]? with
  |none=>⟨[Ch 0],0,g,k,told⟩
  |some x=>⟨[C2 x,Ch 1],0,g,k+1,told⟩)
 else if i.op=8∨i.op=9∨i.op=10∨i.op=11 then ⟨[BT i.op v0.n v1.n],0,g,k,told⟩
 else if i.op=12 then ⟨[J_ (Dj v0 v1)],0,g,k,told⟩
 else if i.op=13 then ⟨[C2 (v0.b++v1.b)],0,g,k,told⟩
 else if i.op=14 then ⟨[Ch v0.b.size],0,g,k,told⟩
 else if i.op=15 then ⟨[Ch (DB v0.b v1.n)],0,g,k,told⟩
 else if i.op=16 then ⟨[C2 (Ee v0.b v1.n v2.n)],0,g,k,told⟩
 else if i.op=17 then ⟨[C2 (D.dig v0.n)],0,g,k,told⟩
 else if i.op=18 then ⟨[Ch (D.num v0.b)],0,g,k,told⟩
 else if i.op=21 then ⟨[g i.a.toNat],0,g,k,told⟩
 else if i.op=22 then ⟨[],0,Ga g i.a.toNat v0,k,told⟩
 else if i.op=23 then ⟨[],(C_ told v0.b v1.b).1,g,k,(C_ told v0.b v1.b).2⟩
 else ⟨[],0,g,k,told⟩
section
variable {D:Bc} {key:ByteArray} {g:Nat→Az} {full:List ByteArray} {k:Nat} {told:List An} {i:Bm} {v:List Az}
theorem Rl (h:i.op=1):AY D key g full k told i v=⟨[Ch i.a],0,g,k,told⟩:=by unfold AY;rw [h];rfl
theorem Ru (h:i.op=2):AY D key g full k told i v=⟨[C2 i.s],0,g,k,told⟩:=by unfold AY;rw [h];rfl
theorem Rx (h:i.op=3):AY D key g full k told i v=⟨[v.getD 0 Bt,v.getD 0 Bt],0,g,k,told⟩:=by unfold AY;rw [h];rfl
theorem Ry (h:i.op=5):AY D key g full k told i v=⟨[v.getD 1 Bt,v.getD 0 Bt],0,g,k,told⟩:=by unfold AY;rw [h];rfl
theorem Rz (h:i.op=6):AY D key g full k told i v=⟨[C2 key],0,g,k,told⟩:=by unfold AY;rw [h];rfl
theorem Kk (h:i.op=7) (hk:full.length≤k):AY D key g full k told i v=⟨[Ch 0],0,g,k,told⟩:=by unfold AY;rw [h,List.getElem?_eq_none hk];rfl
theorem Kl {x:ByteArray} (h:i.op=7) (hk:full[k]?=some x):AY D key g full k told i v=⟨[C2 x,Ch 1],0,g,k+1,told⟩:=by unfold AY;rw [h,hk];rfl
theorem IW (h:i.op=8∨i.op=9∨i.op=10∨i.op=11):AY D key g full k told i v=⟨[BT i.op (v.getD 0 Bt).n (v.getD 1 Bt).n],0,g,k,told⟩:=by
 unfold AY;rcases h with h|h|h|h<;>(rw [h];rfl)
theorem Rm (h:i.op=12):AY D key g full k told i v=⟨[J_ (Dj (v.getD 0 Bt) (v.getD 1 Bt))],0,g,k,told⟩:=by unfold AY;rw [h];rfl
theorem Rn (h:i.op=13):AY D key g full k told i v=⟨[C2 ((v.getD 0 Bt).b++(v.getD 1 Bt).b)],0,g,k,told⟩:=by unfold AY;rw [h];rfl
theorem Ro (h:i.op=14):AY D key g full k told i v=⟨[Ch (v.getD 0 Bt).b.size],0,g,k,told⟩:=by unfold AY;rw [h];rfl
theorem Rp (h:i.op=15):AY D key g full k told i v=⟨[Ch (DB (v.getD 0 Bt).b (v.getD 1 Bt).n)],0,g,k,told⟩:=by unfold AY;rw [h];rfl
theorem Rq (h:i.op=16):AY D key g full k told i v=⟨[C2 (Ee (v.getD 0 Bt).b (v.getD 1 Bt).n (v.getD 2 Bt).n)],0,g,k,told⟩:=by unfold AY;rw [h];rfl
theorem Rr (h:i.op=17):AY D key g full k told i v=⟨[C2 (D.dig (v.getD 0 Bt).n)],0,g,k,told⟩:=by unfold AY;rw [h];rfl
theorem Rt (h:i.op=18):AY D key g full k told i v=⟨[Ch (D.num (v.getD 0 Bt).b)],0,g,k,told⟩:=by unfold AY;rw [h];rfl
theorem Rv (h:i.op=21):AY D key g full k told i v=⟨[g i.a.toNat],0,g,k,told⟩:=by unfold AY;rw [h];rfl
theorem Rw (h:i.op=22):AY D key g full k told i v=⟨[],0,Ga g i.a.toNat (v.getD 0 Bt),k,told⟩:=by unfold AY;rw [h];rfl
theorem IV (h:i.op=23):AY D key g full k told i v=⟨[],(C_ told (v.getD 0 Bt).b (v.getD 1 Bt).b).1,g,k,(C_ told (v.getD 0 Bt).b (v.getD 1 Bt).b).2⟩:=by unfold AY;rw [h];rfl
theorem MS (h:i.op=0∨i.op=4∨i.op=19∨i.op=20):AY D key g full k told i v=⟨[],0,g,k,told⟩:=by
 unfold AY;rcases h with h|h|h|h<;>(rw [h];rfl)
theorem X2 {stk:List Az} (h:stk.length≤16):Bz stk []=(0,stk++[]):=by
 unfold Bz
 rw [if_neg (by simp),if_neg (by simp;omega)]
def DS (D:Bc) (key:ByteArray) (pos:Int) (rest:List Az) (g:Nat→Az) (full:List ByteArray) (k:Nat) (told:List An) (i:Bm) (v:List Az):Prop:=
 let r:=AY D key g full k told i v
 (r.why≠0→(BS D key ⟨pos,false,rest,g,told,full.drop k⟩ i v).2=r.why)∧
 (r.why=0→BS D key ⟨pos,false,rest,g,told,full.drop k⟩ i v=(⟨pos,false,(Bz rest r.out).2,r.g,r.told,full.drop r.k⟩,(Bz rest r.out).1))
theorem Re {pos:Int} {rest:List Az} {n:Int} (hl:rest.length≤16) (hi:Bf i n) (h0:i.op≠0) (h19:i.op≠19) (h20:i.op=20→¬ (v.getD 0 Bt).n≠0):DS D key pos rest g full k told i v:=by
 have g1:=hi.1
 have g2:=hi.2.1
 have nil:∀ (m:VM),m.stk.length≤16→({m with stk:=(Bz m.stk []).2},(Bz m.stk []).1)=(m,(0:Int)):=by
  intro m hm
  rw [X2 hm,List.append_nil]
 rcases (show i.op=1∨i.op=2∨i.op=3∨i.op=4∨i.op=5∨i.op=6∨i.op=7∨(i.op=8∨i.op=9∨i.op=10∨i.op=11)∨i.op=12∨i.op=13∨i.op=14∨i.op=15∨i.op=16∨i.op=17∨i.op=18∨i.op=20∨i.op=21∨i.op=22∨i.op=23 by omega) with
  e|e|e|e|e|e|e|e|e|e|e|e|e|e|e|e|e|e|e
 ·unfold DS;rw [Rl e,KW e];exact ⟨fun h=>absurd rfl h,fun _=>rfl⟩
 ·unfold DS;rw [Ru e,K9 e];exact ⟨fun h=>absurd rfl h,fun _=>rfl⟩
 ·unfold DS;rw [Rx e,Lc e];exact ⟨fun h=>absurd rfl h,fun _=>rfl⟩
 ·unfold DS;rw [MS (by omega),Ld e];exact ⟨fun h=>absurd rfl h,fun _=>(nil ⟨pos,false,rest,g,told,full.drop k⟩ hl).symm⟩
 ·unfold DS;rw [Ry e,Le e];exact ⟨fun h=>absurd rfl h,fun _=>rfl⟩
 ·unfold DS;rw [Rz e,Lf e];exact ⟨fun h=>absurd rfl h,fun _=>rfl⟩
 ·unfold DS
  rcases Nat.lt_or_ge k full.length with hk|hk
  ·have hx:full[k]?=some full[k]:=List.getElem?_eq_getElem hk
   rw [Kl e hx,Jd e]
   refine ⟨fun h=>absurd rfl h,fun _=>?_⟩
   unfold F7
   rw [show ({pos:=pos,halted:=false,stk:=rest,g:=g,told:=told,vals:=full.drop k}:VM).vals=full[k]::full.drop (k+1) from List.drop_eq_getElem_cons hk]
   rfl
  ·rw [Kk e hk,Jd e]
   refine ⟨fun h=>absurd rfl h,fun _=>?_⟩
   unfold F7
   have hn:full.drop k=[]:=List.drop_eq_nil_of_le hk
   rw [hn]
   rfl
 ·unfold DS;rw [IW e,HA e];exact ⟨fun h=>absurd rfl h,fun _=>rfl⟩
 ·unfold DS;rw [Rm e,KX e];exact ⟨fun h=>absurd rfl h,fun _=>rfl⟩
 ·unfold DS;rw [Rn e,KY e];exact ⟨fun h=>absurd rfl h,fun _=>rfl⟩
 ·unfold DS;rw [Ro e,KZ e];exact ⟨fun h=>absurd rfl h,fun _=>rfl⟩
 ·unfold DS;rw [Rp e,K0 e];exact ⟨fun h=>absurd rfl h,fun _=>rfl⟩
 ·unfold DS;rw [Rq e,K5 e];exact ⟨fun h=>absurd rfl h,fun _=>rfl⟩
 ·unfold DS;rw [Rr e,K6 e];exact ⟨fun h=>absurd rfl h,fun _=>rfl⟩
 ·unfold DS;rw [Rt e,K7 e];exact ⟨fun h=>absurd rfl h,fun _=>rfl⟩
 ·unfold DS;rw [MS (by omega),Io e,if_neg (h20 e)];exact ⟨fun h=>absurd rfl h,fun _=>(nil ⟨pos,false,rest,g,told,full.drop k⟩ hl).symm⟩
 ·unfold DS;rw [Rv e,K_ e];exact ⟨fun h=>absurd rfl h,fun _=>rfl⟩
 ·unfold DS;rw [Rw e,La e];exact ⟨fun h=>absurd rfl h,fun _=>(nil ⟨pos,false,rest,_,told,full.drop k⟩ hl).symm⟩
 ·unfold DS
  rw [IV e,Lb e]
  refine ⟨fun _=>rfl,fun h=>?_⟩
  have h':(C_ told (v.getD 0 Bt).b (v.getD 1 Bt).b).1=0:=h
  show (_,(C_ told (v.getD 0 Bt).b (v.getD 1 Bt).b).1)=_
  rw [h']
  exact (nil ⟨pos,false,rest,g,(C_ told (v.getD 0 Bt).b (v.getD 1 Bt).b).2,full.drop k⟩ hl).symm
end
theorem FL (n:Int):
    Cn Tryz.prog 286 [.int .i64 n] [] [] (fun v Bs=>v=.agg #[.bool false,.int .i64 n,.string ⟨#[]⟩]∧Bs=[]):=by
 intro w0 F0 H
 refine enter Tryz.func286 U U (Nat.le_of_ble_eq_true U) (Z (Ac (Do U U U BV H (fun b1 w H=>(Aa (Y (Z (Ac (Ab U (V U U (CV (parts:=[(1,.tmp 3)]) (vs:=[.int .i64 n]) (cs:=[.bool false,.int .i64 n,.string ⟨#[]⟩]) U Jh U U) (By U U U B5 U U H U (Nat.le_of_ble_eq_true U) (fun u hu=>by simp [Value.cells] at hu;rcases hu with rfl|rfl|rfl<;>rfl) (fun w H=>(Aa (Y (Ai (EW (cs:=[.bool false,.int .i64 n,.string ⟨#[]⟩]) U U B5 U (H.cellsI 0 U U) ?_))))))))))))))))
 replace H:=H.nil
 exact Ag ⟨rfl,rfl⟩ H
theorem H6 (s:ByteArray):
    Cn Tryz.prog 287 [.string s] [] [] (fun v Bs=>v=.agg #[.bool true,.int .i64 0,.string s]∧Bs=[]):=by
 intro w0 F0 H
 refine enter Tryz.func287 U U (Nat.le_of_ble_eq_true U) (Z (Ac (Do U U U BV H (fun b1 w H=>(Aa (Y (Z (Ac (Ab U (V U U (CV (parts:=[(0,.const (.bool true)),(2,.tmp 3)]) (vs:=[.bool true,.string s]) (cs:=[.bool true,.int .i64 0,.string s]) U Jh U U) (By U U U B5 U U H U (Nat.le_of_ble_eq_true U) (fun u hu=>by simp [Value.cells] at hu;rcases hu with rfl|rfl|rfl<;>rfl) (fun w H=>(Aa (Y (Ai (EW (cs:=[.bool true,.int .i64 0,.string s]) U U B5 U (H.cellsI 0 U U) ?_))))))))))))))))
 replace H:=H.nil
 exact Ag ⟨rfl,rfl⟩ H
theorem QT (b:Bool):
    Cn Tryz.prog 288 [.bool b] [] [] (fun v Bs=>v=.agg #[.bool false,.int .i64 (if b=true then 1 else 0),.string ⟨#[]⟩]∧Bs=[]):=by
 intro w0 F0 H
 refine enter Tryz.func288 U U (Nat.le_of_ble_eq_true U) (Z (Ac (Do U U U BV H (fun b1 w H=>(Aa (Y (Z (Z (Ac (Ab U (Aa (Y ?_))))))))))))
 refine DJ (b:=b) U (fun h2=>?_) (fun h2=>?_)
 ·refine Z (Ac (sc (FL 1) H l0 U U (At FE U U) ?_))
  rintro _ _ w ⟨rfl,rfl⟩ H
  refine By U U U B5 U U H U (Nat.le_of_ble_eq_true U) (fun u hu=>by simp [Value.cells] at hu;rcases hu with rfl|rfl|rfl<;>rfl) (fun w H=>(Aa (Y (Ai (Ao (EW (cs:=[.bool false,.int .i64 1,.string ⟨#[]⟩]) U U B5 U (H.cellsI 0 U U) ?_))))))
  replace H:=H.nil
  exact Ag ⟨by simp only [h2];rfl,rfl⟩ H
 refine Av (Y (Z (Ac (sc (FL 0) H l0 U U (At FE U U) ?_))))
 rintro _ _ w ⟨rfl,rfl⟩ H
 refine By U U U B5 U U H U (Nat.le_of_ble_eq_true U) (fun u hu=>by simp [Value.cells] at hu;rcases hu with rfl|rfl|rfl<;>rfl) (fun w H=>(Aa (Y (Ai (EW (cs:=[.bool false,.int .i64 0,.string ⟨#[]⟩]) U U B5 U (H.cellsI 0 U U) ?_)))))
 replace H:=H.nil
 exact Ag ⟨by simp only [h2];rfl,rfl⟩ H
theorem Yf (op:Int):
    Cn Tryz.prog 260 [.int .i64 op] [] [] (fun v Bs=>v=.string (A0 op)∧Bs=[]):=by
 intro w0 F0 H
 refine enter Tryz.func260 U U (Nat.le_of_ble_eq_true U) (Z (Ac (Ab U (Aa (Y (Z (Z (Ac (Ab U (Aa (Y (AK (Z (Z (Ac (V U U (AT U U U) (Ab U (Aa (Y ?_)))))))))))))))))))
 refine Aq U (fun h1=>?_) (fun h1=>?_)
 ·refine Av (Y ?_)
  refine Aq U (fun h2=>?_) (fun h2=>?_)
  ·exact Z (Ac (Ab U (Aa (Y (Ai (Ax (Ao (Am U U (Ag ⟨congrArg Value.string (by unfold A0;repeat (first |rw [if_pos (by omega)]|rw [if_neg (by omega)])),rfl⟩ H)))))))))
  exact absurd h1 h2
 refine Z (Ac (V U U (AT U U U) (Ab U (Aa (Y ?_)))))
 refine Aq U (fun h3=>?_) (fun h3=>?_)
 ·refine Av (Y ?_)
  refine Aq U (fun h4=>?_) (fun h4=>?_)
  ·exact Z (Ac (Ab U (Aa (Y (Ai (Ax (Ao (Am U U (Ag ⟨congrArg Value.string (by unfold A0;repeat (first |rw [if_pos (by omega)]|rw [if_neg (by omega)])),rfl⟩ H)))))))))
  exact absurd h3 h4
 refine Ac (V U U (AT U U U) (Ab U (Aa (Y ?_))))
 refine Aq U (fun h5=>?_) (fun h5=>?_)
 ·exact Z (Ac (Ab U (Aa (Y (Ai (Ax (Ao (Am U U (Ag ⟨congrArg Value.string (by unfold A0;repeat (first |rw [if_pos (by omega)]|rw [if_neg (by omega)])),rfl⟩ H)))))))))
 refine Z (Z (Ac (V U U (AT U U U) (Ab U (Aa (Y ?_))))))
 refine Aq U (fun h6=>?_) (fun h6=>?_)
 ·refine Av (Y ?_)
  refine Aq U (fun h7=>?_) (fun h7=>?_)
  ·exact Z (Ac (Ab U (Aa (Y (Ai (Ax (Ao (Am U U (Ag ⟨congrArg Value.string (by unfold A0;repeat (first |rw [if_pos (by omega)]|rw [if_neg (by omega)])),rfl⟩ H)))))))))
  exact absurd h6 h7
 refine Ac (V U U (AT U U U) (Ab U (Aa (Y ?_))))
 refine Aq U (fun h8=>?_) (fun h8=>?_)
 ·exact Z (Ac (Ab U (Aa (Y (Ai (Ax (Ao (Am U U (Ag ⟨congrArg Value.string (by unfold A0;repeat (first |rw [if_pos (by omega)]|rw [if_neg (by omega)])),rfl⟩ H)))))))))
 refine Z (Z (Ac (V U U (AT U U U) (Ab U (Aa (Y ?_))))))
 refine Aq U (fun h9=>?_) (fun h9=>?_)
 ·refine Av (Y ?_)
  refine Aq U (fun h10=>?_) (fun h10=>?_)
  ·exact Z (Ac (Ab U (Aa (Y (Ai (Ax (Ao (Am U U (Ag ⟨congrArg Value.string (by unfold A0;repeat (first |rw [if_pos (by omega)]|rw [if_neg (by omega)])),rfl⟩ H)))))))))
  exact absurd h9 h10
 refine Z (Ac (V U U (AT U U U) (Ab U (Aa (Y ?_)))))
 refine Aq U (fun h11=>?_) (fun h11=>?_)
 ·refine Av (Y ?_)
  refine Aq U (fun h12=>?_) (fun h12=>?_)
  ·exact Z (Ac (Ab U (Aa (Y (Ai (Ax (Ao (Am U U (Ag ⟨congrArg Value.string (by unfold A0;repeat (first |rw [if_pos (by omega)]|rw [if_neg (by omega)])),rfl⟩ H)))))))))
  exact absurd h11 h12
 refine Z (Ac (V U U (AT U U U) (Ab U (Aa (Y ?_)))))
 refine Aq U (fun h13=>?_) (fun h13=>?_)
 ·refine Av (Y ?_)
  refine Aq U (fun h14=>?_) (fun h14=>?_)
  ·exact Z (Ac (Ab U (Aa (Y (Ai (Ax (Ao (Am U U (Ag ⟨congrArg Value.string (by unfold A0;repeat (first |rw [if_pos (by omega)]|rw [if_neg (by omega)])),rfl⟩ H)))))))))
  exact absurd h13 h14
 refine Ac (V U U (AT U U U) (Ab U (Aa (Y ?_))))
 refine Aq U (fun h15=>?_) (fun h15=>?_)
 ·exact Z (Ac (Ab U (Aa (Y (Ai (Ax (Ao (Am U U (Ag ⟨congrArg Value.string (by unfold A0;repeat (first |rw [if_pos (by omega)]|rw [if_neg (by omega)])),rfl⟩ H)))))))))
 refine Z (Z (Ac (V U U (AT U U U) (Ab U (Aa (Y ?_))))))
 refine Aq U (fun h16=>?_) (fun h16=>?_)
 ·refine Av (Y ?_)
  refine Aq U (fun h17=>?_) (fun h17=>?_)
  ·exact Z (Ac (Ab U (Aa (Y (Ai (Ax (Ao (Am U U (Ag ⟨congrArg Value.string (by unfold A0;repeat (first |rw [if_pos (by omega)]|rw [if_neg (by omega)])),rfl⟩ H)))))))))
  exact absurd h16 h17
 refine Ac (V U U (AT U U U) (Ab U (Aa (Y ?_))))
 refine Aq U (fun h18=>?_) (fun h18=>?_)
 ·exact Z (Ac (Ab U (Aa (Y (Ai (Ax (Ao (Am U U (Ag ⟨congrArg Value.string (by unfold A0;repeat (first |rw [if_pos (by omega)]|rw [if_neg (by omega)])),rfl⟩ H)))))))))
 refine Z (Z (Ac (V U U (AT U U U) (Ab U (Aa (Y ?_))))))
 refine Aq U (fun h19=>?_) (fun h19=>?_)
 ·refine Av (Y ?_)
  refine Aq U (fun h20=>?_) (fun h20=>?_)
  ·exact Z (Ac (Ab U (Aa (Y (Ai (Ax (Ao (Am U U (Ag ⟨congrArg Value.string (by unfold A0;repeat (first |rw [if_pos (by omega)]|rw [if_neg (by omega)])),rfl⟩ H)))))))))
  exact absurd h19 h20
 refine Ac (V U U (AT U U U) (Ab U (Aa (Y ?_))))
 refine Aq U (fun h21=>?_) (fun h21=>?_)
 ·exact Z (Ac (Ab U (Aa (Y (Ai (Ax (Ao (Am U U (Ag ⟨congrArg Value.string (by unfold A0;repeat (first |rw [if_pos (by omega)]|rw [if_neg (by omega)])),rfl⟩ H)))))))))
 refine Z (Ac (V U U (AT U U U) (Ab U (Aa (Y ?_)))))
 refine Aq U (fun h22=>?_) (fun h22=>?_)
 ·exact Z (Ac (Ab U (Aa (Y (Ai (Ax (Ao (Am U U (Ag ⟨congrArg Value.string (by unfold A0;repeat (first |rw [if_pos (by omega)]|rw [if_neg (by omega)])),rfl⟩ H)))))))))
 refine Z (Ac (V U U (AT U U U) (Ab U (Aa (Y ?_)))))
 refine Aq U (fun h23=>?_) (fun h23=>?_)
 ·exact Z (Ac (Ab U (Aa (Y (Ai (Ax (Ao (Am U U (Ag ⟨congrArg Value.string (by unfold A0;repeat (first |rw [if_pos (by omega)]|rw [if_neg (by omega)])),rfl⟩ H)))))))))
 refine Z (Z (Ac (V U U (AT U U U) (Ab U (Aa (Y ?_))))))
 refine Aq U (fun h24=>?_) (fun h24=>?_)
 ·refine Av (Y ?_)
  refine Aq U (fun h25=>?_) (fun h25=>?_)
  ·exact Z (Ac (Ab U (Aa (Y (Ai (Ax (Ao (Am U U (Ag ⟨congrArg Value.string (by unfold A0;repeat (first |rw [if_pos (by omega)]|rw [if_neg (by omega)])),rfl⟩ H)))))))))
  exact absurd h24 h25
 refine Ac (V U U (AT U U U) (Ab U (Aa (Y ?_))))
 refine Aq U (fun h26=>?_) (fun h26=>?_)
 ·exact Z (Ac (Ab U (Aa (Y (Ai (Ax (Ao (Am U U (Ag ⟨congrArg Value.string (by unfold A0;repeat (first |rw [if_pos (by omega)]|rw [if_neg (by omega)])),rfl⟩ H)))))))))
 exact Av (AS (Y (Z (Ac (Ab U (Aa (Y (Ai (Am U U (Ag ⟨congrArg Value.string (by unfold A0;repeat (first |rw [if_pos (by omega)]|rw [if_neg (by omega)])),rfl⟩ H))))))))))
theorem Yq (a:Az) (b:Az):
    Cn Tryz.prog 289 [.agg #[.bool a.t,.int .i64 a.n,.string a.b],.agg #[.bool b.t,.int .i64 b.n,.string b.b]] [] [] (fun v Bs=>v=.bool (Dj a b)∧Bs=[]):=by
 intro w0 F0 H
 refine enter Tryz.func289 U U (Nat.le_of_ble_eq_true U) (Z (Ac (B4 U U U U H (fun b1 w H=>(B4 U U U U H (fun b2 w H=>(Ab U (Aa (Y (Z (Z (Ac (V U U (Ah U EG U) (V U U (Aj U Ek U (H.cellI 1 U U)) (V U U (Ah U EG U) (V U U (Aj U Ek U (H.cellI 0 U U)) (V U U (Ke U I7 U U) (Aa (Y ?_)))))))))))))))))))
 refine Aq U (fun h3=>?_) (fun h3=>?_)
 ·refine Z (Ac (Ab U (Aa (Y (Ai (Ao (Am U U ?_)))))))
  replace H:=H.nil
  exact Ag ⟨congrArg Value.bool (by unfold Dj;cases ha:a.t<;>cases hb:b.t<;>simp_all),rfl⟩ H
 refine Av (Y (Z (Z (Ac (V U U (Ah U EG U) (V U U (Aj U Ek U (H.cellI 1 U U)) (Aa (Y ?_))))))))
 refine DJ (b:=a.t) U (fun h4=>?_) (fun h4=>?_)
 ·refine Z (Ac (V U U (Ah U De U) (V U U (Aj U Bd U (H.cellI 1 U U)) (V U U (Ah U De U) (V U U (Aj U Bd U (H.cellI 0 U U)) (V U U (EB U U U) (Ab U (Aa (Y (Ai (Ao (Am U U ?_))))))))))))
  replace H:=H.nil
  exact Ag ⟨congrArg Value.bool (by unfold Dj;cases ha:a.t<;>cases hb:b.t<;>simp_all),rfl⟩ H
 refine Av (Y (Z (Ac (V U U (Ah U CO U) (V U U (Aj U Cw U (H.cellI 1 U U)) (V U U (Ah U CO U) (V U U (Aj U Cw U (H.cellI 0 U U)) (V U U (AT U U U) (Ab U (Aa (Y (Ai (Am U U ?_)))))))))))))
 replace H:=H.nil
 exact Ag ⟨congrArg Value.bool (by unfold Dj;cases ha:a.t<;>cases hb:b.t<;>simp_all),rfl⟩ H
theorem X8 (s:ByteArray) (i:Int):
    Cn Tryz.prog 290 [.string s,.int .i64 i] [] [] (fun v Bs=>v=.int .i64 (DB s i)∧Bs=[]):=by
 intro w0 F0 H
 refine enter Tryz.func290 U U (Nat.le_of_ble_eq_true U) (Z (Ac (Ab U (Aa (Y (Z (Z (Ac (Ab U (V U U (AQ U U U) (Ab U ?_)))))))))))
 refine AD (d:=7) U (fun h1=>?_) (fun h1=>?_)
 ·exact Ad 5 U (Aa (Y (BM U (Z (Ac (Ab U (Aa (Y (Ai (Ao (Am U U (Ag ⟨congrArg (Value.int .i64) (if_pos (by omega)).symm,rfl⟩ H))))))))))))
 refine Ad 2 U (V U U (Cl U BJ U) (V U U (BN U U U) (Ab U (Aa (Y ?_)))))
 refine Aq U (fun h2=>?_) (fun h2=>?_)
 ·exact Z (Ac (Ab U (Aa (Y (Ai (Ao (Am U U (Ag ⟨congrArg (Value.int .i64) (if_pos (by omega)).symm,rfl⟩ H))))))))
 refine Av (Y (Z (Ac (Ad 2 U ?_))))
 obtain ⟨c0,hc0⟩:∃ c0,s[i.toNat]?=some c0:=⟨_,getElem?_pos s i.toNat (by omega)⟩
 exact V U U (E8 U BJ U U (by omega) hc0) (V U U (CW (z:=((c0).toNat:Int)) U U Ge Gd (Ay (by omega) (by have:=UInt8.toNat_lt c0;omega))) (Ab U (Aa (Y (Ai (Am U U (Ag ⟨congrArg (Value.int .i64) (by unfold DB;rw [if_neg (by omega),hc0];rfl),rfl⟩ H)))))))
theorem Yc (s:ByteArray) (f:Int) (t:Int):
    Cn Tryz.prog 291 [.string s,.int .i64 f,.int .i64 t] [] [] (fun v Bs=>v=.string (Ee s f t)∧Bs=[]):=by
 intro w0 F0 H
 refine enter Tryz.func291 U U (Nat.le_of_ble_eq_true U) (Z (Ac (Ab U (Aa (Y (Z (Ac (Ab U (V U U (Cl U BJ U) (Ab U (Aa (Y (Z (Ac (Ab U (V U U (Hi (z:=max f 0) U U U U) (Ab U (V U U (Fr (z:=min (max f 0) ((s.size:Nat):Int)) U U U U) (Ab U (V U U (Hi (z:=max t 0) U U U U) (Ab U (V U U (Fr (z:=min (max t 0) ((s.size:Nat):Int)) U U U U) (Ad 2 U (Aa (Y (Z (Z (Ac (Ad 2 U (V U U (BX U U U) (Aa (Y ?_))))))))))))))))))))))))))))))))
 refine Aq U (fun h1=>?_) (fun h1=>?_)
 ·exact Z (Ac (Ab U (Aa (Y (Ai (Ao (Am U U (Ag ⟨congrArg Value.string (if_pos h1).symm,rfl⟩ H))))))))
 exact Av (Y (Z (Ac (Ad 3 U (V U U (MK (r:=s.extract (min (max f 0) ((s.size:Nat):Int)).toNat (min (max t 0) ((s.size:Nat):Int)).toNat) U BJ U U U (by omega) (by omega) (by omega) U) (Ab U (Aa (Y (Ai (Am U U (Ag ⟨congrArg Value.string (if_neg h1).symm,rfl⟩ H)))))))))))
theorem QS (m:Nat) (sv:Value) (g:Nat→Az) (key:ByteArray) (vv:Value) (k:Nat) (tv:Value) (told:List An) (full:List ByteArray) (va:Value) (v:List Az) (i:Bm) (n:Int) (hto:told.length≤40) (hok:(∀ x∈v,Dr x)∧∀ j,Dr (g j)) (hi:Bf i n) (hN:v.length=(AW i.op).size) (hk:k≤full.length):
    Cn Tryz.prog 261 [.pointer (some ⟨m,0,none⟩),.agg #[.int .i64 i.op,.int .i64 i.a,.string i.s],va] [blk m (Cc sv g key vv ((k:Nat):Int) tv) 311,Ae Al tv told] [Af A5 va v,Af AZ vv full] (fun r Bs=>∃ u tv2,r=.tuple #[u,.int .i64 (AY dg key g full k told i v).why]∧Bs=[blk m (Cc sv (AY dg key g full k told i v).g key vv (((AY dg key g full k told i v).k:Nat):Int) tv2) 311,Ae Al tv2 (AY dg key g full k told i v).told,Ae A5 u (AY dg key g full k told i v).out]):=by
 intro w0 F0 H
 obtain ⟨A1,c2,rfl,hc3,hm4,hp5⟩:=H.fR 0 rfl
 obtain ⟨A6,c7,rfl,hc8,hm9,hp10⟩:=H.fR 1 rfl
 refine enter Tryz.func261 U U (Nat.le_of_ble_eq_true U) (Z (Ac (B4 U U U U H (fun b11 w H=>(Ad 2 U (Aa (Y (Z (Z (Ac (V U U (Ah U Ce U) (V U U (Aj U Aw U (H.cellI 0 U U)) (Aa (Y (AK (Z (Ac (V U U (AT U U U) (Ab U (Aa (Y ?_)))))))))))))))))))))
 refine Aq U (fun h12=>?_) (fun h12=>?_)
 ·have hks:(AW i.op).size=0:=by rw [h12];rfl
  refine Z (Ac (V U U (Ah U Cg U) (V U U (Aj U Aw U (H.cellI 0 U U)) (sc (FL i.a) H l0 U U (At FE U U) ?_))))
  rintro _ _ w ⟨rfl,rfl⟩ H
  refine Bv (parts:=[(0,.tmp 14)]) (vs:=[.agg #[.bool false,.int .i64 i.a,.string ⟨#[]⟩]]) (cs:=[.bool false,.int .i64 i.a,.string ⟨#[]⟩]) U U U A8 BV U (by decide) (by decide) U U H (fun b13 w H=>(Ad 2 U (Aa (Y (Ai (Ax (Ao (Bg U U U ?_))))))))
  replace H:Hd w0 F0 w [Ae A5 (.slice (some ⟨b13,0,none⟩) 1 1) [(⟨false,i.a,⟨#[]⟩⟩:Az)],blk b11 [.int .i64 i.op,.int .i64 i.a,.string i.s] 223,blk m (Cc sv g key (.slice A6 full.length c7) ((k:Nat):Int) tv) 311,Ae Al tv told] [Af A5 (.slice A1 v.length c2) v,Af AZ (.slice A6 full.length c7) full]:=H.turn (fun F h=>Ds h rfl (by decide) rfl)
  replace H:=H.p3.p3.k3
  have e:AY dg key g full k told i v=(⟨[(⟨false,i.a,⟨#[]⟩⟩:Az)],0,g,k,told⟩:CT):=by
    rw [Rl h12]<;>rfl
  exact Ag ⟨_,_,by rw [e]<;>rfl,by rw [e]<;>rfl⟩ H
 refine Z (Ac (V U U (AT U U U) (Ab U (Aa (Y ?_)))))
 refine Aq U (fun h14=>?_) (fun h14=>?_)
 ·have hks:(AW i.op).size=0:=by rw [h14];rfl
  refine Z (Ac (V U U (Ah U Dx U) (V U U (Aj U Bd U (H.cellI 0 U U)) (sc (H6 i.s) H l0 U U (At HP U U) ?_))))
  rintro _ _ w ⟨rfl,rfl⟩ H
  refine Bv (parts:=[(0,.tmp 20)]) (vs:=[.agg #[.bool true,.int .i64 0,.string i.s]]) (cs:=[.bool true,.int .i64 0,.string i.s]) U U U A8 BV U (by decide) (by decide) U U H (fun b15 w H=>(Ad 2 U (Aa (Y (Ai (Ax (Ao (Bg U U U ?_))))))))
  replace H:Hd w0 F0 w [Ae A5 (.slice (some ⟨b15,0,none⟩) 1 1) [(⟨true,0,i.s⟩:Az)],blk b11 [.int .i64 i.op,.int .i64 i.a,.string i.s] 223,blk m (Cc sv g key (.slice A6 full.length c7) ((k:Nat):Int) tv) 311,Ae Al tv told] [Af A5 (.slice A1 v.length c2) v,Af AZ (.slice A6 full.length c7) full]:=H.turn (fun F h=>Ds h rfl (by decide) rfl)
  replace H:=H.p3.p3.k3
  have e:AY dg key g full k told i v=(⟨[(⟨true,0,i.s⟩:Az)],0,g,k,told⟩:CT):=by
    rw [Ru h14]<;>rfl
  exact Ag ⟨_,_,by rw [e]<;>rfl,by rw [e]<;>rfl⟩ H
 refine Z (Ac (V U U (AT U U U) (Ab U (Aa (Y ?_)))))
 refine Aq U (fun h16=>?_) (fun h16=>?_)
 ·have hks:(AW i.op).size=1:=by rw [h16];rfl
  refine Z ?_
  obtain ⟨x17,hx18⟩:∃ z9,v[0]?=some z9:=⟨_,List.getElem?_eq_getElem (show 0<v.length by omega)⟩
  have okx17:=hok.1 _ (Bl hx18)
  have szx17:=okx17.2
  have inx17:=okx17.1
  refine BD (.e 0 (.e 1 (.e 2 (.e 3 (.e 4 (.e 5 (.m 6 (.e 7 (.e 8 .z))))))))) (fun w=>∃ Ar,Hd w0 F0 w (blk b11 [.int .i64 i.op,.int .i64 i.a,.string i.s] 223::blk m (Cc sv g key (.slice A6 full.length c7) ((k:Nat):Int) tv) 311::Ae Al tv told::Ar) [Af A5 (.slice A1 v.length c2) v,Af AZ (.slice A6 full.length c7) full]) mo (by kernel_rfl) (fun w H=>⟨_,H⟩) H (fun w H=>(Ap U ?_))
  have th19:=H.thR 0 rfl hx18
  refine Ak U U U (fun w ⟨Ar,H⟩=>AG (p:=AA A1+0*3) U A8 U U (by omega) (by omega) th19 (by omega)) (Ak U U U (fun w ⟨Ar,H⟩=>Bp (cs:=[.bool x17.t,.int .i64 x17.n,.string x17.b]) U B5 U U (H.elsR 0 U hx18 U)) (Ap U ?_))
  have th20:=H.thR 0 rfl hx18
  refine Ak U U U (fun w ⟨Ar,H⟩=>AG (p:=AA A1+0*3) U A8 U U (by omega) (by omega) th20 (by omega)) (Ak U U U (fun w ⟨Ar,H⟩=>Bp (cs:=[.bool x17.t,.int .i64 x17.n,.string x17.b]) U B5 U U (H.elsR 0 U hx18 U)) (AL U (Bv (parts:=[(0,.tmp 26),(1,.tmp 29)]) (vs:=[.agg #[.bool x17.t,.int .i64 x17.n,.string x17.b],.agg #[.bool x17.t,.int .i64 x17.n,.string x17.b]]) (cs:=[.bool x17.t,.int .i64 x17.n,.string x17.b,.bool x17.t,.int .i64 x17.n,.string x17.b]) U U U A8 BV U (by decide) (by decide) U U H (fun b21 w H=>?_))))
  replace H:=H.p3|>.p3|>.p3
  refine AH ⟨_,H⟩ (Ap U (Ap U (Bx (Y (Ai (Ax (Ao (Bg U U U ?_))))))))
  replace H:=H.p3
  replace H:Hd w0 F0 w [Ae A5 (.slice (some ⟨b21,0,none⟩) 2 2) [x17,x17],blk b11 [.int .i64 i.op,.int .i64 i.a,.string i.s] 223,blk m (Cc sv g key (.slice A6 full.length c7) ((k:Nat):Int) tv) 311,Ae Al tv told] [Af A5 (.slice A1 v.length c2) v,Af AZ (.slice A6 full.length c7) full]:=H.turn (fun F h=>Ds h rfl (by decide) rfl)
  replace H:=H.p3.p3.k3
  have e:AY dg key g full k told i v=(⟨[x17,x17],0,g,k,told⟩:CT):=by
    rw [Rx h16,BH hx18]<;>rfl
  exact Ag ⟨_,_,by rw [e]<;>rfl,by rw [e]<;>rfl⟩ H
 refine Z (Ac (V U U (AT U U U) (Ab U (Aa (Y ?_)))))
 refine Aq U (fun h22=>?_) (fun h22=>?_)
 ·have hks:(AW i.op).size=2:=by rw [h22];rfl
  refine Z ?_
  obtain ⟨x23,hx24⟩:∃ z9,v[0]?=some z9:=⟨_,List.getElem?_eq_getElem (show 0<v.length by omega)⟩
  have okx23:=hok.1 _ (Bl hx24)
  have szx23:=okx23.2
  have inx23:=okx23.1
  obtain ⟨x25,hx26⟩:∃ z9,v[1]?=some z9:=⟨_,List.getElem?_eq_getElem (show 1<v.length by omega)⟩
  have okx25:=hok.1 _ (Bl hx26)
  have szx25:=okx25.2
  have inx25:=okx25.1
  refine BD (.e 0 (.e 1 (.e 2 (.e 3 (.e 4 (.e 5 (.m 6 (.e 7 (.e 8 .z))))))))) (fun w=>∃ Ar,Hd w0 F0 w (blk b11 [.int .i64 i.op,.int .i64 i.a,.string i.s] 223::blk m (Cc sv g key (.slice A6 full.length c7) ((k:Nat):Int) tv) 311::Ae Al tv told::Ar) [Af A5 (.slice A1 v.length c2) v,Af AZ (.slice A6 full.length c7) full]) mo (by kernel_rfl) (fun w H=>⟨_,H⟩) H (fun w H=>(Ap U ?_))
  have th27:=H.thR 0 rfl hx26
  refine Ak U U U (fun w ⟨Ar,H⟩=>AG (p:=AA A1+1*3) U A8 U U (by omega) (by omega) th27 (by omega)) (Ak U U U (fun w ⟨Ar,H⟩=>Bp (cs:=[.bool x25.t,.int .i64 x25.n,.string x25.b]) U B5 U U (H.elsR 0 U hx26 U)) (Ap U ?_))
  have th28:=H.thR 0 rfl hx24
  refine Ak U U U (fun w ⟨Ar,H⟩=>AG (p:=AA A1+0*3) U A8 U U (by omega) (by omega) th28 (by omega)) (Ak U U U (fun w ⟨Ar,H⟩=>Bp (cs:=[.bool x23.t,.int .i64 x23.n,.string x23.b]) U B5 U U (H.elsR 0 U hx24 U)) (AL U (Bv (parts:=[(0,.tmp 35),(1,.tmp 38)]) (vs:=[.agg #[.bool x25.t,.int .i64 x25.n,.string x25.b],.agg #[.bool x23.t,.int .i64 x23.n,.string x23.b]]) (cs:=[.bool x25.t,.int .i64 x25.n,.string x25.b,.bool x23.t,.int .i64 x23.n,.string x23.b]) U U U A8 BV U (by decide) (by decide) U U H (fun b29 w H=>?_))))
  replace H:=H.p3|>.p3|>.p3
  refine AH ⟨_,H⟩ (Ap U (Ap U (Bx (Y (Ai (Ax (Ao (Bg U U U ?_))))))))
  replace H:=H.p3
  replace H:Hd w0 F0 w [Ae A5 (.slice (some ⟨b29,0,none⟩) 2 2) [x25,x23],blk b11 [.int .i64 i.op,.int .i64 i.a,.string i.s] 223,blk m (Cc sv g key (.slice A6 full.length c7) ((k:Nat):Int) tv) 311,Ae Al tv told] [Af A5 (.slice A1 v.length c2) v,Af AZ (.slice A6 full.length c7) full]:=H.turn (fun F h=>Ds h rfl (by decide) rfl)
  replace H:=H.p3.p3.k3
  have e:AY dg key g full k told i v=(⟨[x25,x23],0,g,k,told⟩:CT):=by
    rw [Ry h22,BH hx24,BH hx26]<;>rfl
  exact Ag ⟨_,_,by rw [e]<;>rfl,by rw [e]<;>rfl⟩ H
 refine Z (Ac (V U U (AT U U U) (Ab U (Aa (Y ?_)))))
 refine Aq U (fun h30=>?_) (fun h30=>?_)
 ·have hks:(AW i.op).size=0:=by rw [h30];rfl
  refine Z (Ac (Ab U (V U U (AI U U) (V U U (Ah U Ui U) (V U U (Aj U Bd U (H.cellI 1 U U)) (sc (H6 key) H l0 U U (At HP U U) ?_))))))
  rintro _ _ w ⟨rfl,rfl⟩ H
  refine Bv (parts:=[(0,.tmp 46)]) (vs:=[.agg #[.bool true,.int .i64 0,.string key]]) (cs:=[.bool true,.int .i64 0,.string key]) U U U A8 BV U (by decide) (by decide) U U H (fun b31 w H=>(Ad 2 U (Aa (Y (Ai (Ax (Ao (Bg U U U ?_))))))))
  replace H:Hd w0 F0 w [Ae A5 (.slice (some ⟨b31,0,none⟩) 1 1) [(⟨true,0,key⟩:Az)],blk b11 [.int .i64 i.op,.int .i64 i.a,.string i.s] 223,blk m (Cc sv g key (.slice A6 full.length c7) ((k:Nat):Int) tv) 311,Ae Al tv told] [Af A5 (.slice A1 v.length c2) v,Af AZ (.slice A6 full.length c7) full]:=H.turn (fun F h=>Ds h rfl (by decide) rfl)
  replace H:=H.p3.p3.k3
  have e:AY dg key g full k told i v=(⟨[(⟨true,0,key⟩:Az)],0,g,k,told⟩:CT):=by
    rw [Rz h30]<;>rfl
  exact Ag ⟨_,_,by rw [e]<;>rfl,by rw [e]<;>rfl⟩ H
 refine Z (Ac (V U U (AT U U U) (Ab U (Aa (Y ?_)))))
 refine Aq U (fun h32=>?_) (fun h32=>?_)
 ·have hks:(AW i.op).size=0:=by rw [h32];rfl
  refine Z (Z (Et mo (by kernel_rfl) H (C7 U (Ba U U (fun w H=>AI U U) (Ba U U (fun w H=>Ah U JG U) (Ba U U (fun w H=>Aj U Aw U (H.cellI 1 U U)) (C7 U (Ba U U (fun w H=>AI U U) (Ba U U (fun w H=>Ah U OE U) (Ba U U (fun w H=>Aj U Ig U (H.cellI 1 U U)) (Ba U U (fun w H=>AO U GB U) (Ba U U (fun w H=>BN U U U) (El (fun w H=>(Y ?_)))))))))))))))
  refine Aq U (fun h33=>?_) (fun h33=>?_)
  ·refine Z (Ac (sc (FL 0) H l0 U U (At FE U U) ?_))
   rintro _ _ w ⟨rfl,rfl⟩ H
   refine Bv (parts:=[(0,.tmp 60)]) (vs:=[.agg #[.bool false,.int .i64 0,.string ⟨#[]⟩]]) (cs:=[.bool false,.int .i64 0,.string ⟨#[]⟩]) U U U A8 BV U (by decide) (by decide) U U H (fun b34 w H=>(Ad 2 U (Aa (Y (Ai (Ao (Ax (Ao (Bg U U U ?_)))))))))
   replace H:Hd w0 F0 w [Ae A5 (.slice (some ⟨b34,0,none⟩) 1 1) [(⟨false,0,⟨#[]⟩⟩:Az)],blk b11 [.int .i64 i.op,.int .i64 i.a,.string i.s] 223,blk m (Cc sv g key (.slice A6 full.length c7) ((k:Nat):Int) tv) 311,Ae Al tv told] [Af A5 (.slice A1 v.length c2) v,Af AZ (.slice A6 full.length c7) full]:=H.turn (fun F h=>Ds h rfl (by decide) rfl)
   replace H:=H.p3.p3.k3
   have e:AY dg key g full k told i v=(⟨[(⟨false,0,⟨#[]⟩⟩:Az)],0,g,k,told⟩:CT):=by
     exact Kk h32 (by omega)
   exact Ag ⟨_,_,by rw [e]<;>rfl,by rw [e]<;>rfl⟩ H
  refine Av (Y (Z (Ac (Ab U (V U U (AI U U) (V U U (Ah U JG U) (V U U (Aj U Aw U (H.cellI 1 U U)) (V U U (AP (z:=((k+1:Nat):Int)) U U U (by rw [Ay (by omega) (by omega)];omega)) (V U U (AI U U) (V U U (Ah U JG U) ?_))))))))))
  replace H:=H.p1
  refine By U U U Aw U U H U (Nat.le_of_ble_eq_true U) (fun u hu=>by simp [Value.cells] at hu;subst hu;rfl) (fun w H=>(Aa (Y (Z (BD (.e 0 (.e 1 (.e 2 (.e 3 (.e 4 (.e 5 (.e 6 (.e 7 (.e 8 (.e 9 (.e 10 (.m 11 (.m 12 (.m 13 (.e 14 (.e 15 .z)))))))))))))))) (fun w=>∃ Ar,Hd w0 F0 w (blk m (Cc sv g key (.slice A6 full.length c7) ((k+1:Nat):Int) tv) 311::blk b11 [.int .i64 i.op,.int .i64 i.a,.string i.s] 223::Ae Al tv told::Ar) [Af A5 (.slice A1 v.length c2) v,Af AZ (.slice A6 full.length c7) full]) mo (by kernel_rfl) (fun w H=>⟨_,H⟩) H (fun w H=>(Ap U (Ak U U U (fun w ⟨Ar,H⟩=>AI U U) (Ak U U U (fun w ⟨Ar,H⟩=>Ah U OE U) (Ak U U U (fun w ⟨Ar,H⟩=>Aj U Ig U (H.cellI 0 U U)) (Ap U (Ak U U U (fun w ⟨Ar,H⟩=>AI U U) (Ak U U U (fun w ⟨Ar,H⟩=>Ah U JG U) (Ak U U U (fun w ⟨Ar,H⟩=>Aj U Aw U (H.cellI 0 U U)) (Ak U U U (fun w ⟨Ar,H⟩=>Cm (z:=((k:Nat):Int)) U U U (by rw [Ay (by omega) (by omega)];omega)) ?_)))))))))))))))
  obtain ⟨x35,hx36⟩:∃ z9,full[k]?=some z9:=⟨_,List.getElem?_eq_getElem (show k<full.length by omega)⟩
  have th37:=H.thR 1 rfl hx36
  refine Ak U U U (fun w ⟨Ar,H⟩=>AG (p:=AA A6+k*1) U Ck U U (by omega) (by omega) th37 U) (Ak U U U (fun w ⟨Ar,H⟩=>Aj U Bd U (H.elR 1 U hx36 (q:=0) U U)) (AL U (sc (H6 x35) H l0 U U (At HP U U) ?_)))
  rintro _ _ w ⟨rfl,rfl⟩ H
  refine AH ⟨_,H⟩ (AL U (sc (FL 1) H l0 U U (At FE U U) ?_))
  rintro _ _ w ⟨rfl,rfl⟩ H
  refine AH ⟨_,H⟩ (AL U (Bv (parts:=[(0,.tmp 80),(1,.tmp 81)]) (vs:=[.agg #[.bool true,.int .i64 0,.string x35],.agg #[.bool false,.int .i64 1,.string ⟨#[]⟩]]) (cs:=[.bool true,.int .i64 0,.string x35,.bool false,.int .i64 1,.string ⟨#[]⟩]) U U U A8 BV U (by decide) (by decide) U U H (fun b38 w H=>?_)))
  replace H:=H.p3|>.p3|>.p3
  refine AH ⟨_,H⟩ (Ap U (Ap U (Bx (Y (Ai (Ax (Ao (Bg U U U ?_))))))))
  replace H:=H.p3
  replace H:Hd w0 F0 w [Ae A5 (.slice (some ⟨b38,0,none⟩) 2 2) [(⟨true,0,x35⟩:Az),(⟨false,1,⟨#[]⟩⟩:Az)],blk m (Cc sv g key (.slice A6 full.length c7) ((k+1:Nat):Int) tv) 311,blk b11 [.int .i64 i.op,.int .i64 i.a,.string i.s] 223,Ae Al tv told] [Af A5 (.slice A1 v.length c2) v,Af AZ (.slice A6 full.length c7) full]:=H.turn (fun F h=>Ds h rfl (by decide) rfl)
  replace H:=H.p3.p2.k3
  have e:AY dg key g full k told i v=(⟨[(⟨true,0,x35⟩:Az),(⟨false,1,⟨#[]⟩⟩:Az)],0,g,k+1,told⟩:CT):=by
    exact Kl h32 hx36
  exact Ag ⟨_,_,by rw [e]<;>rfl,by rw [e]<;>rfl⟩ H
 refine Z (Ac (V U U (AT U U U) (Ab U (Aa (Y ?_)))))
 refine Aq U (fun h39=>?_) (fun h39=>?_)
 ·have hks:(AW i.op).size=2:=by rw [h39];rfl
  refine Z ?_
  obtain ⟨x40,hx41⟩:∃ z9,v[0]?=some z9:=⟨_,List.getElem?_eq_getElem (show 0<v.length by omega)⟩
  have okx40:=hok.1 _ (Bl hx41)
  have szx40:=okx40.2
  have inx40:=okx40.1
  obtain ⟨x42,hx43⟩:∃ z9,v[1]?=some z9:=⟨_,List.getElem?_eq_getElem (show 1<v.length by omega)⟩
  have okx42:=hok.1 _ (Bl hx43)
  have szx42:=okx42.2
  have inx42:=okx42.1
  refine BD (.e 0 (.e 1 (.e 2 (.e 3 (.e 4 (.e 5 (.e 6 (.e 7 (.e 8 (.m 9 (.m 10 (.e 11 (.e 12 .z))))))))))))) (fun w=>∃ Ar,Hd w0 F0 w (blk b11 [.int .i64 i.op,.int .i64 i.a,.string i.s] 223::blk m (Cc sv g key (.slice A6 full.length c7) ((k:Nat):Int) tv) 311::Ae Al tv told::Ar) [Af A5 (.slice A1 v.length c2) v,Af AZ (.slice A6 full.length c7) full]) mo (by kernel_rfl) (fun w H=>⟨_,H⟩) H (fun w H=>(Ap U ?_))
  have th44:=H.thR 0 rfl hx41
  refine Ak U U U (fun w ⟨Ar,H⟩=>AG (p:=AA A1+0*3) U A8 U U (by omega) (by omega) th44 (by omega)) (Ak U U U (fun w ⟨Ar,H⟩=>Ah U CO U) (Ak U U U (fun w ⟨Ar,H⟩=>Aj U Cw U (H.elR 0 U hx41 (q:=1) U U)) (Ap U ?_)))
  have th45:=H.thR 0 rfl hx43
  refine Ak U U U (fun w ⟨Ar,H⟩=>AG (p:=AA A1+1*3) U A8 U U (by omega) (by omega) th45 (by omega)) (Ak U U U (fun w ⟨Ar,H⟩=>Ah U CO U) (Ak U U U (fun w ⟨Ar,H⟩=>Aj U Cw U (H.elR 0 U hx43 (q:=1) U U)) (Ak U U U (fun w ⟨Ar,H⟩=>AP (z:=IntKind.i64.wrap (x40.n+x42.n)) U U U U) (AL U (sc (FL (IntKind.i64.wrap (x40.n+x42.n))) H l0 U U (At FE U U) ?_)))))
  rintro _ _ w ⟨rfl,rfl⟩ H
  refine AH ⟨_,H⟩ (AL U (Bv (parts:=[(0,.tmp 94)]) (vs:=[.agg #[.bool false,.int .i64 (IntKind.i64.wrap (x40.n+x42.n)),.string ⟨#[]⟩]]) (cs:=[.bool false,.int .i64 (IntKind.i64.wrap (x40.n+x42.n)),.string ⟨#[]⟩]) U U U A8 BV U (by decide) (by decide) U U H (fun b46 w H=>?_)))
  replace H:=H.p3|>.p3|>.p3
  refine AH ⟨_,H⟩ (Ap U (Ap U (Bx (Y (Ai (Ax (Ao (Bg U U U ?_))))))))
  replace H:=H.p3
  replace H:Hd w0 F0 w [Ae A5 (.slice (some ⟨b46,0,none⟩) 1 1) [(⟨false,IntKind.i64.wrap (x40.n+x42.n),⟨#[]⟩⟩:Az)],blk b11 [.int .i64 i.op,.int .i64 i.a,.string i.s] 223,blk m (Cc sv g key (.slice A6 full.length c7) ((k:Nat):Int) tv) 311,Ae Al tv told] [Af A5 (.slice A1 v.length c2) v,Af AZ (.slice A6 full.length c7) full]:=H.turn (fun F h=>Ds h rfl (by decide) rfl)
  replace H:=H.p3.p3.k3
  have e:AY dg key g full k told i v=(⟨[(⟨false,IntKind.i64.wrap (x40.n+x42.n),⟨#[]⟩⟩:Az)],0,g,k,told⟩:CT):=by
    rw [IW (by omega),h39,BH hx41,BH hx43]<;>rfl
  exact Ag ⟨_,_,by rw [e]<;>rfl,by rw [e]<;>rfl⟩ H
 refine Z (Ac (V U U (AT U U U) (Ab U (Aa (Y ?_)))))
 refine Aq U (fun h47=>?_) (fun h47=>?_)
 ·have hks:(AW i.op).size=2:=by rw [h47];rfl
  refine Z ?_
  obtain ⟨x48,hx49⟩:∃ z9,v[0]?=some z9:=⟨_,List.getElem?_eq_getElem (show 0<v.length by omega)⟩
  have okx48:=hok.1 _ (Bl hx49)
  have szx48:=okx48.2
  have inx48:=okx48.1
  obtain ⟨x50,hx51⟩:∃ z9,v[1]?=some z9:=⟨_,List.getElem?_eq_getElem (show 1<v.length by omega)⟩
  have okx50:=hok.1 _ (Bl hx51)
  have szx50:=okx50.2
  have inx50:=okx50.1
  refine BD (.e 0 (.e 1 (.e 2 (.e 3 (.e 4 (.e 5 (.e 6 (.e 7 (.e 8 (.m 9 (.m 10 (.e 11 (.e 12 .z))))))))))))) (fun w=>∃ Ar,Hd w0 F0 w (blk b11 [.int .i64 i.op,.int .i64 i.a,.string i.s] 223::blk m (Cc sv g key (.slice A6 full.length c7) ((k:Nat):Int) tv) 311::Ae Al tv told::Ar) [Af A5 (.slice A1 v.length c2) v,Af AZ (.slice A6 full.length c7) full]) mo (by kernel_rfl) (fun w H=>⟨_,H⟩) H (fun w H=>(Ap U ?_))
  have th52:=H.thR 0 rfl hx49
  refine Ak U U U (fun w ⟨Ar,H⟩=>AG (p:=AA A1+0*3) U A8 U U (by omega) (by omega) th52 (by omega)) (Ak U U U (fun w ⟨Ar,H⟩=>Ah U CO U) (Ak U U U (fun w ⟨Ar,H⟩=>Aj U Cw U (H.elR 0 U hx49 (q:=1) U U)) (Ap U ?_)))
  have th53:=H.thR 0 rfl hx51
  refine Ak U U U (fun w ⟨Ar,H⟩=>AG (p:=AA A1+1*3) U A8 U U (by omega) (by omega) th53 (by omega)) (Ak U U U (fun w ⟨Ar,H⟩=>Ah U CO U) (Ak U U U (fun w ⟨Ar,H⟩=>Aj U Cw U (H.elR 0 U hx51 (q:=1) U U)) (Ak U U U (fun w ⟨Ar,H⟩=>Cm (z:=IntKind.i64.wrap (x48.n - x50.n)) U U U U) (AL U (sc (FL (IntKind.i64.wrap (x48.n - x50.n))) H l0 U U (At FE U U) ?_)))))
  rintro _ _ w ⟨rfl,rfl⟩ H
  refine AH ⟨_,H⟩ (AL U (Bv (parts:=[(0,.tmp 107)]) (vs:=[.agg #[.bool false,.int .i64 (IntKind.i64.wrap (x48.n - x50.n)),.string ⟨#[]⟩]]) (cs:=[.bool false,.int .i64 (IntKind.i64.wrap (x48.n - x50.n)),.string ⟨#[]⟩]) U U U A8 BV U (by decide) (by decide) U U H (fun b54 w H=>?_)))
  replace H:=H.p3|>.p3|>.p3
  refine AH ⟨_,H⟩ (Ap U (Ap U (Bx (Y (Ai (Ax (Ao (Bg U U U ?_))))))))
  replace H:=H.p3
  replace H:Hd w0 F0 w [Ae A5 (.slice (some ⟨b54,0,none⟩) 1 1) [(⟨false,IntKind.i64.wrap (x48.n - x50.n),⟨#[]⟩⟩:Az)],blk b11 [.int .i64 i.op,.int .i64 i.a,.string i.s] 223,blk m (Cc sv g key (.slice A6 full.length c7) ((k:Nat):Int) tv) 311,Ae Al tv told] [Af A5 (.slice A1 v.length c2) v,Af AZ (.slice A6 full.length c7) full]:=H.turn (fun F h=>Ds h rfl (by decide) rfl)
  replace H:=H.p3.p3.k3
  have e:AY dg key g full k told i v=(⟨[(⟨false,IntKind.i64.wrap (x48.n - x50.n),⟨#[]⟩⟩:Az)],0,g,k,told⟩:CT):=by
    rw [IW (by omega),h47,BH hx49,BH hx51]<;>rfl
  exact Ag ⟨_,_,by rw [e]<;>rfl,by rw [e]<;>rfl⟩ H
 refine Z (Ac (V U U (AT U U U) (Ab U (Aa (Y ?_)))))
 refine Aq U (fun h55=>?_) (fun h55=>?_)
 ·have hks:(AW i.op).size=2:=by rw [h55];rfl
  refine Z ?_
  obtain ⟨x56,hx57⟩:∃ z9,v[0]?=some z9:=⟨_,List.getElem?_eq_getElem (show 0<v.length by omega)⟩
  have okx56:=hok.1 _ (Bl hx57)
  have szx56:=okx56.2
  have inx56:=okx56.1
  obtain ⟨x58,hx59⟩:∃ z9,v[1]?=some z9:=⟨_,List.getElem?_eq_getElem (show 1<v.length by omega)⟩
  have okx58:=hok.1 _ (Bl hx59)
  have szx58:=okx58.2
  have inx58:=okx58.1
  refine BD (.e 0 (.e 1 (.e 2 (.e 3 (.e 4 (.e 5 (.e 6 (.e 7 (.e 8 (.m 9 (.m 10 (.e 11 (.e 12 .z))))))))))))) (fun w=>∃ Ar,Hd w0 F0 w (blk b11 [.int .i64 i.op,.int .i64 i.a,.string i.s] 223::blk m (Cc sv g key (.slice A6 full.length c7) ((k:Nat):Int) tv) 311::Ae Al tv told::Ar) [Af A5 (.slice A1 v.length c2) v,Af AZ (.slice A6 full.length c7) full]) mo (by kernel_rfl) (fun w H=>⟨_,H⟩) H (fun w H=>(Ap U ?_))
  have th60:=H.thR 0 rfl hx57
  refine Ak U U U (fun w ⟨Ar,H⟩=>AG (p:=AA A1+0*3) U A8 U U (by omega) (by omega) th60 (by omega)) (Ak U U U (fun w ⟨Ar,H⟩=>Ah U CO U) (Ak U U U (fun w ⟨Ar,H⟩=>Aj U Cw U (H.elR 0 U hx57 (q:=1) U U)) (Ap U ?_)))
  have th61:=H.thR 0 rfl hx59
  refine Ak U U U (fun w ⟨Ar,H⟩=>AG (p:=AA A1+1*3) U A8 U U (by omega) (by omega) th61 (by omega)) (Ak U U U (fun w ⟨Ar,H⟩=>Ah U CO U) (Ak U U U (fun w ⟨Ar,H⟩=>Aj U Cw U (H.elR 0 U hx59 (q:=1) U U)) (Ak U U U (fun w ⟨Ar,H⟩=>Fs (z:=IntKind.i64.wrap (x56.n*x58.n)) U U U U) (AL U (sc (FL (IntKind.i64.wrap (x56.n*x58.n))) H l0 U U (At FE U U) ?_)))))
  rintro _ _ w ⟨rfl,rfl⟩ H
  refine AH ⟨_,H⟩ (AL U (Bv (parts:=[(0,.tmp 120)]) (vs:=[.agg #[.bool false,.int .i64 (IntKind.i64.wrap (x56.n*x58.n)),.string ⟨#[]⟩]]) (cs:=[.bool false,.int .i64 (IntKind.i64.wrap (x56.n*x58.n)),.string ⟨#[]⟩]) U U U A8 BV U (by decide) (by decide) U U H (fun b62 w H=>?_)))
  replace H:=H.p3|>.p3|>.p3
  refine AH ⟨_,H⟩ (Ap U (Ap U (Bx (Y (Ai (Ax (Ao (Bg U U U ?_))))))))
  replace H:=H.p3
  replace H:Hd w0 F0 w [Ae A5 (.slice (some ⟨b62,0,none⟩) 1 1) [(⟨false,IntKind.i64.wrap (x56.n*x58.n),⟨#[]⟩⟩:Az)],blk b11 [.int .i64 i.op,.int .i64 i.a,.string i.s] 223,blk m (Cc sv g key (.slice A6 full.length c7) ((k:Nat):Int) tv) 311,Ae Al tv told] [Af A5 (.slice A1 v.length c2) v,Af AZ (.slice A6 full.length c7) full]:=H.turn (fun F h=>Ds h rfl (by decide) rfl)
  replace H:=H.p3.p3.k3
  have e:AY dg key g full k told i v=(⟨[(⟨false,IntKind.i64.wrap (x56.n*x58.n),⟨#[]⟩⟩:Az)],0,g,k,told⟩:CT):=by
    rw [IW (by omega),h55,BH hx57,BH hx59]<;>rfl
  exact Ag ⟨_,_,by rw [e]<;>rfl,by rw [e]<;>rfl⟩ H
 refine Z (Ac (V U U (AT U U U) (Ab U (Aa (Y ?_)))))
 refine Aq U (fun h63=>?_) (fun h63=>?_)
 ·have hks:(AW i.op).size=2:=by rw [h63];rfl
  refine Z ?_
  obtain ⟨x64,hx65⟩:∃ z9,v[0]?=some z9:=⟨_,List.getElem?_eq_getElem (show 0<v.length by omega)⟩
  have okx64:=hok.1 _ (Bl hx65)
  have szx64:=okx64.2
  have inx64:=okx64.1
  obtain ⟨x66,hx67⟩:∃ z9,v[1]?=some z9:=⟨_,List.getElem?_eq_getElem (show 1<v.length by omega)⟩
  have okx66:=hok.1 _ (Bl hx67)
  have szx66:=okx66.2
  have inx66:=okx66.1
  refine BD (.e 0 (.e 1 (.e 2 (.e 3 (.e 4 (.e 5 (.e 6 (.e 7 (.e 8 (.m 9 (.m 10 (.e 11 (.e 12 .z))))))))))))) (fun w=>∃ Ar,Hd w0 F0 w (blk b11 [.int .i64 i.op,.int .i64 i.a,.string i.s] 223::blk m (Cc sv g key (.slice A6 full.length c7) ((k:Nat):Int) tv) 311::Ae Al tv told::Ar) [Af A5 (.slice A1 v.length c2) v,Af AZ (.slice A6 full.length c7) full]) mo (by kernel_rfl) (fun w H=>⟨_,H⟩) H (fun w H=>(Ap U ?_))
  have th68:=H.thR 0 rfl hx65
  refine Ak U U U (fun w ⟨Ar,H⟩=>AG (p:=AA A1+0*3) U A8 U U (by omega) (by omega) th68 (by omega)) (Ak U U U (fun w ⟨Ar,H⟩=>Ah U CO U) (Ak U U U (fun w ⟨Ar,H⟩=>Aj U Cw U (H.elR 0 U hx65 (q:=1) U U)) (Ap U ?_)))
  have th69:=H.thR 0 rfl hx67
  refine Ak U U U (fun w ⟨Ar,H⟩=>AG (p:=AA A1+1*3) U A8 U U (by omega) (by omega) th69 (by omega)) (Ak U U U (fun w ⟨Ar,H⟩=>Ah U CO U) (Ak U U U (fun w ⟨Ar,H⟩=>Aj U Cw U (H.elR 0 U hx67 (q:=1) U U)) (Ak U U U (fun w ⟨Ar,H⟩=>AQ U U U) (AL U (sc (QT (decide (x64.n<x66.n))) H l0 U U (At PD U U) ?_)))))
  rintro _ _ w ⟨rfl,rfl⟩ H
  refine AH ⟨_,H⟩ (AL U (Bv (parts:=[(0,.tmp 133)]) (vs:=[.agg #[.bool false,.int .i64 (if (decide (x64.n<x66.n))=true then 1 else 0),.string ⟨#[]⟩]]) (cs:=[.bool false,.int .i64 (if (decide (x64.n<x66.n))=true then 1 else 0),.string ⟨#[]⟩]) U U U A8 BV U (by decide) (by decide) U U H (fun b70 w H=>?_)))
  replace H:=H.p3|>.p3|>.p3
  refine AH ⟨_,H⟩ (Ap U (Ap U (Bx (Y (Ai (Ax (Ao (Bg U U U ?_))))))))
  replace H:=H.p3
  replace H:Hd w0 F0 w [Ae A5 (.slice (some ⟨b70,0,none⟩) 1 1) [(⟨false,if (decide (x64.n<x66.n))=true then 1 else 0,⟨#[]⟩⟩:Az)],blk b11 [.int .i64 i.op,.int .i64 i.a,.string i.s] 223,blk m (Cc sv g key (.slice A6 full.length c7) ((k:Nat):Int) tv) 311,Ae Al tv told] [Af A5 (.slice A1 v.length c2) v,Af AZ (.slice A6 full.length c7) full]:=H.turn (fun F h=>Ds h rfl (by decide) rfl)
  replace H:=H.p3.p3.k3
  have e:AY dg key g full k told i v=(⟨[(⟨false,if (decide (x64.n<x66.n))=true then 1 else 0,⟨#[]⟩⟩:Az)],0,g,k,told⟩:CT):=by
    rw [IW (by omega),h63,BH hx65,BH hx67];simp [BT,Ch]
  exact Ag ⟨_,_,by rw [e]<;>rfl,by rw [e]<;>rfl⟩ H
 refine Z (Ac (V U U (AT U U U) (Ab U (Aa (Y ?_)))))
 refine Aq U (fun h71=>?_) (fun h71=>?_)
 ·have hks:(AW i.op).size=2:=by rw [h71];rfl
  refine Z ?_
  obtain ⟨x72,hx73⟩:∃ z9,v[0]?=some z9:=⟨_,List.getElem?_eq_getElem (show 0<v.length by omega)⟩
  have okx72:=hok.1 _ (Bl hx73)
  have szx72:=okx72.2
  have inx72:=okx72.1
  obtain ⟨x74,hx75⟩:∃ z9,v[1]?=some z9:=⟨_,List.getElem?_eq_getElem (show 1<v.length by omega)⟩
  have okx74:=hok.1 _ (Bl hx75)
  have szx74:=okx74.2
  have inx74:=okx74.1
  refine BD (.e 0 (.e 1 (.e 2 (.e 3 (.e 4 (.e 5 (.m 6 (.m 7 (.m 8 (.e 9 (.e 10 .z))))))))))) (fun w=>∃ Ar,Hd w0 F0 w (blk b11 [.int .i64 i.op,.int .i64 i.a,.string i.s] 223::blk m (Cc sv g key (.slice A6 full.length c7) ((k:Nat):Int) tv) 311::Ae Al tv told::Ar) [Af A5 (.slice A1 v.length c2) v,Af AZ (.slice A6 full.length c7) full]) mo (by kernel_rfl) (fun w H=>⟨_,H⟩) H (fun w H=>(Ap U ?_))
  have th76:=H.thR 0 rfl hx73
  refine Ak U U U (fun w ⟨Ar,H⟩=>AG (p:=AA A1+0*3) U A8 U U (by omega) (by omega) th76 (by omega)) (Ak U U U (fun w ⟨Ar,H⟩=>Bp (cs:=[.bool x72.t,.int .i64 x72.n,.string x72.b]) U B5 U U (H.elsR 0 U hx73 U)) (Ap U ?_))
  have th77:=H.thR 0 rfl hx75
  refine Ak U U U (fun w ⟨Ar,H⟩=>AG (p:=AA A1+1*3) U A8 U U (by omega) (by omega) th77 (by omega)) (Ak U U U (fun w ⟨Ar,H⟩=>Bp (cs:=[.bool x74.t,.int .i64 x74.n,.string x74.b]) U B5 U U (H.elsR 0 U hx75 U)) (AL U (sc (Yq x72 x74) H l0 U U (At VY U U) ?_)))
  rintro _ _ w ⟨rfl,rfl⟩ H
  refine AH ⟨_,H⟩ (AL U (sc (QT (Dj x72 x74)) H l0 U U (At PD U U) ?_))
  rintro _ _ w ⟨rfl,rfl⟩ H
  refine AH ⟨_,H⟩ (AL U (Bv (parts:=[(0,.tmp 144)]) (vs:=[.agg #[.bool false,.int .i64 (if (Dj x72 x74)=true then 1 else 0),.string ⟨#[]⟩]]) (cs:=[.bool false,.int .i64 (if (Dj x72 x74)=true then 1 else 0),.string ⟨#[]⟩]) U U U A8 BV U (by decide) (by decide) U U H (fun b78 w H=>?_)))
  replace H:=H.p3|>.p3|>.p3
  refine AH ⟨_,H⟩ (Ap U (Ap U (Bx (Y (Ai (Ax (Ao (Bg U U U ?_))))))))
  replace H:=H.p3
  replace H:Hd w0 F0 w [Ae A5 (.slice (some ⟨b78,0,none⟩) 1 1) [(⟨false,if (Dj x72 x74)=true then 1 else 0,⟨#[]⟩⟩:Az)],blk b11 [.int .i64 i.op,.int .i64 i.a,.string i.s] 223,blk m (Cc sv g key (.slice A6 full.length c7) ((k:Nat):Int) tv) 311,Ae Al tv told] [Af A5 (.slice A1 v.length c2) v,Af AZ (.slice A6 full.length c7) full]:=H.turn (fun F h=>Ds h rfl (by decide) rfl)
  replace H:=H.p3.p3.k3
  have e:AY dg key g full k told i v=(⟨[(⟨false,if (Dj x72 x74)=true then 1 else 0,⟨#[]⟩⟩:Az)],0,g,k,told⟩:CT):=by
    rw [Rm h71,BH hx73,BH hx75]<;>rfl
  exact Ag ⟨_,_,by rw [e]<;>rfl,by rw [e]<;>rfl⟩ H
 refine Z (Ac (V U U (AT U U U) (Ab U (Aa (Y ?_)))))
 refine Aq U (fun h79=>?_) (fun h79=>?_)
 ·have hks:(AW i.op).size=2:=by rw [h79];rfl
  refine Z ?_
  obtain ⟨x80,hx81⟩:∃ z9,v[0]?=some z9:=⟨_,List.getElem?_eq_getElem (show 0<v.length by omega)⟩
  have okx80:=hok.1 _ (Bl hx81)
  have szx80:=okx80.2
  have inx80:=okx80.1
  obtain ⟨x82,hx83⟩:∃ z9,v[1]?=some z9:=⟨_,List.getElem?_eq_getElem (show 1<v.length by omega)⟩
  have okx82:=hok.1 _ (Bl hx83)
  have szx82:=okx82.2
  have inx82:=okx82.1
  refine BD (.e 0 (.e 1 (.e 2 (.e 3 (.e 4 (.e 5 (.e 6 (.e 7 (.e 8 (.m 9 (.m 10 (.e 11 (.e 12 .z))))))))))))) (fun w=>∃ Ar,Hd w0 F0 w (blk b11 [.int .i64 i.op,.int .i64 i.a,.string i.s] 223::blk m (Cc sv g key (.slice A6 full.length c7) ((k:Nat):Int) tv) 311::Ae Al tv told::Ar) [Af A5 (.slice A1 v.length c2) v,Af AZ (.slice A6 full.length c7) full]) mo (by kernel_rfl) (fun w H=>⟨_,H⟩) H (fun w H=>(Ap U ?_))
  have th84:=H.thR 0 rfl hx81
  refine Ak U U U (fun w ⟨Ar,H⟩=>AG (p:=AA A1+0*3) U A8 U U (by omega) (by omega) th84 (by omega)) (Ak U U U (fun w ⟨Ar,H⟩=>Ah U De U) (Ak U U U (fun w ⟨Ar,H⟩=>Aj U Bd U (H.elR 0 U hx81 (q:=2) U U)) (Ap U ?_)))
  have th85:=H.thR 0 rfl hx83
  refine Ak U U U (fun w ⟨Ar,H⟩=>AG (p:=AA A1+1*3) U A8 U U (by omega) (by omega) th85 (by omega)) (Ak U U U (fun w ⟨Ar,H⟩=>Ah U De U) (Ak U U U (fun w ⟨Ar,H⟩=>Aj U Bd U (H.elR 0 U hx83 (q:=2) U U)) (Ak U U U (fun w ⟨Ar,H⟩=>Kc U U U (by omega)) (AL U (sc (H6 (x80.b++x82.b)) H l0 U U (At HP U U) ?_)))))
  rintro _ _ w ⟨rfl,rfl⟩ H
  refine AH ⟨_,H⟩ (AL U (Bv (parts:=[(0,.tmp 157)]) (vs:=[.agg #[.bool true,.int .i64 0,.string (x80.b++x82.b)]]) (cs:=[.bool true,.int .i64 0,.string (x80.b++x82.b)]) U U U A8 BV U (by decide) (by decide) U U H (fun b86 w H=>?_)))
  replace H:=H.p3|>.p3|>.p3
  refine AH ⟨_,H⟩ (Ap U (Ap U (Bx (Y (Ai (Ax (Ao (Bg U U U ?_))))))))
  replace H:=H.p3
  replace H:Hd w0 F0 w [Ae A5 (.slice (some ⟨b86,0,none⟩) 1 1) [(⟨true,0,(x80.b++x82.b)⟩:Az)],blk b11 [.int .i64 i.op,.int .i64 i.a,.string i.s] 223,blk m (Cc sv g key (.slice A6 full.length c7) ((k:Nat):Int) tv) 311,Ae Al tv told] [Af A5 (.slice A1 v.length c2) v,Af AZ (.slice A6 full.length c7) full]:=H.turn (fun F h=>Ds h rfl (by decide) rfl)
  replace H:=H.p3.p3.k3
  have e:AY dg key g full k told i v=(⟨[(⟨true,0,(x80.b++x82.b)⟩:Az)],0,g,k,told⟩:CT):=by
    rw [Rn h79,BH hx81,BH hx83]<;>rfl
  exact Ag ⟨_,_,by rw [e]<;>rfl,by rw [e]<;>rfl⟩ H
 refine Z (Ac (V U U (AT U U U) (Ab U (Aa (Y ?_)))))
 refine Aq U (fun h87=>?_) (fun h87=>?_)
 ·have hks:(AW i.op).size=1:=by rw [h87];rfl
  refine Z ?_
  obtain ⟨x88,hx89⟩:∃ z9,v[0]?=some z9:=⟨_,List.getElem?_eq_getElem (show 0<v.length by omega)⟩
  have okx88:=hok.1 _ (Bl hx89)
  have szx88:=okx88.2
  have inx88:=okx88.1
  refine Ac (Ab U ?_)
  have th90:=H.thR 0 rfl hx89
  refine V U U (AG (p:=AA A1+0*3) U A8 U U (by omega) (by omega) th90 (by omega)) (V U U (Ah U De U) (V U U (Aj U Bd U (H.elR 0 U hx89 (q:=2) U U)) (V U U (Cl U BJ U) (sc (FL ((x88.b.size:Nat):Int)) H l0 U U (At FE U U) ?_))))
  rintro _ _ w ⟨rfl,rfl⟩ H
  refine Bv (parts:=[(0,.tmp 166)]) (vs:=[.agg #[.bool false,.int .i64 ((x88.b.size:Nat):Int),.string ⟨#[]⟩]]) (cs:=[.bool false,.int .i64 ((x88.b.size:Nat):Int),.string ⟨#[]⟩]) U U U A8 BV U (by decide) (by decide) U U H (fun b91 w H=>(Ad 2 U (Aa (Y (Ai (Ax (Ao (Bg U U U ?_))))))))
  replace H:Hd w0 F0 w [Ae A5 (.slice (some ⟨b91,0,none⟩) 1 1) [(⟨false,((x88.b.size:Nat):Int),⟨#[]⟩⟩:Az)],blk b11 [.int .i64 i.op,.int .i64 i.a,.string i.s] 223,blk m (Cc sv g key (.slice A6 full.length c7) ((k:Nat):Int) tv) 311,Ae Al tv told] [Af A5 (.slice A1 v.length c2) v,Af AZ (.slice A6 full.length c7) full]:=H.turn (fun F h=>Ds h rfl (by decide) rfl)
  replace H:=H.p3.p3.k3
  have e:AY dg key g full k told i v=(⟨[(⟨false,((x88.b.size:Nat):Int),⟨#[]⟩⟩:Az)],0,g,k,told⟩:CT):=by
    rw [Ro h87,BH hx89]<;>rfl
  exact Ag ⟨_,_,by rw [e]<;>rfl,by rw [e]<;>rfl⟩ H
 refine Z (Ac (V U U (AT U U U) (Ab U (Aa (Y ?_)))))
 refine Aq U (fun h92=>?_) (fun h92=>?_)
 ·have hks:(AW i.op).size=2:=by rw [h92];rfl
  refine Z ?_
  obtain ⟨x93,hx94⟩:∃ z9,v[0]?=some z9:=⟨_,List.getElem?_eq_getElem (show 0<v.length by omega)⟩
  have okx93:=hok.1 _ (Bl hx94)
  have szx93:=okx93.2
  have inx93:=okx93.1
  obtain ⟨x95,hx96⟩:∃ z9,v[1]?=some z9:=⟨_,List.getElem?_eq_getElem (show 1<v.length by omega)⟩
  have okx95:=hok.1 _ (Bl hx96)
  have szx95:=okx95.2
  have inx95:=okx95.1
  refine BD (.e 0 (.e 1 (.e 2 (.e 3 (.e 4 (.e 5 (.e 6 (.e 7 (.m 8 (.m 9 (.m 10 (.e 11 (.e 12 .z))))))))))))) (fun w=>∃ Ar,Hd w0 F0 w (blk b11 [.int .i64 i.op,.int .i64 i.a,.string i.s] 223::blk m (Cc sv g key (.slice A6 full.length c7) ((k:Nat):Int) tv) 311::Ae Al tv told::Ar) [Af A5 (.slice A1 v.length c2) v,Af AZ (.slice A6 full.length c7) full]) mo (by kernel_rfl) (fun w H=>⟨_,H⟩) H (fun w H=>(Ap U ?_))
  have th97:=H.thR 0 rfl hx94
  refine Ak U U U (fun w ⟨Ar,H⟩=>AG (p:=AA A1+0*3) U A8 U U (by omega) (by omega) th97 (by omega)) (Ak U U U (fun w ⟨Ar,H⟩=>Ah U De U) (Ak U U U (fun w ⟨Ar,H⟩=>Aj U Bd U (H.elR 0 U hx94 (q:=2) U U)) (Ap U ?_)))
  have th98:=H.thR 0 rfl hx96
  refine Ak U U U (fun w ⟨Ar,H⟩=>AG (p:=AA A1+1*3) U A8 U U (by omega) (by omega) th98 (by omega)) (Ak U U U (fun w ⟨Ar,H⟩=>Ah U CO U) (Ak U U U (fun w ⟨Ar,H⟩=>Aj U Cw U (H.elR 0 U hx96 (q:=1) U U)) (AL U (sc (X8 x93.b x95.n) H l0 U U (At VZ U U) ?_))))
  rintro _ _ w ⟨rfl,rfl⟩ H
  refine AH ⟨_,H⟩ (AL U (sc (FL (DB x93.b x95.n)) H l0 U U (At FE U U) ?_))
  rintro _ _ w ⟨rfl,rfl⟩ H
  refine AH ⟨_,H⟩ (AL U (Bv (parts:=[(0,.tmp 179)]) (vs:=[.agg #[.bool false,.int .i64 (DB x93.b x95.n),.string ⟨#[]⟩]]) (cs:=[.bool false,.int .i64 (DB x93.b x95.n),.string ⟨#[]⟩]) U U U A8 BV U (by decide) (by decide) U U H (fun b99 w H=>?_)))
  replace H:=H.p3|>.p3|>.p3
  refine AH ⟨_,H⟩ (Ap U (Ap U (Bx (Y (Ai (Ax (Ao (Bg U U U ?_))))))))
  replace H:=H.p3
  replace H:Hd w0 F0 w [Ae A5 (.slice (some ⟨b99,0,none⟩) 1 1) [(⟨false,DB x93.b x95.n,⟨#[]⟩⟩:Az)],blk b11 [.int .i64 i.op,.int .i64 i.a,.string i.s] 223,blk m (Cc sv g key (.slice A6 full.length c7) ((k:Nat):Int) tv) 311,Ae Al tv told] [Af A5 (.slice A1 v.length c2) v,Af AZ (.slice A6 full.length c7) full]:=H.turn (fun F h=>Ds h rfl (by decide) rfl)
  replace H:=H.p3.p3.k3
  have e:AY dg key g full k told i v=(⟨[(⟨false,DB x93.b x95.n,⟨#[]⟩⟩:Az)],0,g,k,told⟩:CT):=by
    rw [Rp h92,BH hx94,BH hx96]<;>rfl
  exact Ag ⟨_,_,by rw [e]<;>rfl,by rw [e]<;>rfl⟩ H
 refine Z (Ac (V U U (AT U U U) (Ab U (Aa (Y ?_)))))
 refine Aq U (fun h100=>?_) (fun h100=>?_)
 ·have hks:(AW i.op).size=3:=by rw [h100];rfl
  refine Z ?_
  obtain ⟨x101,hx102⟩:∃ z9,v[0]?=some z9:=⟨_,List.getElem?_eq_getElem (show 0<v.length by omega)⟩
  have okx101:=hok.1 _ (Bl hx102)
  have szx101:=okx101.2
  have inx101:=okx101.1
  obtain ⟨x103,hx104⟩:∃ z9,v[1]?=some z9:=⟨_,List.getElem?_eq_getElem (show 1<v.length by omega)⟩
  have okx103:=hok.1 _ (Bl hx104)
  have szx103:=okx103.2
  have inx103:=okx103.1
  obtain ⟨x105,hx106⟩:∃ z9,v[2]?=some z9:=⟨_,List.getElem?_eq_getElem (show 2<v.length by omega)⟩
  have okx105:=hok.1 _ (Bl hx106)
  have szx105:=okx105.2
  have inx105:=okx105.1
  refine BD (.e 0 (.e 1 (.e 2 (.e 3 (.e 4 (.e 5 (.e 6 (.e 7 (.e 8 (.e 9 (.e 10 (.e 11 (.m 12 (.m 13 (.m 14 (.e 15 (.e 16 .z))))))))))))))))) (fun w=>∃ Ar,Hd w0 F0 w (blk b11 [.int .i64 i.op,.int .i64 i.a,.string i.s] 223::blk m (Cc sv g key (.slice A6 full.length c7) ((k:Nat):Int) tv) 311::Ae Al tv told::Ar) [Af A5 (.slice A1 v.length c2) v,Af AZ (.slice A6 full.length c7) full]) mo (by kernel_rfl) (fun w H=>⟨_,H⟩) H (fun w H=>(Ap U ?_))
  have th107:=H.thR 0 rfl hx102
  refine Ak U U U (fun w ⟨Ar,H⟩=>AG (p:=AA A1+0*3) U A8 U U (by omega) (by omega) th107 (by omega)) (Ak U U U (fun w ⟨Ar,H⟩=>Ah U De U) (Ak U U U (fun w ⟨Ar,H⟩=>Aj U Bd U (H.elR 0 U hx102 (q:=2) U U)) (Ap U ?_)))
  have th108:=H.thR 0 rfl hx104
  refine Ak U U U (fun w ⟨Ar,H⟩=>AG (p:=AA A1+1*3) U A8 U U (by omega) (by omega) th108 (by omega)) (Ak U U U (fun w ⟨Ar,H⟩=>Ah U CO U) (Ak U U U (fun w ⟨Ar,H⟩=>Aj U Cw U (H.elR 0 U hx104 (q:=1) U U)) (Ap U ?_)))
  have th109:=H.thR 0 rfl hx106
  refine Ak U U U (fun w ⟨Ar,H⟩=>AG (p:=AA A1+2*3) U A8 U U (by omega) (by omega) th109 (by omega)) (Ak U U U (fun w ⟨Ar,H⟩=>Ah U CO U) (Ak U U U (fun w ⟨Ar,H⟩=>Aj U Cw U (H.elR 0 U hx106 (q:=1) U U)) (AL U (sc (Yc x101.b x103.n x105.n) H l0 U U (At V0 U U) ?_))))
  rintro _ _ w ⟨rfl,rfl⟩ H
  refine AH ⟨_,H⟩ (AL U (sc (H6 (Ee x101.b x103.n x105.n)) H l0 U U (At HP U U) ?_))
  rintro _ _ w ⟨rfl,rfl⟩ H
  refine AH ⟨_,H⟩ (AL U (Bv (parts:=[(0,.tmp 196)]) (vs:=[.agg #[.bool true,.int .i64 0,.string (Ee x101.b x103.n x105.n)]]) (cs:=[.bool true,.int .i64 0,.string (Ee x101.b x103.n x105.n)]) U U U A8 BV U (by decide) (by decide) U U H (fun b110 w H=>?_)))
  replace H:=H.p3|>.p3|>.p3
  refine AH ⟨_,H⟩ (Ap U (Ap U (Bx (Y (Ai (Ax (Ao (Bg U U U ?_))))))))
  replace H:=H.p3
  replace H:Hd w0 F0 w [Ae A5 (.slice (some ⟨b110,0,none⟩) 1 1) [(⟨true,0,(Ee x101.b x103.n x105.n)⟩:Az)],blk b11 [.int .i64 i.op,.int .i64 i.a,.string i.s] 223,blk m (Cc sv g key (.slice A6 full.length c7) ((k:Nat):Int) tv) 311,Ae Al tv told] [Af A5 (.slice A1 v.length c2) v,Af AZ (.slice A6 full.length c7) full]:=H.turn (fun F h=>Ds h rfl (by decide) rfl)
  replace H:=H.p3.p3.k3
  have e:AY dg key g full k told i v=(⟨[(⟨true,0,(Ee x101.b x103.n x105.n)⟩:Az)],0,g,k,told⟩:CT):=by
    rw [Rq h100,BH hx102,BH hx104,BH hx106]<;>rfl
  exact Ag ⟨_,_,by rw [e]<;>rfl,by rw [e]<;>rfl⟩ H
 refine Z (Ac (V U U (AT U U U) (Ab U (Aa (Y ?_)))))
 refine Aq U (fun h111=>?_) (fun h111=>?_)
 ·have hks:(AW i.op).size=1:=by rw [h111];rfl
  refine Z ?_
  obtain ⟨x112,hx113⟩:∃ z9,v[0]?=some z9:=⟨_,List.getElem?_eq_getElem (show 0<v.length by omega)⟩
  have okx112:=hok.1 _ (Bl hx113)
  have szx112:=okx112.2
  have inx112:=okx112.1
  refine Ac (Ab U ?_)
  have th114:=H.thR 0 rfl hx113
  refine V U U (AG (p:=AA A1+0*3) U A8 U U (by omega) (by omega) th114 (by omega)) (V U U (Ah U CO U) (V U U (Aj U Cw U (H.elR 0 U hx113 (q:=1) U U)) (sc (IN x112.n (by assumption)) H l0 U U (At IB U U) ?_)))
  rintro _ _ w ⟨rfl,rfl⟩ H
  refine sc (H6 (dg.dig x112.n)) H l0 U U (At HP U U) ?_
  rintro _ _ w ⟨rfl,rfl⟩ H
  refine Bv (parts:=[(0,.tmp 205)]) (vs:=[.agg #[.bool true,.int .i64 0,.string (dg.dig x112.n)]]) (cs:=[.bool true,.int .i64 0,.string (dg.dig x112.n)]) U U U A8 BV U (by decide) (by decide) U U H (fun b115 w H=>(Ad 2 U (Aa (Y (Ai (Ax (Ao (Bg U U U ?_))))))))
  replace H:Hd w0 F0 w [Ae A5 (.slice (some ⟨b115,0,none⟩) 1 1) [(⟨true,0,(dg.dig x112.n)⟩:Az)],blk b11 [.int .i64 i.op,.int .i64 i.a,.string i.s] 223,blk m (Cc sv g key (.slice A6 full.length c7) ((k:Nat):Int) tv) 311,Ae Al tv told] [Af A5 (.slice A1 v.length c2) v,Af AZ (.slice A6 full.length c7) full]:=H.turn (fun F h=>Ds h rfl (by decide) rfl)
  replace H:=H.p3.p3.k3
  have e:AY dg key g full k told i v=(⟨[(⟨true,0,(dg.dig x112.n)⟩:Az)],0,g,k,told⟩:CT):=by
    rw [Rr h111,BH hx113]<;>rfl
  exact Ag ⟨_,_,by rw [e]<;>rfl,by rw [e]<;>rfl⟩ H
 refine Z (Ac (V U U (AT U U U) (Ab U (Aa (Y ?_)))))
 refine Aq U (fun h116=>?_) (fun h116=>?_)
 ·have hks:(AW i.op).size=1:=by rw [h116];rfl
  refine Z ?_
  obtain ⟨x117,hx118⟩:∃ z9,v[0]?=some z9:=⟨_,List.getElem?_eq_getElem (show 0<v.length by omega)⟩
  have okx117:=hok.1 _ (Bl hx118)
  have szx117:=okx117.2
  have inx117:=okx117.1
  refine Ac (Ab U ?_)
  have th119:=H.thR 0 rfl hx118
  refine V U U (AG (p:=AA A1+0*3) U A8 U U (by omega) (by omega) th119 (by omega)) (V U U (Ah U De U) (V U U (Aj U Bd U (H.elR 0 U hx118 (q:=2) U U)) (sc (Yk x117.b (by first |omega|decide)) H l0 U U (At V1 U U) ?_)))
  rintro _ _ w ⟨rfl,rfl⟩ H
  refine sc (FL (dg.num x117.b)) H l0 U U (At FE U U) ?_
  rintro _ _ w ⟨rfl,rfl⟩ H
  refine Bv (parts:=[(0,.tmp 214)]) (vs:=[.agg #[.bool false,.int .i64 (dg.num x117.b),.string ⟨#[]⟩]]) (cs:=[.bool false,.int .i64 (dg.num x117.b),.string ⟨#[]⟩]) U U U A8 BV U (by decide) (by decide) U U H (fun b120 w H=>(Ad 2 U (Aa (Y (Ai (Ax (Ao (Bg U U U ?_))))))))
  replace H:Hd w0 F0 w [Ae A5 (.slice (some ⟨b120,0,none⟩) 1 1) [(⟨false,dg.num x117.b,⟨#[]⟩⟩:Az)],blk b11 [.int .i64 i.op,.int .i64 i.a,.string i.s] 223,blk m (Cc sv g key (.slice A6 full.length c7) ((k:Nat):Int) tv) 311,Ae Al tv told] [Af A5 (.slice A1 v.length c2) v,Af AZ (.slice A6 full.length c7) full]:=H.turn (fun F h=>Ds h rfl (by decide) rfl)
  replace H:=H.p3.p3.k3
  have e:AY dg key g full k told i v=(⟨[(⟨false,dg.num x117.b,⟨#[]⟩⟩:Az)],0,g,k,told⟩:CT):=by
    rw [Rt h116,BH hx118]<;>rfl
  exact Ag ⟨_,_,by rw [e]<;>rfl,by rw [e]<;>rfl⟩ H
 refine Z (Ac (V U U (AT U U U) (Ab U (Aa (Y ?_)))))
 refine Aq U (fun h121=>?_) (fun h121=>?_)
 ·have hks:(AW i.op).size=0:=by rw [h121];rfl
  refine Z ?_
  have hia:=hi.2.2.2.2.2.1 (by omega)
  obtain ⟨gk,hgk⟩:∃ z,z=g (i.a).toNat:=⟨_,rfl⟩
  refine BD (.e 0 (.e 1 (.e 2 (.e 3 (.e 4 (.e 5 (.e 6 (.m 7 (.e 8 (.e 9 .z)))))))))) (fun w=>∃ Ar,Hd w0 F0 w (blk b11 [.int .i64 i.op,.int .i64 i.a,.string i.s] 223::blk m (Cc sv g key (.slice A6 full.length c7) ((k:Nat):Int) tv) 311::Ae Al tv told::Ar) [Af A5 (.slice A1 v.length c2) v,Af AZ (.slice A6 full.length c7) full]) mo (by kernel_rfl) (fun w H=>⟨_,H⟩) H (fun w H=>(Ap U (Ak U U U (fun w ⟨Ar,H⟩=>Ah U Cg U) (Ak U U U (fun w ⟨Ar,H⟩=>Aj U Aw U (H.cellI 0 U U)) (Ak U U U (fun w ⟨Ar,H⟩=>AI U U) (Ak U U U (fun w ⟨Ar,H⟩=>Ah U OD U) (Ak U U U (fun w ⟨Ar,H⟩=>IO (p:=1+(i.a).toNat*3) U KH JO U U (by omega) (by omega) (by omega)) (Ak U U U (fun w ⟨Ar,H⟩=>Bp (cs:=[.bool gk.t,.int .i64 gk.n,.string gk.b]) U B5 U U (H.cellsI 1 U (by rw [hgk];exact Wz (by omega)))) (AL U (Bv (parts:=[(0,.tmp 224)]) (vs:=[.agg #[.bool gk.t,.int .i64 gk.n,.string gk.b]]) (cs:=[.bool gk.t,.int .i64 gk.n,.string gk.b]) U U U A8 BV U (by decide) (by decide) U U H (fun b122 w H=>?_)))))))))))
  replace H:=H.p3.p3.p3
  refine AH ⟨_,H⟩ (Ap U (Ap U (Bx (Y (Ai (Ax (Ao (Bg U U U ?_))))))))
  replace H:=H.p3
  replace H:Hd w0 F0 w [Ae A5 (.slice (some ⟨b122,0,none⟩) 1 1) [gk],blk b11 [.int .i64 i.op,.int .i64 i.a,.string i.s] 223,blk m (Cc sv g key (.slice A6 full.length c7) ((k:Nat):Int) tv) 311,Ae Al tv told] [Af A5 (.slice A1 v.length c2) v,Af AZ (.slice A6 full.length c7) full]:=H.turn (fun F h=>Ds h rfl (by decide) rfl)
  replace H:=H.p3.p3.k3
  have e:AY dg key g full k told i v=(⟨[gk],0,g,k,told⟩:CT):=by
    rw [Rv h121,hgk]
  exact Ag ⟨_,_,by rw [e]<;>rfl,by rw [e]<;>rfl⟩ H
 refine Z (Ac (V U U (AT U U U) (Ab U (Aa (Y ?_)))))
 refine Aq U (fun h123=>?_) (fun h123=>?_)
 ·have hks:(AW i.op).size=1:=by rw [h123];rfl
  have hia:=hi.2.2.2.2.2.1 (by omega)
  obtain ⟨x124,hx125⟩:∃ z9,v[0]?=some z9:=⟨_,List.getElem?_eq_getElem (show 0<v.length by omega)⟩
  have okx124:=hok.1 _ (Bl hx125)
  have szx124:=okx124.2
  have inx124:=okx124.1
  replace H:=H.p2.p1
  refine BD (.e 0 (.e 1 (.e 2 (.e 3 (.e 4 (.e 5 (.e 6 (.e 7 (.e 8 (.m 9 .z)))))))))) (fun w=>∃ Ar,Hd w0 F0 w (blk b11 [.int .i64 i.op,.int .i64 i.a,.string i.s] 223::Ae Al tv told::Ar) [Af A5 (.slice A1 v.length c2) v,Af AZ (.slice A6 full.length c7) full]) mo (by kernel_rfl) (fun w H=>⟨_,H⟩) H (fun w H=>(Ap U (Ak U U U (fun w ⟨Ar,H⟩=>Ah U Cg U) (Ak U U U (fun w ⟨Ar,H⟩=>Aj U Aw U (H.cellI 0 U U)) (Ap U ?_)))))
  have th126:=H.thR 0 rfl hx125
  refine Ak U U U (fun w ⟨Ar,H⟩=>AG (p:=AA A1+0*3) U A8 U U (by omega) (by omega) th126 (by omega)) (Ak U U U (fun w ⟨Ar,H⟩=>Bp (cs:=[.bool x124.t,.int .i64 x124.n,.string x124.b]) U B5 U U (H.elsR 0 U hx125 U)) (Ak U U U (fun w ⟨Ar,H⟩=>AI U U) (Ak U U U (fun w ⟨Ar,H⟩=>Ah U OD U) (Ak U U U (fun w ⟨Ar,H⟩=>IO (p:=1+(i.a).toNat*3) U KH JO U U (by omega) (by omega) (by omega)) (AL U ?_)))))
  replace H:=H.p2
  refine By U U U B5 U U H U (by show 1+(i.a).toNat*3+3≤29;omega) (fun u hu=>by simp [Value.cells] at hu;rcases hu with rfl|rfl|rfl<;>rfl) (fun w H=>?_)
  replace H:Hd w0 F0 w [blk m (Cc sv (Ga g i.a.toNat x124) key (.slice A6 full.length c7) ((k:Nat):Int) tv) 311,blk b11 [.int .i64 i.op,.int .i64 i.a,.string i.s] 223,Ae Al tv told] [Af A5 (.slice A1 v.length c2) v,Af AZ (.slice A6 full.length c7) full]:=by rw [←WA (show i.a.toNat<8 by omega) x124];exact H
  replace H:=H.p2.p2
  refine AH ⟨_,H⟩ (Bx (AS (Y (Z (Ac (Ad 2 U (Aa (Y (Ai (Bg U U U ?_))))))))))
  replace H:=H.p1.p2.k2.newnil A5|>.p2|>.p2
  have e:AY dg key g full k told i v=(⟨[],0,Ga g i.a.toNat x124,k,told⟩:CT):=by
    rw [Rw h123,BH hx125]<;>rfl
  exact Ag ⟨_,_,by rw [e]<;>rfl,by rw [e]<;>rfl⟩ H
 refine Z (Ac (V U U (AT U U U) (Ab U (Aa (Y ?_)))))
 refine Aq U (fun h127=>?_) (fun h127=>?_)
 ·have hks:(AW i.op).size=2:=by rw [h127];rfl
  refine Z (Z ?_)
  obtain ⟨x128,hx129⟩:∃ z9,v[0]?=some z9:=⟨_,List.getElem?_eq_getElem (show 0<v.length by omega)⟩
  have okx128:=hok.1 _ (Bl hx129)
  have szx128:=okx128.2
  have inx128:=okx128.1
  obtain ⟨x130,hx131⟩:∃ z9,v[1]?=some z9:=⟨_,List.getElem?_eq_getElem (show 1<v.length by omega)⟩
  have okx130:=hok.1 _ (Bl hx131)
  have szx130:=okx130.2
  have inx130:=okx130.1
  refine Ac (Ab U ?_)
  have th132:=H.thR 0 rfl hx129
  refine V U U (AG (p:=AA A1+0*3) U A8 U U (by omega) (by omega) th132 (by omega)) (V U U (Ah U De U) (V U U (Aj U Bd U (H.elR 0 U hx129 (q:=2) U U)) (V U U (Cl U BJ U) (V U U (BP U U U) (Aa (Y ?_))))))
  refine Aq U (fun h133=>?_) (fun h133=>?_)
  ·refine Z (Ac (Ad 2 U (Aa (Y (Ai (Ao (Ax (Ao (Bg U U U ?_)))))))))
   replace H:=H.p2.p2.k2.newnil A5|>.p2|>.p2
   have e:AY dg key g full k told i v=(⟨[],4,g,k,told⟩:CT):=by
     rw [IV h127,BH hx129,BH hx131]
     rw [N8 h133]
   exact Ag ⟨_,_,by rw [e]<;>rfl,by rw [e]<;>rfl⟩ H
  refine Av (Y (Z (Z (Ac (Ab U (V U U (AI U U) (V U U (Ah U HL U) (V U U (Aj U Db U (H.cellI 1 U U)) ?_))))))))
  obtain ⟨A134,c135,rfl,hc136,hm137,hp138⟩:=H.fA 2 rfl
  refine V U U (AO U B_ U) (V U U (BN U U U) (Aa (Y ?_)))
  refine Aq U (fun h139=>?_) (fun h139=>?_)
  ·refine Z (Ac (Ad 2 U (Aa (Y (Ai (Ao (Ax (Ao (Bg U U U ?_)))))))))
   replace H:=H.p2.p2.k2.newnil A5|>.p2|>.p2
   have e:AY dg key g full k told i v=(⟨[],5,g,k,told⟩:CT):=by
     rw [IV h127,BH hx129,BH hx131]
     rw [N9 h133 (by omega)]
   exact Ag ⟨_,_,by rw [e]<;>rfl,by rw [e]<;>rfl⟩ H
  refine Av (Y (BD (.e 0 (.e 1 (.e 2 (.e 3 (.e 5 (.e 6 (.e 7 (.e 8 (.e 9 (.e 10 (.e 11 (.e 12 (.e 13 (.b 4 14 (.m 14 (.m 15 (.e 16 (.e 17 (.m 18 .z))))) (.m 4 (.m 15 (.e 16 (.e 17 (.m 18 .z))))))))))))))))))) (fun w=>∃ Ar,Hd w0 F0 w (blk b11 [.int .i64 i.op,.int .i64 i.a,.string i.s] 223::Ar) [Af A5 (.slice A1 v.length c2) v,Af AZ (.slice A6 full.length c7) full]) mo (by kernel_rfl) (fun w H=>⟨_,H⟩) H (fun w H=>(Ap U (Ap U (Ak U U U (fun w ⟨Ar,H⟩=>AI U U) (Ak U U U (fun w ⟨Ar,H⟩=>Ah U HL U) (Ap U ?_))))))))
  have th140:=H.thR 0 rfl hx129
  refine Ak U U U (fun w ⟨Ar,H⟩=>AG (p:=AA A1+0*3) U A8 U U (by omega) (by omega) th140 (by omega)) (Ak U U U (fun w ⟨Ar,H⟩=>Ah U De U) (Ak U U U (fun w ⟨Ar,H⟩=>Aj U Bd U (H.elR 0 U hx129 (q:=2) U U)) (Ap U ?_)))
  have th141:=H.thR 0 rfl hx131
  refine Ak U U U (fun w ⟨Ar,H⟩=>AG (p:=AA A1+1*3) U A8 U U (by omega) (by omega) th141 (by omega)) (Ak U U U (fun w ⟨Ar,H⟩=>Ah U De U) (Ak U U U (fun w ⟨Ar,H⟩=>Aj U Bd U (H.elR 0 U hx131 (q:=2) U U)) (Ak U U U (fun w ⟨Ar,H⟩=>CV (parts:=[(0,.tmp 259),(1,.tmp 263)]) (vs:=[.string x128.b,.string x130.b]) (cs:=[.string x128.b,.string x130.b]) U G4 U U) ?_)))
  refine Jn U U ?_ ?_
  ·refine V U U (Aj U Db U (H.cellI 1 U U)) (AH ⟨_,H⟩ (AL U (Bv (parts:=[(0,.tmp 264)]) (vs:=[.agg #[.string x128.b,.string x130.b]]) (cs:=[.string x128.b,.string x130.b]) U U U Bq CJ U (by decide) (by decide) U U H (fun b142 w H=>?_))))
   replace H:=H.p1
   refine AH ⟨_,H⟩ (AL U ?_)
   replace H:=H.p3
   refine BY (xs:=told) (ys:=[(⟨x128.b,x130.b⟩:An)]) U U U Bq CJ U (by decide) U U H (by first |omega|(simp only [List.length_cons,List.length_nil];omega)) (fun F hA hR=>BZ (hA _ (List.mem_of_getElem? (i:=1) U)) U (by decide) (AX.flat_eq.2 U)) (fun v143 w H=>?_)
   replace H:=H.p1
   refine AH ⟨_,H⟩ (Ak U U U (fun w ⟨Ar,H⟩=>AI U U) (Ak U U U (fun w ⟨Ar,H⟩=>Ah U HL U) (AL U ?_)))
   obtain ⟨A144,c145,rfl,hc146,hm147,hp148⟩:=H.fA 1 rfl
   replace H:=H.p3
   refine By U U U Db U U H U (Nat.le_of_ble_eq_true U) (fun u hu=>by simp [Value.cells] at hu;subst hu;rfl) (fun w H=>?_)
   replace H:=H.p1
   refine AH ⟨_,H⟩ (Bx (AS (Y (Z (Ac (Ad 2 U (Aa (Y (Ai (Bg U U U ?_))))))))))
   replace H:=H.p2.p2.k2.newnil A5|>.p2|>.p2
   have e:AY dg key g full k told i v=(⟨[],0,g,k,told++[(⟨x128.b,x130.b⟩:An)]⟩:CT):=by
     rw [IV h127,BH hx129,BH hx131]
     rw [Lw h133 (by omega)]
   exact Ag ⟨_,_,by rw [e]<;>rfl,by rw [e]<;>rfl⟩ H
  refine Bv (parts:=[(0,.tmp 264)]) (vs:=[.agg #[.string x128.b,.string x130.b]]) (cs:=[.string x128.b,.string x130.b]) U U U Bq CJ U (by decide) (by decide) U U H (fun b149 w H=>?_)
  replace H:=H.p1
  refine AH ⟨_,H⟩ (AL U (V U U (Aj U Db U (H.cellI 2 U U)) (AH ⟨_,H⟩ (AL U ?_))))
  replace H:=H.p3
  refine BY (xs:=told) (ys:=[(⟨x128.b,x130.b⟩:An)]) U U U Bq CJ U (by decide) U U H (by first |omega|(simp only [List.length_cons,List.length_nil];omega)) (fun F hA hR=>BZ (hA _ (List.mem_of_getElem? (i:=1) U)) U (by decide) (AX.flat_eq.2 U)) (fun v150 w H=>?_)
  replace H:=H.p1
  refine AH ⟨_,H⟩ (Ak U U U (fun w ⟨Ar,H⟩=>AI U U) (Ak U U U (fun w ⟨Ar,H⟩=>Ah U HL U) (AL U ?_)))
  obtain ⟨A151,c152,rfl,hc153,hm154,hp155⟩:=H.fA 1 rfl
  replace H:=H.p3
  refine By U U U Db U U H U (Nat.le_of_ble_eq_true U) (fun u hu=>by simp [Value.cells] at hu;subst hu;rfl) (fun w H=>?_)
  replace H:=H.p1
  refine AH ⟨_,H⟩ (Bx (AS (Y (Z (Ac (Ad 2 U (Aa (Y (Ai (Bg U U U ?_))))))))))
  replace H:=H.p2.p2.k2.newnil A5|>.p2|>.p2
  have e:AY dg key g full k told i v=(⟨[],0,g,k,told++[(⟨x128.b,x130.b⟩:An)]⟩:CT):=by
    rw [IV h127,BH hx129,BH hx131]
    rw [Lw h133 (by omega)]
  exact Ag ⟨_,_,by rw [e]<;>rfl,by rw [e]<;>rfl⟩ H
 refine Av (AS (Y (Z (Ac (Ad 2 U (Aa (Y (Ai (Bg U U U ?_)))))))))
 replace H:=H.p2.p2.k2.newnil A5|>.p2|>.p2
 have e:AY dg key g full k told i v=(⟨[],0,g,k,told⟩:CT):=by
   exact MS (by have:=hi.1;have:=hi.2.1;omega)
 exact Ag ⟨_,_,by rw [e]<;>rfl,by rw [e]<;>rfl⟩ H
theorem G8 (c:UInt8) (v:Az):DM c v=!((decide ((c.toNat:Int)=110) && v.t)||(decide ((c.toNat:Int)=116) && !v.t)):=by
 have h:∀ d:UInt8,(c==d)=decide ((c.toNat:Int)=(d.toNat:Int)):=by
  intro d
  rw [Bool.eq_iff_iff,beq_iff_eq,decide_eq_true_eq]
  constructor
  ·intro e;rw [e]
  ·intro e;exact UInt8.toNat_inj.1 (by omega)
 unfold DM
 rw [h 110,h 116]
 rfl
theorem UT (op:Int):(A0 op).size≤3:=by
 unfold A0
 repeat (first |(exact Nat.le_of_ble_eq_true rfl)|split)
theorem Jt {ks:List UInt8} {xs:List Az} {i:Nat} {c:UInt8} {x:Az} (hk:ks[i]?=some c) (hx:xs[i]?=some x) (hb:DM c x=true):Ev (ks.drop (i+1)) (xs.drop (i+1))=Ev (ks.drop i) (xs.drop i):=by
 rw [Dv hk,Dv hx]
 simp [Ev,hb]
theorem LE {ks:List UInt8} {xs:List Az} {i:Nat} {c:UInt8} {x:Az} (hk:ks[i]?=some c) (hx:xs[i]?=some x) (hb:DM c x=false):Ev (ks.drop i) (xs.drop i)=false:=by
 rw [Dv hk,Dv hx]
 simp [Ev,hb]
theorem Ua {ks:List UInt8} {xs:List Az} {i:Nat} (h:xs.length≤i):Ev (ks.drop i) (xs.drop i)=true:=by
 rw [List.drop_eq_nil_of_le h]
 cases ks.drop i<;>rfl
section
variable {D:Bc} {key:ByteArray} {pos:Int} {stk:List Az} {g:Nat→Az} {told:List An} {full:List ByteArray} {k:Nat} {i:Bm}
def DU (D:Bc) (key:ByteArray) (pos:Int) (stk:List Az) (g:Nat→Az) (told:List An) (full:List ByteArray) (k:Nat) (i:Bm):VM×Int:=BC D key ⟨pos,false,stk,g,told,full.drop k⟩ i
theorem ZO (h:stk.length<(A0 i.op).size):(DU D key pos stk g told full k i).2=1:=by
 rw [Iy] at h
 have e:=J7 h
 unfold DU
 rw [Is (m:=⟨pos,false,stk,g,told,full.drop k⟩) (by show (AC i.op stk).1≠0;rw [e];exact (show ¬ (1:Int)=0 by decide))]
 show (AC i.op stk).1=1
 rw [e]
theorem M8 (h:¬ stk.length<(A0 i.op).size) (h2:Ev (A0 i.op).data.toList (stk.drop (stk.length - (A0 i.op).size))=false):(DU D key pos stk g told full k i).2=2:=by
 rw [Iy] at h h2
 rw [Oo] at h2
 have e:=HT h h2
 unfold DU
 rw [Is (m:=⟨pos,false,stk,g,told,full.drop k⟩) (by show (AC i.op stk).1≠0;rw [e];exact (show ¬ (2:Int)=0 by decide))]
 show (AC i.op stk).1=2
 rw [e]
theorem ZN (h:¬ stk.length<(A0 i.op).size) (h2:Ev (A0 i.op).data.toList (stk.drop (stk.length - (A0 i.op).size))=true):
  DU D key pos stk g told full k i=BS D key ⟨pos,false,stk.take (stk.length - (A0 i.op).size),g,told,full.drop k⟩ i (stk.drop (stk.length - (A0 i.op).size)):=by
 rw [Iy] at h h2 ⊢
 rw [Oo] at h2
 have e:=IE h h2
 unfold DU
 rw [CR (m:=⟨pos,false,stk,g,told,full.drop k⟩) (by show ¬ (AC i.op stk).1≠0;rw [e];exact fun h=>h rfl)]
 show BS D key ⟨pos,false,(AC i.op stk).2.1,g,told,full.drop k⟩ i (AC i.op stk).2.2=_
 rw [e]
def Hx (r:VM×Int) (pos to:Int) (stk:List Az) (g:Nat→Az) (told:List An) (full:List ByteArray) (k:Nat):Prop:=
 r=(⟨if 0≤to then to else pos,false,stk,g,told,full.drop k⟩,0)
theorem RX {rest v:List Az} {n:Int} (hi:Bf i n) (h:DU D key pos stk g told full k i=BS D key ⟨pos,false,rest,g,told,full.drop k⟩ i v) (hop:i.op=19∨(i.op=20∧(v.getD 0 Bt).n≠0)):
  Hx (DU D key pos stk g told full k i) pos i.a rest g told full k:=by
 unfold Hx
 rw [h]
 rcases hop with e|⟨e,hn⟩
 ·rw [K8 e,if_pos (hi.2.2.2.2.1 (.inl e)).1]
 ·rw [Io e,if_pos hn,if_pos (hi.2.2.2.2.1 (.inr e)).1]
section
variable {rest v:List Az} {n:Int} (hl:rest.length≤16) (hi:Bf i n) (h:DU D key pos stk g told full k i=BS D key ⟨pos,false,rest,g,told,full.drop k⟩ i v) (h0:i.op≠0) (h19:¬ i.op=19) (h20:i.op=20→¬ (v.getD 0 Bt).n≠0)
include hl hi h h0 h19 h20
theorem RY (hw:(AY D key g full k told i v).why≠0):(DU D key pos stk g told full k i).2=(AY D key g full k told i v).why:=by
 rw [h];exact (Re (D:=D) (key:=key) (pos:=pos) hl hi h0 h19 h20).1 hw
theorem M7 (hw:¬ (AY D key g full k told i v).why≠0):
  DU D key pos stk g told full k i=(⟨pos,false,(Bz rest (AY D key g full k told i v).out).2,(AY D key g full k told i v).g,(AY D key g full k told i v).told,full.drop (AY D key g full k told i v).k⟩,(Bz rest (AY D key g full k told i v).out).1):=by
 rw [h];exact (Re (D:=D) (key:=key) (pos:=pos) hl hi h0 h19 h20).2 (Classical.not_not.1 hw)
theorem RU {j:Nat} {x:Az} (hw:¬ (AY D key g full k told i v).why≠0) (hx:(AY D key g full k told i v).out[j]?=some x) (hb:DI x=true):(DU D key pos stk g told full k i).2=4:=by
 rw [M7 hl hi h h0 h19 h20 hw]
 show (Bz rest _).1=4
 rw [QL hx hb]
theorem RW (hw:¬ (AY D key g full k told i v).why≠0) (hn:∀ y∈(AY D key g full k told i v).out,DI y=false) (h16:16<rest.length+(AY D key g full k told i v).out.length):(DU D key pos stk g told full k i).2=1:=by
 rw [M7 hl hi h h0 h19 h20 hw]
 show (Bz rest _).1=1
 rw [QN hn h16]
theorem RV (hw:¬ (AY D key g full k told i v).why≠0) (hn:∀ y∈(AY D key g full k told i v).out,DI y=false) (h16:¬ 16<rest.length+(AY D key g full k told i v).out.length):
  Hx (DU D key pos stk g told full k i) pos (-1) (rest++(AY D key g full k told i v).out) (AY D key g full k told i v).g (AY D key g full k told i v).told full (AY D key g full k told i v).k:=by
 unfold Hx
 rw [M7 hl hi h h0 h19 h20 hw,QM hn h16,if_neg (by decide)]
end
theorem UL {c:Prop} [Decidable c] {x y:CT} {n:Nat} (hx:x.k≤n) (hy:y.k≤n):(if c then x else y).k≤n:=by
 split
 ·exact hx
 ·exact hy
theorem GR {v:List Az} (hk:k≤full.length):(AY D key g full k told i v).k≤full.length:=by
 by_cases h7:i.op=7
 ·rcases Nat.lt_or_ge k full.length with h|h
  ·rw [Kl h7 (List.getElem?_eq_getElem h)];exact h
  ·rw [Kk h7 h];exact hk
 ·unfold AY
  dsimp only
  rw [if_neg h7]
  repeat (first |exact hk|refine UL hk ?_)
theorem T_ (xs:List Az):DN [] xs=true:=by cases xs<;>rfl
theorem UM {c:Prop} [Decidable c] {x y:CT} {n:Nat} (hx:x.out.length≤n) (hy:y.out.length≤n):(if c then x else y).out.length≤n:=by
 split
 ·exact hx
 ·exact hy
theorem Rf (v:List Az):(AY D key g full k told i v).out.length≤2:=by
 by_cases h7:i.op=7
 ·rcases Nat.lt_or_ge k full.length with h|h
  ·rw [Kl h7 (List.getElem?_eq_getElem h)];exact Nat.le_refl _
  ·rw [Kk h7 h];exact Nat.le_of_ble_eq_true rfl
 ·unfold AY
  dsimp only
  rw [if_neg h7]
  repeat (first |exact Nat.le_of_ble_eq_true rfl|refine UM (Nat.le_of_ble_eq_true rfl) ?_)
end
section
variable {D:Bc} {p:List Bm} {key:ByteArray} {m:VM} {i:Bm}
theorem XZ {k:Nat} (h:m.pos<p.length∧m.halted=false) (hi:p[m.pos.toNat]?=some i) (h0:i.op=0):Cd D p key (k+1) m=(⟨m.pos+1,true,m.stk,m.g,m.told,m.vals⟩,0):=by
 have e:BC D key {m with pos:=m.pos+1} i=(⟨m.pos+1,true,m.stk,m.g,m.told,m.vals⟩,0):=by
  have hz:(AW i.op).size=0:=by rw [h0];rfl
  have hz2:(AW i.op).data.toList=[]:=by rw [h0];rfl
  have en:=IE (op:=i.op) (stk:=m.stk) (by rw [hz];omega) (by rw [hz2,T_])
  rw [hz,Nat.sub_zero,List.take_length,List.drop_length] at en
  rw [CR (m:={m with pos:=m.pos+1}) (by show ¬ (AC i.op m.stk).1≠0;rw [en];exact fun h=>h rfl),KV h0]
  show (({pos:=m.pos+1,halted:=true,stk:=(AC i.op m.stk).2.1,g:=m.g,told:=m.told,vals:=m.vals}:VM),(0:Int))=_
  rw [en]
 rw [II h hi (by rw [e];exact fun h=>h rfl),e]
 exact IJ _ (fun h=>by have:=h.2;cases this)
end
theorem M9 {D:Bc} {key:ByteArray} {m:VM} {i:Bm} {full:List ByteArray} {k:Nat} (h:m.halted=false∧m.vals=full.drop k):BC D key {m with pos:=m.pos+1} i=DU D key (m.pos+1) m.stk m.g m.told full k i:=by
 obtain ⟨h1,h2⟩:=h
 cases m
 simp only at h1 h2
 subst h1 h2
 rfl
theorem R0 {D:Bc} {key:ByteArray} {m:VM} {i:Bm} {full:List ByteArray} {k k2:Nat} {to P:Int} {stk:List Az} {g:Nat→Az} {told:List An} (h:m.halted=false∧m.vals=full.drop k)
  (hs:Hx (DU D key (m.pos+1) m.stk m.g m.told full k i) (m.pos+1) to stk g told full k2) (hP:(if 0≤to then to else m.pos+1)=P):BC D key {m with pos:=m.pos+1} i=((⟨P,false,stk,g,told,full.drop k2⟩:VM),0):=by
 rw [M9 h,←hP];exact hs
theorem UQ {k:ByteArray} {l:List An} (h:∀ y∈l,y.key=k) (h2:F8 k l=true):False:=by
 obtain ⟨x,hx,h3⟩:=List.any_eq_true.1 h2
 exact (of_decide_eq_true h3) (h x hx)
theorem UR {k:ByteArray} {l:List An} {i:Nat} {x:An} (hx:l[i]?=some x) (h:x.key≠k):F8 k l=true:=List.any_eq_true.2 ⟨x,List.mem_of_getElem? hx,decide_eq_true h⟩
theorem Yu (m:Nat) (sv:Value) (g:Nat→Az) (key:ByteArray) (vv:Value) (k:Nat) (tv:Value) (stk:List Az) (told:List An) (full:List ByteArray) (i:Bm) (n pos:Int) (hst:stk.length≤16) (hto:told.length≤40) (hok:(∀ x∈stk,Dr x)∧∀ j,Dr (g j)) (hi:Bf i n) (h0:i.op≠0) (hk:k≤full.length):
    Cn Tryz.prog 237 [.pointer (some ⟨m,0,none⟩),.agg #[.int .i64 i.op,.int .i64 i.a,.string i.s]] [blk m (Cc sv g key vv ((k:Nat):Int) tv) 311,Ae A5 sv stk,Ae Al tv told] [Af AZ vv full] (fun r Bs=>∃ (to:Int) (sv2 tv2:Value) (stk2:List Az) (g2:Nat→Az) (k2:Nat) (told2:List An),r=.tuple #[.int .i64 (DU dg key pos stk g told full k i).2,.int .i64 to]∧Bs=[blk m (Cc sv2 g2 key vv ((k2:Nat):Int) tv2) 311,Ae A5 sv2 stk2,Ae Al tv2 told2]∧k2≤full.length∧((DU dg key pos stk g told full k i).2=0→Hx (DU dg key pos stk g told full k i) pos to stk2 g2 told2 full k2)):=by
 intro w0 F0 H
 obtain ⟨A1,c2,rfl,hc3,hm4,hp5⟩:=H.fA 1 rfl
 refine enter Tryz.func237 U U (Nat.le_of_ble_eq_true U) (Z (Ac (B4 U U U U H (fun b6 w H=>(Ad 2 U (Aa (Y (Z (Ac (V U U (Ah U Ce U) (V U U (Aj U Aw U (H.cellI 0 U U)) (sc (Yf i.op) H l0 U U (At VK U U) ?_))))))))))))
 rintro _ _ w ⟨rfl,rfl⟩ H
 refine Ab U (Aa (Y (Z ?_)))
 have hkz:(A0 i.op).size≤3:=UT i.op
 refine Ac (Ab U (V U U (AI U U) (V U U (Ah U FZ U) (V U U (Aj U D3 U (H.cellI 1 U U)) (V U U (AO U EP U) (Ab U (V U U (Cl U BJ U) (V U U (Cm (z:=((stk.length:Nat):Int) - (((A0 i.op).size:Nat):Int)) U U U (Ay (by omega) (by omega))) (Ab U (Aa (Y (Z (Z (Ac (Ab U (V U U (AQ U U U) (Aa (Y ?_))))))))))))))))))
 refine Aq U (fun h7=>?_) (fun h7=>?_)
 ·refine Z (Ac (Ad 2 U (Aa (Y (Ai (Ao (Bg U U U ?_)))))))
  replace H:=H.sel 4 [1,2,3] [0] rfl (by kernel_rfl)
  have e:=ZO (D:=dg) (key:=key) (pos:=pos) (g:=g) (told:=told) (full:=full) (k:=k) (i:=i) (stk:=stk) (by omega)
  exact Ag ⟨-1,_,_,_,_,_,_,by rw [e]<;>rfl,rfl,hk,fun h=>by rw [e] at h;exact absurd h (by decide)⟩ H
 refine Av (Y (Z ?_))
 have hlo:((stk.length:Nat):Int) - (((A0 i.op).size:Nat):Int)=((stk.length - (A0 i.op).size:Nat):Int):=by omega
 rw [hlo]
 have hdl:(stk.drop (stk.length - (A0 i.op).size)).length=(A0 i.op).size:=by rw [List.length_drop];omega
 have htl:(stk.take (stk.length - (A0 i.op).size)).length=stk.length - (A0 i.op).size:=by rw [List.length_take];omega
 refine Ac (Ab U (V U U (AI U U) (V U U (Ah U FZ U) (V U U (Aj U D3 U (H.cellI 1 U U)) (Ab U (V U U (H8 U A8 U U (by omega) (by omega) U) ?_))))))
 replace H:=H.newnil A5
 refine BY (xs:=[]) (ys:=stk.drop (stk.length - (A0 i.op).size)) U U U A8 BV U (by decide) U U H (by first |omega|(simp only [List.length_nil];omega)) (fun F hA hR=>F_ (BI F (hA _ (List.mem_of_getElem? (i:=2) U))) (i:=stk.length - (A0 i.op).size) (by omega)) (fun v8 w H=>(Ab U (Aa (Y (Z (Z (Ac (Ab U (Aa (Y (AK ?_)))))))))))
 replace H:=H.p4|>.p4|>.p2|>.p4
 refine Br (σ:=Nat) (fun j=>[(0,.pointer (some ⟨m,0,none⟩)),(3,.pointer (some ⟨b6,0,none⟩)),(6,.string (A0 i.op)),(7,.int .i64 ((stk.length - (A0 i.op).size:Nat):Int)),(8,v8),(9,.int .i64 ((j:Nat):Int))]) (fun j w=>(Hd w0 F0 w [blk m (Cc (.slice A1 stk.length c2) g key vv ((k:Nat):Int) tv) 311,Ae A5 v8 (stk.drop (stk.length - (A0 i.op).size)),Ae A5 (.slice A1 stk.length c2) stk,Ae Al tv told,blk b6 [.int .i64 i.op,.int .i64 i.a,.string i.s] 223] [Af AZ vv full])∧(j≤(A0 i.op).size)∧(Ev ((A0 i.op).data.toList.drop j) ((stk.drop (stk.length - (A0 i.op).size)).drop j)=Ev (A0 i.op).data.toList (stk.drop (stk.length - (A0 i.op).size)))) (fun j=>(A0 i.op).size - j) 0 ⟨rfl,rfl,rfl,rfl,rfl,rfl,trivial⟩ ⟨H,Nat.zero_le _,rfl⟩ ?_
 rintro j w ⟨H,hj,hf⟩
 refine Z (Z (Ac (Ad 2 U ?_)))
 obtain ⟨A9,c10,rfl,hc11,hm12,hp13⟩:=H.fA 1 rfl
 refine V U U (AO U EP U) (V U U (AQ U U U) (Aa (Y ?_)))
 refine Aq U (fun h14=>?_) (fun h14=>?_)
 ·refine Av (Y (Z (AK (Z ?_))))
  obtain ⟨x15,hx16⟩:∃ z9,(stk.drop (stk.length - (A0 i.op).size))[j]?=some z9:=⟨_,List.getElem?_eq_getElem (show j<(stk.drop (stk.length - (A0 i.op).size)).length by omega)⟩
  refine Ac (Ad 2 U ?_)
  obtain ⟨c17,hb18⟩:∃ c0,(A0 i.op)[j]?=some c0:=⟨_,getElem?_pos (A0 i.op) j (by omega)⟩
  refine V U U (E8 U BJ U U (by omega) hb18) (V U U (AT U U U) (Ab U ?_))
  refine AD (d:=43) U (fun h19=>?_) (fun h19=>?_)
  ·refine Ad 2 U ?_
   have th20:=H.thA 1 rfl hx16
   refine V U U (AG (p:=AA A9+j*3) U A8 U U (by omega) (by omega) th20 U) (V U U (Ah U EG U) (V U U (Aj U Ek U (H.elA 1 U hx16 (q:=0) U U)) (Ad 2 U ?_)))
   refine EC (d:=50) (b:=x15.t) U (fun h21=>?_) (fun h21=>?_)
   ·refine Ad 12 U (Ab U (Aa (Y (BM U (Z (Ac (Ad 2 U (Aa (Y (Ai (Ax (Ao (Ao (Ax (Ao (Bg U U U ?_))))))))))))))))
    replace H:=H.p3.p3.p2.k3
    have hfit:DM c17 x15=false:=by rw [G8];simp_all
    have e:=M8 (D:=dg) (key:=key) (pos:=pos) (g:=g) (told:=told) (full:=full) (k:=k) (i:=i) (stk:=stk) (by omega) (hf.symm.trans (LE (Ed hb18) hx16 hfit))
    exact Ag ⟨-1,_,_,_,_,_,_,by rw [e]<;>rfl,rfl,hk,fun h=>by rw [e] at h;exact absurd h (by decide)⟩ H
   refine Ad 2 U (V U U (E8 U BJ U U (by omega) hb18) (V U U (AT U U U) (Ab U ?_)))
   refine AD (d:=55) U (fun h22=>?_) (fun h22=>?_)
   ·refine Ad 2 U ?_
    have th23:=H.thA 1 rfl hx16
    refine V U U (AG (p:=AA A9+j*3) U A8 U U (by omega) (by omega) th23 U) (V U U (Ah U EG U) (V U U (Aj U Ek U (H.elA 1 U hx16 (q:=0) U U)) (V U U (E9 U U U) (Ad 2 U (Aa (Y ?_))))))
    refine DJ (b:=!x15.t) U (fun h24=>?_) (fun h24=>?_)
    ·refine Z (Ac (Ad 2 U (Aa (Y (Ai (Ax (Ao (Ao (Ax (Ao (Bg U U U ?_)))))))))))
     replace H:=H.p3.p3.p2.k3
     have hfit:DM c17 x15=false:=by rw [G8];simp_all
     have e:=M8 (D:=dg) (key:=key) (pos:=pos) (g:=g) (told:=told) (full:=full) (k:=k) (i:=i) (stk:=stk) (by omega) (hf.symm.trans (LE (Ed hb18) hx16 hfit))
     exact Ag ⟨-1,_,_,_,_,_,_,by rw [e]<;>rfl,rfl,hk,fun h=>by rw [e] at h;exact absurd h (by decide)⟩ H
    refine Av (AS (Y (Ac (Ab U (V U U (AP (z:=((j+1:Nat):Int)) U U U (by rw [Ay (by omega) (by omega)];omega)) (Ab U (Aa ?_)))))))
    have hfit:DM c17 x15=true:=by rw [G8];simp_all
    have hf2:=(Jt (Ed hb18) hx16 hfit).trans hf
    exact Bb (s:=j) (j+1) ⟨rfl,rfl,rfl,rfl,rfl,rfl,trivial⟩ ⟨H,by (try dsimp only);omega,hf2⟩ (by (try dsimp only);omega)
   refine Ad 8 U (Aa (Y (B0 U (Av (AS (Y (Ac (Ab U (V U U (AP (z:=((j+1:Nat):Int)) U U U (by rw [Ay (by omega) (by omega)];omega)) (Ab U (Aa ?_)))))))))))
   have hfit:DM c17 x15=true:=by rw [G8];simp_all
   have hf2:=(Jt (Ed hb18) hx16 hfit).trans hf
   exact Bb (s:=j) (j+1) ⟨rfl,rfl,rfl,rfl,rfl,rfl,trivial⟩ ⟨H,by (try dsimp only);omega,hf2⟩ (by (try dsimp only);omega)
  refine Ad 9 U (V U U (E8 U BJ U U (by omega) hb18) (V U U (AT U U U) (Ab U ?_)))
  refine AD (d:=55) U (fun h25=>?_) (fun h25=>?_)
  ·refine Ad 2 U ?_
   have th26:=H.thA 1 rfl hx16
   refine V U U (AG (p:=AA A9+j*3) U A8 U U (by omega) (by omega) th26 U) (V U U (Ah U EG U) (V U U (Aj U Ek U (H.elA 1 U hx16 (q:=0) U U)) (V U U (E9 U U U) (Ad 2 U (Aa (Y ?_))))))
   refine DJ (b:=!x15.t) U (fun h27=>?_) (fun h27=>?_)
   ·refine Z (Ac (Ad 2 U (Aa (Y (Ai (Ax (Ao (Ao (Ax (Ao (Bg U U U ?_)))))))))))
    replace H:=H.p3.p3.p2.k3
    have hfit:DM c17 x15=false:=by rw [G8];simp_all
    have e:=M8 (D:=dg) (key:=key) (pos:=pos) (g:=g) (told:=told) (full:=full) (k:=k) (i:=i) (stk:=stk) (by omega) (hf.symm.trans (LE (Ed hb18) hx16 hfit))
    exact Ag ⟨-1,_,_,_,_,_,_,by rw [e]<;>rfl,rfl,hk,fun h=>by rw [e] at h;exact absurd h (by decide)⟩ H
   refine Av (AS (Y (Ac (Ab U (V U U (AP (z:=((j+1:Nat):Int)) U U U (by rw [Ay (by omega) (by omega)];omega)) (Ab U (Aa ?_)))))))
   have hfit:DM c17 x15=true:=by rw [G8];simp_all
   have hf2:=(Jt (Ed hb18) hx16 hfit).trans hf
   exact Bb (s:=j) (j+1) ⟨rfl,rfl,rfl,rfl,rfl,rfl,trivial⟩ ⟨H,by (try dsimp only);omega,hf2⟩ (by (try dsimp only);omega)
  refine Ad 8 U (Aa (Y (B0 U (Av (AS (Y (Ac (Ab U (V U U (AP (z:=((j+1:Nat):Int)) U U U (by rw [Ay (by omega) (by omega)];omega)) (Ab U (Aa ?_)))))))))))
  have hfit:DM c17 x15=true:=by rw [G8];simp_all
  have hf2:=(Jt (Ed hb18) hx16 hfit).trans hf
  exact Bb (s:=j) (j+1) ⟨rfl,rfl,rfl,rfl,rfl,rfl,trivial⟩ ⟨H,by (try dsimp only);omega,hf2⟩ (by (try dsimp only);omega)
 refine Bj (AE (AE (Bk (Y (Z ?_)))))
 have hact:=ZN (D:=dg) (key:=key) (pos:=pos) (g:=g) (told:=told) (full:=full) (k:=k) (i:=i) (stk:=stk) (by omega) (hf.symm.trans (Ua (by omega)))
 refine Ac (Ad 2 U (V U U (AI U U) (V U U (Ah U FZ U) (V U U (Aj U D3 U (H.cellI 0 U U)) (Ab U (V U U (H7 U A8 U U (by omega) (by omega) U) ?_))))))
 replace H:=H.newnil A5
 refine BY (xs:=[]) (ys:=stk.take (stk.length - (A0 i.op).size)) U U U A8 BV U (by decide) U U H (by first |omega|(simp only [List.length_nil];omega)) (fun F hA hR=>Ib (BI F (hA _ (List.mem_of_getElem? (i:=2) U))) (i:=stk.length - (A0 i.op).size) (by omega)) (fun v28 w H=>(V U U (AI U U) (V U U (Ah U FZ U) ?_)))
 obtain ⟨A29,c30,rfl,hc31,hm32,hp33⟩:=H.fA 0 rfl
 replace H:=H.p1
 refine By U U U D3 U U H U (Nat.le_of_ble_eq_true U) (fun u hu=>by simp [Value.cells] at hu;subst hu;rfl) (fun w H=>(Aa (Y (Z (Z (Ac (V U U (Ah U Ce U) (V U U (Aj U Aw U (H.cellI 5 U U)) (V U U (AT U U U) (Ab U ?_))))))))))
 refine AD (d:=77) U (fun h34=>?_) (fun h34=>?_)
 ·refine Ad 11 U (Aa (Y (BM U (Z (Et mo (by kernel_rfl) H (Ba U U (fun w H=>Ah U Cg U) (Ba U U (fun w H=>Aj U Aw U (H.cellI 5 U U)) (DW 2 U (El (fun w H=>(Y (Ai (Ao (Bg U U U ?_))))))))))))))
  replace H:=H.sel 6 [0,1,4] [2,3,5] rfl (by kernel_rfl)
  have e:=RX hi hact (.inl h34)
  exact Ag ⟨i.a,_,_,_,_,_,_,by rw [e]<;>rfl,rfl,hk,fun _=>e⟩ H
 refine V U U (Ah U Ce U) (V U U (Aj U Aw U (H.cellI 5 U U)) (V U U (AT U U U) (Ab U ?_)))
 refine AD (d:=81) U (fun h35=>?_) (fun h35=>?_)
 ·have hks:(A0 i.op).size=1:=by rw [h35];rfl
  refine Ab U ?_
  obtain ⟨x36,hx37⟩:∃ z9,(stk.drop (stk.length - (A0 i.op).size))[0]?=some z9:=⟨_,List.getElem?_eq_getElem (show 0<(stk.drop (stk.length - (A0 i.op).size)).length by omega)⟩
  have th38:=H.thA 2 rfl hx37
  refine V U U (AG (p:=AA A9+0*3) U A8 U U (by omega) (by omega) th38 (by omega)) (V U U (Ah U CO U) (V U U (Aj U Cw U (H.elA 2 U hx37 (q:=1) U U)) (V U U (CL U U U) (Ad 2 U (Aa (Y ?_))))))
  refine Aq U (fun h39=>?_) (fun h39=>?_)
  ·refine Z (Et mo (by kernel_rfl) H (Ba U U (fun w H=>Ah U Cg U) (Ba U U (fun w H=>Aj U Aw U (H.cellI 5 U U)) (DW 2 U (El (fun w H=>(Y (Ai (Ao (Bg U U U ?_))))))))))
   replace H:=H.sel 6 [0,1,4] [2,3,5] rfl (by kernel_rfl)
   have e:=RX hi hact (.inr ⟨h35,by rw [BH hx37];exact h39⟩)
   exact Ag ⟨i.a,_,_,_,_,_,_,by rw [e]<;>rfl,rfl,hk,fun _=>e⟩ H
  refine Av (Y (Z (Ac (Ab U (V U U (Bp (cs:=[.int .i64 i.op,.int .i64 i.a,.string i.s]) U Gb U U (H.cellsI 5 U U)) (Ab U ?_))))))
  replace H:=H.p4.p1
  have hav:(∀ x∈stk.drop (stk.length - (A0 i.op).size),Dr x)∧∀ j,Dr (g j):=⟨fun x hx=>hok.1 x (List.mem_of_mem_drop hx),hok.2⟩
  have hrl:(stk.take (stk.length - (A0 i.op).size)).length≤16:=by omega
  have h20:i.op=20→¬ ((stk.drop (stk.length - (A0 i.op).size)).getD 0 Bt).n≠0:=fun _=>by rw [BH hx37];exact h39
  have hro:=Rf (D:=dg) (key:=key) (g:=g) (told:=told) (full:=full) (k:=k) (i:=i) (stk.drop (stk.length - (A0 i.op).size))
  have hrl0:([]++(stk.take (stk.length - (A0 i.op).size))).length=(stk.take (stk.length - (A0 i.op).size)).length:=rfl
  refine sc (QS m (.slice A29 (([]++(stk.take (stk.length - (A0 i.op).size))).length) c30) g key vv k tv told full (.slice A9 ((stk.drop (stk.length - (A0 i.op).size)).length) c10) (stk.drop (stk.length - (A0 i.op).size)) i n hto hav hi (by rw [hdl];exact Iy _) hk) H (lA 1 U BI (lR 0 U l0)) U U (At Py U U) ?_
  rintro _ _ w ⟨u40,t41,rfl,rfl⟩ H
  refine Ad 5 U (Aa (Y (Z (Z (Ac (Ab U (V U U (CL U U U) (Aa (Y ?_)))))))))
  refine Aq U (fun h42=>?_) (fun h42=>?_)
  ·refine Z (Ac (Ad 3 U (Aa (Y (Ai (Ao (Bg U U U ?_)))))))
   replace H:=H.p3.p1.k3
   have e:=RY hrl hi hact h0 h34 h20 h42
   exact Ag ⟨-1,_,_,_,_,_,_,by rw [e]<;>rfl,rfl,GR hk,fun h=>absurd (e.symm.trans h) h42⟩ H
  refine Av (Y (Z (Z (Ac (Ab U (Aa (Y (AK ?_))))))))
  obtain ⟨A43,c44,rfl,hc45,hm46,hp47⟩:=H.fA 2 rfl
  replace H:=H.p3.p1.k4
  refine Br (σ:=Nat) (fun j=>[(0,.pointer (some ⟨m,0,none⟩)),(10,.slice A43 (((AY dg key g full k told i (stk.drop (stk.length - (A0 i.op).size))).out).length) c44),(12,.int .i64 ((j:Nat):Int))]) (fun j w=>(Hd w0 F0 w [blk m (Cc (.slice A29 (([]++(stk.take (stk.length - (A0 i.op).size))).length) c30) ((AY dg key g full k told i (stk.drop (stk.length - (A0 i.op).size))).g) key vv (((AY dg key g full k told i (stk.drop (stk.length - (A0 i.op).size))).k:Nat):Int) t41) 311,Ae A5 (.slice A29 (([]++(stk.take (stk.length - (A0 i.op).size))).length) c30) ([]++(stk.take (stk.length - (A0 i.op).size))),Ae Al t41 ((AY dg key g full k told i (stk.drop (stk.length - (A0 i.op).size))).told),Ae A5 (.slice A43 (((AY dg key g full k told i (stk.drop (stk.length - (A0 i.op).size))).out).length) c44) ((AY dg key g full k told i (stk.drop (stk.length - (A0 i.op).size))).out)] [Af AZ vv full])∧(j≤(AY dg key g full k told i (stk.drop (stk.length - (A0 i.op).size))).out.length)∧(∀ y∈((AY dg key g full k told i (stk.drop (stk.length - (A0 i.op).size))).out).take j,DI y=false)) (fun j=>(AY dg key g full k told i (stk.drop (stk.length - (A0 i.op).size))).out.length - j) 0 ⟨rfl,rfl,rfl,trivial⟩ ⟨H,Nat.zero_le _,by (try dsimp only);simp⟩ ?_
  rintro j w ⟨H,hj,hn⟩
  refine Z (Z (Ac (Ad 2 U (V U U (AO U EP U) (V U U (AQ U U U) (Aa (Y ?_)))))))
  refine Aq U (fun h48=>?_) (fun h48=>?_)
  ·refine Av (Y (Z (AK (Z (Ac (Ad 2 U ?_))))))
   obtain ⟨x49,hx50⟩:∃ z9,((AY dg key g full k told i (stk.drop (stk.length - (A0 i.op).size))).out)[j]?=some z9:=⟨_,List.getElem?_eq_getElem (show j<((AY dg key g full k told i (stk.drop (stk.length - (A0 i.op).size))).out).length by omega)⟩
   have th51:=H.thA 3 rfl hx50
   refine V U U (AG (p:=AA A43+j*3) U A8 U U (by omega) (by omega) th51 U) (V U U (Ah U EG U) (V U U (Aj U Ek U (H.elA 3 U hx50 (q:=0) U U)) (Ab U ?_)))
   refine EC (d:=112) (b:=x49.t) U (fun h52=>?_) (fun h52=>?_)
   ·refine Ad 2 U ?_
    have th53:=H.thA 3 rfl hx50
    refine V U U (AG (p:=AA A43+j*3) U A8 U U (by omega) (by omega) th53 U) (V U U (Ah U De U) (V U U (Aj U Bd U (H.elA 3 U hx50 (q:=2) U U)) (V U U (Cl U BJ U) (V U U (BP U U U) (Ab U (Aa (Y ?_)))))))
    refine Aq U (fun h54=>?_) (fun h54=>?_)
    ·refine Z (Ac (Ad 2 U (Aa (Y (Ai (Ax (Ao (Ao (Ax (Ao (Bg U U U ?_)))))))))))
     replace H:=H.k3
     have e:=RU hrl hi hact h0 h34 h20 h42 hx50 (Lg h52 h54)
     exact Ag ⟨-1,_,_,_,_,_,_,by rw [e]<;>rfl,rfl,GR hk,fun h=>by rw [e] at h;exact absurd h (by decide)⟩ H
    exact Av (AS (Y (Ac (Ab U (V U U (AP (z:=((j+1:Nat):Int)) U U U (by rw [Ay (by omega) (by omega)];omega)) (Ab U (Aa (Bb (s:=j) (j+1) ⟨rfl,rfl,rfl,trivial⟩ ⟨H,by (try dsimp only);omega,Fd hn hx50 (HC (.inr h54))⟩ (by (try dsimp only);omega)))))))))
   exact Ad 8 U (Aa (Y (B0 U (Av (AS (Y (Ac (Ab U (V U U (AP (z:=((j+1:Nat):Int)) U U U (by rw [Ay (by omega) (by omega)];omega)) (Ab U (Aa (Bb (s:=j) (j+1) ⟨rfl,rfl,rfl,trivial⟩ ⟨H,by (try dsimp only);omega,Fd hn hx50 (HC (.inl h52))⟩ (by (try dsimp only);omega)))))))))))))
  refine Bj (AE (AE (Bk (Y (Z (Z (Ac (Ab U (V U U (AI U U) (V U U (Ah U FZ U) (V U U (Aj U D3 U (H.cellI 0 U U)) (V U U (AO U EP U) (Ab U (V U U (AO U EP U) (V U U (AP (z:=(((([]++(stk.take (stk.length - (A0 i.op).size))).length)+(((AY dg key g full k told i (stk.drop (stk.length - (A0 i.op).size))).out).length):Nat):Int)) U U U (by rw [Ay (by omega) (by omega)];omega)) (V U U (BP U U U) (Aa (Y ?_))))))))))))))))))
  refine Aq U (fun h55=>?_) (fun h55=>?_)
  ·refine Z (Ac (Ad 2 U (Aa (Y (Ai (Ao (Bg U U U ?_)))))))
   replace H:=H.k3
   have e:=RW hrl hi hact h0 h34 h20 h42 (by rw [List.take_of_length_le (by omega)] at hn;exact hn) (by omega)
   exact Ag ⟨-1,_,_,_,_,_,_,by rw [e]<;>rfl,rfl,GR hk,fun h=>by rw [e] at h;exact absurd h (by decide)⟩ H
  refine Av (Y (Z (Ac (Ad 2 U (V U U (AI U U) (V U U (Ah U FZ U) (V U U (Aj U D3 U (H.cellI 0 U U)) (Ab U ?_))))))))
  replace H:=H.p1
  refine BY (xs:=[]++(stk.take (stk.length - (A0 i.op).size))) (ys:=(AY dg key g full k told i (stk.drop (stk.length - (A0 i.op).size))).out) U U U A8 BV U (by decide) U U H (by first |omega|(simp only [List.length_nil];omega)) (fun F hA hR=>BI F (hA _ (List.mem_of_getElem? (i:=2) U))) (fun v56 w H=>(V U U (AI U U) (V U U (Ah U FZ U) ?_)))
  obtain ⟨A57,c58,rfl,hc59,hm60,hp61⟩:=H.fA 0 rfl
  replace H:=H.p1
  refine By U U U D3 U U H U (Nat.le_of_ble_eq_true U) (fun u hu=>by simp [Value.cells] at hu;subst hu;rfl) (fun w H=>(Aa (Y (Z (Ac (Ad 2 U (Aa (Y (Ai (Bg U U U ?_))))))))))
  replace H:=H.k3
  have e:=RV hrl hi hact h0 h34 h20 h42 (by rw [List.take_of_length_le (by omega)] at hn;exact hn) (by omega)
  exact Ag ⟨-1,_,_,_,_,_,_,by rw [e]<;>rfl,rfl,GR hk,fun _=>e⟩ H
 refine Ad 7 U (Aa (Y (B0 U (Av (Y (Z (Ac (Ab U (V U U (Bp (cs:=[.int .i64 i.op,.int .i64 i.a,.string i.s]) U Gb U U (H.cellsI 5 U U)) (Ab U ?_))))))))))
 replace H:=H.p4.p1
 have hav:(∀ x∈stk.drop (stk.length - (A0 i.op).size),Dr x)∧∀ j,Dr (g j):=⟨fun x hx=>hok.1 x (List.mem_of_mem_drop hx),hok.2⟩
 have hrl:(stk.take (stk.length - (A0 i.op).size)).length≤16:=by omega
 have h20:i.op=20→¬ ((stk.drop (stk.length - (A0 i.op).size)).getD 0 Bt).n≠0:=fun h=>absurd h h35
 have hro:=Rf (D:=dg) (key:=key) (g:=g) (told:=told) (full:=full) (k:=k) (i:=i) (stk.drop (stk.length - (A0 i.op).size))
 have hrl0:([]++(stk.take (stk.length - (A0 i.op).size))).length=(stk.take (stk.length - (A0 i.op).size)).length:=rfl
 refine sc (QS m (.slice A29 (([]++(stk.take (stk.length - (A0 i.op).size))).length) c30) g key vv k tv told full (.slice A9 ((stk.drop (stk.length - (A0 i.op).size)).length) c10) (stk.drop (stk.length - (A0 i.op).size)) i n hto hav hi (by rw [hdl];exact Iy _) hk) H (lA 1 U BI (lR 0 U l0)) U U (At Py U U) ?_
 rintro _ _ w ⟨u62,t63,rfl,rfl⟩ H
 refine Ad 5 U (Aa (Y (Z (Z (Ac (Ab U (V U U (CL U U U) (Aa (Y ?_)))))))))
 refine Aq U (fun h64=>?_) (fun h64=>?_)
 ·refine Z (Ac (Ad 3 U (Aa (Y (Ai (Ao (Bg U U U ?_)))))))
  replace H:=H.p3.p1.k3
  have e:=RY hrl hi hact h0 h34 h20 h64
  exact Ag ⟨-1,_,_,_,_,_,_,by rw [e]<;>rfl,rfl,GR hk,fun h=>absurd (e.symm.trans h) h64⟩ H
 refine Av (Y (Z (Z (Ac (Ab U (Aa (Y (AK ?_))))))))
 obtain ⟨A65,c66,rfl,hc67,hm68,hp69⟩:=H.fA 2 rfl
 replace H:=H.p3.p1.k4
 refine Br (σ:=Nat) (fun j=>[(0,.pointer (some ⟨m,0,none⟩)),(10,.slice A65 (((AY dg key g full k told i (stk.drop (stk.length - (A0 i.op).size))).out).length) c66),(12,.int .i64 ((j:Nat):Int))]) (fun j w=>(Hd w0 F0 w [blk m (Cc (.slice A29 (([]++(stk.take (stk.length - (A0 i.op).size))).length) c30) ((AY dg key g full k told i (stk.drop (stk.length - (A0 i.op).size))).g) key vv (((AY dg key g full k told i (stk.drop (stk.length - (A0 i.op).size))).k:Nat):Int) t63) 311,Ae A5 (.slice A29 (([]++(stk.take (stk.length - (A0 i.op).size))).length) c30) ([]++(stk.take (stk.length - (A0 i.op).size))),Ae Al t63 ((AY dg key g full k told i (stk.drop (stk.length - (A0 i.op).size))).told),Ae A5 (.slice A65 (((AY dg key g full k told i (stk.drop (stk.length - (A0 i.op).size))).out).length) c66) ((AY dg key g full k told i (stk.drop (stk.length - (A0 i.op).size))).out)] [Af AZ vv full])∧(j≤(AY dg key g full k told i (stk.drop (stk.length - (A0 i.op).size))).out.length)∧(∀ y∈((AY dg key g full k told i (stk.drop (stk.length - (A0 i.op).size))).out).take j,DI y=false)) (fun j=>(AY dg key g full k told i (stk.drop (stk.length - (A0 i.op).size))).out.length - j) 0 ⟨rfl,rfl,rfl,trivial⟩ ⟨H,Nat.zero_le _,by (try dsimp only);simp⟩ ?_
 rintro j w ⟨H,hj,hn⟩
 refine Z (Z (Ac (Ad 2 U (V U U (AO U EP U) (V U U (AQ U U U) (Aa (Y ?_)))))))
 refine Aq U (fun h70=>?_) (fun h70=>?_)
 ·refine Av (Y (Z (AK (Z (Ac (Ad 2 U ?_))))))
  obtain ⟨x71,hx72⟩:∃ z9,((AY dg key g full k told i (stk.drop (stk.length - (A0 i.op).size))).out)[j]?=some z9:=⟨_,List.getElem?_eq_getElem (show j<((AY dg key g full k told i (stk.drop (stk.length - (A0 i.op).size))).out).length by omega)⟩
  have th73:=H.thA 3 rfl hx72
  refine V U U (AG (p:=AA A65+j*3) U A8 U U (by omega) (by omega) th73 U) (V U U (Ah U EG U) (V U U (Aj U Ek U (H.elA 3 U hx72 (q:=0) U U)) (Ab U ?_)))
  refine EC (d:=112) (b:=x71.t) U (fun h74=>?_) (fun h74=>?_)
  ·refine Ad 2 U ?_
   have th75:=H.thA 3 rfl hx72
   refine V U U (AG (p:=AA A65+j*3) U A8 U U (by omega) (by omega) th75 U) (V U U (Ah U De U) (V U U (Aj U Bd U (H.elA 3 U hx72 (q:=2) U U)) (V U U (Cl U BJ U) (V U U (BP U U U) (Ab U (Aa (Y ?_)))))))
   refine Aq U (fun h76=>?_) (fun h76=>?_)
   ·refine Z (Ac (Ad 2 U (Aa (Y (Ai (Ax (Ao (Ao (Ax (Ao (Bg U U U ?_)))))))))))
    replace H:=H.k3
    have e:=RU hrl hi hact h0 h34 h20 h64 hx72 (Lg h74 h76)
    exact Ag ⟨-1,_,_,_,_,_,_,by rw [e]<;>rfl,rfl,GR hk,fun h=>by rw [e] at h;exact absurd h (by decide)⟩ H
   exact Av (AS (Y (Ac (Ab U (V U U (AP (z:=((j+1:Nat):Int)) U U U (by rw [Ay (by omega) (by omega)];omega)) (Ab U (Aa (Bb (s:=j) (j+1) ⟨rfl,rfl,rfl,trivial⟩ ⟨H,by (try dsimp only);omega,Fd hn hx72 (HC (.inr h76))⟩ (by (try dsimp only);omega)))))))))
  exact Ad 8 U (Aa (Y (B0 U (Av (AS (Y (Ac (Ab U (V U U (AP (z:=((j+1:Nat):Int)) U U U (by rw [Ay (by omega) (by omega)];omega)) (Ab U (Aa (Bb (s:=j) (j+1) ⟨rfl,rfl,rfl,trivial⟩ ⟨H,by (try dsimp only);omega,Fd hn hx72 (HC (.inl h74))⟩ (by (try dsimp only);omega)))))))))))))
 refine Bj (AE (AE (Bk (Y (Z (Z (Ac (Ab U (V U U (AI U U) (V U U (Ah U FZ U) (V U U (Aj U D3 U (H.cellI 0 U U)) (V U U (AO U EP U) (Ab U (V U U (AO U EP U) (V U U (AP (z:=(((([]++(stk.take (stk.length - (A0 i.op).size))).length)+(((AY dg key g full k told i (stk.drop (stk.length - (A0 i.op).size))).out).length):Nat):Int)) U U U (by rw [Ay (by omega) (by omega)];omega)) (V U U (BP U U U) (Aa (Y ?_))))))))))))))))))
 refine Aq U (fun h77=>?_) (fun h77=>?_)
 ·refine Z (Ac (Ad 2 U (Aa (Y (Ai (Ao (Bg U U U ?_)))))))
  replace H:=H.k3
  have e:=RW hrl hi hact h0 h34 h20 h64 (by rw [List.take_of_length_le (by omega)] at hn;exact hn) (by omega)
  exact Ag ⟨-1,_,_,_,_,_,_,by rw [e]<;>rfl,rfl,GR hk,fun h=>by rw [e] at h;exact absurd h (by decide)⟩ H
 refine Av (Y (Z (Ac (Ad 2 U (V U U (AI U U) (V U U (Ah U FZ U) (V U U (Aj U D3 U (H.cellI 0 U U)) (Ab U ?_))))))))
 replace H:=H.p1
 refine BY (xs:=[]++(stk.take (stk.length - (A0 i.op).size))) (ys:=(AY dg key g full k told i (stk.drop (stk.length - (A0 i.op).size))).out) U U U A8 BV U (by decide) U U H (by first |omega|(simp only [List.length_nil];omega)) (fun F hA hR=>BI F (hA _ (List.mem_of_getElem? (i:=2) U))) (fun v78 w H=>(V U U (AI U U) (V U U (Ah U FZ U) ?_)))
 obtain ⟨A79,c80,rfl,hc81,hm82,hp83⟩:=H.fA 0 rfl
 replace H:=H.p1
 refine By U U U D3 U U H U (Nat.le_of_ble_eq_true U) (fun u hu=>by simp [Value.cells] at hu;subst hu;rfl) (fun w H=>(Aa (Y (Z (Ac (Ad 2 U (Aa (Y (Ai (Bg U U U ?_))))))))))
 replace H:=H.k3
 have e:=RV hrl hi hact h0 h34 h20 h64 (by rw [List.take_of_length_le (by omega)] at hn;exact hn) (by omega)
 exact Ag ⟨-1,_,_,_,_,_,_,by rw [e]<;>rfl,rfl,GR hk,fun _=>e⟩ H
theorem Yo (vp:Value) (p:List Bm) (key:ByteArray) (vv:Value) (vals:List ByteArray) (fuel:Int) (hpa:∀ i∈p,AF i.a) (hfu:AF fuel):
    Cn Tryz.prog 199 [vp,.string key,vv,.int .i64 fuel] [] [Af Au vp p,Af AZ vv vals] (fun v Bs=>∃ u:Value,∃ dn:Int,v=.tuple #[u,.int .i64 ((A_ dg p key vals fuel).2),.int .i64 dn]∧Bs=[Ae Al u ((A_ dg p key vals fuel).1)]):=by
 intro w0 F0 H
 obtain ⟨A1,c2,rfl,hc3,hm4,hp5⟩:=H.fR 0 rfl
 obtain ⟨A6,c7,rfl,hc8,hm9,hp10⟩:=H.fR 1 rfl
 refine enter Tryz.func199 U U (Nat.le_of_ble_eq_true U) (Z (Ac (Ad 3 U (Aa (Y (Z (Z (Ac (Ab U (sc (Kj (.slice A1 p.length c2) p) H (lR 0 U l0) U U (At JQ U U) ?_))))))))))
 rintro _ _ w ⟨rfl,rfl⟩ H
 refine V U U (BN U U U) (Ab U ?_)
 refine AD (d:=19) U (fun h11=>?_) (fun h11=>?_)
 ·refine Ad 3 U (Aa (Y (BM U (Z (Ac (Ad 3 U (Aa (Y (Ai (Ao (EV U U U U ?_)))))))))))
  have e:A_ dg p key vals fuel=([],2):=if_pos (by omega)
  replace H:=H.newnil Al
  exact Ag ⟨(.slice none 0 0),0,by rw [e]<;>rfl,by rw [e]<;>rfl⟩ H
 refine Ab U (V U U (AQ U U U) (Ab U (Aa (Y ?_))))
 refine Aq U (fun h12=>?_) (fun h12=>?_)
 ·refine Z (Ac (Ad 3 U (Aa (Y (Ai (Ao (EV U U U U ?_)))))))
  have e:A_ dg p key vals fuel=([],2):=if_pos (by omega)
  replace H:=H.newnil Al
  exact Ag ⟨(.slice none 0 0),0,by rw [e]<;>rfl,by rw [e]<;>rfl⟩ H
 refine Av (Y (Z ?_))
 have hbad:C3 p<0:=by omega
 have hgood:=Qa hbad
 have hnb:¬ (¬ C3 p<0∨fuel<0):=by omega
 refine Ac (Ad 2 U (V U U (CV (parts:=[(2,.tmp 23),(3,.tmp 24)]) (vs:=[.string key,.slice A6 vals.length c7]) (cs:=[.slice none 0 0,.bool false,.int .i64 0,.string ⟨#[]⟩,.bool false,.int .i64 0,.string ⟨#[]⟩,.bool false,.int .i64 0,.string ⟨#[]⟩,.bool false,.int .i64 0,.string ⟨#[]⟩,.bool false,.int .i64 0,.string ⟨#[]⟩,.bool false,.int .i64 0,.string ⟨#[]⟩,.bool false,.int .i64 0,.string ⟨#[]⟩,.bool false,.int .i64 0,.string ⟨#[]⟩,.string key,.slice A6 vals.length c7,.int .i64 0,.slice none 0 0]) U SG U U) (Do U U U bH H (fun b13 w H=>(By U U U Z7 U U H U (Nat.le_of_ble_eq_true U) (fun u hu=>by simp [Value.cells] at hu;rcases hu with rfl|rfl|rfl|rfl|rfl|rfl|rfl|rfl|rfl|rfl|rfl|rfl|rfl|rfl|rfl|rfl|rfl|rfl|rfl|rfl|rfl|rfl|rfl|rfl|rfl|rfl|rfl|rfl|rfl<;>rfl) (fun w H=>(Aa (Y (Z (Ac (Ad 2 U (Aa (Y (Z (AK ?_)))))))))))))))
 replace H:=(H.newnil Al).newnil A5
 replace H:=(H.pick 2 rfl)
 refine Br (σ:=Nat×VM×Nat×Value×Value) (fun (d,m,k,sv,tv)=>[(0,.slice A1 p.length c2),(3,.int .i64 fuel),(11,.pointer (some ⟨b13,0,none⟩)),(12,.int .i64 m.pos),(13,.int .i64 ((d:Nat):Int))]) (fun (d,m,k,sv,tv) w=>(Hd w0 F0 w [blk b13 (Cc sv m.g key (.slice A6 vals.length c7) ((k:Nat):Int) tv) 311,Ae A5 sv m.stk,Ae Al tv m.told] [Af Au (.slice A1 p.length c2) p,Af AZ (.slice A6 vals.length c7) vals])∧((d:Int)≤min fuel 2000)∧(DZ p.length m)∧(Cd dg p key ((min fuel 2000).toNat - d) m=Cd dg p key (min fuel 2000).toNat (C1 vals))∧(m.halted=false∧m.vals=vals.drop k)∧(k≤vals.length)) (fun (d,m,k,sv,tv)=>(min fuel 2000).toNat - d) (0,C1 vals,0,.slice none 0 0,.slice none 0 0) ⟨rfl,rfl,rfl,rfl,rfl,trivial⟩ ⟨H,by (try dsimp only);omega,O9 _ _,rfl,⟨rfl,rfl⟩,Nat.zero_le _⟩ ?_
 rintro ⟨d,m,k,sv,tv⟩ w ⟨H,hd,hinv,hpl,hmv,hkf⟩
 have hps:=hinv.pos
 refine Z (Z (Ac (Ad 2 U (V U U (AO U DX U) (V U U (AQ U U U) (Aa (Y ?_)))))))
 refine Aq U (fun h14=>?_) (fun h14=>?_)
 ·have hrun:m.pos<(p.length:Int)∧m.halted=false:=⟨h14,hmv.1⟩
  refine Av (Y (AK (Z (Z (Ac (Ad 2 U (V U U (Fr (z:=min fuel 2000) U U U U) (V U U (BN U U U) (Aa (Y ?_))))))))))
  refine Aq U (fun h15=>?_) (fun h15=>?_)
  ·refine Z (Ac (Ad 4 U (Aa (Y (Ai (Ao (Ax (Ao (Ax (Ao (EV U U U U ?_)))))))))))
   have ep:Cd dg p key (min fuel 2000).toNat (C1 vals)=(m,3):=by rw [←hpl,show (min fuel 2000).toNat - d=0 by omega];exact QC hrun
   have e:A_ dg p key vals fuel=([],3):=by unfold A_;rw [if_neg hnb,ep,if_pos (by exact (by decide:(3:Int)≠0))]
   replace H:=H.newnil Al|>.k1
   exact Ag ⟨(.slice none 0 0),((d:Nat):Int),by rw [e]<;>rfl,by rw [e]<;>rfl⟩ H
  refine Av (Y (Z (Ac (Ab U (V U U (AP (z:=((d+1:Nat):Int)) U U U (by rw [Ay (by omega) (by omega)];omega)) (Ab U (Aa (Y (Z (Z (Ac (Ad 2 U ?_))))))))))))
  obtain ⟨x16,hx17⟩:∃ z9,p[(m.pos).toNat]?=some z9:=⟨_,List.getElem?_eq_getElem (show (m.pos).toNat<p.length by omega)⟩
  have th18:=H.thR 0 rfl hx17
  refine V U U (AG (p:=AA A1+((m.pos).toNat)*3) U FO U U (by omega) (by omega) th18 (by omega)) (V U U (Ah U Ce U) (V U U (Aj U Aw U (H.elR 0 U hx17 (q:=0) U U)) (V U U (AT U U U) (Aa (Y ?_)))))
  refine Aq U (fun h19=>?_) (fun h19=>?_)
  ·refine Bj (AE (X6 (by decide) (AE (Bk (Y (Z (Ac (V U U (Ah U HL U) (V U U (Aj U Db U (H.cellI 0 U U)) (Ad 4 U (Aa (Y (Ai (EV U U U U ?_))))))))))))))
   have ep:Cd dg p key (min fuel 2000).toNat (C1 vals)=(⟨m.pos+1,true,m.stk,m.g,m.told,m.vals⟩,0):=by rw [←hpl,show (min fuel 2000).toNat - d=((min fuel 2000).toNat - (d+1))+1 by omega];exact XZ hrun hx17 h19
   have e:A_ dg p key vals fuel=(m.told,0):=by unfold A_;rw [if_neg hnb,ep,if_neg (by exact fun h=>h rfl)]
   replace H:=H.p2.k1
   exact Ag ⟨tv,((d+1:Nat):Int),by rw [e]<;>rfl,by rw [e]<;>rfl⟩ H
  refine Av (Y (Z (Ac (Ad 2 U ?_))))
  have th20:=H.thR 0 rfl hx17
  refine V U U (AG (p:=AA A1+((m.pos).toNat)*3) U FO U U (by omega) (by omega) th20 (by omega)) (V U U (Bp (cs:=[.int .i64 x16.op,.int .i64 x16.a,.string x16.s]) U Gb U U (H.elsR 0 U hx17 U)) (sc (Yu b13 sv m.g key (.slice A6 vals.length c7) k tv m.stk m.told vals x16 (p.length:Int) (m.pos+1) hinv.len hinv.told hinv.ok (hgood _ (Bl hx17)) h19 hkf) H (lR 1 U l0) U U (At VA U U) ?_))
  rintro _ _ w ⟨to21,sv22,tv23,stk24,g25,k26,told27,rfl,rfl,hf28,hf29⟩ H
  refine Ad 5 U (Aa (Y (Z (Z (Ac (Ab U (V U U (CL U U U) (Aa (Y ?_)))))))))
  refine Aq U (fun h30=>?_) (fun h30=>?_)
  ·refine Z (Ac (Ad 5 U (Aa (Y (Ai (Ao (Ax (Ao (Ax (Ao (EV U U U U ?_)))))))))))
   have ep:Cd dg p key (min fuel 2000).toNat (C1 vals)=BC dg key {m with pos:=m.pos+1} x16:=by rw [←hpl,show (min fuel 2000).toNat - d=((min fuel 2000).toNat - (d+1))+1 by omega];exact MF hrun hx17 (by rw [M9 hmv];exact h30)
   have e:A_ dg p key vals fuel=([],(DU dg key (m.pos+1) m.stk m.g m.told vals k x16).2):=by unfold A_;rw [if_neg hnb,ep,M9 hmv,if_pos h30]
   replace H:=H.newnil Al|>.k1
   exact Ag ⟨(.slice none 0 0),((d+1:Nat):Int),by rw [e]<;>rfl,by rw [e]<;>rfl⟩ H
  have h30z:=Classical.not_not.1 h30
  refine Av (Y (Z (Ac (Ab U (V U U (AP (z:=m.pos+1) U U U (Ay (by omega) (by omega))) (Ab U (Aa (Y (Z (Ac (Ab U (V U U (BN U U U) (Aa (Y ?_))))))))))))))
  refine Aq U (fun h31=>?_) (fun h31=>?_)
  ·refine Ac (Ad 2 U (Aa (AS ?_)))
   have ed:BC dg key {m with pos:=m.pos+1} x16=((⟨to21,false,stk24,g25,told27,vals.drop k26⟩:VM),0):=R0 hmv (hf29 h30z) (if_pos h31)
   have hj:(min fuel 2000).toNat - d=((min fuel 2000).toNat - (d+1))+1:=by omega
   have hpl2:Cd dg p key ((min fuel 2000).toNat - (d+1)) ⟨to21,false,stk24,g25,told27,vals.drop k26⟩=Cd dg p key (min fuel 2000).toNat (C1 vals):=by rw [←hpl,hj,II (m:=m) hrun hx17 (by rw [ed];exact fun h=>h rfl),ed]
   have hinv2:DZ p.length (⟨to21,false,stk24,g25,told27,vals.drop k26⟩:VM):=by have h:=JN Gu (L4 hinv hrun.1) (hgood _ (Bl hx17)) (hpa _ (Bl hx17)) (by rw [ed]);rw [ed] at h;exact h
   exact Bb (s:=(d,m,k,undef,undef)) (d+1,⟨to21,false,stk24,g25,told27,vals.drop k26⟩,k26,sv22,tv23) ⟨rfl,rfl,rfl,rfl,rfl,trivial⟩ ⟨H,by (try dsimp only);omega,hinv2,hpl2,⟨rfl,rfl⟩,hf28⟩ (by (try dsimp only);omega)
  refine Av (AS ?_)
  have ed:BC dg key {m with pos:=m.pos+1} x16=((⟨m.pos+1,false,stk24,g25,told27,vals.drop k26⟩:VM),0):=R0 hmv (hf29 h30z) (if_neg h31)
  have hj:(min fuel 2000).toNat - d=((min fuel 2000).toNat - (d+1))+1:=by omega
  have hpl2:Cd dg p key ((min fuel 2000).toNat - (d+1)) ⟨m.pos+1,false,stk24,g25,told27,vals.drop k26⟩=Cd dg p key (min fuel 2000).toNat (C1 vals):=by rw [←hpl,hj,II (m:=m) hrun hx17 (by rw [ed];exact fun h=>h rfl),ed]
  have hinv2:DZ p.length (⟨m.pos+1,false,stk24,g25,told27,vals.drop k26⟩:VM):=by have h:=JN Gu (L4 hinv hrun.1) (hgood _ (Bl hx17)) (hpa _ (Bl hx17)) (by rw [ed]);rw [ed] at h;exact h
  exact Bb (s:=(d,m,k,undef,undef)) (d+1,⟨m.pos+1,false,stk24,g25,told27,vals.drop k26⟩,k26,sv22,tv23) ⟨rfl,rfl,rfl,rfl,rfl,trivial⟩ ⟨H,by (try dsimp only);omega,hinv2,hpl2,⟨rfl,rfl⟩,hf28⟩ (by (try dsimp only);omega)
 refine Bj (AE (AE (Bk (Y (Z (Ac (V U U (Ah U HL U) (V U U (Aj U Db U (H.cellI 0 U U)) (Ad 4 U (Aa (Y (Ai (EV U U U U ?_)))))))))))))
 have ep:Cd dg p key (min fuel 2000).toNat (C1 vals)=(m,0):=by rw [←hpl];exact IJ _ (fun h=>h14 h.1)
 have e:A_ dg p key vals fuel=(m.told,0):=by unfold A_;rw [if_neg hnb,ep,if_neg (by exact fun h=>h rfl)]
 replace H:=H.p2.k1
 exact Ag ⟨tv,((d:Nat):Int),by rw [e]<;>rfl,by rw [e]<;>rfl⟩ H
theorem QY (vp:Value) (p:List Bm) (key:ByteArray) (vv:Value) (vals:List ByteArray) (fuel:Int) (hpa:∀ i∈p,AF i.a) (hfu:AF fuel):
    Cn Tryz.prog 163 [vp,.string key,vv,.int .i64 fuel] [] [Af Au vp p,Af AZ vv vals] (fun v Bs=>∃ u:Value,v=.tuple #[u,.int .i64 ((A_ dg p key vals fuel).2)]∧Bs=[Ae Al u ((A_ dg p key vals fuel).1)]):=by
 intro w0 F0 H
 obtain ⟨A1,c2,rfl,hc3,hm4,hp5⟩:=H.fR 0 rfl
 obtain ⟨A6,c7,rfl,hc8,hm9,hp10⟩:=H.fR 1 rfl
 refine enter Tryz.func163 U U (Nat.le_of_ble_eq_true U) (Z (Ac (Ad 2 U (Aa (Y (Z (Ac (Ad 4 U (sc (Yo (.slice A1 p.length c2) p key (.slice A6 vals.length c7) vals fuel (by first |omega|decide|assumption) (by first |omega|decide|assumption)) H (lR 0 U (lR 1 U l0)) U U (At Vm U U) ?_)))))))))
 rintro _ _ w ⟨u11,dn12,rfl,rfl⟩ H
 exact Ad 7 U (Aa (Y (Z (Ac (Ad 4 U (Aa (Y (Ai (Bg U U U (Ag ⟨u11,rfl,rfl⟩ H))))))))))
theorem Ye (vp:Value) (p:List Bm) (vps:Value) (ps:List An) (fuel:Int) (own:Bool) (hpa:∀ i∈p,AF i.a) (hfu:AF fuel) (hb:ps.length≤1000000):
    Cn Tryz.prog 201 [vp,vps,.int .i64 fuel,.bool own] [] [Af Au vp p,Af Al vps ps] (fun v Bs=>∃ u:Value,v=.tuple #[u,.int .i64 ((DC dg p ps fuel own).2)]∧Bs=[Ae Al u ((DC dg p ps fuel own).1)]):=by
 intro w0 F0 H
 obtain ⟨A1,c2,rfl,hc3,hm4,hp5⟩:=H.fR 0 rfl
 obtain ⟨A6,c7,rfl,hc8,hm9,hp10⟩:=H.fR 1 rfl
 refine enter Tryz.func201 U U (Nat.le_of_ble_eq_true U) (Z (Ac (Ad 2 U (Aa (Y (Z (Ac (Ab U (Aa (Y (Z (Ac (Ab U (sc (QU (.slice A6 ps.length c7) ps (by first |omega|decide|assumption)) H (lR 1 U l0) U U (At Pv U U) ?_))))))))))))))
 rintro v11 _ w rfl H
 refine Ab U (Aa (Y (Z (Z (Ac (Ab U (Aa (Y (AK ?_)))))))))
 replace H:Hd w0 F0 w [Ae AZ v11 (Cy ps)] [Af Au (.slice A1 p.length c2) p,Af Al (.slice A6 ps.length c7) ps]:=by rw [US];exact H
 obtain ⟨A12,c13,rfl,hc14,hm15,hp16⟩:=H.fA 0 rfl
 replace H:=H.newnil Al
 refine Br (σ:=Nat×Value×List An) (fun (i,q,out)=>[(0,.slice A1 p.length c2),(1,.slice A6 ps.length c7),(2,.int .i64 fuel),(3,.bool own),(10,q),(11,.slice A12 ((Cy ps).length) c13),(12,.int .i64 ((i:Nat):Int))]) (fun (i,q,out) w=>(Hd w0 F0 w [Ae Al q out,Ae AZ (.slice A12 ((Cy ps).length) c13) (Cy ps)] [Af Au (.slice A1 p.length c2) p,Af Al (.slice A6 ps.length c7) ps])∧(i≤(Cy ps).length)∧(DK dg p ps fuel own ((Cy ps).drop i) out=DC dg p ps fuel own)∧(out.length≤40)) (fun (i,q,out)=>(Cy ps).length - i) (0,.slice none 0 0,[]) ⟨rfl,rfl,rfl,rfl,rfl,rfl,rfl,trivial⟩ ⟨H,Nat.zero_le _,rfl,Nat.zero_le _⟩ ?_
 rintro ⟨i,q,out⟩ w ⟨H,hi,hgo,ho⟩
 have hkl:=Pd ps
 refine Z (Z (Ac (Ad 2 U (V U U (AO U GB U) (V U U (AQ U U U) (Aa (Y ?_)))))))
 refine Aq U (fun h17=>?_) (fun h17=>?_)
 ·refine Av (Y (Z (AK (Z (BD (.e 0 (.e 1 (.e 2 (.e 3 (.e 4 (.e 5 (.e 6 (.e 7 (.e 8 (.e 9 (.e 11 (.m 10 (.m 12 (.e 13 (.e 14 (.e 15 (.e 16 (.e 17 .z)))))))))))))))))) (fun w=>∃ Ar,Hd w0 F0 w (Ae Al q out::Ae AZ (.slice A12 ((Cy ps).length) c13) (Cy ps)::Ar) [Af Au (.slice A1 p.length c2) p,Af Al (.slice A6 ps.length c7) ps]) mo (by kernel_rfl) (fun w H=>⟨_,H⟩) H (fun w H=>(Ap U (Ap U (Ap U ?_)))))))))
  obtain ⟨x18,hx19⟩:∃ z9,(Cy ps)[i]?=some z9:=⟨_,List.getElem?_eq_getElem (show i<(Cy ps).length by omega)⟩
  have th20:=H.thA 1 rfl hx19
  refine Ak U U U (fun w ⟨Ar,H⟩=>AG (p:=AA A12+i*1) U Ck U U (by omega) (by omega) th20 U) (Ak U U U (fun w ⟨Ar,H⟩=>Aj U Bd U (H.elA 1 U hx19 (q:=0) U U)) (Ap U (Ap U (Ap U ?_))))
  have th21:=H.thA 1 rfl hx19
  refine Ak U U U (fun w ⟨Ar,H⟩=>AG (p:=AA A12+i*1) U Ck U U (by omega) (by omega) th21 U) (Ak U U U (fun w ⟨Ar,H⟩=>Aj U Bd U (H.elA 1 U hx19 (q:=0) U U)) (Ap U (AL U (sc (QX (.slice A6 ps.length c7) ps x18 (by first |omega|decide|assumption)) H (lR 1 U l0) U U (At Pw U U) ?_))))
  rintro v22 _ w rfl H
  replace H:=H.p2.p2
  refine AH ⟨_,H⟩ (AL U (sc (QY (.slice A1 p.length c2) p x18 v22 (Be ps x18) fuel (by first |exact hpa|exact JM|assumption) (by first |assumption|(unfold AF;omega))) H (lR 0 U (lA 2 U BI l0)) U U (At Pl U U) ?_))
  rintro _ _ w ⟨u23,rfl,rfl⟩ H
  replace H:=H.p2|>.p2
  refine AH ⟨_,H⟩ (Ap U (Ap U (Ap U (Ap U (Ap U (Bx (Y (Z (Z (Ac (Ab U (V U U (CL U U U) (Aa (Y ?_))))))))))))))
  refine Aq U (fun h24=>?_) (fun h24=>?_)
  ·refine Z (Ac (Ad 3 U (Aa (Y (Ai (Ao (Ax (Ao (Ao (Ax (Ao (Bg U U U ?_))))))))))))
   have e:DC dg p ps fuel own=([],(A_ dg p x18 (Be ps x18) fuel).2):=hgo.symm.trans (OT hx19 h24)
   replace H:=H.newnil Al|>.k1
   exact Ag ⟨(.slice none 0 0),by rw [e]<;>rfl,by rw [e]<;>rfl⟩ H
  refine Av (Y (Z (Z (Ac (Ab U (Aa (Y (AK ?_))))))))
  obtain ⟨A25,c26,rfl,hc27,hm28,hp29⟩:=H.fA 2 rfl
  have hrt:=Kq dg p x18 (Be ps x18) fuel
  replace H:=H.k3
  refine Br (σ:=Nat) (fun k=>[(0,.slice A1 p.length c2),(1,.slice A6 ps.length c7),(2,.int .i64 fuel),(3,.bool own),(10,q),(11,.slice A12 ((Cy ps).length) c13),(12,.int .i64 ((i:Nat):Int)),(13,.slice A25 (((A_ dg p x18 (Be ps x18) fuel).1).length) c26),(15,.int .i64 ((k:Nat):Int))]) (fun k w=>(Hd w0 F0 w [Ae Al q out,Ae AZ (.slice A12 ((Cy ps).length) c13) (Cy ps),Ae Al (.slice A25 (((A_ dg p x18 (Be ps x18) fuel).1).length) c26) ((A_ dg p x18 (Be ps x18) fuel).1)] [Af Au (.slice A1 p.length c2) p,Af Al (.slice A6 ps.length c7) ps])∧(k≤((A_ dg p x18 (Be ps x18) fuel).1).length)∧(∀ y∈((A_ dg p x18 (Be ps x18) fuel).1).take k,y.key=x18)) (fun k=>((A_ dg p x18 (Be ps x18) fuel).1).length - k) 0 ⟨rfl,rfl,rfl,rfl,rfl,rfl,rfl,rfl,rfl,trivial⟩ ⟨H,Nat.zero_le _,by (try dsimp only);simp⟩ ?_
  rintro k w ⟨H,hk,hn⟩
  refine Z (Z (Ac (Ad 2 U (V U U (AO U B_ U) (V U U (AQ U U U) (Ab U ?_))))))
  refine AD (d:=47) U (fun h30=>?_) (fun h30=>?_)
  ·refine Ad 2 U (Aa (Y ?_))
   refine DJ (b:=own) U (fun h31=>?_) (fun h31=>?_)
   ·refine Av (Y (Z (AK (Z (Et mo (by kernel_rfl) H (DW 2 U ?_))))))
    obtain ⟨x32,hx33⟩:∃ z9,((A_ dg p x18 (Be ps x18) fuel).1)[k]?=some z9:=⟨_,List.getElem?_eq_getElem (show k<((A_ dg p x18 (Be ps x18) fuel).1).length by omega)⟩
    have th34:=H.thA 2 rfl hx33
    refine Ba U U (fun w H=>AG (p:=AA A25+k*2) U Bq U U (by omega) (by omega) th34 U) (Ba U U (fun w H=>Ah U DO U) (Ba U U (fun w H=>Aj U Bd U (H.elA 2 U hx33 (q:=0) U U)) (DW 2 U ?_)))
    have th35:=H.thA 1 rfl hx19
    refine Ba U U (fun w H=>AG (p:=AA A12+i*1) U Ck U U (by omega) (by omega) th35 U) (Ba U U (fun w H=>Aj U Bd U (H.elA 1 U hx19 (q:=0) U U)) (Ba U U (fun w H=>Kh U U U) (El (fun w H=>(Y ?_)))))
    refine Aq U (fun h36=>?_) (fun h36=>?_)
    ·refine Z (Ac (Ad 2 U (Aa (Y (Ai (Ax (Ao (Ao (Ax (Ao (Ax (Ao (Ao (Ax (Ao (Bg U U U ?_))))))))))))))))
     have e:DC dg p ps fuel own=([],6):=hgo.symm.trans (OS hx19 h24 h31 (UR hx33 h36))
     replace H:=H.newnil Al|>.k1
     exact Ag ⟨(.slice none 0 0),by rw [e]<;>rfl,by rw [e]<;>rfl⟩ H
    exact Av (AS (Y (Ac (Ab U (V U U (AP (z:=((k+1:Nat):Int)) U U U (by rw [Ay (by omega) (by omega)];omega)) (Ab U (Aa (Bb (s:=k) (k+1) ⟨rfl,rfl,rfl,rfl,rfl,rfl,rfl,rfl,rfl,trivial⟩ ⟨H,by (try dsimp only);omega,Fd hn hx33 (Classical.not_not.1 h36)⟩ (by (try dsimp only);omega)))))))))
   refine Bj (AE (AE (Bk (Y (Z (Z ?_))))))
   have hkn:¬ (own=true∧F8 x18 (A_ dg p x18 (Be ps x18) fuel).1=true):=fun h=>by rw [h.1] at h31;cases h31
   refine Ac (Ab U ?_)
   obtain ⟨A37,c38,rfl,hc39,hm40,hp41⟩:=H.fA 0 rfl
   refine V U U (AO U B_ U) (Ab U (V U U (AO U B_ U) (V U U (AP (z:=((out.length+((A_ dg p x18 (Be ps x18) fuel).1).length:Nat):Int)) U U U (by rw [Ay (by omega) (by omega)];omega)) (V U U (BP U U U) (Aa (Y ?_))))))
   refine Aq U (fun h42=>?_) (fun h42=>?_)
   ·refine Z (Ac (Ad 2 U (Aa (Y (Ai (Ao (Ax (Ao (Ao (Ax (Ao (Bg U U U ?_))))))))))))
    have e:DC dg p ps fuel own=([],5):=hgo.symm.trans (JK hx19 h24 hkn (by omega))
    replace H:=H.newnil Al|>.k1
    exact Ag ⟨(.slice none 0 0),by rw [e]<;>rfl,by rw [e]<;>rfl⟩ H
   refine Av (Y (Ac (Ad 2 U (BY (xs:=out) (ys:=(A_ dg p x18 (Be ps x18) fuel).1) U U U Bq CJ U (by decide) U U H (by omega) (fun F hA hR=>BI F (hA _ (List.mem_of_getElem? (i:=1) U))) (fun v43 w H=>(Ab U (Aa (AS (Y (Ac (Ab U (V U U (AP (z:=((i+1:Nat):Int)) U U U (by rw [Ay (by omega) (by omega)];omega)) (Ab U (Aa ?_))))))))))))))
   replace H:=H.k2
   have hg2:=(JL (out:=out) hx19 h24 hkn (by omega)).trans hgo
   have ho2:(out++(A_ dg p x18 (Be ps x18) fuel).1).length≤40:=by rw [List.length_append];omega
   exact Bb (s:=(i,undef,out)) (i+1,v43,out++(A_ dg p x18 (Be ps x18) fuel).1) ⟨rfl,rfl,rfl,rfl,rfl,rfl,rfl,trivial⟩ ⟨H,by (try dsimp only);omega,hg2,ho2⟩ (by (try dsimp only);omega)
  refine Ad 2 U (Aa (Y (B0 U (Bj (AE (AE (Bk (Y (Z (Z ?_))))))))))
  have hkn:¬ (own=true∧F8 x18 (A_ dg p x18 (Be ps x18) fuel).1=true):=fun h=>UQ (by rw [List.take_of_length_le (by omega)] at hn;exact hn) h.2
  refine Ac (Ab U ?_)
  obtain ⟨A44,c45,rfl,hc46,hm47,hp48⟩:=H.fA 0 rfl
  refine V U U (AO U B_ U) (Ab U (V U U (AO U B_ U) (V U U (AP (z:=((out.length+((A_ dg p x18 (Be ps x18) fuel).1).length:Nat):Int)) U U U (by rw [Ay (by omega) (by omega)];omega)) (V U U (BP U U U) (Aa (Y ?_))))))
  refine Aq U (fun h49=>?_) (fun h49=>?_)
  ·refine Z (Ac (Ad 2 U (Aa (Y (Ai (Ao (Ax (Ao (Ao (Ax (Ao (Bg U U U ?_))))))))))))
   have e:DC dg p ps fuel own=([],5):=hgo.symm.trans (JK hx19 h24 hkn (by omega))
   replace H:=H.newnil Al|>.k1
   exact Ag ⟨(.slice none 0 0),by rw [e]<;>rfl,by rw [e]<;>rfl⟩ H
  refine Av (Y (Ac (Ad 2 U (BY (xs:=out) (ys:=(A_ dg p x18 (Be ps x18) fuel).1) U U U Bq CJ U (by decide) U U H (by omega) (fun F hA hR=>BI F (hA _ (List.mem_of_getElem? (i:=1) U))) (fun v50 w H=>(Ab U (Aa (AS (Y (Ac (Ab U (V U U (AP (z:=((i+1:Nat):Int)) U U U (by rw [Ay (by omega) (by omega)];omega)) (Ab U (Aa ?_))))))))))))))
  replace H:=H.k2
  have hg2:=(JL (out:=out) hx19 h24 hkn (by omega)).trans hgo
  have ho2:(out++(A_ dg p x18 (Be ps x18) fuel).1).length≤40:=by rw [List.length_append];omega
  exact Bb (s:=(i,undef,out)) (i+1,v50,out++(A_ dg p x18 (Be ps x18) fuel).1) ⟨rfl,rfl,rfl,rfl,rfl,rfl,rfl,trivial⟩ ⟨H,by (try dsimp only);omega,hg2,ho2⟩ (by (try dsimp only);omega)
 refine Bj (AE (AE (Bk (Y (Z (Ac (Ad 3 U (Aa (Y (Ai (Bg U U U ?_)))))))))))
 have e:DC dg p ps fuel own=(out,0):=hgo.symm.trans (OR (by omega))
 replace H:=H.k1
 exact Ag ⟨q,by rw [e]<;>rfl,by rw [e]<;>rfl⟩ H
end Go.Proofs.YthgehekecfpikaaGreatDoor.X
