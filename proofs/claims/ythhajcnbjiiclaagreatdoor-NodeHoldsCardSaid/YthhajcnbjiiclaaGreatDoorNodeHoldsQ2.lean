/- NodeHolds: texts XCode, XMpr, XByte, XOb, XMap2, XMprI, XRecd, XRed, XRed2, XOkR, XRedL, XStg, XRecO, XRedO, XOrd, XTwo, XWrk, XWrk2, XAct, XWrk3, XDisk, XD, XD2, XMin, XAbb0, XAbb, XF, F1, joined by a program of ours; what nothing names is left out. -/
import Derived.Test.YthhajcnbjiiclaaGreatDoorNodeHoldsQ1
import Derived.Maps.RangeRun
import Derived.KernelRfl
import Derived.OrdersHeld
import Derived.Test.YthhajcnbjiiclaaGreatDoorProg
open Array renaming getD_eq_getD_getElem? → pm, getElem?_eq_none → rg, getElem?_eq_some_iff → ta, getElem?_setIfInBounds_ne → ru, replicate → ue, setIfInBounds_comm → wl, toList_filter → xu, toList_modify → uc, toList_push → vx
open Bool renaming and_eq_true → qe, not_eq_true' → yq, or_eq_false_iff → vd, or_false → jad
open Classical renaming byContradiction → qq, not_not → oq
open Int renaming ediv_le_self → zi, ediv_nonneg → zq, emod_lt_of_pos → rq, emod_nonneg → sy, le_refl → sl, natCast_nonneg → tf, tdiv_eq_ediv_of_nonneg → tw, toNat_natCast → qv
open List renaming any_eq_false → rz, any_eq_true → sj, append_assoc → og, append_nil → oy, drop_left → xf, eq_nil_of_length_eq_zero → oz, eq_of_mem_replicate → uh, eraseIdx_sublist → xg, ext_getElem? → sd, filter_append → po, filter_cons_of_neg → qg, filter_cons_of_pos → pq, filter_eq_self → ua, flatMap_append → pu, flatMap_cons → ox, foldl_append → vy, foldl_cons → ww, getElem?_eq_none → py, getElem?_eq_some_iff → oh, getElem?_map → om, getElem?_modify → xk, getElem?_of_mem → qh, getElem?_set → qf, length → qt, length_append → nr, length_cons → nz, length_drop → pt, length_filter_le → ql, length_map → nu, length_nil → ny, length_singleton → sx, length_take → oo, map_append → oa, map_congr_left → xv, map_cons → pf, map_map → ry, map_set → qk, mem_append → pj, mem_append_left → xm, mem_cons → pn, mem_cons_of_mem → ow, mem_cons_self → od, mem_filter → re, mem_map → pi, mem_map_of_mem → sh, mem_of_getElem? → nt, mem_range → um, mem_singleton → pc, nodup_cons → rx, nodup_range → zk, not_mem_nil → qx, perm_append_comm → pr, range → qa, range_succ → rn, replicate → pd, reverse_cons → yr, reverse_reverse → xl, singleton_append → xh, take_left → tj, take_of_length_le → oe
open Nat renaming add_zero → uy, beq → ym, eq_of_beq_eq_true → tk, le_refl → ou, le_succ → sn, le_trans → ot, lt_or_ge → pg, mod_eq_of_lt → zj, mul_le_mul_right → qp, succ_mul → pw, zero_add → su, zero_le → oc
open Option renaming bind_eq_some_iff → px, map_eq_some_iff → qc, map_some → rk
open Go.Proofs.Tryz renaming func128 → jau, func141 → yb, func142 → yc, func143 → jbe, func195 → yf, func196 → yg, func85 → zc, prog → np
open Go.Value renaming bool → nw, int → ph
set_option linter.unusedVariables false
set_option linter.unusedSimpArgs false
set_option maxHeartbeats 8000000
open Go.Value renaming int→Y,slice→V,pointer→zP
open Go.IntKind renaming i64→Z
namespace Go.Proofs.YthhajcnbjiiclaaGreatDoor.X
open Go
variable {α β σ:Type} {As Bs Cs Rs Ss:List SP} {B:AS} {C:Cf} {D:B5} {E:SP} {F F0:BD} {K:Act→World→Prop} {T:Value→List SP→Prop} {args cs:List Value} {bt tt:TypeId} {c0 c1 c2 c3 c4 c5 c6 c7:Int} {d k nb off q sb:Nat} {fn:Func} {hv:Nat→Value} {k':IntKind} {l:List α} {o':Oper} {ops:Array Oper} {ps:List Au} {r:Bp} {u v v' vC vK vM vR vS:Value} {w0:World}
def CV (n:Nat):List UInt8:=(qa 8).map fun i=>UInt8.ofNat (n / 256^(7 - i))
def HW (l:List UInt8):Nat:=l.foldl (fun n x=>n*256+x.toNat) 0
theorem FI (n:Nat):(CV n).length=8:=by simp [CV]
theorem dI (n:Nat):CV n=[UInt8.ofNat (n / 72057594037927936),UInt8.ofNat (n / 281474976710656),UInt8.ofNat (n / 1099511627776),UInt8.ofNat (n / 4294967296),UInt8.ofNat (n / 16777216),UInt8.ofNat (n / 65536),UInt8.ofNat (n / 256),UInt8.ofNat (n / 1)]:=rfl
theorem uO {n:Nat} (h:n<18446744073709551616):HW (CV n)=n:=by
 rw [dI];simp only [HW,ww,List.foldl_nil,UInt8.toNat_ofNat'];omega
theorem uP:∀ (l:List UInt8) (k:Nat),HW l<256^l.length:=by
 intro l _;have:∀ (l:List UInt8) (n m:Nat),n<256^m→l.foldl (fun n x=>n*256+x.toNat) n<256^(m+l.length):=by
  intro l;induction l with
  |nil=>intro n m h;exact h
  |cons x l ih=>
   intro n m h;have hx:=UInt8.toNat_lt x;have:=ih (n*256+x.toNat) (m+1) (by rw [Nat.pow_succ];omega);rw [ww,nz,show m+(l.length+1)=m+1+l.length by omega];exact this
 have:=this l 0 0 (by decide);rwa [su] at this
theorem uQ (l:List UInt8) (x:UInt8):HW (l++[x])=HW l*256+x.toNat:=by
 unfold HW;rw [vy];rfl
def Br (s:ByteArray):List UInt8:=s.data.toList
def CM (s:ByteArray):List UInt8:=CV s.size++Br s
theorem Jx (s:ByteArray):(Br s).length=s.size:=by unfold Br;exact Array.length_toList
theorem IS (s:ByteArray):(CM s).length=8+s.size:=by unfold CM;rw [nr,FI,Jx]
def D6 (l:List UInt8):ByteArray:=⟨l.toArray⟩
theorem yW (s:ByteArray):D6 (Br s)=s:=by cases s;simp [D6,Br]
theorem VB (l:List UInt8):Br (D6 l)=l:=by simp [D6,Br]
def Ks (b:List UInt8) (at_:Int):Option (Int×Int):=
 if at_<0∨(b.length:Int)<at_∨(b.length:Int) - at_<8 then none else some (IntKind.i64.wrap (HW ((b.drop at_.toNat).take 8):Nat),at_+8)
def OQ (b:List UInt8) (at_:Int):Option (ByteArray×Int):=
 match Ks b at_ with
 |none=>none
 |some (n,next)=>if n<0∨(b.length:Int) - next<n then none else some (D6 ((b.drop next.toNat).take n.toNat),next+n)
theorem QX {a c:List UInt8} {n:Nat} (hn:n<9223372036854775808) (hk:a.length=k):Ks (a++(CV n++c)) (k:Int)=some ((n:Int),((k+8:Nat):Int)):=by
 subst hk;unfold Ks;rw [if_neg (by rw [nr,nr,FI];omega)];have h1:((a++(CV n++c)).drop ((a.length:Nat):Int).toNat).take 8=CV n:=by
  rw [qv,xf,←FI n,tj]
 rw [h1,uO (by omega),Df (by omega) (by omega)];rfl
theorem Q0 {a c:List UInt8} {s:ByteArray} (hs:s.size<9223372036854775808) (hk:a.length=k):OQ (a++(CM s++c)) (k:Int)=some (s,((k+8+s.size:Nat):Int)):=by
 unfold OQ;have h:a++(CM s++c)=a++(CV s.size++(Br s++c)):=by unfold CM;rw [og]
 rw [h,QX hs hk];dsimp only;rw [if_neg (by rw [nr,nr,nr,FI,Jx];omega)];have h2:(a++(CV s.size++(Br s++c))).drop ((k+8:Nat):Int).toNat=Br s++c:=by
  rw [qv,←og,show k+8=(a++CV s.size).length by rw [nr,FI,hk],xf]
 rw [h2,qv,←Jx s,tj,yW,Jx];rfl
def CL (ps:List Au):List UInt8:=ps.flatMap fun p=>CM p.key++CM p.val
def FD (ps:List Au):List UInt8:=CV ps.length++CL ps
theorem QM (ps:List Au) (p:Au):CL (ps++[p])=CL ps++(CM p.key++CM p.val):=by unfold CL;rw [pu];simp
theorem YX {p:Au} (h:ps[k]?=some p):CL ps=CL (ps.take k)++(CM p.key++(CM p.val++CL (ps.drop (k+1)))):=by
 obtain ⟨hl,e⟩:=oh.1 h;have:ps=ps.take k++p::ps.drop (k+1):=by rw [←e,←List.drop_eq_getElem_cons hl,List.take_append_drop]
 conv=>lhs;rw [this]
 unfold CL;rw [pu,ox,og]
def HM (x:UInt8):List Value:=[.int .u8 x.toNat]
def CI:Kd UInt8:=flat HM 1 (by omega) (fun _=>rfl) (fun _ c h=>by simp [HM] at h;subst h;rfl)
structure DG where
 c:Int
 s:Int
 e:Int
 x:Int
def Ll (w:DG):Prop:=(0≤w.c∧w.c≤40∧1≤w.s∧w.s≤4)∧(0≤w.x∧w.x≤w.c)∧0≤w.e∧w.e≤9223372036854775807
def LJ (w:DG) (ep n:Int):DG:=⟨w.c,w.s,My w.c w.e w.x ep n,Mz w.c w.e w.x ep n⟩
theorem cI {w:DG} {ep n:Int} (h:Ll w) (he:Aw ep):Ll (LJ w ep n):=by
 obtain ⟨h1,h2,h3,h4⟩:=h;have:=cJ (n:=n) h1.1 h2 h3 h4 he;exact ⟨h1,this.1,this.2⟩
def Gk (chunk att:Int):Int:=if att.tmod 2≠0 then chunk+1 else chunk
def FC (n size:Int):Int:=if n<1∨size<1 then 0 else (n - 1).tdiv size+1
def Iy (ps:List Au) (size q:Int):List Au:=if q<0∨FC ps.length size≤q then [] else (ps.drop (q*size).toNat).take size.toNat
def Da (D:B5) (J:AS) (s:Nat) (att:Int):List Int:=
 if (BV D J s).2≠0 then [] else (qa J.parts.toNat).map fun (p:Nat)=>FC ((FS D J s p).length:Nat) (Gk J.chunk att)
structure Ce where
 sp:Nat
 att:Int
 ws:List DG
def GH (D:B5) (J:AS) (s:Nat) (att:Int):Ce:=⟨s,att,(Da D J s att).map fun n=>⟨n,J.window,0,0⟩⟩
def E5 (D:B5) (J:AS) (s:Nat) (att p q:Int):List Au:=if p<0 then [] else Iy (FS D J s p) (Gk J.chunk att) q
def Gi (D:B5) (J:AS) (s:Nat) (att:Int) (w:DG) (p:Nat):List Bu:=
 (GK w.c w.s w.x).map fun q=>⟨2,s,att,p,q,0,0,0,[],E5 D J s att p q⟩
def Ff (D:B5) (J:AS) (s:Nat) (att:Int):List DG→Nat→List Bu
 |[],_=>[]
 |w::ws,p=>Gi D J s att w p++Ff D J s att ws (p+1)
def Kr (D:B5) (J:AS) (m:Ce):List Bu:=Ff D J m.sp m.att m.ws 0
def NS (m:Ce) (p:Int):Prop:=0≤p∧p<m.ws.length
instance (m:Ce) (p:Int):Decidable (NS m p):=by unfold NS;infer_instance
def DP (m:Ce) (p ep n:Int):Ce×Bool:=
 if NS m p then match m.ws[p.toNat]? with
  |some w=>({ m with ws:=m.ws.set p.toNat (LJ w ep n) },JY w.c w.e w.x ep n)
  |none=>(m,false)
 else (m,false)
theorem eH {n size:Int} (h1:1≤n) (h2:1≤size):1≤FC n size∧FC n size≤n:=by
 unfold FC;rw [if_neg (by omega)];have h3:(n - 1).tdiv size=(n - 1) / size:=tw (by omega);rw [h3];have h4:0≤(n - 1) / size:=zq (by omega) (by omega);have h5:(n - 1) / size≤n - 1:=zi _ (by omega);omega
theorem eG {n size:Int} (h:0≤n):0≤FC n size∧FC n size≤n:=by
 by_cases h1:n<1∨size<1;unfold FC;rw [if_pos h1];omega;have:=eH (n:=n) (size:=size) (by omega) (by omega);omega
theorem fD {chunk att:Int} (h:1≤chunk∧chunk≤7):1≤Gk chunk att∧Gk chunk att≤8:=by
 unfold Gk;split<;>omega
theorem VR (D:B5) (J:AS) (s:Nat) (att:Int):(Da D J s att).length=if (BV D J s).2≠0 then 0 else J.parts.toNat:=by
 unfold Da;split;rfl;simp
theorem VQ {J:AS} {s:Nat} {att n:Int} (h:n∈Da D J s att):0≤n∧n≤40:=by
 unfold Da at h;split at h;cases h;obtain ⟨p,_,rfl⟩:=pi.1 h;have h1:=eG (n:=((FS D J s p).length:Nat)) (size:=Gk J.chunk att) (by omega);have h2:=OG D J s p;omega
theorem qK {J:AS} (hJ:Cy J) (s:Nat) (att:Int):∀ w∈(GH D J s att).ws,Ll w:=by
 intro w hw;obtain ⟨n,hn,rfl⟩:=pi.1 hw;have:=VQ hn;have:=hJ.window1;exact ⟨⟨by (try dsimp only);omega,by (try dsimp only);omega,by (try dsimp only);omega,by (try dsimp only);omega⟩,⟨by (try dsimp only);omega,by (try dsimp only);omega⟩,by (try dsimp only);omega,by (try dsimp only);omega⟩
theorem KS:∀ l:List UInt8,l.flatMap HM=l.map fun b=>ph .u8 b.toNat
 |[]=>rfl
 |x::l=>by rw [ox,KS l];rfl
section
variable {P:Program} {ops:Array Oper} {Q:Exit→Act→World→Prop} {rest:List Oper} {n:Nat} {l:Cb} {w0 w:World} {F F0:BD} {o:Oper} {v:Value} {As Rs:List SP} {x y z:Operand} {t:TypeId}
section
variable {α:Type} {enc:α→List Value} {sz:Nat} {hp:0<sz} {hl:∀ x,(enc x).length=sz} {h1:∀ x,∀ c∈enc x,c.oneCell'=true}
theorem wX {e bytes b bt:Nat} {xs ys:List α} {B:Option Addr} {m c c2:Nat} (hg:gd ops l o=some true) (hd:CF n o.dst=true) (ho:o.op=.call { callee:=.builtin .copy,args:=#[x,y],argTypes:=#[t,t] }) (hs:D5 P t=some (e,sz,bytes))
  (hx:ev l x=some (V (some ⟨b,0,none⟩) m c)) (hy:ev l y=some (V B m c2)) (H:Hd w0 F0 w (OX enc b bt xs::As) Rs) (hc:xs.length=c) (hmc:m≤c)
  (hn:∀ F,(∀ A∈As,A.P w F)→(∀ R∈Rs,R.P w F)→(An (flat enc sz hp hl h1) (V B m c2) ys).P w F)
  (h:∀ w',Hd w0 F0 w' (OX enc b bt (ys++xs.drop m)::As) Rs→WL P ops Q rest n (Cj l o.dst (Y Z (m:Int))) w'):WL P ops Q (o::rest) n l w:=by
 obtain ⟨F,d,f⟩:∃ F,(∀ A∈As,A.P w F)∧(∀ R∈Rs,R.P w F):=H.read fun F a r=>⟨F,fun A hA=>a A (ow _ hA),r⟩;obtain ⟨hyl,_,_,news,hnr,hnR⟩:Uv (flat enc sz hp hl h1) w F ys B m c2:=by
  obtain ⟨A',n',c',e',h'⟩:=hn F d f;cases e';exact h'
 have hnl:news.length=m*sz:=by rw [hnR.len,hyl];rfl
 have j:B=none→m=0:=by
  intro hB;rcases hnr.2 with rfl|⟨b,off,C,t',fr,e',_⟩;have:m*sz=0:=by rw [←hnl];rfl
  exact (Nat.mul_eq_zero.1 this).resolve_right (by omega);rw [hB] at e';cases e'
 obtain ⟨hu,i,hi,g,k⟩:=HZ hs;have hfc:=So (P:=P) (c:=c2) hnr hnl j;have hnews:news=ys.flatMap enc:=BB.flat_eq.1 hnR;obtain ⟨F1,hb⟩:∃ F,(OX enc b bt xs).P w F:=H.fact (od ..) fun F hb=>⟨F,hb⟩;have hfit:0+0+news.length≤(xs.flatMap enc).length:=by rw [hnl,IC hl,uy,su];exact qp _ (by omega)
 obtain ⟨w',hr,_,_⟩:=OZ (P:=P) _ _ 0 0 w hb hfit hnR.one;have hnew:Fj (xs.flatMap enc) (0+0) news=(ys++xs.drop m).flatMap enc:=by
  rw [uy,L_ _ _ _ (by rw [su] at hfit ⊢;simpa using hfit),hnews,List.take_zero,IC hl,hyl,su,PH hl];simp
 refine Ed hg hd (v:=Y Z (m:Int)) (w':=w') (fun a ha=>?_) (h w' (H.write fun F' hb'=>?_));simp [execOp,ho,resolve,ha.eval hx,ha.eval hy,invoke,builtin,Builtin.copy_,run_underlying hu,sizeOf,typeInfo,hi,g,Builtin.lenOf,hfc w rfl,hr,goInt];obtain ⟨w'',hr',h2,h3⟩:=OZ (P:=P) _ _ 0 0 w hb' hfit hnR.one;rw [hr] at hr';cases hr';refine ⟨?_,h3⟩;show (blk b _ bt).P w' F';rw [←hnew];exact h2
end
theorem wS {e bytes:Nat} {zv:Value} {xs:List UInt8} {s:ByteArray} {ts:TypeId}
  (hg:gd ops l o=some true) (hd:CF n o.dst=true) (ho:o.op=.call { callee:=.builtin .append,args:=#[x,y],argTypes:=#[t,ts] }) (hs:D5 P t=some (e,1,bytes)) (hz:DO P e=some zv) (hzs:zv.cells.size=1) (B:0<bytes) (hts:P.underlying ts=some .string)
  (hx:ev l x=some u) (hy:ev l y=some (.string s)) (H:Hd w0 F0 w (Aa CI u xs::As) Rs) (hb:(xs.length+s.size)*bytes≤140737488355328)
  (h:∀ u' w',Hd w0 F0 w' (Aa CI u' (xs++Br s)::As) Rs→WL P ops Q rest n (Cj l o.dst u') w'):WL P ops Q (o::rest) n l w:=by
 obtain ⟨hu,i,hi,E,I⟩:=HZ hs;have hfc:∀ w':World,w'.heap=w.heap→(Builtin.firstCells 1 s.size (.string s)).run P w'=.ok ((Br s).flatMap HM).toArray w':=by
  intro w' _;have e1:s.extract 0 s.size=s:=by simp
  simp only [Builtin.firstCells,e1,Sem.run_pure];rw [KS];congr 1;apply Array.ext';simp [Br]
 have hnl:((Br s).flatMap HM).length=s.size*1:=by rw [KS,nu,Jx,Nat.mul_one]
 have h1:∀ c∈(Br s).flatMap HM,c.oneCell'=true:=by
  rw [KS];intro c hc;obtain ⟨b,_,rfl⟩:=pi.1 hc;rfl
 have key:∀ F1,(Aa CI u xs).P w F1→(∀ k,F1 k→k<w.heap.size)→∃ A c A' c' w' F',u=.slice A xs.length c∧(Builtin.append_ #[t,ts] o.type #[u,.string s]).run P w=.ok (.slice A' (xs.length+s.size) c') w'∧(Aa CI (.slice A' (xs.length+s.size) c') (xs++Br s)).P w' F'∧Dg F1 w w'∧(∀ k,F' k→k<w'.heap.size∧(F1 k∨w.heap.size≤k)):=by
  rintro F1 ⟨A,n',c,e',hxl,cs,L,M,g1,g2,gd,hr,hR⟩ hlt;cases e';subst hxl;obtain ⟨A',c',w',F',hrun,hrow,hupd,hF'⟩:=Up (P:=P) (tx:=ts) (ty:=o.type) (m:=s.size) (news:=(Br s).flatMap HM) hs hz hzs hts (.inr rfl) hr (fun k hk=>hlt k (g1 k hk)) (by simp [Builtin.lenOf]) hfc hnl h1 B hb;refine ⟨A,c,A',c',w',F',U,hrun,?_,⟨hupd.os,hupd.tape,hupd.output,hupd.size,fun k hk hn'=>hupd.block k hk (fun q=>hn' (g1 k q))⟩,fun k hk=>⟨(hF' k hk).1,(hF' k hk).2.imp (g1 k) id⟩⟩;exact ⟨A',_,c',U,by rw [nr,Jx],cs++(Br s).flatMap HM,F',none_,fun _ q=>q,fun _ q=>q.elim,fun _ _ q=>q,hrow,DN.flatR (F:=none_) (BB.flat_eq.2 (by rw [BB.flat_eq.1 hR.toR];simp))⟩
 have hall:∃ F1,(Aa CI u xs).P w F1∧∀ k,F1 k→k<w.heap.size:=by
  obtain ⟨F,G,⟨F1,F2,D,a2,a3,a,s⟩,r,d,f,g,u⟩:=H;exact ⟨F1,a,fun k hk=>(f k (D k hk)).1⟩
 obtain ⟨F1,hO,hlt⟩:=hall;obtain ⟨A,c,A',c',w',F',hue,hrun,_,_,_⟩:=key F1 hO hlt;refine Ed hg hd (v:=V A' (xs.length+s.size) c') (w':=w') (fun a ha=>?_) (h _ _ (H.grow fun F2 z p=>?_));simp [execOp,ho,resolve,ha.eval hx,ha.eval hy,invoke,builtin,hrun];obtain ⟨J,c3,K,c4,N,C,_,j,h4,h5,h6⟩:=key F2 z p;rw [hrun] at j;cases j;exact ⟨C,h4,h5,h6⟩
theorem Z6 {src dst e:TypeId} {s:ByteArray} (hg:gd ops l o=some true) (hd:CF n o.dst=true) (ho:o.op=.convert src dst x) (hs:P.underlying src=some .string) (hd':P.underlying dst=some (.slice e)) (he:P.underlying e=some (.int .u8)) (hx:ev l x=some (.string s))
  (hb:s.size≤140737488355328) (H:Hd w0 F0 w As Rs)
  (h:∀ b c w',s.size≤c→c≤9223372036854775807→Hd w0 F0 w' As (An CI (V b s.size c) (Br s)::Rs)→WL P ops Q rest n (Cj l o.dst (V b s.size c)) w'):WL P ops Q (o::rest) n l w:=by
 have hr:=run_bytes_of_string w src dst e s hs hd' he;have hge:=grownCap_ge w s.size 0 e;have hle:grownCap w s.size 0 e≤9223372036854775807:=by
  have:=grownCap_le_maxLen w s.size 0 e (by simp only [maxLen];omega);simpa [maxLen] using this
 generalize hc:grownCap w s.size 0 e=c at hr hge hle;generalize hC:bytesRow s c=C at hr;have hCl:C.toList.take s.size=(Br s).flatMap HM:=by
  rw [←hC,KS];unfold bytesRow;rw [Array.toList_append,List.take_append_of_le_length (by simp)];rw [oe (by simp)];simp [Br]
 refine Ed hg hd (v:=V (some ⟨w.heap.size,0,none⟩) s.size c) (w':=w.drew.alloc (.cells C e (C.size,C.size+1))) (fun a ha=>?_) (h _ c _ hge hle (Hd.lend (H.new (F':=fun k=>k=w.heap.size) ?_ ?_ ?_) fun _ h=>h));simp [execOp,ho,ha.eval hx,hr];exact (Dg.alloc _ _ _).trans (Dg.refl _ _) (fun _ _ x=>x)|>fun u=>⟨u.os,u.tape,u.output,u.size,u.block⟩;refine ⟨_,_,_,U,Jx s,hge,hle,(Br s).flatMap HM,⟨trivial,.inr ⟨w.heap.size,0,C,e,(C.size,C.size+1),U,U,?_,?_⟩⟩,BB.flat_eq.2 rfl⟩;show (w.heap.push _)[w.heap.size]?=_;simp;rw [List.drop_zero,show ((Br s).flatMap HM).length=s.size by rw [KS,nu,Jx]];exact hCl;intro k hk;subst hk;simp
theorem Ud {src dst e:TypeId} {A:Option Addr} {m c:Nat} {bs:List UInt8} (ho:o.op=.convert src dst x) (hs:P.underlying src=some (.slice e)) (he:P.underlying e=some (.int .u8)) (hd:P.underlying dst=some .string) (hx:ev l x=some (.slice A m c)) {r:ByteArray} (hr:D6 bs=r) (h:(An CI (.slice A m c) bs).P w F):BT P n l w o (.string r) w:=by
 subst hr;obtain ⟨A',c',e',_,_,_,cs,h4,h5⟩:=Un h;cases e';have hcs:cs=bs.flatMap HM:=BB.flat_eq.1 h5;intro a ha;cases A with
 |none=>
  have:bs=[]:=by
   rcases h4.2 with h6|⟨b,off,C,t',fr,e',_⟩;rw [hcs,KS] at h6;simpa using h6;cases e'
  subst this;have:=run_convert_bytes_nil (P:=P) w src e hs he 0 c dst hd;simp [execOp,ho,ha.eval hx,this];rfl
 |some ad=>
  have:=run_convert_bytes_back (P:=P) w src dst e ad c bs hs he hd (fun j hj=>by
   have hv:cs[j]?=some (.int .u8 (bs[j].toNat:Int)):=by rw [hcs,KS,om,List.getElem?_eq_getElem hj];rfl
   obtain ⟨b,off,e1,h6⟩:=h4.cell hv;cases e1;rw [GE];exact h6)
  simp [execOp,ho,ha.eval hx,this,D6]
theorem Hd.rd {p:Prop} (H:Hd w0 F0 w As Rs) {S:SP} (hS:∀ F,(∀ A∈As,A.P w F)→(∀ R∈Rs,R.P w F)→S.P w F) (h:∀ F,S.P w F→p):p:=H.read fun F a r=>h F (hS F a r)
theorem Zg {e size bytes:TypeId} {A:Option Addr} {m c i' j' m':Nat} {k:IntKind} {i j:Int} (ho:o.op=.slice tt x (some y) (some z) none) (hs:D5 P tt=some (e,size,bytes)) (hx:ev l x=some (.slice A m c)) (hy:ev l y=some (.int k i)) (hz:ev l z=some (.int k' j))
  (h0:0≤i) (h1:i≤j) (h2:j≤(c:Int)) (hi':i.toNat=i') (hj':j.toNat=j') (hm':j' - i'=m'):BT P n l w o (.slice (Ga A c i' size) m' (c - i')) w:=by
 intro a ha;obtain ⟨hu,inf,hi,hzz,_⟩:=HZ hs;subst hi' hj' hm';have h3:0≤j:=by omega
 have h4:i≤max j 0:=by omega
 have hb:(Instr.sliceBounds true m c (some (.int k i)) (some (.int k' j)) none).run P w=.ok (i.toNat,j.toNat,c) w:=by
  simp [Instr.sliceBounds,Instr.sliceBound,asIntOf,h0,h2,h3,h4]
 unfold Ga;by_cases e1:c=i.toNat;rw [e1] at hb;cases A<;>simp [execOp,ho,ha.eval hx,ha.eval hy,ha.eval hz,Instr.sliceAt,Instr.slice,hb,run_underlying hu,sizeOf,typeInfo,hi,hzz,e1];cases A<;>simp [execOp,ho,ha.eval hx,ha.eval hy,ha.eval hz,Instr.sliceAt,Instr.slice,hb,run_underlying hu,sizeOf,typeInfo,hi,hzz,e1]
end
theorem Q_ {d:Kd α} {w:World} {A:Option Addr} {m c:Nat} {xs:List α} (h:(An d (V A m c) xs).P w F) {i m':Nat} (hi:i+m'≤m):(An d (V (Ga A c i d.sz) m' (c - i)) ((xs.drop i).take m')).P w F:=wB (Nt h (i:=i) (by omega)) (by omega)
theorem jA:∀ x,(HM x).length=1:=fun _=>rfl
/-! ### Numbers, byte by byte -/
theorem xY (n:Nat) {i:Nat} (h:i<8):((n:Nat):Int).fdiv (2^(min ((8:Int)*(7 - ((i:Nat):Int))).toNat IntKind.u64.bits))=((n / 256^(7 - i):Nat):Int):=by
 have e:(2:Int)^(min ((8:Int)*(7 - ((i:Nat):Int))).toNat IntKind.u64.bits)=((256^(7 - i):Nat):Int):=by
  match i,h with
  |0,_=>decide
  |1,_=>decide
  |2,_=>decide
  |3,_=>decide
  |4,_=>decide
  |5,_=>decide
  |6,_=>decide
  |7,_=>decide
 rw [e,Int.fdiv_eq_ediv_of_nonneg _ (tf _),Int.natCast_ediv]
theorem AbE {m:Nat}:IntKind.u8.wrap ((m:Nat):Int)=((UInt8.ofNat m).toNat:Int):=by
 unfold IntKind.wrap;simp [IntKind.bits,IntKind.signed,UInt8.toNat_ofNat']
theorem xX {m:Nat} (h:m<72057594037927936):IntKind.u64.wrap (((m:Nat):Int)*2^(min (8:Int).toNat IntKind.u64.bits))=((m*256:Nat):Int):=by
 have e:(2:Int)^(min (8:Int).toNat IntKind.u64.bits)=256:=by decide
 rw [e,Hi (by omega) (by omega)];omega
theorem rX {P:Program} {w:World} {m:Nat} (h:m<72057594037927936) {x:UInt8}:(Op.intBits .or .u64 ((m*256:Nat):Int) ((x.toNat:Nat):Int)).run P w=.ok (.int .u64 ((m*256+x.toNat:Nat):Int)) w:=by
 have hx:=UInt8.toNat_lt x;have h1:m*256|||x.toNat=m*256+x.toNat:=by
  have:=Nat.shiftLeft_add_eq_or_of_lt (b:=x.toNat) (by omega) m;rw [Nat.shiftLeft_eq] at this;exact this.symm
 have h2:(BitVec.ofInt 64 ((m*256:Nat):Int)|||BitVec.ofInt 64 ((x.toNat:Nat):Int)).toNat=m*256+x.toNat:=by
  rw [BitVec.toNat_or];simp only [BitVec.ofInt_natCast,BitVec.toNat_ofNat];rw [zj (by omega),zj (by omega),h1]
 unfold Op.intBits;show (pure (ph .u64 (IntKind.u64.wrap ((BitVec.ofInt 64 ((m*256:Nat):Int)|||BitVec.ofInt 64 ((x.toNat:Nat):Int)).toNat:Nat))):Sem Value).run P w=_;rw [h2,Hi (by omega) (by omega)];rfl
/-! ### What the program tells of bytes -/
def CE (b:List UInt8) (at_:Int):Int×Int×Bool:=match Ks b at_ with
 |some x=>(x.1,x.2,true)
 |none=>(0,0,false)
def Be (b:List UInt8) (at_:Int):ByteArray×Int×Bool:=match OQ b at_ with
 |some x=>(x.1,x.2,true)
 |none=>(⟨#[]⟩,0,false)
theorem Md {b:List UInt8} {at_:Int} (h:at_<0∨(b.length:Int)<at_∨(b.length:Int) - at_<8):CE b at_=(0,0,false):=by
 unfold CE Ks;rw [if_pos h]
theorem Ui {b:List UInt8} {at_:Int} (h:¬ (at_<0∨(b.length:Int)<at_∨(b.length:Int) - at_<8)):CE b at_=(IntKind.i64.wrap (HW ((b.drop at_.toNat).take 8):Nat),at_+8,true):=by
 unfold CE Ks;rw [if_neg h]
theorem QZ {b:List UInt8} {at_:Int} (h:(CE b at_).2.2=false):Be b at_=(⟨#[]⟩,0,false):=by
 unfold CE at h;unfold Be OQ;cases e:Ks b at_ with
 |none=>rfl
 |some x=>rw [e] at h;cases h
theorem OP {b:List UInt8} {at_:Int} (h:(CE b at_).2.2=true):Be b at_=if (CE b at_).1<0∨(b.length:Int) - (CE b at_).2.1<(CE b at_).1 then (⟨#[]⟩,0,false) else (D6 ((b.drop (CE b at_).2.1.toNat).take (CE b at_).1.toNat),(CE b at_).2.1+(CE b at_).1,true):=by
 unfold CE at h ⊢;unfold Be OQ;cases e:Ks b at_ with
 |none=>rw [e] at h;cases h
 |some x=>
  dsimp only;by_cases g:x.1<0∨(b.length:Int) - x.2<x.1;rw [if_pos g,if_pos g];rw [if_neg g,if_neg g]
theorem Uh {b:List UInt8} {at_:Int} (h:(CE b at_).2.2=true):8≤(CE b at_).2.1∧(CE b at_).2.1≤(b.length:Int)∧(CE b at_).2.1=at_+8∧0≤at_:=by
 by_cases g:at_<0∨(b.length:Int)<at_∨(b.length:Int) - at_<8;rw [Md g] at h;cases h;rw [Ui g];dsimp only;omega
theorem uS {b:List UInt8} {at_:Int}: -9223372036854775808≤(CE b at_).1∧(CE b at_).1≤9223372036854775807:=by
 by_cases g:at_<0∨(b.length:Int)<at_∨(b.length:Int) - at_<8;rw [Md g];decide;rw [Ui g];dsimp only;unfold IntKind.wrap;simp [IntKind.bits,IntKind.signed];omega
theorem dH (n:Nat) {i:Nat} (h:i<8):(CV n)[i]?=some (UInt8.ofNat (n / 256^(7 - i))):=by
 unfold CV;rw [om,List.getElem?_range h];rfl
theorem dJ (n:Nat) {i:Nat} (h:i<8):(CV n).take (i+1)=(CV n).take i++[UInt8.ofNat (n / 256^(7 - i))]:=Dd (dH n h)
theorem uR {l:List UInt8} {i:Nat} {x:UInt8} (h:l[i]?=some x):HW (l.take (i+1))=HW (l.take i)*256+x.toNat:=by rw [Dd h,uQ]
section
variable {w0 w:World} {F0:BD} {As Bs Rs:List SP} {A B:SP}
theorem Hd.exA {α:Sort _} {A:α→SP} (h:Hd w0 F0 w (ex A::As) Rs):∃ a,Hd w0 F0 w (A a::As) Rs:=by
 obtain ⟨F,G,⟨F1,F2,h1,h2,h3,⟨a,ha⟩,s⟩,r⟩:=h;exact ⟨a,F,G,⟨F1,F2,h1,h2,h3,ha,s⟩,r⟩
theorem Hd.exI {α:Sort _} {A:α→SP} (a:α) (h:Hd w0 F0 w (A a::As) Rs):Hd w0 F0 w (ex A::As) Rs:=h.turn fun _ ha=>⟨a,ha⟩
theorem Hd.stA (h:Hd w0 F0 w (Fo Bs::As) Rs):Hd w0 F0 w (Bs++As) Rs:=h.open_ fun _ h=>h
theorem Hd.stI (h:Hd w0 F0 w (Bs++As) Rs):Hd w0 F0 w (Fo Bs::As) Rs:=h.shut fun _ h=>h
theorem Hd.puA {p:Prop} (h:Hd w0 F0 w (FW p::As) Rs):p∧Hd w0 F0 w As Rs:=⟨h.fact (od ..) fun _ h=>h,h.drop⟩
theorem Hd.puI {p:Prop} (hp:p) (h:Hd w0 F0 w As Rs):Hd w0 F0 w (FW p::As) Rs:=h.shut (Bs:=[]) fun _ _=>hp
def Cg {α:Type} (f:α→SP) (l:List α):SP:=Fo (l.map f)
theorem Hd.big0 (f:α→SP) (h:Hd w0 F0 w As Rs):Hd w0 F0 w (Cg f []::As) Rs:=h.shut (Bs:=[]) fun _ _=>trivial
theorem PE {α:Type}:∀ (l:List α) (i:Nat) {x:α},l[i]?=some x→l.Perm (x::l.eraseIdx i)
 |[],_,_,h=>by simp at h
 |y::l,0,x,h=>by
  obtain rfl:y=x:=by simpa using h
  exact List.Perm.refl _
 |y::l,i+1,x,h=>((PE l i (by simpa using h)).cons y).trans (List.Perm.swap _ _ _)
theorem Hd.bigO {f:α→SP} {x:α} (i:Nat) (hx:l[i]?=some x) (h:Hd w0 F0 w (Cg f l::As) Rs):Hd w0 F0 w (f x::Cg f (l.eraseIdx i)::As) Rs:=by
 have h1:=h.stA.perm (((PE l i hx).map f).append_right As);have h2:Hd w0 F0 w (((l.eraseIdx i).map f++As)++[f x]) Rs:=h1.perm (by rw [pf,List.cons_append];exact (pr (l₁:=[f x])));have h3:Hd w0 F0 w ((l.eraseIdx i).map f++(As++[f x])) Rs:=by rw [←og];exact h2
 exact (show Hd w0 F0 w (Cg f (l.eraseIdx i)::(As++[f x])) Rs from h3.stI).perm (pr (l₁:=Cg f (l.eraseIdx i)::As) (l₂:=[f x]))
theorem Hd.bigI {f:α→SP} {x:α} (i:Nat) (hi:i<l.length) (h:Hd w0 F0 w (f x::Cg f (l.eraseIdx i)::As) Rs):Hd w0 F0 w (Cg f (l.set i x)::As) Rs:=by
 have h1:Hd w0 F0 w (Cg f (l.eraseIdx i)::(As++[f x])) Rs:=h.perm (pr (l₁:=[f x]) (l₂:=Cg f (l.eraseIdx i)::As));have h2:Hd w0 F0 w ((l.eraseIdx i).map f++As++[f x]) Rs:=by rw [og];exact h1.stA
 have h3:Hd w0 F0 w ((x::l.eraseIdx i).map f++As) Rs:=h2.perm (pr (l₁:=(l.eraseIdx i).map f++As) (l₂:=[f x]));have hp:(l.set i x).Perm (x::l.eraseIdx i):=by
  have:=PE _ i (x:=x) (by rw [List.getElem?_set_self hi]);rwa [List.eraseIdx_set_eq] at this
 exact (h3.perm ((hp.symm.map f).append_right As)).stI
theorem Hd.bigN {f:α→SP} {x:α} (h:Hd w0 F0 w (f x::Cg f l::As) Rs):Hd w0 F0 w (Cg f (l++[x])::As) Rs:=by
 have h1:Hd w0 F0 w (Cg f l::(As++[f x])) Rs:=h.perm (pr (l₁:=[f x]) (l₂:=Cg f l::As));have h2:Hd w0 F0 w (l.map f++As++[f x]) Rs:=by rw [og];exact h1.stA
 have h3:Hd w0 F0 w ((x::l).map f++As) Rs:=h2.perm (pr (l₁:=l.map f++As) (l₂:=[f x]));exact (h3.perm (((pr (l₁:=[x]) (l₂:=l)).map f).append_right As)).stI
end
/-! ### Lists of keys and values -/
theorem Jk {j:Nat} {x:α} (h:l[j]?=some x):l.set j x=l:=by
 refine sd fun i=>?_;rw [qf];split;rename_i e;subst e;split;exact h.symm;rename_i hl;rw [py (by omega)] at h;cases h;rfl
section
variable {κ:Type} [DecidableEq κ] {kvs:List (κ×Value)} {k:κ} {v u:Value} {j:Nat}
def Gf (k:κ):List (κ×Value)→Option Value
 |[]=>none
 |p::r=>if p.1=k then some p.2 else Gf k r
def FY (k:κ) (v:Value):List (κ×Value)→List (κ×Value)
 |[]=>[(k,v)]
 |p::r=>if p.1=k then (k,v)::r else p::FY k v r
def KR (k:κ) (kvs:List (κ×Value)):List (κ×Value):=kvs.filter fun p=>decide (p.1≠k)
theorem Ox:∀ {kvs:List (κ×Value)} {j:Nat},(kvs.map (·.1)).Nodup→kvs[j]?=some (k,v)→Gf k kvs=some v
 |[],j,_,h=>by simp at h
 |p::r,0,_,h=>by
  obtain rfl:p=(k,v):=by simpa using h
  exact if_pos U
 |p::r,j+1,hn,h=>by
  rw [pf,rx] at hn
  have hr:r[j]?=some (k,v):=by simpa using h
  have hne:¬ p.1=k:=fun e=>hn.1 (pi.2 ⟨(k,v),nt hr,e.symm⟩)
  unfold Gf
  rw [if_neg hne]
  exact Ox hn.2 hr
theorem O3:∀ {kvs:List (κ×Value)} {j:Nat},(kvs.map (·.1)).Nodup→kvs[j]?=some (k,v)→FY k u kvs=kvs.set j (k,u)
 |[],j,_,h=>by simp at h
 |p::r,0,_,h=>by
  obtain rfl:p=(k,v):=by simpa using h
  exact if_pos U
 |p::r,j+1,hn,h=>by
  rw [pf,rx] at hn
  have hr:r[j]?=some (k,v):=by simpa using h
  have hne:¬ p.1=k:=fun e=>hn.1 (pi.2 ⟨(k,v),nt hr,e.symm⟩)
  unfold FY
  rw [if_neg hne,O3 hn.2 hr]
  rfl
theorem VZ:∀ {kvs:List (κ×Value)} {j:Nat},(kvs.map (·.1)).Nodup→kvs[j]?=some (k,v)→KR k kvs=kvs.eraseIdx j
 |[],j,_,h=>by simp at h
 |p::r,0,hn,h=>by
  obtain rfl:p=(k,v):=by simpa using h
  rw [pf,rx] at hn
  unfold KR
  rw [qg (by simp)]
  exact ua.2 fun q hq=>decide_eq_true fun e=>hn.1 (pi.2 ⟨q,hq,e⟩)
 |p::r,j+1,hn,h=>by
  rw [pf,rx] at hn
  have hr:r[j]?=some (k,v):=by simpa using h
  have hne:p.1≠k:=fun e=>hn.1 (pi.2 ⟨(k,v),nt hr,e.symm⟩)
  unfold KR
  rw [pq (p:=fun p:κ×Value=>decide (p.1≠k)) (decide_eq_true hne)]
  exact congrArg (p::·) (VZ hn.2 hr)
theorem Qs:∀ {kvs:List (κ×Value)},(∀ p∈kvs,p.1≠k)→Gf k kvs=none
 |[],_=>rfl
 |p::r,h=>by
  unfold Gf
  rw [if_neg (h p (od ..))]
  exact Qs fun q hq=>h q (ow _ hq)
theorem O5:∀ {kvs:List (κ×Value)},(∀ p∈kvs,p.1≠k)→FY k u kvs=kvs++[(k,u)]
 |[],_=>rfl
 |p::r,h=>by
  unfold FY
  rw [if_neg (h p (od ..)),O5 fun q hq=>h q (ow _ hq)]
  rfl
theorem fG (h:∀ p∈kvs,p.1≠k):KR k kvs=kvs:=ua.2 fun q hq=>decide_eq_true (h q hq)
theorem O4 (hn:(kvs.map (·.1)).Nodup):((FY k u kvs).map (·.1)).Nodup:=by
 by_cases h:∀ p∈kvs,p.1≠k;rw [O5 h,oa];exact List.nodup_append.2 ⟨hn,by simp,fun a ha b hb e=>by
  obtain ⟨p,hp,rfl⟩:=pi.1 ha;rw [pf,List.map_nil,pc] at hb;exact h p hp (e.trans hb)⟩
 have:∃ p∈kvs,p.1=k:=qq fun hh=>h fun p hp e=>hh ⟨p,hp,e⟩;obtain ⟨⟨_,v⟩,hp,rfl⟩:=this;obtain ⟨j,hj⟩:=qh hp;rw [O3 hn hj,qk,Jk (by rw [om,hj];rfl)];exact hn
theorem R_ (hn:(kvs.map (·.1)).Nodup):((KR k kvs).map (·.1)).Nodup:=(List.filter_sublist.map _).nodup hn
end
/-! ### What a key's type must be -/
structure IX (P:Program) (kt:TypeId) {κ:Type} (enc:κ→Value):Prop where
 inj:∀ {a b:κ},enc a=enc b→a=b
 check:∀ (w:World) (e:Bool) (k:κ),(Instr.checkKey e 10000 kt (enc k)).run P w=.ok () w
 find:∀ (w:World) (k:κ) (es:List MapEntry),(∀ e∈es,∃ k',e.key=enc k')→((Instr.findKey kt (enc k) es).run P w=.ok none w∧∀ e∈es,e.key≠enc k)∨∃ j e,(Instr.findKey kt (enc k) es).run P w=.ok (some (j,e.val)) w∧es[j]?=some e∧e.key=enc k
 stays:∀ (w:World) (k:κ),(Instr.keyThatStays (enc k) (enc k)).run P w=.ok (enc k) w
def EZ (k:Int):Value:=.int .i64 k
theorem jW {P:Program} {kt:TypeId} (hk:P.underlying kt=some (.int .i64)):IX P kt EZ where
 inj h:=by unfold EZ at h;cases h;rfl
 check w e k:=MapKept.run_checkKey hk (by trivial) e 9999
 find w k es h:=by
  rcases MapKept.findNow_spec (d:=.int .i64) (k:=EZ k) (by trivial) es 0 (fun x hx=>by obtain ⟨k',e⟩:=h x hx;rw [e];trivial) with ⟨h1,h2⟩|⟨j,e,h1,h2,h3⟩;exact .inl ⟨MapKept.run_findKey hk h1,h2⟩;exact .inr ⟨j,e,by simpa using MapKept.run_findKey (w:=w) hk h1,h2,h3⟩
 stays w k:=MapKept.run_keyThatStays (d:=.int .i64) (by trivial)
def DW (k:Int×Int):Value:=.agg #[.int .i64 k.1,.int .i64 k.2]
structure RI (P:Program) (t i:TypeId):Prop where
 ex:∃ f0 f1:Field,KK P t [f0,f1]∧f0.name≠ "_" ∧f1.name≠ "_" ∧f0.type=i∧f1.type=i∧f0.offset=0∧f1.offset=1
 int:P.underlying i=some (.int .i64)
 one:CK P i=some (false,1)
theorem f8 {P:Program} {w:World} {i:TypeId} {f0 f1:Field} (d:Nat) (p q:Int×Int) (h1:f0.name≠ "_") (h2:f1.name≠ "_") (h3:f0.type=i) (h4:f1.type=i) (h5:f0.offset=0) (h6:f1.offset=1) (hs:P.underlying i=some (.int .i64)) (ho:CK P i=some (false,1)):
  (Op.eqFields (d+1) #[p.1,p.2] #[q.1,q.2] [f0,f1]).run P w=.ok (decide (p=q)) w:=by
 rw [PD (u:=Y Z p.1) (v:=Y Z q.1) (b:=decide (p.1=q.1)) h1 (by rw [h3];exact ho) (by rw [h5];rfl) (by rw [h5];rfl) (by rw [h3];exact Wc d hs)];rw [PD (u:=Y Z p.2) (v:=Y Z q.2) (b:=decide (p.2=q.2)) h2 (by rw [h4];exact ho) (by rw [h6];rfl) (by rw [h6];rfl) (by rw [h4];exact Wc d hs)];obtain ⟨a,b⟩:=p;obtain ⟨c,e⟩:=q;by_cases e1:a=c<;>by_cases e2:b=e<;>simp [e1,e2,Op.eqFields]
theorem wF {P:Program} {t i:TypeId} (h:RI P t i) (w:World) (p q:Int×Int):(Op.equal t (DW p) (DW q)).run P w=.ok (decide (p=q)) w:=by
 obtain ⟨f0,f1,he,h1,h2,h3,h4,h5,h6⟩:=h.ex;exact (he.run (9998+1) _ _).trans (f8 9998 p q h1 h2 h3 h4 h5 h6 h.int h.one)
theorem ZZ {P:Program} {t i:TypeId} (h:RI P t i) (w:World) (k:Int×Int):∀ (es:List MapEntry) (n:Nat),(∀ e∈es,∃ k',e.key=DW k')→
  ((Instr.findAsking t (DW k) es n).run P w=.ok none w∧∀ e∈es,e.key≠DW k)∨∃ j e,(Instr.findAsking t (DW k) es n).run P w=.ok (some (n+j,e.val)) w∧es[j]?=some e∧e.key=DW k
 |[],n,_=>.inl ⟨by simp [Instr.findAsking],by simp⟩
 |e::es,n,hs=>by
  obtain ⟨k',hk'⟩:=hs e (od ..)
  have hq:=wF h w k k'
  by_cases hkk:k=k'
  subst hkk
  exact .inr ⟨0,e,by simp [Instr.findAsking,hk',hq],U,hk'⟩
  have hne:e.key≠DW k:=fun q=>by
   rw [hk'] at q
   unfold DW at q
   simp only [Value.agg.injEq,Array.mk.injEq,List.cons.injEq,Value.int.injEq,and_true,true_and] at q
   exact hkk (Prod.ext q.1.symm q.2.symm)
  rcases ZZ h w k es (n+1) (fun x hx=>hs x (ow _ hx)) with ⟨h1,h2⟩|⟨j,e',h1,h2,h3⟩
  exact .inl ⟨by simp [Instr.findAsking,hk',hq,hkk,h1],fun x hx=>by
   cases hx with
   |head=>exact hne
   |tail _ hx=>exact h2 x hx⟩
  exact .inr ⟨j+1,e',by simp [Instr.findAsking,hk',hq,hkk,h1];omega,by simpa using h2,h3⟩
theorem jV {P:Program} {t i:TypeId} (h:RI P t i):IX P t DW where
 inj {a b} q:=by
  unfold DW at q;simp only [Value.agg.injEq,Array.mk.injEq,List.cons.injEq,Value.int.injEq,and_true,true_and] at q;exact Prod.ext q.1 q.2
 check w e k:=by
  obtain ⟨f0,f1,he,h1,h2,h3,h4,h5,h6⟩:=h.ex;have c0:∀ n,(Instr.checkKey e (n+1) i (Y Z n)).run P w=.ok () w:=fun n=>MapKept.run_checkKey h.int (by trivial) e n;have ck:∀ x:Int,(Instr.checkKey e 9999 i x).run P w=.ok () w:=fun x=>MapKept.run_checkKey h.int (by trivial) e 9998;unfold Instr.checkKey;simp [run_underlying he.und,DW,h1,h2,h3,h4,h5,h6,part,Nv h.one,ck]
 find w k es hs:=by
  unfold Instr.findKey;obtain ⟨f0,f1,he,h1,h2,h3,h4,h5,h6⟩:=h.ex;simp only [Sem.run_bind,run_underlying he.und,Result.andThen];cases es with
  |nil=>exact .inl ⟨by simp [Instr.findNow],by simp⟩
  |cons e es=>
   have:Instr.findNow (.struct [f0,f1].toArray) (DW k) (e::es) 0=none:=by
    obtain ⟨k',hk'⟩:=hs e (od ..);simp [Instr.findNow,hk',DW,Instr.sameNow]
   rw [this];simpa using ZZ h w k _ 0 hs
 stays w k:=by
  unfold Instr.keyThatStays;simp [DW,Instr.sameBits]
/-! ### Maps held -/
section
variable {κ:Type} [DecidableEq κ] {enc:κ→Value} {es:List MapEntry} {kvs:List (κ×Value)} {e:MapEntry} {j:Nat}
def FB (enc:κ→Value) (es:List MapEntry) (kvs:List (κ×Value)):Prop:=es.map (fun e=>(e.key,e.val))=kvs.map fun p=>(enc p.1,p.2)
theorem LN (h:FB enc es kvs) (he:es[j]?=some e):∃ p,kvs[j]?=some p∧e.key=enc p.1∧e.val=p.2:=by
 have _i:DecidableEq κ:=inferInstance;have h1:=congrArg (·[j]?) h;simp only [om,he,rk] at h1;cases hp:kvs[j]? with
 |none=>rw [hp] at h1;cases h1
 |some p=>
  rw [hp] at h1;simp only [rk,Option.some.injEq,Prod.mk.injEq] at h1;exact ⟨p,U,h1.1,h1.2⟩
theorem Sh (h:FB enc es kvs) {p:κ×Value} (hp:kvs[j]?=some p):∃ e,es[j]?=some e∧e.key=enc p.1∧e.val=p.2:=by
 have _i:DecidableEq κ:=inferInstance;have h1:=congrArg (·[j]?) h;simp only [om,hp,rk] at h1;cases he:es[j]? with
 |none=>rw [he] at h1;cases h1
 |some e=>
  rw [he] at h1;simp only [rk,Option.some.injEq,Prod.mk.injEq] at h1;exact ⟨e,U,h1.1,h1.2⟩
theorem f3 (h:FB enc es kvs):∀ e∈es,∃ k,e.key=enc k:=by
 have _i:DecidableEq κ:=inferInstance;intro e he;obtain ⟨j,hj⟩:=qh he;obtain ⟨p,_,h2,_⟩:=LN h hj;exact ⟨p.1,h2⟩
theorem f5 (h:FB enc es kvs):es.length=kvs.length:=by have _i:DecidableEq κ:=inferInstance;have:=congrArg qt h;simpa using this
theorem PC {P:Program} {kt:TypeId} (K:IX P kt enc) (h:FB enc es kvs) (w:World) (k:κ):
  ((Instr.findKey kt (enc k) es).run P w=.ok none w∧∀ p∈kvs,p.1≠k)∨∃ j e,(Instr.findKey kt (enc k) es).run P w=.ok (some (j,e.val)) w∧es[j]?=some e∧e.key=enc k∧kvs[j]?=some (k,e.val):=by
 have _i:DecidableEq κ:=inferInstance;rcases K.find w k es (f3 h) with ⟨h1,h2⟩|⟨j,e,h1,h2,h3⟩;refine .inl ⟨h1,fun p hp q=>?_⟩;obtain ⟨j,hj⟩:=qh hp;obtain ⟨e,he,hk,_⟩:=Sh h hj;exact h2 e (nt he) (by rw [hk,q]);obtain ⟨p,hp,hk,hv⟩:=LN h h2;refine .inr ⟨j,e,h1,h2,h3,?_⟩;rw [hp,hv];exact congrArg some (Prod.ext (K.inj (hk.symm.trans h3)) U)
theorem Wa (h:FB enc es kvs) (k:κ) (v:Value) (n:Nat):FB enc (es++[{ key:=enc k,val:=v,born:=n }]) (kvs++[(k,v)]):=by
 have _i:DecidableEq κ:=inferInstance;unfold FB at h ⊢;rw [oa,oa,h];rfl
theorem Si (h:FB enc es kvs) {k:κ} {f:MapEntry→MapEntry} (he:es[j]?=some e) (hf:(f e).key=enc k∧(f e).val=v):FB enc (es.modify j f) (kvs.set j (k,v)):=by
 have _i:DecidableEq κ:=inferInstance;unfold FB at h ⊢;refine sd fun i=>?_;have hi:=congrArg (·[i]?) h;simp only [om,xk,qf] at hi ⊢;by_cases hji:j=i;subst hji;obtain ⟨p,hp,_⟩:=LN h he;have hl:j<kvs.length:=by
  rcases pg j kvs.length with h1|h1
  exact h1;rw [py h1] at hp;cases hp
 simp [he,hl,hf.1,hf.2];simpa [hji] using hi
theorem TJ {α β:Type} (f:α→β):∀ (l:List α) (j:Nat),(l.eraseIdx j).map f=(l.map f).eraseIdx j
 |[],_=>rfl
 |_::_,0=>rfl
 |a::l,j+1=>congrArg (f a::·) (TJ f l j)
theorem fZ (h:FB enc es kvs) (j:Nat):FB enc (es.eraseIdx j) (kvs.eraseIdx j):=by
 have _i:DecidableEq κ:=inferInstance;unfold FB at h ⊢;rw [TJ,TJ,h]
abbrev F8 (kvs:List (κ×Value)):Prop:=(kvs.map fun p=>p.1).Nodup
def Db (enc:κ→Value) (b:Nat) (kvs:List (κ×Value)):SP where
 P w F:=F b∧∃ es c,w.heap[b]?=some (.map es c)∧FB enc es.toList kvs∧F8 kvs∧MapKept.Stamped es c
 loc:=fun ⟨h,es,c,e,h2⟩ hk=>⟨h,es,c,(hk b h).trans e,h2⟩
 mono:=fun ⟨h,h2⟩ hs=>⟨hs b h,h2⟩
def Yk (enc:κ→Value) (b:Nat) (kvs:List (κ×Value)) (k:κ) (st:Nat):SP where
 P w F:=F b∧∃ es c,w.heap[b]?=some (.map es c)∧FB enc es.toList kvs∧F8 kvs∧MapKept.Stamped es c∧∃ e∈es.toList,e.key=enc k∧e.born=st
 loc:=fun ⟨h,es,c,e,h2⟩ hk=>⟨h,es,c,(hk b h).trans e,h2⟩
 mono:=fun ⟨h,h2⟩ hs=>⟨hs b h,h2⟩
end
section
variable {κ:Type} [DecidableEq κ] {enc:κ→Value} {P:Program} {ops:Array Oper} {Q:Exit→Act→World→Prop} {rest:List Oper} {n:Nat} {l:Cb} {w0 w:World} {F0:BD} {o:Oper} {v:Value} {As Rs:List SP} {x y:Operand} {t kt et:TypeId} {b:Nat} {kvs:List (κ×Value)} {k:κ}
theorem Kh {w:World} {b:Nat} (hb:F b) {ob:Obj}:Dg F w { w with heap:=w.heap.setIfInBounds b ob }:=⟨rfl,rfl,rfl,by simp,fun k hk hn=>by
 have:b≠k:=fun e=>hn (e▸hb)
 simp [this]⟩
theorem L0 {w:World} {b:Nat} {es:Array MapEntry} {c:Nat} (h:w.heap[b]?=some (.map es c)) {ob:Obj}:({ w with heap:=w.heap.setIfInBounds b ob }:World).heap[b]?=some ob:=(MapKept.heap_set h).1
theorem Wf {es:Array MapEntry} {j:Nat} (hj:j<es.size):(es.eraseIdxIfInBounds j).toList=es.toList.eraseIdx j:=by
 unfold Array.eraseIdxIfInBounds;rw [dif_pos hj,Array.toList_eraseIdx]
theorem Hd.mapKf (H:Hd w0 F0 w (Db enc b kvs::As) Rs):∃ es c,w.heap[b]?=some (.map es c)∧FB enc es.toList kvs∧F8 kvs∧MapKept.Stamped es c:=by have _i:DecidableEq κ:=inferInstance;exact H.fact (od ..) fun F h=>h.2
theorem wH (K:IX P kt enc) (hm:P.underlying t=some (.map kt et)) {z:Value} (hz:DO P et=some z) (k:κ) (h:(Db enc b kvs).P w F):(Instr.lookup t (.map (some b)) (enc k) false).run P w=.ok ((Gf k kvs).getD z) w:=by
 obtain ⟨_,es,c,hb,he,hn,_⟩:=h;have hg:=MapKept.run_getObj_map (P:=P) hb;have hc:=fun e=>K.check w e k;obtain ⟨i,hi,hz'⟩:=px.1 hz;rcases PC K he w k with ⟨h1,h2⟩|⟨j,e,h1,_,_,h4⟩;simp [Instr.lookup,run_underlying hm,hg,hc,h1,Qs h2,zeroValue,typeInfo,hi,hz'];simp [Instr.lookup,run_underlying hm,hg,hc,h1,Ox hn h4]
theorem t8 (K:IX P kt enc) (ho:o.op=.lookup t x y false) (hm:P.underlying t=some (.map kt et)) {z:Value} (hz:DO P et=some z) (hx:ev l x=some (.map (some b))) (k:κ) (hy:ev l y=some (enc k)) (H:Hd w0 F0 w As Rs) (j:Nat) (hj:As[j]?=some (Db enc b kvs)):BT P n l w o ((Gf k kvs).getD z) w:=by
 intro a ha;refine H.fact (nt hj) fun F h=>?_;have:=wH K hm hz k h;simp [execOp,ho,ha.eval hx,ha.eval hy,this]
theorem QS (K:IX P kt enc) (ho:o.op=.lookup t x y false) (hm:P.underlying t=some (.map kt et)) {z:Value} (hz:DO P et=some z) (hx:ev l x=some (.map (some b))) (k:κ) (hy:ev l y=some (enc k)) (H:Hd w0 F0 w As Rs) (j:Nat) (hj:As[j]?=some (Db enc b kvs)) (hv:(Gf k kvs).getD z=v):BT P n l w o v w:=by
 subst hv;exact t8 K ho hm hz hx k hy H j hj
theorem Zj (ho:o.op=.call { callee:=.builtin .len,args:=#[x],argTypes:=#[t] }) (hm:P.underlying t=some (.map kt et)) (hx:ev l x=some (.map (some b))) (H:Hd w0 F0 w As Rs) (j:Nat) (hj:As[j]?=some (Db enc b kvs)):BT P n l w o (kvs.length:Int) w:=by
 have _i:DecidableEq κ:=inferInstance;intro a ha;refine H.fact (nt hj) fun F h=>?_;obtain ⟨_,es,c,hb,he,hn,_⟩:=h;have hl:es.size=kvs.length:=by have:=f5 he;simpa using this
 simp [execOp,ho,resolve,ha.eval hx,invoke,builtin,Builtin.len_,run_underlying hm,MapKept.run_getObj_map (P:=P) hb,goInt,hl]
theorem xD {z:Operand} (K:IX P kt enc) (hg:gd ops l o=some true) (hd:o.dst=none) (ho:o.op=.mapUpdate t x y z) (hm:P.underlying t=some (.map kt et)) (hx:ev l x=some (.map (some b))) (k:κ) (hy:ev l y=some (enc k)) (hz:ev l z=some v)
  (H:Hd w0 F0 w (Db enc b kvs::As) Rs) (h:∀ w',Hd w0 F0 w' (Db enc b (FY k v kvs)::As) Rs→WL P ops Q rest n l w'):WL P ops Q (o::rest) n l w:=by
 obtain ⟨es,c,hb,he,hn,hs⟩:=H.mapKf;have hgo:=MapKept.run_getObj_map (P:=P) hb;have hc:=K.check w false k;have hso:=fun ob=>MapKept.run_setObj_map (P:=P) (o:=ob) hb;rcases PC K he w k with ⟨h1,h2⟩|⟨j,e,h1,h2,h3,h4⟩;refine O1 hg hd (w':={ w with heap:=w.heap.setIfInBounds b (.map (es.push { key:=enc k,val:=v,born:=c }) (c+1)) }) (fun a ha=>?_) (h _ (H.write fun F hF=>⟨⟨hF.1,_,_,L0 hb,?_,O4 hn,MapKept.stamped_push hs ?_⟩,Kh hF.1⟩));simp [execOp,ho,ha.eval hx,ha.eval hy,ha.eval hz,Instr.mapUpdate,run_underlying hm,hgo,hc,h1,hso];rw [O5 h2,vx];exact Wa he k v c;intro e d q;obtain ⟨j,hj⟩:=qh d;obtain ⟨p,hp,hk,_⟩:=LN he hj;exact h2 p (nt hp) (K.inj (hk.symm.trans q));have hj:es[j]?=some e:=by simpa using h2
 refine O1 hg hd (w':={ w with heap:=w.heap.setIfInBounds b (.map (es.modify j fun e=>{ e with key:=enc k,val:=v }) c) }) (fun a ha=>?_) (h _ (H.write fun F hF=>⟨⟨hF.1,_,_,L0 hb,?_,O4 hn,MapKept.stamped_modify hs _ _ (fun _ _=>rfl) (fun e' _ he'=>?_)⟩,Kh hF.1⟩));simp [execOp,ho,ha.eval hx,ha.eval hy,ha.eval hz,Instr.mapUpdate,run_underlying hm,hgo,hc,h1,hj,h3,K.stays,hso];rw [O3 hn h4,uc];exact Si he h2 ⟨rfl,rfl⟩;rw [hj] at he';cases he';exact h3.symm
theorem Z5 (enc:κ→Value) (hg:gd ops l o=some true) (hd:CF n o.dst=true) (ho:o.op=.makeMap t none) (H:Hd w0 F0 w As Rs)
  (h:∀ b w',Hd w0 F0 w' (Db enc b []::As) Rs→WL P ops Q rest n (Cj l o.dst (.map (some b))) w'):WL P ops Q (o::rest) n l w:=by
 have _i:DecidableEq κ:=inferInstance;refine Ed (w':=w.alloc (.map #[] 0)) hg hd (v:=.map (some w.heap.size)) (fun a ha=>?_) (h _ _ ?_);simp [execOp,ho,Instr.makeMap];refine H.new (F':=fun k=>k=w.heap.size) (Dg.alloc _ _ _) ⟨U,#[],0,heap_alloc_new w _,U,List.nodup_nil,MapKept.stamped_empty 0⟩ ?_;intro k hk;subst hk;simp
theorem w_ (K:IX P kt enc) (hg:gd ops l o=some true) (hd:CF n o.dst=true) (ho:o.op=.mapEntry t x y) (hm:P.underlying t=some (.map kt et)) {z:Value} (hz:DO P et=some z) (hx:ev l x=some (.map (some b))) (k:κ) (hy:ev l y=some (enc k))
  (H:Hd w0 F0 w (Db enc b kvs::As) Rs) (h:∀ st w',Hd w0 F0 w' (Yk enc b (FY k ((Gf k kvs).getD z) kvs) k st::As) Rs→WL P ops Q rest n (Cj l o.dst (.tuple #[(Gf k kvs).getD z,(st:Int)])) w'):WL P ops Q (o::rest) n l w:=by
 obtain ⟨es,c,hb,he,hn,hs⟩:=H.mapKf;have hgo:=MapKept.run_getObj_map (P:=P) hb;have hc:=K.check w false k;have hso:=fun ob=>MapKept.run_setObj_map (P:=P) (o:=ob) hb;obtain ⟨i,hi,hz'⟩:=px.1 hz;rcases PC K he w k with ⟨h1,h2⟩|⟨j,e,h1,h2,h3,h4⟩;have hne:∀ e∈es.toList,e.key≠enc k:=by
  intro e d q;obtain ⟨j,hj⟩:=qh d;obtain ⟨p,hp,hk,_⟩:=LN he hj;exact h2 p (nt hp) (K.inj (hk.symm.trans q))
 refine Ed (w':={ w with heap:=w.heap.setIfInBounds b (.map (es.push { key:=enc k,val:=z,born:=c }) (c+1)) }) hg hd (v:=.tuple #[(Gf k kvs).getD z,(c:Int)]) (fun a ha=>?_) (h _ _ (H.write fun F hF=>⟨⟨hF.1,_,_,L0 hb,?_,O4 hn,MapKept.stamped_push hs hne,?_⟩,Kh hF.1⟩));simp [execOp,ho,ha.eval hx,ha.eval hy,Instr.mapEntry,run_underlying hm,hgo,hc,h1,hso,zeroValue,typeInfo,hi,hz',goInt,Qs h2];rw [Qs h2,O5 h2,vx];exact Wa he k z c;exact ⟨{ key:=enc k,val:=z,born:=c },by simp,U,U⟩;have hj:es[j]?=some e:=by simpa using h2
 refine Ed (w':={ w with heap:=w.heap.setIfInBounds b (.map (es.modify j fun e=>{ e with key:=enc k }) c) }) hg hd (v:=.tuple #[(Gf k kvs).getD z,(e.born:Int)]) (fun a ha=>?_) (h _ _ (H.write fun F hF=>⟨⟨hF.1,_,_,L0 hb,?_,O4 hn,MapKept.stamped_modify hs _ _ (fun _ _=>rfl) (fun e' _ he'=>?_),?_⟩,Kh hF.1⟩));simp [execOp,ho,ha.eval hx,ha.eval hy,Instr.mapEntry,run_underlying hm,hgo,hc,h1,hj,h3,K.stays,hso,goInt,Ox hn h4];rw [Ox hn h4,O3 hn h4,uc];exact Si he h2 ⟨rfl,rfl⟩;rw [hj] at he';cases he';exact h3.symm;refine ⟨{ e with key:=enc k },?_,U,U⟩;rw [uc];exact nt (i:=j) (by rw [xk];simp [hj])
theorem xB {s z:Operand} {st:Nat} (hg:gd ops l o=some true) (hd:o.dst=none) (ho:o.op=.entryStore t x s z) (hx:ev l x=some (.map (some b))) {k:κ} (hs':ev l s=some (Y Z (st:Int))) (hz:ev l z=some v) (inj:∀ {a b:κ},enc a=enc b→a=b)
  (H:Hd w0 F0 w (Yk enc b kvs k st::As) Rs) (h:∀ w',Hd w0 F0 w' (Db enc b (FY k v kvs)::As) Rs→WL P ops Q rest n l w'):WL P ops Q (o::rest) n l w:=by
 obtain ⟨es,c,hb,he,hn,hs,e,hem,hek,heb⟩:∃ es c,w.heap[b]?=some (.map es c)∧FB enc es.toList kvs∧F8 kvs∧MapKept.Stamped es c∧∃ e∈es.toList,e.key=enc k∧e.born=st:=H.fact (od ..) fun F h=>h.2;have hgo:=MapKept.run_getObj_map (P:=P) hb;have hso:=fun ob=>MapKept.run_setObj_map (P:=P) (o:=ob) hb;obtain ⟨j,hj⟩:=qh hem;obtain ⟨p,hp,hk,hv⟩:=LN he hj;obtain rfl:p=(k,e.val):=Prod.ext (inj (hk.symm.trans hek)) hv.symm;have hjl:j<es.size:=by have:=(oh.1 hj).1;simpa using this
 have hfi:es.findIdx? (fun e=>(e.born:Int)==(st:Int))=some j:=by
  rw [Array.findIdx?_eq_some_iff_getElem];refine ⟨hjl,?_,fun i hi=>?_⟩;have:es[j]=e:=by have h1:=(oh.1 hj).2;simpa using h1
  simp [this,heb];have hne:es[i].born≠st:=fun q=>by
   have hnd:=hs.2.1;have h1:(es.toList.map (·.born))[i]?=some st:=by rw [om];simp [Array.getElem?_eq_getElem (show i<es.size by omega),q]
   have h2:(es.toList.map (·.born))[j]?=some st:=by rw [om,hj];simp [heb]
   have:=(List.getElem?_inj (by simpa using (show i<es.size by omega)) hnd).1 (h1.trans h2.symm);omega
  simp;omega
 refine O1 hg hd (w':={ w with heap:=w.heap.setIfInBounds b (.map (es.modify j fun e=>{ e with val:=v }) c) }) (fun a ha=>?_) (h _ (H.write fun F hF=>⟨⟨hF.1,_,_,L0 hb,?_,O4 hn,MapKept.stamped_modify hs _ _ (fun _ _=>rfl) (fun _ _ _=>rfl)⟩,Kh hF.1⟩));simp [execOp,ho,ha.eval hx,ha.eval hs',ha.eval hz,Instr.entryStore,hgo,asInt,asIntOf,hfi,hso];rw [O3 hn hp,uc];exact Si he hj ⟨hek,rfl⟩
/-! ### A map that is gone through -/
def La (enc:κ→Value) (b it:Nat) (kvs:List (κ×Value)) (ps:List (Nat×κ)):SP where
 P w F:=F b∧F it∧b≠it∧∃ es c seen,w.heap[b]?=some (.map es c)∧w.heap[it]?=some (.mapIter (some b) c seen c)∧FB enc es.toList kvs∧F8 kvs∧MapKept.Stamped es c∧seen.toList=ps.map (fun p=>p.1)∧∀ e∈es.toList,∀ p∈ps,e.born=p.1↔e.key=enc p.2
 loc:=fun ⟨h,g,hn,es,c,seen,e,e2,h2⟩ hk=>⟨h,g,hn,es,c,seen,(hk b h).trans e,(hk it g).trans e2,h2⟩
 mono:=fun ⟨h,g,h2⟩ hs=>⟨hs b h,hs it g,h2⟩
theorem xH (hg:gd ops l o=some true) (hd:CF n o.dst=true) (ho:o.op=.range t x) (hm:P.underlying t=some (.map kt et)) (hx:ev l x=some (.map (some b)))
  (H:Hd w0 F0 w (Db enc b kvs::As) Rs) (h:∀ it w',Hd w0 F0 w' (La enc b it kvs []::As) Rs→WL P ops Q rest n (Cj l o.dst it) w'):WL P ops Q (o::rest) n l w:=by
 have _i:DecidableEq κ:=inferInstance;obtain ⟨es,c,hb,he,hn,hs⟩:=H.mapKf;refine Ed hg hd (fun a ha=>?_) (h _ _ (H.grow fun F hF hlt=>⟨fun k=>F k∨k=w.heap.size,⟨.inl hF.1,.inr rfl,?_,es,c,#[],?_,heap_alloc_new w _,he,hn,hs,U,fun _ _ p hp=>by cases hp⟩,Dg.alloc _ _ _,?_⟩));simp [execOp,ho,ha.eval hx,Instr.range,run_underlying hm,MapKept.run_getObj_map (P:=P) hb];have:=hlt b hF.1;omega;rw [(MapKept.heap_alloc w _).2 b (hlt b hF.1)];exact hb;rintro k (hk|rfl);refine ⟨?_,.inl hk⟩;have:=hlt k hk;simp;omega;exact ⟨by simp,.inr (ou _)⟩
theorem TU {α β:Type} {f:α→β}:∀ {l:List α},(l.map f).Nodup→∀ {a b:α},a∈l→b∈l→f a=f b→a=b
 |[],_,_,_,h,_,_=>by cases h
 |x::l,hn,a,b,ha,hb,e=>by
  rw [pf,rx] at hn
  rcases pn.1 ha with e1|ha<;>rcases pn.1 hb with e2|hb
  rw [e1,e2]
  exact absurd (pi.2 ⟨b,hb,by rw [←e,e1]⟩) hn.1
  exact absurd (pi.2 ⟨a,ha,by rw [e,e2]⟩) hn.1
  exact TU hn.2 ha hb e
def OD (enc:κ→Value):Option (κ×Value)→Value
 |none=>.tuple #[.bool false]
 |some p=>.tuple #[.bool true,enc p.1,p.2]
theorem xE (inj:∀ {a b:κ},enc a=enc b→a=b) (hg:gd ops l o=some true) (hd:CF n o.dst=true) (ho:o.op=.next x false) {it:Nat} {ps:List (Nat×κ)} (hx:ev l x=some (zP it))
  (H:Hd w0 F0 w (La enc b it kvs ps::As) Rs)
  (h:∀ r ps' w',(match r with |none=>ps'=ps∧∀ p∈kvs,p.1∈ps.map (fun q=>q.2)|some p=>p∈kvs∧p.1∉ps.map (fun q=>q.2)∧∃ st,ps'=ps++[(st,p.1)])→Hd w0 F0 w' (La enc b it kvs ps'::As) Rs→WL P ops Q rest n (Cj l o.dst (OD enc r)) w'):WL P ops Q (o::rest) n l w:=by
 have _i:DecidableEq κ:=inferInstance;obtain ⟨hbi,es,c,seen,hb,hi,he,hn,hs,hse,hp⟩:b≠it∧∃ es c seen,w.heap[b]?=some (.map es c)∧w.heap[it]?=some (.mapIter (some b) c seen c)∧FB enc es.toList kvs∧F8 kvs∧MapKept.Stamped es c∧seen.toList=ps.map (fun p=>p.1)∧∀ e∈es.toList,∀ p∈ps,e.born=p.1↔e.key=enc p.2:=H.fact (od ..) fun F h=>h.2.2;have hleft:∀ e∈es.toList,∀ p∈kvs,e.key=enc p.1→(e∈(leftOf es seen).toList↔p.1∉ps.map (fun q=>q.2)):=by
  intro e d p f hk;unfold leftOf;have hse':seen.contains e.born=true↔e.born∈ps.map (fun p=>p.1):=by rw [Array.contains_iff_mem,←hse];simp
  simp only [xu,re,d,true_and];constructor
  ·intro h1 h2
   obtain ⟨q,hq,e1⟩:=pi.1 h2;have:e.born=q.1:=(hp e d q hq).2 (by rw [hk];exact congrArg enc e1.symm);rw [hse'.2 (pi.2 ⟨q,hq,this.symm⟩)] at h1;cases h1
  ·intro h1
   have:¬ seen.contains e.born=true:=fun h2=>by
    obtain ⟨q,hq,e1⟩:=pi.1 (hse'.1 h2);exact h1 (pi.2 ⟨q,hq,inj (((hp e d q hq).1 e1.symm).symm.trans hk)⟩)
   simpa using this
 rcases run_next_at (P:=P) w o.type it b c c seen es c hi hb hs.1 (ou _) with ⟨h1,h2⟩|⟨e,hel,w1,i,h2⟩
 ·refine Ed hg hd (v:=.tuple #[false]) (fun a ha=>?_) (h none ps w ⟨U,fun p f=>?_⟩ H)
  ·simp [execOp,ho,ha.eval hx,h2]
  ·obtain ⟨j,hj⟩:=qh f
   obtain ⟨e,d,hk,_⟩:=Sh he hj;refine qq fun t=>?_;have:=(hleft e (nt d) p f hk).2 t;have h3:(leftOf es seen).toList=[]:=oz (by simpa using h1);rw [h3] at this;cases this
 ·have hem:e∈es.toList:=by
   unfold leftOf at hel;rw [xu] at hel;exact (re.1 hel).1
  obtain ⟨j,hj⟩:=qh hem;obtain ⟨p,f,hk,hv⟩:=LN he hj;have hpm:=nt f;have m:w1.heap[b]?=some (.map es c):=by rcases i with rfl|rfl<;>exact hb
  have s:w1.heap[it]?=some (.mapIter (some b) c seen c):=by rcases i with rfl|rfl<;>exact hi
  refine Ed hg hd (v:=OD enc (some p)) (fun a ha=>?_) (h (some p) (ps++[(e.born,p.1)]) (ChangeMaps.setBlock w1 it (.mapIter (some b) c (seen.push e.born) c)) ⟨hpm,(hleft e hem p hpm hk).1 hel,e.born,U⟩ (H.write fun F hF=>⟨⟨hF.1,hF.2.1,hbi,es,c,seen.push e.born,?_,?_,he,hn,hs,?_,?_⟩,?_⟩))
  ·simp [execOp,ho,ha.eval hx,h2,OD,←hk,←hv]
  ·show (w1.heap.setIfInBounds it _)[b]?=_
   rw [ru (Ne.symm hbi)];exact m
  ·show (w1.heap.setIfInBounds it _)[it]?=_
   have hlt:it<w1.heap.size:=(ta.1 s).1;simp [hlt]
  ·simp [hse]
  ·intro e2 g q hq
   rcases pj.1 hq with hq|hq
   ·exact hp e2 g q hq
   ·obtain rfl:=pc.1 hq
    constructor
    ·intro k
     rw [TU hs.2.1 g hem k];exact hk
    ·intro k
     rw [TU hs.2.2 g hem (k.trans hk.symm)]
  ·rcases i with rfl|rfl
   ·exact Kh hF.2.1
   ·exact (Dg.drewN F w 1).trans (Kh hF.2.1) fun _ _ h=>h
theorem uE {r:Option (κ×Value)} (ho:o.op=.extract x 0) (hx:ev l x=some (OD enc r)):BT P n l w o r.isSome w:=by
 have _i:DecidableEq κ:=inferInstance;intro a ha;cases r<;>simp [execOp,ho,ha.eval hx,OD,Instr.extract]
theorem tS (ho:o.op=.entry x) {it st:Nat} {ps:List (Nat×κ)} {p:κ×Value} (hx:ev l x=some (zP it)) (hp:p∈kvs) (H:Hd w0 F0 w As Rs) (j:Nat) (hj:As[j]?=some (La enc b it kvs (ps++[(st,p.1)]))):BT P n l w o (.tuple #[enc p.1,p.2]) w:=by
 have _i:DecidableEq κ:=inferInstance;intro a ha;refine H.fact (nt hj) fun F h=>?_;obtain ⟨_,_,_,es,c,seen,hb,hi,he,hn,hs,hse,hp'⟩:=h;obtain ⟨i,f⟩:=qh hp;obtain ⟨e,d,hk,hv⟩:=Sh he f;have hem:=nt d;have hborn:e.born=st:=(hp' e hem (st,p.1) (List.mem_append_right _ (pc.2 rfl))).2 hk;have hsn:seen=(seen.toList.dropLast).toArray.push e.born:=by
  have h1:seen.toList=ps.map (fun p=>p.1)++[st]:=by rw [hse,oa];rfl
  have h2:seen=seen.toList.toArray:=by simp
  rw [h2,h1];simp [hborn]
 have:=run_entry_at (P:=P) w it b c (seen.toList.dropLast).toArray es c e (by rw [←hsn];exact hi) hb hem hs.2.1;simp [execOp,ho,ha.eval hx,this,hk,hv]
theorem wZ (K:IX P kt enc) (hg:gd ops l o=some true) (hd:CF n o.dst=true) (ho:o.op=.call { callee:=.builtin .delete,args:=#[x,y],argTypes:=#[t,kt] }) (hm:P.underlying t=some (.map kt et)) (hx:ev l x=some (.map (some b))) (k:κ) (hy:ev l y=some (enc k)) {it:Nat} {ps:List (Nat×κ)}
  (H:Hd w0 F0 w (La enc b it kvs ps::As) Rs) (h:∀ w',Hd w0 F0 w' (La enc b it (KR k kvs) ps::As) Rs→WL P ops Q rest n (Cj l o.dst (.tuple #[])) w'):WL P ops Q (o::rest) n l w:=by
 obtain ⟨hbi,es,c,seen,hb,hi,he,hn,hs,hse,hp⟩:b≠it∧∃ es c seen,w.heap[b]?=some (.map es c)∧w.heap[it]?=some (.mapIter (some b) c seen c)∧FB enc es.toList kvs∧F8 kvs∧MapKept.Stamped es c∧seen.toList=ps.map (fun p=>p.1)∧∀ e∈es.toList,∀ p∈ps,e.born=p.1↔e.key=enc p.2:=H.fact (od ..) fun F h=>h.2.2;have hgo:=MapKept.run_getObj_map (P:=P) hb;have hc:=fun e=>K.check w e k;have hso:=fun ob=>MapKept.run_setObj_map (P:=P) (o:=ob) hb;have hit:∀ ob,({ w with heap:=w.heap.setIfInBounds b ob }:World).heap[it]?=some (.mapIter (some b) c seen c):=fun ob=>by
  show (w.heap.setIfInBounds b _)[it]?=_;rw [ru hbi];exact hi
 rcases PC K he w k with ⟨h1,h2⟩|⟨j,e,h1,h2,h3,h4⟩;refine Ed (w':={ w with heap:=w.heap.setIfInBounds b (.map es c) }) hg hd (v:=.tuple #[]) (fun a ha=>?_) (h _ (H.write fun F hF=>⟨⟨hF.1,hF.2.1,hbi,es,c,seen,L0 hb,hit _,?_,R_ hn,hs,hse,hp⟩,Kh hF.1⟩));simp [execOp,ho,resolve,ha.eval hx,ha.eval hy,invoke,builtin,Builtin.delete_,run_underlying hm,hgo,hc,h1,hso];rw [fG h2];exact he;have hj:j<es.size:=by have:=(oh.1 h2).1;simpa using this
 refine Ed (w':={ w with heap:=w.heap.setIfInBounds b (.map (es.eraseIdxIfInBounds j) c) }) hg hd (v:=.tuple #[]) (fun a ha=>?_) (h _ (H.write fun F hF=>⟨⟨hF.1,hF.2.1,hbi,_,c,seen,L0 hb,hit _,?_,R_ hn,MapKept.stamped_erase hs j,hse,fun e2 d=>hp e2 ?_⟩,Kh hF.1⟩));simp [execOp,ho,resolve,ha.eval hx,ha.eval hy,invoke,builtin,Builtin.delete_,run_underlying hm,hgo,hc,h1,hso];rw [VZ hn h4,Wf hj];exact fZ he j;rw [Wf hj] at d;exact (xg ..).subset d
theorem Hd.mapRK {it:Nat} {ps:List (Nat×κ)} (H:Hd w0 F0 w (La enc b it kvs ps::As) Rs):Hd w0 F0 w (Db enc b kvs::As) Rs:=by have _i:DecidableEq κ:=inferInstance;exact H.turn fun F ⟨h1,_,_,es,c,seen,hb,_,he,hn,hs,_⟩=>⟨h1,es,c,hb,he,hn,hs⟩
end
def V9 (b:Nat):List Value:=[.pointer (some ⟨b,0,none⟩)]
def If:Kd Nat:=flat V9 1 (by omega) (fun _=>rfl) (fun _ c h=>by simp [V9] at h;subst h;rfl)
def GB (t:Nat) (e:Nat×DG):SP:=blk e.1 [.int .i64 e.2.c,.int .i64 e.2.s,.int .i64 e.2.e,.int .i64 e.2.x] t
def Dm (ps:List Au):ByteArray:=D6 (FD ps)
theorem Mi (l:List UInt8):(D6 l).size=l.length:=by simp [D6,ByteArray.size]
theorem OJ (h:∀ p∈ps,p.key.size≤100∧p.val.size≤100):(CL ps).length≤ps.length*216:=by
 induction ps with
 |nil=>exact oc _
 |cons p ps ih=>
  have h1:=h p (od ..);have h2:=ih fun q hq=>h q (ow _ hq);have e:CL (p::ps)=(CM p.key++CM p.val)++CL ps:=by unfold CL;rw [ox]
  rw [e,nr,nr,IS,IS,nz,pw];omega
theorem sH (h:∀ p∈ps,p.key.size≤100∧p.val.size≤100) (hl:ps.length≤1000):(Dm ps).size≤300000:=by
 have:=OJ h;unfold Dm;rw [Mi];unfold FD;rw [nr,FI];omega
theorem T4 (ps:List Au):Br (Dm ps)=FD ps:=VB _
def FV (ps:List Au) (k:Nat):Nat:=8+(CL (ps.take k)).length
theorem sG {p:Au} (h:ps[k]?=some p):FV ps (k+1)=FV ps k+8+p.key.size+8+p.val.size:=by
 unfold FV;rw [Dd h,QM,nr,nr,IS,IS];omega
theorem sJ (hl:ps.length<9223372036854775808):CE (FD ps) 0=(((ps.length:Nat):Int),8,true):=by
 have h:=QX (a:=[]) (c:=CL ps) (n:=ps.length) (k:=0) hl rfl;unfold CE FD;have h2:Ks (CV ps.length++CL ps) 0=some (((ps.length:Nat):Int),((0+8:Nat):Int)):=h;rw [h2];rfl
theorem sI {p:Au} (h:ps[k]?=some p) (hk:p.key.size<9223372036854775808):Be (FD ps) (FV ps k:Nat)=(p.key,((FV ps k+8+p.key.size:Nat):Int),true):=by
 have e:FD ps=(CV ps.length++CL (ps.take k))++(CM p.key++(CM p.val++CL (ps.drop (k+1)))):=by unfold FD;rw [YX h,og]
 have h1:=Q0 (a:=CV ps.length++CL (ps.take k)) (c:=CM p.val++CL (ps.drop (k+1))) (s:=p.key) (k:=FV ps k) hk (by rw [nr,FI];rfl);unfold Be;rw [e,h1]
theorem sK {p:Au} (h:ps[k]?=some p) (hk:p.val.size<9223372036854775808):Be (FD ps) ((FV ps k+8+p.key.size:Nat):Int)=(p.val,((FV ps (k+1):Nat):Int),true):=by
 have e:FD ps=(CV ps.length++CL (ps.take k)++CM p.key)++(CM p.val++CL (ps.drop (k+1))):=by unfold FD;rw [YX h];simp only [og]
 have h1:=Q0 (a:=CV ps.length++CL (ps.take k)++CM p.key) (c:=CL (ps.drop (k+1))) (s:=p.val) (k:=FV ps k+8+p.key.size) hk (by rw [nr,nr,FI,IS];unfold FV;omega);unfold Be;rw [e,h1,sG h]
theorem sF (h:∀ p∈ps,p.key.size≤100∧p.val.size≤100) (hl:ps.length≤1000) (i:Nat):FV ps i≤300000:=by
 have h1:=OJ (ps:=ps.take i) fun p hp=>h p (List.mem_of_mem_take hp);have h2:(ps.take i).length≤ps.length:=by rw [oo];omega
 unfold FV;omega
def Ix (D:B5) (J:AS) (s:Nat) (att:Int) (k:Nat):List Int:=(qa k).map fun (p:Nat)=>FC ((FS D J s p).length:Nat) (Gk J.chunk att)
theorem VI (D:B5) (J:AS) (s:Nat) (att:Int) (k:Nat):Ix D J s att (k+1)=Ix D J s att k++[FC ((FS D J s k).length:Nat) (Gk J.chunk att)]:=by
 unfold Ix;rw [rn,oa];rfl
theorem VH (D:B5) (J:AS) (s:Nat) (att:Int) (k:Nat):(Ix D J s att k).length=k:=by simp [Ix]
theorem VU {J:AS} {s:Nat} {att:Int} (h:(BV D J s).2=0):Da D J s att=Ix D J s att J.parts.toNat:=by
 unfold Da;rw [if_neg (fun g=>g h)];rfl
theorem VS {J:AS} {s:Nat} {att:Int} (h:(BV D J s).2≠0):Da D J s att=[]:=by
 unfold Da;rw [if_pos h]
/-! ### Windows, in a row of pointers -/
def bX (J:AS) (n:Int):DG:=⟨n,J.window,0,0⟩
theorem Aa7 {ws:List (Nat×DG)} {e:Nat×DG} (h:ws[k]?=some e):(ws.map Prod.fst)[k]?=some e.1:=by rw [om,h];rfl
theorem b0 {ws:List (Nat×DG)} {e:Nat×DG} (h:ws[k]?=some e):(ws.map Prod.snd)[k]?=some e.2:=by rw [om,h];rfl
theorem bZ {ws:List (Nat×DG)} {b:Nat} {x y:DG} (h:ws[k]?=some (b,x)):(ws.set k (b,y)).map Prod.fst=ws.map Prod.fst∧(ws.set k (b,y)).map Prod.snd=(ws.map Prod.snd).set k y:=by
 refine ⟨?_,by rw [qk]⟩;rw [qk];have:=Aa7 h;exact Jk this
theorem Aa8 {ws:List (Nat×DG)} {e:Nat×DG} (h:ws[k]?=some e):ws.set k e=ws:=Jk h
theorem eF {n size q:Int} (h0:0≤q) (h1:q<FC n size) (hs:1≤size):0≤q*size∧q*size≤n - 1:=by
 unfold FC at h1;by_cases h:n<1∨size<1;rw [if_pos h] at h1;omega;rw [if_neg h,tw (by omega)] at h1;exact ⟨Int.mul_nonneg h0 (by omega),(Int.le_ediv_iff_mul_le (by omega)).1 (by omega)⟩
theorem fB {size q:Int} {m:Nat} (h0:0≤q) (h1:q<FC ps.length size) (hs:1≤size) (hm:q*size=(m:Int)) (hk:min size (((ps.length - m:Nat):Int))=(k:Int)):Iy ps size q=(ps.drop m).take k:=by
 unfold Iy;rw [if_neg (by omega),hm,qv];refine (List.take_eq_take_iff).2 ?_;rw [pt];omega
theorem VY {size q:Int} (h:q<0∨FC ps.length size≤q):Iy ps size q=[]:=if_pos h
theorem zF {n size:Int} (h:0≤n) (hs:1≤size):0≤n.tdiv size∧n.tdiv size≤n:=by
 rw [tw h];exact ⟨zq h (by omega),zi _ h⟩
/-! ### What is pushed, window by window -/
theorem Za (D:B5) (J:AS) (s:Nat) (att:Int):∀ (a b:List DG) (p:Nat),Ff D J s att (a++b) p=Ff D J s att a p++Ff D J s att b (p+a.length)
 |[],b,p=>rfl
 |w::a,b,p=>by
  show Gi D J s att w p++Ff D J s att (a++b) (p+1)=Gi D J s att w p++Ff D J s att a (p+1)++_
  rw [Za D J s _ a b _,og,nz,show p+1+a.length=p+(a.length+1) by omega]
theorem s7 {J:AS} {s:Nat} {att:Int} {ws:List DG} {w:DG} (h:ws[k]?=some w):Ff D J s att (ws.take (k+1)) 0=Ff D J s att (ws.take k) 0++Gi D J s att w k:=by
 rw [Dd h,Za,oo,su,Nat.min_eq_left (Nat.le_of_lt (Hw h))];show _++(Gi D J s att w k++[])=_;rw [oy]
theorem Ua (D:B5) (J:AS) (s:Nat) (att:Int) (w:DG) (p:Nat):(Gi D J s att w p).length=(GK w.c w.s w.x).length:=by unfold Gi;rw [nu]
theorem s6 {J:AS} {s:Nat} {att:Int} {w:DG} {p j:Nat} {q:Int} (h:(GK w.c w.s w.x)[j]?=some q):(Gi D J s att w p).take (j+1)=(Gi D J s att w p).take j++[⟨2,s,att,p,q,0,0,0,[],E5 D J s att p q⟩]:=
 Dd (by unfold Gi;rw [om,h];rfl)
theorem YS {w:DG} (h:Ll w):(GK w.c w.s w.x).length≤4:=by
 rw [rP];have:=h.1;have:=h.2.1;omega
theorem QO {D:B5} {J:AS} {s:Nat} {att:Int}:∀ {ws:List DG} (p:Nat),(∀ w∈ws,Ll w)→(Ff D J s att ws p).length≤4*ws.length
 |[],_,_=>oc _
 |w::ws,p,h=>by
  have h1:=YS (h w (od ..))
  have h2:=QO (D:=D) (J:=J) (s:=s) (att:=att) (p+1) fun x hx=>h x (ow _ hx)
  show (Gi D J s att w p++Ff D J s att ws (p+1)).length≤_
  rw [nr,Ua,nz]
  omega
theorem VT {A:AS} (h:B0 A B) (D:B5) (s:Nat) (att:Int):Da D A s att=Da D B s att:=by
 unfold Da;rw [h.split,h.parts,h.chunk];simp only [h.only]
theorem YA {A:AS} (h:B0 A B) (D:B5) (s:Nat) (att:Int):GH D A s att=GH D B s att:=by
 unfold GH Da;rw [h.split,h.parts,h.chunk,h.window];simp only [h.only]
theorem qQ {A:AS} (h:B0 A B) {s:Nat} {att:Int} {ws:List (Nat×DG)} (hw:ws.map Prod.snd=((Da D A s att).take k).map (bX A)) (hk:(Da D A s att).length≤k):ws.map Prod.snd=(GH D B s att).ws:=by
 rw [hw,oe hk,←YA h];rfl
theorem Uc {A B:AS} (h:B0 A B) (D:B5) (s:Nat) (att:Int):∀ (ws:List DG) (p:Nat),Ff D A s att ws p=Ff D B s att ws p
 |[],_=>rfl
 |w::ws,p=>by
  show Gi D A s att w p++Ff D A s att ws (p+1)=Gi D B s att w p++Ff D B s att ws (p+1)
  rw [Uc h D s _ _]
  unfold Gi E5
  rw [h.chunk]
  simp only [h.only]
theorem U3 {m:Ce} {p ep n:Int} {w:DG} (h:0≤p∧p<m.ws.length) (hw:m.ws[p.toNat]?=some w):DP m p ep n=({ m with ws:=m.ws.set p.toNat (LJ w ep n) },JY w.c w.e w.x ep n):=by
 unfold DP;rw [if_pos (show NS m p from h),hw]
theorem RJ {m:Ce} {p ep n:Int} (h:¬ (0≤p∧p<m.ws.length)):DP m p ep n=(m,false):=if_neg (show ¬ NS m p from h)
theorem bY {ws:List (Nat×DG)} {x:Nat} (h:(ws.map Prod.fst)[k]?=some x):∃ wd,ws[k]?=some (x,wd):=by
 rw [om] at h;obtain ⟨e,he,rfl⟩:=qc.1 h;exact ⟨e.2,he⟩
def Fi (M:Ce):Prop:=(∀ w∈M.ws,Ll w)∧M.ws.length≤1000
theorem rK {J:AS} (hJ:Cy J) {s:Nat} {att:Int}:Fi (GH D J s att):=by
 refine ⟨qK hJ s _,?_⟩;have:=hJ.parts;show ((Da D J s att).map _).length≤_;rw [nu,VR];split<;>omega
theorem rJ {M:Ce} (h:Fi M) {p ep n:Int} (he:Aw ep):Fi (DP M p ep n).1:=by
 by_cases hp:0≤p∧p<M.ws.length;obtain ⟨w,hw⟩:=gx (show p.toNat<M.ws.length by omega);rw [U3 hp hw];refine ⟨fun x hx=>?_,by rw [List.length_set];exact h.2⟩;rcases List.mem_or_eq_of_mem_set hx with hx|rfl
 exact h.1 x hx;exact cI (h.1 _ (CU hw)) he;rw [RJ hp];exact h
theorem Hd.tellK {w:World} {K:Kd α} {xs ys:List α} (H:Hd w0 F0 w (Aa K v xs::As) Rs) (e:ys=xs):Hd w0 F0 w (Aa K v ys::As) Rs:=by rw [e];exact H
/-! ### Which records may be -/
def BY (n l m:Int):Prop:=l≤n∧n≤m
instance (n l m:Int):Decidable (BY n l m):=by unfold BY;infer_instance
def GA:Int→List Int→Prop
 |_,[]=>True
 |last,n::ns=>BY n 0 5∧last<n∧GA n ns
instance decUpR:∀ (last:Int) (l:List Int),Decidable (GA last l)
 |_,[]=>.isTrue trivial
 |last,n::ns=>have:=decUpR n ns;by unfold GA;infer_instance
def GL (r:Bp):Prop:=BY r.why 1 6∧((r.att=0∧BY r.sp 0 5∧r.part=0)∨(r.att=1∧BY r.part 0 3∧r.sp=0))
instance (r:Bp):Decidable (GL r):=by unfold GL;infer_instance
def En (r:Bp):Prop:=(r.kind≠1∧r.kind≠5∧0<r.set.length)∨(r.kind≠4∧0<r.pairs.length)∨(r.kind≠3∧r.why≠0)
instance (r:Bp):Decidable (En r):=by unfold En;infer_instance
def J4 (l:List Int):Prop:=l.length≤4∧∀ n∈l,BY n 0 40
instance (l:List Int):Decidable (J4 l):=by unfold J4;infer_instance
def CG (r:Bp):Prop:=¬ En r∧((r.kind=1∧r.part=0∧BY r.sp 0 5∧BY r.att 1 3∧J4 r.set)∨((r.kind=2∨r.kind=6)∧r.part=0∧r.sp=0∧r.att=0)∨(r.kind=3∧GL r)∨
 (r.kind=4∧BY r.part 0 3∧BY r.sp 0 5∧BY r.att 1 3∧r.pairs.length≤40∧∀ p∈r.pairs,D3 p)∨(r.kind=5∧BY r.part 0 3∧r.sp=0∧r.att=0∧GA (-1) r.set))
instance (r:Bp):Decidable (CG r):=by unfold CG;infer_instance
theorem eS {xs:List Int} (h:xs.length≤4):(!(xs.any (fun x=>!decide (0≤x∧x≤40))))=decide (J4 xs):=by
 rw [Bool.eq_iff_iff,decide_eq_true_eq];constructor;intro g;refine ⟨h,fun n hn=>Decidable.byContradiction fun c=>?_⟩;have e:xs.any (fun x=>!decide (0≤x∧x≤40))=true:=sj.2 ⟨n,hn,by rw [decide_eq_false (show ¬ (0≤n∧n≤40) from c)];rfl⟩;rw [e] at g;cases g;intro g;have e:xs.any (fun x=>!decide (0≤x∧x≤40))=false:=rz.2 fun n hn=>by rw [decide_eq_true (show 0≤n∧n≤40 from g.2 n hn)];decide
 rw [e];rfl
theorem UN {last n:Int} {ns:List Int}:GA last (n::ns)↔BY n 0 5∧last<n∧GA n ns:=Iff.rfl
theorem Qy (hk:r.kind=1) (ho:¬ En r):CG r↔r.part=0∧BY r.sp 0 5∧BY r.att 1 3∧J4 r.set:=by
 constructor;rintro ⟨_,h⟩;rcases h with ⟨h1,h⟩|⟨h1,h⟩|⟨h1,h⟩|⟨h1,h⟩|⟨h1,h⟩<;>first |exact h|(exfalso;omega)
 exact fun g=>⟨ho,.inl ⟨hk,g⟩⟩
theorem Yp (hk:r.kind=2∨r.kind=6) (ho:¬ En r):CG r↔r.part=0∧r.sp=0∧r.att=0:=by
 constructor;rintro ⟨_,h⟩;rcases h with ⟨h1,h⟩|⟨h1,h⟩|⟨h1,h⟩|⟨h1,h⟩|⟨h1,h⟩<;>first |exact h|(exfalso;omega)
 exact fun g=>⟨ho,.inr (.inl ⟨hk,g⟩)⟩
theorem oV (hk:r.kind=3) (ho:¬ En r):CG r↔GL r:=by
 constructor;rintro ⟨_,h⟩;rcases h with ⟨h1,h⟩|⟨h1,h⟩|⟨h1,h⟩|⟨h1,h⟩|⟨h1,h⟩<;>first |exact h|(exfalso;omega)
 exact fun g=>⟨ho,.inr (.inr (.inl ⟨hk,g⟩))⟩
theorem Oy (hk:r.kind=4) (ho:¬ En r):CG r↔BY r.part 0 3∧BY r.sp 0 5∧BY r.att 1 3∧r.pairs.length≤40∧∀ p∈r.pairs,D3 p:=by
 constructor;rintro ⟨_,h⟩;rcases h with ⟨h1,h⟩|⟨h1,h⟩|⟨h1,h⟩|⟨h1,h⟩|⟨h1,h⟩<;>first |exact h|(exfalso;omega)
 exact fun g=>⟨ho,.inr (.inr (.inr (.inl ⟨hk,g⟩)))⟩
theorem Qz (hk:r.kind=5) (ho:¬ En r):CG r↔BY r.part 0 3∧r.sp=0∧r.att=0∧GA (-1) r.set:=by
 constructor;rintro ⟨_,h⟩;rcases h with ⟨h1,h⟩|⟨h1,h⟩|⟨h1,h⟩|⟨h1,h⟩|⟨h1,h⟩<;>first |exact h|(exfalso;omega)
 exact fun g=>⟨ho,.inr (.inr (.inr (.inr (⟨hk,g⟩))))⟩
theorem oY (h1:r.kind≠1) (h2:r.kind≠2) (h3:r.kind≠3) (h4:r.kind≠4) (h5:r.kind≠5) (h6:r.kind≠6):¬ CG r:=by
 rintro ⟨_,h⟩;rcases h with ⟨h1,h⟩|⟨h1,h⟩|⟨h1,h⟩|⟨h1,h⟩|⟨h1,h⟩<;>omega
theorem bO:∀ {last:Int} {l:List Int},GA last l→∀ n∈l,BY n 0 5
 |_,_::_,⟨h,_,g⟩,n,hn=>by
  rcases pn.1 hn with rfl|hn
  exact h
  exact bO g n hn
theorem bP:∀ {last:Int} {l:List Int}, -1≤last→last≤5→GA last l→(l.length:Int)≤5 - last
 |_,[],_,h,_=>by simp only [ny];omega
 |last,n::ns,h0,h1,⟨h,g,k⟩=>by
  have:=bP (by have:=h.1;omega) h.2 k
  simp only [nz]
  omega
structure Pp (r:Bp):Prop where
 kind:BY r.kind 1 6
 part:BY r.part 0 3
 sp:BY r.sp 0 5
 att:BY r.att 0 3
 why:BY r.why 0 6
 set:r.set.length≤6
 sets:∀ n∈r.set,BY n 0 40
 pairs:r.pairs.length≤40
 prs:∀ p∈r.pairs,D3 p
theorem Lc (h:CG r):Pp r:=by
 obtain ⟨hm,h⟩:=h;unfold En at hm;have hs:∀ {P:Int→Prop},r.set.length=0→∀ n∈r.set,P n:=fun h n hn=>by rw [oz h] at hn;cases hn
 have hp:∀ {P:Au→Prop},r.pairs.length=0→∀ n∈r.pairs,P n:=fun h n hn=>by rw [oz h] at hn;cases hn
 rcases h with ⟨h1,h2,h3,h4,h5,h6⟩|⟨h1,h2,h3,h4⟩|⟨h1,h2,h3⟩|⟨h1,h2,h3,h4,h5,h6⟩|⟨h1,h2,h3,h4,h5⟩;unfold BY at h3 h4;exact ⟨by unfold BY;omega,by unfold BY;omega,by unfold BY;omega,by unfold BY;omega,by unfold BY;omega,by omega,h6,by omega,hp (by omega)⟩;exact ⟨by unfold BY;omega,by unfold BY;omega,by unfold BY;omega,by unfold BY;omega,by unfold BY;omega,by omega,hs (by omega),by omega,hp (by omega)⟩;unfold BY at h2 h3;exact ⟨by unfold BY;omega,by unfold BY;omega,by unfold BY;omega,by unfold BY;omega,by unfold BY;omega,by omega,hs (by omega),by omega,hp (by omega)⟩;unfold BY at h2 h3 h4;exact ⟨by unfold BY;omega,by unfold BY;omega,by unfold BY;omega,by unfold BY;omega,by unfold BY;omega,by omega,hs (by omega),by omega,h6⟩;have hl:=bP (by omega) (by omega) h5;unfold BY at h2;exact ⟨by unfold BY;omega,by unfold BY;omega,by unfold BY;omega,by unfold BY;omega,by unfold BY;omega,by omega,fun n hn=>by have:=bO h5 n hn;unfold BY at this ⊢;omega,by omega,hp (by omega)⟩
/-! ### Laid -/
def C9 (l:List Int):List UInt8:=l.flatMap fun n=>CV n.toNat
def LZ (r:Bp):List Int:=[r.kind,r.part,r.sp,r.att,r.why,(r.set.length:Int)]
def Dh (r:Bp):List UInt8:=C9 (LZ r++r.set)++FD r.pairs
def Ch (rs:List Bp):List UInt8:=rs.flatMap fun r=>CM (D6 (Dh r))
def FQ (rs:List Bp):List UInt8:=if ∀ r∈rs,CG r then Ch rs else []
theorem Lj (l:List Int):(C9 l).length=8*l.length:=by
 induction l with
 |nil=>rfl
 |cons n l ih=>unfold C9 at ih ⊢;rw [ox,nr,FI,ih,nz];omega
theorem YJ (l:List Int) (n:Int):C9 (l++[n])=C9 l++CV n.toNat:=by unfold C9;rw [pu];simp
theorem q_ (l m:List Int) (n:Int):C9 (l++n::m)=C9 l++(CV n.toNat++C9 m):=by unfold C9;rw [pu,ox]
theorem X0 (l:List Bp) (r:Bp):Ch (l++[r])=Ch l++CM (D6 (Dh r)):=by unfold Ch;rw [pu];simp
theorem M9 (a b:List Bp):Ch (a++b)=Ch a++Ch b:=by unfold Ch;rw [pu]
theorem Pu (h:Pp r):(Dh r).length≤10000:=by
 have h1:=OJ (ps:=r.pairs) fun p hp=>by have:=h.prs p hp;unfold D3 at this;omega
 have h2:=h.set;have h3:=h.pairs;unfold Dh FD;rw [nr,nr,Lj,nr,FI];show 8*(6+r.set.length)+_≤_;omega
theorem Pc (l:List UInt8):(CM (D6 l)).length=8+l.length:=by rw [IS,Mi]
theorem Tu {rs:List Bp} (h:∀ r∈rs,CG r):(Ch rs).length≤10008*rs.length:=by
 induction rs with
 |nil=>exact oc _
 |cons r rs ih=>
  have h1:=ih fun x hx=>h x (ow _ hx);have h2:=Pu (Lc (h r (od ..)));have e:Ch (r::rs)=CM (D6 (Dh r))++Ch rs:=by unfold Ch;rw [ox]
  rw [e,nr,Pc,nz];omega
/-! ### Read -/
structure Ee where
 at_:Int
 bad:Bool
def Bh (b:List UInt8) (s:Ee):Int×Ee:=((CE b s.at_).1,⟨if (CE b s.at_).2.2 then (CE b s.at_).2.1 else s.at_,s.bad||!(CE b s.at_).2.2⟩)
def BX (b:List UInt8) (most:Int) (s:Ee):Int×Ee:=if BY (Bh b s).1 0 most then Bh b s else (0,⟨(Bh b s).2.at_,true⟩)
def Cu (b:List UInt8) (s:Ee):ByteArray×Ee:=((Be b s.at_).1,⟨if (Be b s.at_).2.2 then (Be b s.at_).2.1 else s.at_,s.bad||!(Be b s.at_).2.2⟩)
def DL (b:List UInt8):Nat→Ee→List Int×Ee
 |0,s=>([],s)
 |k+1,s=>((DL b k s).1++[(Bh b (DL b k s).2).1],(Bh b (DL b k s).2).2)
def C3 (b:List UInt8):Nat→Ee→List Au×Ee
 |0,s=>([],s)
 |k+1,s=>((C3 b k s).1++[⟨(Cu b (C3 b k s).2).1,(Cu b (Cu b (C3 b k s).2).2).1⟩],(Cu b (Cu b (C3 b k s).2).2).2)
def BU (b:List UInt8) (k:Nat) (s:Ee):Ee:=(DL b k s).2
def CN (b:List UInt8) (s:Ee):List Int×Ee:=DL b (BX b 6 s).1.toNat (BX b 6 s).2
def QY (b:List UInt8) (s:Ee):List Au×Ee:=C3 b (BX b 40 s).1.toNat (BX b 40 s).2
def BK (b:List UInt8) (s:Ee):Bp×Ee:=
 (⟨(Bh b s).1,(Bh b (BU b 1 s)).1,(Bh b (BU b 2 s)).1,(Bh b (BU b 3 s)).1,(Bh b (BU b 4 s)).1,(CN b (BU b 5 s)).1,(QY b (CN b (BU b 5 s)).2).1⟩,(QY b (CN b (BU b 5 s)).2).2)
def G7 (bs:List UInt8) (a:Int):Bool:=(Be bs a).2.2 && !(BK (Br (Be bs a).1) ⟨0,false⟩).2.bad && decide ((BK (Br (Be bs a).1) ⟨0,false⟩).2.at_=((Br (Be bs a).1).length:Int)) && decide (CG (BK (Br (Be bs a).1) ⟨0,false⟩).1)
def Gq (bs:List UInt8):Nat→Int→List Bp→List Bp×Int
 |0,a,out=>(out,a)
 |k+1,a,out=>if G7 bs a=true then Gq bs k (Be bs a).2.1 (out++[(BK (Br (Be bs a).1) ⟨0,false⟩).1]) else (out,a)
def CQ (bs:List UInt8):List Bp×Int:=Gq bs (bs.length+1) 0 []
theorem JL {b:List UInt8} {s:Ee} (hl:b.length≤1000000000000) (h:Aw s.at_):Aw (Bh b s).2.at_:=by
 unfold Bh;dsimp only;split
 ·next hk=>have:=Uh hk;unfold Aw;omega
 ·exact h
theorem Uj {b:List UInt8} {a:Int} (h:(Be b a).2.2=true):a+8≤(Be b a).2.1∧(Be b a).2.1≤(b.length:Int)∧0≤a∧(((Be b a).1.size:Nat):Int)≤(b.length:Int):=by
 by_cases hk:(CE b a).2.2=true;have h1:=Uh hk;have h2:=OP hk;rw [h2] at h ⊢;by_cases h3:(CE b a).1<0∨(b.length:Int) - (CE b a).2.1<(CE b a).1;rw [if_pos h3] at h;cases h;rw [if_neg h3];refine ⟨?_,?_,h1.2.2.2,?_⟩;show a+8≤(CE b a).2.1+(CE b a).1;omega;show (CE b a).2.1+(CE b a).1≤_;omega;show ((D6 _).size:Int)≤_;rw [Mi,oo,pt];omega;have h2:=QZ (b:=b) (at_:=a) (by simpa using hk);rw [h2] at h;cases h
theorem Ph {b:List UInt8} {s:Ee} (hl:b.length≤1000000000000) (h:Aw s.at_):Aw (Cu b s).2.at_:=by
 unfold Cu;dsimp only;split
 ·next hk=>have:=Uj hk;unfold Aw;omega
 ·exact h
theorem Pw {b:List UInt8} {s:Ee} {m:Int} (hl:b.length≤1000000000000) (h:Aw s.at_):Aw (BX b m s).2.at_:=by
 unfold BX;split<;>exact JL hl h
theorem VG {b:List UInt8} {s:Ee} {m:Int} (h:0≤m):0≤(BX b m s).1∧(BX b m s).1≤m:=by
 unfold BX;split
 ·next g=>exact g
 ·exact ⟨sl _,h⟩
theorem QI {b:List UInt8} (hl:b.length≤1000000000000):∀ (k:Nat) {s:Ee},Aw s.at_→Aw (DL b k s).2.at_
 |0,_,h=>h
 |k+1,_,h=>JL hl (QI hl k h)
theorem Y6 {b:List UInt8} (hl:b.length≤1000000000000):∀ (k:Nat) {s:Ee},Aw s.at_→Aw (C3 b k s).2.at_
 |0,_,h=>h
 |k+1,_,h=>Ph hl (Ph hl (Y6 hl k h))
theorem YL (b:List UInt8) (s:Ee):∀ k,(DL b k s).1.length=k
 |0=>rfl
 |k+1=>by unfold DL;dsimp only;rw [nr,YL b s k];rfl
theorem Y7 (b:List UInt8) (s:Ee):∀ k,(C3 b k s).1.length=k
 |0=>rfl
 |k+1=>by unfold C3;dsimp only;rw [nr,Y7 b s k];rfl
theorem L1 {bs:List UInt8} {a:Int}:G7 bs a=true↔(Be bs a).2.2=true∧(BK (Br (Be bs a).1) ⟨0,false⟩).2.bad=false∧(BK (Br (Be bs a).1) ⟨0,false⟩).2.at_=((Br (Be bs a).1).length:Int)∧CG (BK (Br (Be bs a).1) ⟨0,false⟩).1:=by
 unfold G7;simp only [qe,yq,decide_eq_true_eq];exact ⟨fun ⟨⟨⟨h1,h2⟩,h3⟩,h4⟩=>⟨h1,h2,h3,h4⟩,fun ⟨h1,h2,h3,h4⟩=>⟨⟨⟨h1,h2⟩,h3⟩,h4⟩⟩
theorem ZC {bs:List UInt8} {a:Int} {out:List Bp} (h:G7 bs a=true):Gq bs (k+1) a out=Gq bs k (Be bs a).2.1 (out++[(BK (Br (Be bs a).1) ⟨0,false⟩).1]):=if_pos h
theorem OS {bs:List UInt8} {a:Int} {out:List Bp} (h:¬ G7 bs a=true):Gq bs (k+1) a out=(out,a):=if_neg h
/-! ### What was laid is read -/
theorem aF {P:List α→Prop} (h0:P []) (h1:∀ l x,P l→P (l++[x])) (l:List α):P l:=by
 have key:∀ m:List α,P m.reverse:=by
  intro m;induction m with
  |nil=>exact h0
  |cons x m ih=>rw [yr];exact h1 _ _ ih
 have:=key l.reverse;rwa [xl] at this
theorem YI {a c:List UInt8} {n:Int} (h:0≤n∧n<9223372036854775808) (bad:Bool):Bh (a++(CV n.toNat++c)) ⟨(a.length:Int),bad⟩=(n,⟨((a.length+8:Nat):Int),bad⟩):=by
 have h1:=QX (a:=a) (c:=c) (n:=n.toNat) (k:=a.length) (by omega) rfl;have h2:CE (a++(CV n.toNat++c)) (a.length:Int)=(n,((a.length+8:Nat):Int),true):=by
  unfold CE;rw [h1];show (((n.toNat:Nat):Int),_,true)=_;rw [Int.toNat_of_nonneg h.1]
 unfold Bh;rw [h2];simp
theorem aV {a c:List UInt8} {s:ByteArray} (h:s.size<9223372036854775808) (bad:Bool):Cu (a++(CM s++c)) ⟨(a.length:Int),bad⟩=(s,⟨((a.length+8+s.size:Nat):Int),bad⟩):=by
 have h1:=Q0 (a:=a) (c:=c) (s:=s) (k:=a.length) h rfl;have h2:Be (a++(CM s++c)) (a.length:Int)=(s,((a.length+8+s.size:Nat):Int),true):=by
  unfold Be;rw [h1]
 unfold Cu;rw [h2];simp
theorem YK:∀ (l:List Int) (m:List Int) (a c:List UInt8) (bad:Bool),(∀ n∈l,0≤n∧n<9223372036854775808)→DL (a++(C9 (l++m)++c)) l.length ⟨(a.length:Int),bad⟩=(l,⟨((a.length+8*l.length:Nat):Int),bad⟩):=by
 refine aF (fun m a c bad _=>rfl) fun l n ih=>?_;intro m a c bad h;have h1:=ih (n::m) a c bad fun x hx=>h x (xm _ hx);rw [og,xh,nr,sx];unfold DL;rw [h1];have e:a++(C9 (l++n::m)++c)=(a++C9 l)++(CV n.toNat++(C9 m++c)):=by
  have:C9 (l++n::m)=C9 l++(CV n.toNat++C9 m):=by unfold C9;rw [pu,ox]
  rw [this];simp only [og]
 have h2:=YI (a:=a++C9 l) (c:=C9 m++c) (h n (by simp)) bad;rw [nr,Lj] at h2;dsimp only;rw [e,h2];rfl
theorem sY:∀ (l m:List Au) (a c:List UInt8) (bad:Bool),(∀ p∈l,p.key.size<9223372036854775808∧p.val.size<9223372036854775808)→C3 (a++(CL (l++m)++c)) l.length ⟨(a.length:Int),bad⟩=(l,⟨((a.length+(CL l).length:Nat):Int),bad⟩):=by
 refine aF (fun m a c bad _=>by rw [show (CL []).length=0 from rfl];rfl) fun l p ih=>?_;intro m a c bad h;have h1:=ih (p::m) a c bad fun x hx=>h x (xm _ hx);have hp:=h p (by simp);rw [og,xh,nr,sx];unfold C3;rw [h1];have e:a++(CL (l++p::m)++c)=(a++CL l)++(CM p.key++(CM p.val++(CL m++c))):=by
  have:CL (l++p::m)=CL l++((CM p.key++CM p.val)++CL m):=by unfold CL;rw [pu,ox]
  rw [this];simp only [og]
 have h2:=aV (a:=a++CL l) (c:=CM p.val++(CL m++c)) hp.1 bad;have h3:=aV (a:=a++CL l++CM p.key) (c:=CL m++c) hp.2 bad;rw [og (a++CL l)] at h3;rw [nr,IS] at h3;rw [nr] at h2 h3;dsimp only;rw [e,h2];dsimp only;rw [show a.length+(CL l).length+8+p.key.size=a.length+(CL l).length+(8+p.key.size) by omega,h3,QM,nr,nr,IS,IS];refine congrArg (fun z=>(l++[p],(⟨z,bad⟩:Ee))) ?_;omega
theorem VF {a c:List UInt8} {n most:Int} (h:0≤n∧n≤most∧n<9223372036854775808) (bad:Bool):BX (a++(CV n.toNat++c)) most ⟨(a.length:Int),bad⟩=(n,⟨((a.length+8:Nat):Int),bad⟩):=by
 unfold BX;rw [YI ⟨h.1,h.2.2⟩];exact if_pos ⟨h.1,h.2.1⟩
theorem rA {b:List UInt8} {i:Nat} {s:Ee} (h:i<k):(DL b k s).1[i]?=some (Bh b (BU b i s)).1:=by
 induction k with
 |zero=>omega
 |succ k ih=>
  have hl:∀ j,(DL b j s).1.length=j:=by
   intro j;induction j with
   |zero=>rfl
   |succ j ih=>unfold DL;dsimp only;rw [nr,ih];rfl
  unfold DL;dsimp only;rcases pg i k with h1|h1
  rw [List.getElem?_append_left (by rw [hl];exact h1)];exact ih h1;obtain rfl:i=k:=by omega
  rw [List.getElem?_append_right (by rw [hl];exact ou _),hl,Nat.sub_self];rfl
theorem uW (h:Pp r):BK (Dh r) ⟨0,false⟩=(r,⟨((Dh r).length:Nat),false⟩):=by
 have hk:=h.kind;have hp:=h.part;have hs:=h.sp;have ha:=h.att;have hw:=h.why;unfold BY at hk hp hs ha hw;have hset:=h.set;have hpr:=h.pairs;have k:Dh r=[]++(C9 ([r.kind,r.part,r.sp,r.att,r.why]++((r.set.length:Int)::r.set))++FD r.pairs):=rfl;have hn:=YK [r.kind,r.part,r.sp,r.att,r.why] ((r.set.length:Int)::r.set) [] (FD r.pairs) false (by intro n hn;simp only [pn,qx,or_false] at hn;rcases hn with rfl|rfl|rfl|rfl|rfl<;>omega);rw [←k] at hn;have hn:DL (Dh r) 5 ⟨0,false⟩=([r.kind,r.part,r.sp,r.att,r.why],⟨((40:Nat):Int),false⟩):=hn;have g:∀ i,i<5→some (Bh (Dh r) (BU (Dh r) i ⟨0,false⟩)).1=[r.kind,r.part,r.sp,r.att,r.why][i]?:=fun i hi=>by have:=rA (b:=Dh r) (s:=⟨0,false⟩) hi;rw [hn] at this;exact this.symm
 have g0:=Option.some.inj (g 0 (by decide));have g1:=Option.some.inj (g 1 (by decide));have g2:=Option.some.inj (g 2 (by decide));have g3:=Option.some.inj (g 3 (by decide));have g4:=Option.some.inj (g 4 (by decide));have h5:BU (Dh r) 5 ⟨0,false⟩=⟨((40:Nat):Int),false⟩:=by unfold BU;rw [hn]
 have hh:(C9 [r.kind,r.part,r.sp,r.att,r.why]).length=40:=Lj _;have e1:Dh r=C9 [r.kind,r.part,r.sp,r.att,r.why]++(CV ((r.set.length:Int)).toNat++(C9 r.set++FD r.pairs)):=by
  rw [k,q_];simp only [og,List.nil_append]
 have hc:=VF (a:=C9 [r.kind,r.part,r.sp,r.att,r.why]) (c:=C9 r.set++FD r.pairs) (n:=(r.set.length:Int)) (most:=6) (by omega) false;rw [←e1,hh] at hc;have e2:Dh r=(C9 [r.kind,r.part,r.sp,r.att,r.why]++CV ((r.set.length:Int)).toNat)++(C9 (r.set++[])++FD r.pairs):=by rw [e1,oy,og]
 have f:(C9 [r.kind,r.part,r.sp,r.att,r.why]++CV ((r.set.length:Int)).toNat).length=48:=by rw [nr,hh,FI]
 have hm:=YK r.set [] (C9 [r.kind,r.part,r.sp,r.att,r.why]++CV ((r.set.length:Int)).toNat) (FD r.pairs) false (fun n hn=>by have:=h.sets n hn;unfold BY at this;omega);rw [←e2,f] at hm;have hst:CN (Dh r) ⟨((40:Nat):Int),false⟩=(r.set,⟨((48+8*r.set.length:Nat):Int),false⟩):=by
  unfold CN;rw [hc];dsimp only;rw [qv];exact hm
 have e:Dh r=C9 (LZ r++r.set)++(CV ((r.pairs.length:Int)).toNat++(CL r.pairs++[])):=by unfold Dh FD;rw [oy,qv]
 have d:(C9 (LZ r++r.set)).length=48+8*r.set.length:=by rw [Lj,nr];show 8*(6+r.set.length)=_;omega
 have hd:=VF (a:=C9 (LZ r++r.set)) (c:=CL r.pairs++[]) (n:=(r.pairs.length:Int)) (most:=40) (by omega) false;rw [←e,d] at hd;have l:Dh r=(C9 (LZ r++r.set)++CV ((r.pairs.length:Int)).toNat)++(CL (r.pairs++[])++[]):=by rw [e,oy r.pairs,og]
 have j:(C9 (LZ r++r.set)++CV ((r.pairs.length:Int)).toNat).length=48+8*r.set.length+8:=by rw [nr,d,FI]
 have hq:=sY r.pairs [] (C9 (LZ r++r.set)++CV ((r.pairs.length:Int)).toNat) [] false (fun p hp=>by have:=h.prs p hp;unfold D3 at this;omega);rw [←l,j] at hq;have hpt:QY (Dh r) ⟨((48+8*r.set.length:Nat):Int),false⟩=(r.pairs,⟨((48+8*r.set.length+8+(CL r.pairs).length:Nat):Int),false⟩):=by
  unfold QY;rw [hd];dsimp only;rw [qv];exact hq
 have hlen:(Dh r).length=48+8*r.set.length+8+(CL r.pairs).length:=by
  rw [e,nr,d,nr,FI,oy];omega
 unfold BK;rw [h5,hst];dsimp only;rw [hpt,hlen,show Bh (Dh r) ⟨0,false⟩=Bh (Dh r) (BU (Dh r) 0 ⟨0,false⟩) from rfl,g0,g1,g2,g3,g4]
theorem uU {a c:List UInt8} {s:ByteArray} (h:s.size<9223372036854775808):Be (a++(CM s++c)) (a.length:Int)=(s,((a.length+8+s.size:Nat):Int),true):=by
 unfold Be;rw [Q0 h rfl]
theorem Xi {a c:List UInt8} (h:CG r):G7 (a++(CM (D6 (Dh r))++c)) (a.length:Int)=true∧(Be (a++(CM (D6 (Dh r))++c)) (a.length:Int)).2.1=((a++CM (D6 (Dh r))).length:Int)∧(BK (Br (Be (a++(CM (D6 (Dh r))++c)) (a.length:Int)).1) ⟨0,false⟩).1=r:=by
 have hm:=Lc h;have hl:=Pu hm;have h1:=uU (a:=a) (c:=c) (s:=D6 (Dh r)) (by rw [Mi];omega);have h2:=uW hm;unfold G7;rw [h1];dsimp only;rw [VB,h2];refine ⟨by simp [h],?_,U⟩;rw [nr,Pc,Mi];omega
theorem Zz {rs:List Bp}:∀ (a:List UInt8) (out:List Bp) (k:Nat),(∀ r∈rs,CG r)→rs.length<k→Gq (a++Ch rs) k (a.length:Int) out=(out++rs,((a++Ch rs).length:Int)):=by
 induction rs with
 |nil=>
  intro a out k _ hk;obtain ⟨k,rfl⟩:∃ j,k=j+1:=⟨k - 1,by simp only [ny] at hk;omega⟩;have e:a++Ch []=a:=oy _;have hn:G7 a (a.length:Int)=false:=by
   have h1:CE a (a.length:Int)=(0,0,false):=Md (by omega);have h2:Be a (a.length:Int)=(⟨#[]⟩,0,false):=QZ (by rw [h1]);unfold G7;rw [h2];rfl
  rw [e];unfold Gq;rw [hn,oy];rfl
 |cons r rs ih=>
  intro a out k h hk;obtain ⟨k,rfl⟩:∃ j,k=j+1:=⟨k - 1,by simp only [nz] at hk;omega⟩;have e:a++Ch (r::rs)=a++(CM (D6 (Dh r))++Ch rs):=by unfold Ch;rw [ox]
  obtain ⟨g1,g2,g3⟩:=Xi (h r (od ..));have h2:=ih (a++CM (D6 (Dh r))) (out++[r]) k (fun x hx=>h x (ow _ hx)) (by simp only [nz] at hk;omega);rw [og a] at h2;rw [e];unfold Gq;rw [if_pos g1,g2,g3,h2,og];rfl
theorem nD (rs:List Bp):rs.length≤(Ch rs).length:=by
 induction rs with
 |nil=>exact oc _
 |cons r rs ih=>
  have e:Ch (r::rs)=CM (D6 (Dh r))++Ch rs:=by unfold Ch;rw [ox]
  rw [e,nr,Pc,nz];omega
theorem Zx {bs:List UInt8}:∀ (k:Nat) (a:Int) (out:List Bp),(∀ r∈out,CG r)→∀ r∈(Gq bs k a out).1,CG r
 |0,_,_,h=>h
 |k+1,a,out,h=>by
  unfold Gq
  split
  ·next hy=>
   refine Zx k _ _ fun r hr=>?_
   rcases pj.1 hr with g|g
   ·exact h r g
   ·rw [pc.1 g];exact (L1.1 hy).2.2.2
  ·exact h
theorem ZB (bs:List UInt8):∀ r∈(CQ bs).1,CG r:=Zx _ _ _ fun r h=>by cases h
theorem Zw {bs:List UInt8}:∀ (k:Nat) (a:Int) (out:List Bp),0≤a→a≤(bs.length:Int)→(out.length:Int)≤a→0≤(Gq bs k a out).2∧(Gq bs k a out).2≤(bs.length:Int)∧((Gq bs k a out).1.length:Int)≤(Gq bs k a out).2
 |0,_,_,h0,h1,h2=>⟨h0,h1,h2⟩
 |k+1,a,out,h0,h1,h2=>by
  unfold Gq
  split
  ·next hy=>
   have g:=Uj (L1.1 hy).1
   exact Zw k _ _ (by omega) g.2.1 (by rw [nr,sx];omega)
  ·exact ⟨h0,h1,h2⟩
theorem OR (bs:List UInt8):0≤(CQ bs).2∧(CQ bs).2≤(bs.length:Int)∧((CQ bs).1.length:Int)≤(CQ bs).2:=Zw _ _ _ (sl _) (tf _) (sl _)
theorem ZA {rs:List Bp} (h:∀ r∈rs,CG r):CQ (Ch rs)=(rs,((Ch rs).length:Int)):=by
 have h1:=nD rs;have:=Zz (rs:=rs) [] [] ((Ch rs).length+1) h (by omega);simpa [CQ] using this
/-! ### Chunks that wait -/
abbrev Ey:=List ((Int×Int)×List (List Au))
def DS:Ey→Int→Int→List (List Au)
 |[],_,_=>[]
 |e::s,a,b=>if e.1.1=a∧e.1.2=b then e.2 else DS s a b
def HY:Ey→Int→Int→List Au→Ey
 |[],a,b,x=>[((a,b),[x])]
 |e::s,a,b,x=>if e.1.1=a∧e.1.2=b then (e.1,e.2++[x])::s else e::HY s a b x
def EU (s:Ey) (a b:Int):Int:=((DS s a b).length:Int)
def Re (s:Ey) (a b q:Int):Prop:=q=EU s a b∧(0≤a∧a<6)∧(1≤b∧b≤3)∧q<40
instance (s:Ey) (a b q:Int):Decidable (Re s a b q):=by unfold Re;infer_instance
def Fl (s:Ey) (a b q:Int) (x:List Au):Ey:=if Re s a b q then HY s a b x else s
def BZ (s:Ey) (a b n:Int):Option (List Au):=if n<0∨EU s a b≠n then none else some (DS s a b).flatten
def Iq (s:Ey) (a:Int):Ey:=s.filter fun e=>decide (e.1.1≠a)
/-! ### A reducer -/
structure Ew where
 merged:Bool
 pairs:List Au
 told:Bool
 att:Int
 cnt:Int
def O7:Ew:=⟨false,[],false,0,0⟩
def B7 {α:Type} (g:Nat→α) (k:Nat) (v:α):Nat→α:=fun j=>if j=k then v else g j
theorem HX (g:Nat→α) (k:Nat) (v:α):B7 g k v k=v:=if_pos rfl
theorem Ip (g:Nat→α) {j:Nat} (v:α) (h:j≠k):B7 g k v j=g j:=if_neg h
structure A9 where
 part:Int
 ep:Int
 g:Nat→Ew
 st:Ey
 sets:List (List Int)
def Me (part ep:Int):A9:=⟨part,ep,fun _=>O7,[],[]⟩
def E1 (n:Nat) (R:A9) (x:Bp):A9:=
 if x.part≠R.part then R else
 let R1:A9:=if x.kind=4∧(0≤x.sp∧x.sp<n)∧(R.g x.sp.toNat).merged=false then { R with g:=B7 R.g x.sp.toNat { R.g x.sp.toNat with merged:=true,pairs:=x.pairs } } else R
 if x.kind=5 then { R1 with sets:=R1.sets++[x.set] } else R1
def EF (n:Nat) (part ep:Int) (rs:List Bp):A9:=rs.foldl (E1 n) (Me part ep)
def BF (n:Nat) (R:A9):List Int:=((qa n).filter fun i=>(R.g i).merged).map fun (i:Nat)=>(i:Int)
def Ji (n:Nat) (R:A9) (set:List Int):List Au:=((qa n).filter fun i=>(R.g i).merged && decide ((i:Int)∈set)).flatMap fun i=>(R.g i).pairs
def TX (D:B5) (J:AS) (R:A9) (set:List Int):List Au×Int:=FJ D J.red (srt (Ji J.us.length R set)) J.fuel false
def Gp (D:B5) (J:AS) (R:A9):List Au×Int×Bool:=
 if (BF J.us.length R).length<J.us.length then ([],0,false) else ((TX D J R (BF J.us.length R)).1,(TX D J R (BF J.us.length R)).2,true)
theorem TM (n:Nat) (R:A9):(BF n R).length≤n:=by
 unfold BF;rw [nu];exact ot (ql _ _) (by simp)
theorem Yt (n:Nat) (R:A9):BF (n+1) R=BF n R++(if (R.g n).merged then [(n:Int)] else []):=by
 unfold BF;rw [rn,po,oa];cases h:(R.g n).merged<;>simp [h]
theorem wK (n:Nat) (R:A9) (set:List Int):Ji (n+1) R set=Ji n R set++(if (R.g n).merged=true∧(n:Int)∈set then (R.g n).pairs else []):=by
 unfold Ji;rw [rn,po,pu];by_cases h:(R.g n).merged=true∧(n:Int)∈set;rw [if_pos h];simp [h.1,h.2];rw [if_neg h];have:((R.g n).merged && decide ((n:Int)∈set))=false:=by
  cases h1:(R.g n).merged;rfl;simpa using fun h2=>h ⟨h1,h2⟩
 simp [this]
theorem YB (n:Nat) (part ep:Int) (rs:List Bp) (x:Bp):EF n part ep (rs++[x])=E1 n (EF n part ep rs) x:=by
 unfold EF;rw [vy];rfl
theorem uY (n:Nat) (R:A9) (x:Bp):(E1 n R x).part=R.part∧(E1 n R x).ep=R.ep∧(E1 n R x).st=R.st:=by
 unfold E1;dsimp only;split;exact ⟨U,U,U⟩;split<;>(split<;>exact ⟨rfl,rfl,rfl⟩)
theorem OC (n:Nat) (part ep:Int) (rs:List Bp):(EF n part ep rs).part=part∧(EF n part ep rs).ep=ep∧(EF n part ep rs).st=[]:=by
 have:∀ (rs:List Bp) (R:A9),(rs.foldl (E1 n) R).part=R.part∧(rs.foldl (E1 n) R).ep=R.ep∧(rs.foldl (E1 n) R).st=R.st:=by
  intro rs;induction rs with
  |nil=>exact fun R=>⟨rfl,rfl,rfl⟩
  |cons x rs ih=>
   intro R;obtain ⟨h1,h2,h3⟩:=ih (E1 n R x);obtain ⟨g1,g2,g3⟩:=uY n R x;exact ⟨h1.trans g1,h2.trans g2,h3.trans g3⟩
 exact this rs (Me part ep)
/-! ### What a part knows when it begins -/
/-! ### Records of all splits, in whatever order -/
/-! ### What it hears, what it tells -/
def Ek (J:AS) (R:A9) (n:Nat):A9×List Bp:=
 if (R.g n).told=false then (R,[]) else
 match BZ R.st n (R.g n).att (R.g n).cnt with
 |none=>(R,[])
 |some ps=>
  if 40<ps.length then (R,[]) else
  let R1:A9:={ R with g:=B7 R.g n { R.g n with merged:=true,pairs:=ps },st:=Iq R.st n }
  let l:=BF J.us.length R1
  if (l.length:Int)∈J.marks then ({ R1 with sets:=R1.sets++[l] },[⟨4,R.part,n,(R.g n).att,0,[],ps⟩,⟨5,R.part,0,0,0,l,[]⟩])
  else (R1,[⟨4,R.part,n,(R.g n).att,0,[],ps⟩])
def GN (J:AS) (R:A9) (m:Bu):Prop:=¬ (0≤m.sp∧m.sp<J.us.length)∨m.kind≠2∨m.part≠R.part
instance (J:AS) (R:A9) (m:Bu):Decidable (GN J R m):=by unfold GN;infer_instance
def Il (R:A9) (m:Bu):Prop:=(R.g m.sp.toNat).merged=false∧m.pairs.length≤8∧Lb m.pairs
instance (R:A9) (m:Bu):Decidable (Il R m):=by unfold Il;infer_instance
def GO (J:AS) (R:A9) (m:Bu):A9×List Bp:=
 if Il R m then Ek J { R with st:=Fl R.st m.sp m.att m.seq m.pairs } m.sp.toNat else (R,[])
def RK (R:A9) (m:Bu):Bu:=
 ⟨3,m.sp,m.att,R.part,0,if (R.g m.sp.toNat).merged=true then 40 else EU R.st m.sp m.att,R.ep,0,[],[]⟩
def AQ (J:AS) (R:A9) (m:Bu):A9×Bu×List Bp:=
 if GN J R m then (R,OA,[]) else ((GO J R m).1,RK (GO J R m).1 m,(GO J R m).2)
def Mt (J:AS) (t:Int) (R:A9) (sp att:Int):Prop:=¬ (0≤sp∧sp<J.us.length)∨(R.g sp.toNat).merged=true∨(R.g sp.toNat).told=true∨att<1∨t<att
instance (J:AS) (t:Int) (R:A9) (sp att:Int):Decidable (Mt J t R sp att):=by unfold Mt;infer_instance
def EB (J:AS) (t:Int) (R:A9) (sp att cnt:Int):A9×List Bp:=
 if Mt J t R sp att then (R,[]) else Ek J { R with g:=B7 R.g sp.toNat { R.g sp.toNat with told:=true,att:=att,cnt:=cnt } } sp.toNat
structure U2 where
 set:List Int
 why:Int
 pairs:List Au
def BP (D:B5) (J:AS) (R:A9):Bu:=
 if (Gp D J R).2.2=true then ⟨8,0,0,R.part,0,0,R.ep,(Gp D J R).2.1,[],[]⟩ else ⟨6,0,0,R.part,0,0,R.ep,0,BF J.us.length R,[]⟩
def CR (vS vM vC vR vK:Value) (J:AS) (w t o part ep:Int) (g:Nat→Ew) (hv:Nat→Value) (sb:Nat) (vs:Value):List Value:=
 [vS,.int .i64 J.parts,vM,vC,vR,.int .i64 J.chunk,.int .i64 J.window,.int .i64 J.fuel,vK,.int .i64 w,.int .i64 t,.int .i64 o,.int .i64 part,.int .i64 ep,
  .bool (g 0).merged,hv 0,.bool (g 0).told,.int .i64 (g 0).att,.int .i64 (g 0).cnt,
  .bool (g 1).merged,hv 1,.bool (g 1).told,.int .i64 (g 1).att,.int .i64 (g 1).cnt,
  .bool (g 2).merged,hv 2,.bool (g 2).told,.int .i64 (g 2).att,.int .i64 (g 2).cnt,
  .bool (g 3).merged,hv 3,.bool (g 3).told,.int .i64 (g 3).att,.int .i64 (g 3).cnt,
  .bool (g 4).merged,hv 4,.bool (g 4).told,.int .i64 (g 4).att,.int .i64 (g 4).cnt,
  .bool (g 5).merged,hv 5,.bool (g 5).told,.int .i64 (g 5).att,.int .i64 (g 5).cnt,
  .pointer (some ⟨sb,0,none⟩),vs]
section
variable {vS vM vC vR vK vs:Value} {J:AS} {w t o part ep:Int} {g:Nat→Ew} {hv:Nat→Value} {sb j:Nat}
theorem Kv (h:j<6):(CR vS vM vC vR vK J w t o part ep g hv sb vs)[14+j*5+0]?=some (.bool (g j).merged):=by
 match j,h with
 |0,_=>rfl
 |1,_=>rfl
 |2,_=>rfl
 |3,_=>rfl
 |4,_=>rfl
 |5,_=>rfl
theorem vE (h:j<6):(CR vS vM vC vR vK J w t o part ep g hv sb vs)[14+j*5+1]?=some (hv j):=by
 match j,h with
 |0,_=>rfl
 |1,_=>rfl
 |2,_=>rfl
 |3,_=>rfl
 |4,_=>rfl
 |5,_=>rfl
theorem ZG (h:j<6):(CR vS vM vC vR vK J w t o part ep g hv sb vs)[14+j*5+2]?=some (.bool (g j).told):=by
 match j,h with
 |0,_=>rfl
 |1,_=>rfl
 |2,_=>rfl
 |3,_=>rfl
 |4,_=>rfl
 |5,_=>rfl
theorem ZH (h:j<6):(CR vS vM vC vR vK J w t o part ep g hv sb vs)[14+j*5+3]?=some (Y Z (g j).att):=by
 match j,h with
 |0,_=>rfl
 |1,_=>rfl
 |2,_=>rfl
 |3,_=>rfl
 |4,_=>rfl
 |5,_=>rfl
theorem vF (h:j<6):(CR vS vM vC vR vK J w t o part ep g hv sb vs)[14+j*5+4]?=some (Y Z (g j).cnt):=by
 match j,h with
 |0,_=>rfl
 |1,_=>rfl
 |2,_=>rfl
 |3,_=>rfl
 |4,_=>rfl
 |5,_=>rfl
theorem ZJ (h:j<6) {b:Bool}:Fj (CR vS vM vC vR vK J w t o part ep g hv sb vs) (14+j*5+0) [b]=CR vS vM vC vR vK J w t o part ep (B7 g j { g j with merged:=b }) (hv) sb vs:=by
 match j,h with
 |0,_=>rfl
 |1,_=>rfl
 |2,_=>rfl
 |3,_=>rfl
 |4,_=>rfl
 |5,_=>rfl
theorem ZK (h:j<6):Fj (CR vS vM vC vR vK J w t o part ep g hv sb vs) (14+j*5+1) [v]=CR vS vM vC vR vK J w t o part ep (g) (B7 hv j v) sb vs:=by
 match j,h with
 |0,_=>rfl
 |1,_=>rfl
 |2,_=>rfl
 |3,_=>rfl
 |4,_=>rfl
 |5,_=>rfl
theorem vG (h:j<6) {b:Bool}:Fj (CR vS vM vC vR vK J w t o part ep g hv sb vs) (14+j*5+2) [b]=CR vS vM vC vR vK J w t o part ep (B7 g j { g j with told:=b }) (hv) sb vs:=by
 match j,h with
 |0,_=>rfl
 |1,_=>rfl
 |2,_=>rfl
 |3,_=>rfl
 |4,_=>rfl
 |5,_=>rfl
theorem vH (h:j<6) {n:Int}:Fj (CR vS vM vC vR vK J w t o part ep g hv sb vs) (14+j*5+3) [n]=CR vS vM vC vR vK J w t o part ep (B7 g j { g j with att:=n }) (hv) sb vs:=by
 match j,h with
 |0,_=>rfl
 |1,_=>rfl
 |2,_=>rfl
 |3,_=>rfl
 |4,_=>rfl
 |5,_=>rfl
theorem vI (h:j<6) {n:Int}:Fj (CR vS vM vC vR vK J w t o part ep g hv sb vs) (14+j*5+4) [n]=CR vS vM vC vR vK J w t o part ep (B7 g j { g j with cnt:=n }) (hv) sb vs:=by
 match j,h with
 |0,_=>rfl
 |1,_=>rfl
 |2,_=>rfl
 |3,_=>rfl
 |4,_=>rfl
 |5,_=>rfl
end
def Ln (g:Nat→Ew) (hv:Nat→Value):Nat→SP:=fun i=>Aa Ak (hv i) (g i).pairs
def Di (g:Nat→Ew) (hv:Nat→Value):SP:=Cg (Ln g hv) (qa 6)
def T8 (g:Nat→Ew) (hv:Nat→Value) (i:Nat):SP:=Cg (Ln g hv) ((qa 6).eraseIdx i)
theorem Zq {n i:Nat} (h:i<n):(qa n)[i]?=some i:=by simp [h]
theorem Vu {f f':α→SP} (h:∀ x∈l,f x=f' x):Cg f l=Cg f' l:=by
 unfold Cg;rw [xv h]
theorem gD {n i j:Nat} (hi:i<n) (h:j∈(qa n).eraseIdx i):j≠i:=by
 intro e;subst e;have hn:((qa n).eraseIdx j).Nodup:=(zk).sublist (xg _ _);have hp:=PE _ j (Zq hi);have:=hp.nodup_iff.1 zk;exact (rx.1 this).1 h
theorem Vw {f:α→SP} {w:World} (h:(Cg f l).P w F) {x:α} (hx:x∈l):(f x).P w F:=DF.mem h (sh hx)
section
variable {w0 w:World} {F0:BD} {As Rs:List SP} {g:Nat→Ew} {hv:Nat→Value} {i:Nat}
theorem Hd.prsO (hi:i<6) (H:Hd w0 F0 w (Di g hv::As) Rs):Hd w0 F0 w (Aa Ak (hv i) (g i).pairs::T8 g hv i::As) Rs:=H.bigO (f:=Ln g hv) i (Zq hi)
theorem Hd.bigGI {f f':Nat→SP} {n:Nat} (hi:i<n) (he:∀ j,j≠i→f j=f' j) (H:Hd w0 F0 w (f' i::Cg f ((qa n).eraseIdx i)::As) Rs):Hd w0 F0 w (Cg f' (qa n)::As) Rs:=by
 rw [Vu fun j hj=>he j (gD hi hj)] at H;have:=H.bigI (f:=f') i (by simpa using hi);rwa [show (qa n).set i i=qa n from ?_] at this
 apply sd ;intro k;rw [qf];split;rename_i e;subst e;simp [hi];rfl
theorem Hd.prsI (hi:i<6) {x:Ew} (H:Hd w0 F0 w (Aa Ak v x.pairs::T8 g hv i::As) Rs):Hd w0 F0 w (Di (B7 g i x) (B7 hv i v)::As) Rs:=by
 refine Hd.bigGI (f:=Ln g hv) (f':=Ln (B7 g i x) (B7 hv i v)) hi (fun j hj=>?_) ?_;unfold Ln;rw [Ip g x hj,Ip _ v hj];show Hd w0 F0 w (Aa Ak (B7 hv i v i) (B7 g i x i).pairs::T8 g hv i::As) Rs;rw [HX,HX];exact H
theorem Y8 (hi:i<6) (h:(Di g hv).P w F):(An Ak (hv i) (g i).pairs).P w F:=Bi F (Vw h (x:=i) (um.2 hi))
theorem s4:∀ {w:World} {F:BD},(Di (fun _=>O7) (fun _=>V none 0 0)).P w F:=by
 intro w F;have:∀ l:List Nat,DF (l.map (Ln (fun _=>O7) (fun _=>V none 0 0))) w F:=by
  intro l;induction l with
  |nil=>trivial
  |cons a l ih=>exact ⟨none_,F,fun _ h=>h.elim,fun _ h=>h,fun _ h=>h.elim,T1 Ak w none_ trivial,ih⟩
 exact this _
theorem Hd.prsN (H:Hd w0 F0 w As Rs):Hd w0 F0 w (Di (fun _=>O7) (fun _=>V none 0 0)::As) Rs:=H.shut (Bs:=[]) fun _ _=>s4
theorem iR {d:Kd α} {us:List (Value×List α)} (h:(An GG v (us.map fun u=>Id u.1)).P w F) (hu:∀ p∈us,(An d p.1 p.2).P w F):(An (Bd d) v us).P w F:=by
 obtain ⟨A,m,c,e,h1,h2,h3,cs,h4,h5⟩:=h;refine ⟨A,m,c,e,by simpa using h1,h2,h3,cs,h4,?_⟩;have hcs:cs=(us.map fun u=>Id u.1).flatMap NY:=BB.flat_eq.1 h5;have:(us.map fun u=>Id u.1).flatMap NY=us.map (·.1):=by
  clear h5 hcs h1
  induction us with
  |nil=>rfl
  |cons p us ih=>
   obtain ⟨A,c,e,_⟩:=Fk (hu p (od ..));rw [pf,ox,ih fun q hq=>hu q (ow _ hq),pf,e];rfl
 rw [hcs,this];exact ZN hu
end
/-! ### A row of headers held, and each slice held: a slice of slices held -/
section
variable {α:Type} {d:Kd α} {w0 w:World} {F F0:BD} {As Rs:List SP} {v:Value} {us:List (Value×List α)}
def CZ (us:List (Value×List α)):List HD:=us.map fun u=>Id u.1
def MV (d:Kd α) (us:List (Value×List α)):SP:=Cg (fun u:Value×List α=>Aa d u.1 u.2) us
theorem ZP:∀ {us:List (Value×List α)} {F:BD},(MV d us).P w F→DN (Bd d) w F us (us.map (·.1))
 |[],_,_=>rfl
 |u::us,F,⟨F1,F2,h1,h2,h3,a,s⟩=>⟨F1,F2,[u.1],us.map (·.1),h1,h2,h3,rfl,⟨rfl,a⟩,ZP (us:=us) s⟩
theorem WY (h:∀ u∈us,∃ A n c,u.1=V A n c):(CZ us).flatMap NY=us.map (·.1):=by
 unfold CZ;induction us with
 |nil=>rfl
 |cons p us ih=>
  obtain ⟨A,n,c,e⟩:=h p (od ..);rw [pf,ox,ih fun q hq=>h q (ow _ hq),pf,e];rfl
theorem jH {w:World} {F:BD} (h:(MV d us).P w F):∀ u∈us,∃ A n c,u.1=V A n c:=fun u hu=>by
 obtain ⟨A,c,e,_⟩:=Fk (Bi F (Vw h hu))
 exact ⟨A,_,c,e⟩
theorem Hd.hdI (H:Hd w0 F0 w (Aa GG v (CZ us)::MV d us::As) Rs):Hd w0 F0 w (Aa (Bd d) v us::As) Rs:=by
 refine H.turn2 fun F1 F2 hd h1 h2=>?_;obtain ⟨A,n,c,e,hl,cs,a,b,s1,s2,dj,row,reps⟩:=h1;have hcs:cs=us.map (·.1):=(BB.flat_eq.1 reps.toR).trans (WY (jH h2));subst hcs;exact ⟨A,n,c,e,by simpa [CZ] using hl,_,a,F2,fun k hk=>.inl (s1 k hk),fun k hk=>.inr hk,fun k hk hg=>hd k (s1 k hk) hg,row,ZP h2⟩
theorem iS {F:BD} (h:(An (Bd d) v us).P w F):(An GG v (CZ us)).P w F:=by
 obtain ⟨A,m,c,e,h1,h2,h3,cs,h4,h5⟩:=h;refine ⟨A,m,c,e,by simpa [CZ] using h1,h2,h3,cs,h4,BB.flat_eq.2 ?_⟩;have hall:=WX h5;have:∀ {us:List (Value×List α)} {cs:List Value},BB (Bd d) w F us cs→cs=us.map (·.1):=by
  intro us;induction us with
  |nil=>intro cs h;exact h
  |cons u us ih=>rintro cs ⟨c,cs',e,h1,h2⟩;rw [e,h1.1,ih h2];rfl
 rw [this h5];exact (WY fun u hu=>by
  obtain ⟨A,c,e,_⟩:=Fk (hall u hu);exact ⟨A,_,c,e⟩).symm
end
/-! ### Told anew -/
section
variable {w0 w:World} {F0:BD} {As Rs:List SP} {g g':Nat→Ew} {hv:Nat→Value} {i:Nat}
theorem ZI {vs:Value} {J:AS} {w t o part ep:Int} (h:∀ i,(g' i).merged=(g i).merged∧(g' i).told=(g i).told∧(g' i).att=(g i).att∧(g' i).cnt=(g i).cnt):
  CR vS vM vC vR vK J w t o part ep g hv sb vs=CR vS vM vC vR vK J w t o part ep g' hv sb vs:=by
 unfold CR;rw [(h 0).1,(h 0).2.1,(h 0).2.2.1,(h 0).2.2.2,(h 1).1,(h 1).2.1,(h 1).2.2.1,(h 1).2.2.2,(h 2).1,(h 2).2.1,(h 2).2.2.1,(h 2).2.2.2,(h 3).1,(h 3).2.1,(h 3).2.2.1,(h 3).2.2.2,(h 4).1,(h 4).2.1,(h 4).2.2.1,(h 4).2.2.2,(h 5).1,(h 5).2.1,(h 5).2.2.1,(h 5).2.2.2]
theorem Hd.prsU (hi:i<6) {x:Ew} (H:Hd w0 F0 w (Aa Ak v x.pairs::Di g hv::As) Rs):Hd w0 F0 w (Di (B7 g i x) (B7 hv i v)::As) Rs:=by
 have h1:=(H.perm (List.Perm.swap _ _ _)).prsO hi;exact Hd.prsI hi ((h1.drop.perm (List.Perm.swap _ _ _)))
def pick (g:Nat→Ew) (set:List Int) (n:Nat):List Nat:=(qa n).filter fun i=>(g i).merged && decide ((i:Int)∈set)
def Gh (g:Nat→Ew) (hv:Nat→Value) (set:List Int) (n:Nat):List (Value×List Au):=(pick g set n).map fun i=>(hv i,(g i).pairs)
theorem T6 (g:Nat→Ew) (hv:Nat→Value) (set:List Int) (n:Nat):Gh g hv set (n+1)=Gh g hv set n++(if (g n).merged=true∧(n:Int)∈set then [(hv n,(g n).pairs)] else []):=by
 unfold Gh pick;rw [rn,po,oa];by_cases h:(g n).merged=true∧(n:Int)∈set;rw [if_pos h];simp [h.1,h.2];rw [if_neg h];have:((g n).merged && decide ((n:Int)∈set))=false:=by
  cases h1:(g n).merged;rfl;simpa using fun h2=>h ⟨h1,h2⟩
 simp [this]
theorem Y0 (R:A9) (hv:Nat→Value) (set:List Int) (n:Nat):Ds (Gh R.g hv set n)=Ji n R set:=by
 unfold Ds Gh Ji pick;rw [List.flatMap_map]
theorem sU (g:Nat→Ew) (hv:Nat→Value) (set:List Int) (n:Nat):(Gh g hv set n).length≤n:=by
 unfold Gh pick;rw [nu];exact ot (ql _ _) (by simp)
theorem sV {set:List Int} {n:Nat} (hn:n≤6) (h:(Di g hv).P w F):∀ p∈Gh g hv set n,(An Ak p.1 p.2).P w F:=by
 intro p hp;obtain ⟨j,hj,rfl⟩:=pi.1 hp;have:=um.1 (re.1 hj).1;exact Y8 (by omega) h
theorem Z2 {R:A9} {set:List Int} {b:Nat} (h:∀ i,(R.g i).pairs.length≤b):∀ n,(Ji n R set).length≤n*b
 |0=>oc _
 |n+1=>by
  have ih:=Z2 (set:=set) h n
  have:=h n
  rw [wK,nr,pw]
  split
  omega
  simp only [ny];omega
end
theorem Hd.prsFormR {w:World} {g:Nat→Ew} {i:Nat} (j:Nat) (hj:Rs[j]?=some (Di g hv)) (hi:i<6) (H:Hd w0 F0 w As Rs):∃ A c,hv i=V A (g i).pairs.length c∧(g i).pairs.length≤c∧c≤9223372036854775807∧Plain A:=
 H.factR (nt hj) fun F h=>Fk (Y8 hi h)
theorem uZ {n:Nat} {N:A9} {x:Bp} (h1:x.part≠N.part):E1 n N x=N:=if_pos h1
theorem Q3 {n:Nat} {N:A9} {x:Bp} (h1:x.part=N.part) (h4:¬ (x.kind=4∧(0≤x.sp∧x.sp<n)∧(N.g x.sp.toNat).merged=false)) (h5:x.kind≠5):E1 n N x=N:=by
 unfold E1;dsimp only;rw [if_neg (fun h=>h h1),if_neg h5,if_neg h4]
theorem uX {n:Nat} {N:A9} {x:Bp} (h1:x.part=N.part) (h4:x.kind=4) (hr:0≤x.sp∧x.sp<n) (hm:(N.g x.sp.toNat).merged=false):E1 n N x={ N with g:=B7 N.g x.sp.toNat { N.g x.sp.toNat with merged:=true,pairs:=x.pairs } }:=by
 unfold E1;dsimp only;rw [if_neg (fun h=>h h1),if_neg (show ¬ x.kind=5 by omega),if_pos ⟨h4,hr,hm⟩]
theorem Nr {n:Nat} {N:A9} {x:Bp} (h1:x.part=N.part) (h5:x.kind=5):E1 n N x={ N with sets:=N.sets++[x.set] }:=by
 unfold E1;dsimp only;rw [if_neg (fun h=>h h1),if_pos h5,if_neg (fun h=>by have:=h.1;omega)]
theorem IN {n:Nat} {p ep:Int} {recs:List Ao} {x:Ao} {R a:A9} (hR:R=EF n p ep ((recs.take k).map Ao.p)) (hx:recs[k]?=some x) (e:E1 n R x.p=a):a=EF n p ep ((recs.take (k+1)).map Ao.p):=by
 rw [Dd hx,oa];show a=EF n p ep (_++[x.p]);rw [YB,←hR,e]
theorem qL {n:Nat} {p ep:Int} {b:Nat}:∀ {rs:List Bp},(∀ r∈rs,r.pairs.length≤b)→∀ i,((EF n p ep rs).g i).pairs.length≤b:=by
 have:∀ (rs:List Bp) (R:A9),(∀ r∈rs,r.pairs.length≤b)→(∀ i,(R.g i).pairs.length≤b)→∀ i,((rs.foldl (E1 n) R).g i).pairs.length≤b:=by
  intro rs;induction rs with
  |nil=>intro R _ h;exact h
  |cons x rs ih=>
   intro R hr h;refine ih (E1 n R x) (fun r a=>hr r (ow _ a)) fun i=>?_;have hx:=hr x (od ..);have key:∀ (R1:A9) (c:Prop) [Decidable c],(if c then { R1 with sets:=R1.sets++[x.set] } else R1).g=R1.g:=by
    intro R1 c _;split<;>rfl
   unfold E1;dsimp only;split;exact h i;rw [key];split;dsimp only;by_cases e:i=x.sp.toNat;subst e;rw [HX];exact hx;rw [Ip _ _ e];exact h i;exact h i
 intro rs hr;exact this rs (Me p ep) hr fun i=>oc _
def Mh (st:Ey):Prop:=∀ a b,(DS st a b).length≤40∧∀ x∈DS st a b,x.length≤8
structure C7 (n:Nat) (R:A9):Prop where
 pairs:∀ i,(R.g i).pairs.length≤1000
 st:Mh R.st
 sets:R.sets.length≤n
 setl:∀ s∈R.sets,s.length≤1000
theorem C7.mono {n m:Nat} {R:A9} (h:C7 n R) (hm:n≤m):C7 m R:=⟨h.pairs,h.st,ot h.sets hm,h.setl⟩
theorem gO {l:List (List Au)} {n m:Nat} (h1:l.length≤n) (h2:∀ x∈l,x.length≤m):l.flatten.length≤n*m:=by
 have:∀ l:List (List Au),(∀ x∈l,x.length≤m)→l.flatten.length≤l.length*m:=by
  intro l;induction l with
  |nil=>intro _;simp
  |cons x l ih=>
   intro h;have h3:=ih fun y hy=>h y (ow _ hy);have h4:=h x (od ..);rw [List.flatten_cons,nr,nz,pw];omega
 exact ot (this l h2) (qp _ h1)
theorem C7.flat {n:Nat} {R:A9} (h:C7 n R) (a b:Int):(DS R.st a b).flatten.length≤320:=gO (h.st a b).1 (h.st a b).2
theorem aD (c a b:Int):∀ st:Ey,DS (Iq st c) a b=if a=c then [] else DS st a b
 |[]=>by unfold Iq;simp [DS]
 |e::s=>by
  have ih:=aD c a b s
  unfold Iq at ih ⊢
  by_cases h:e.1.1=c
  rw [qg (by simpa using h),ih]
  by_cases h2:a=c
  rw [if_pos h2,if_pos h2]
  rw [if_neg h2,if_neg h2]
  exact (if_neg (fun h3=>h2 (h3.1.symm.trans h))).symm
  rw [pq (p:=fun e:(Int×Int)×List (List Au)=>decide (e.1.1≠c)) (decide_eq_true h)]
  show (if e.1.1=a∧e.1.2=b then e.2 else DS (List.filter _ s) a b)=if a=c then [] else (if e.1.1=a∧e.1.2=b then e.2 else DS s a b)
  rw [ih]
  by_cases h2:a=c
  rw [if_pos h2,if_pos h2,if_neg fun h3=>h (h3.1.trans h2)]
  rw [if_neg h2,if_neg h2]
theorem aC (c d a b:Int) (x:List Au):∀ st:Ey,DS (HY st c d x) a b=if c=a∧d=b then DS st a b++[x] else DS st a b
 |[]=>by
  show (if c=a∧d=b then [x] else DS [] a b)=_
  split<;>rfl
 |e::s=>by
  have ih:=aC c d a b x s
  show DS (if e.1.1=c∧e.1.2=d then (e.1,e.2++[x])::s else e::HY s c d x) a b=if c=a∧d=b then (if e.1.1=a∧e.1.2=b then e.2 else DS s a b)++[x] else (if e.1.1=a∧e.1.2=b then e.2 else DS s a b)
  by_cases h:e.1.1=c∧e.1.2=d
  rw [if_pos h]
  show (if e.1.1=a∧e.1.2=b then e.2++[x] else DS s a b)=_
  by_cases h2:c=a∧d=b
  have h3:e.1.1=a∧e.1.2=b:=⟨h.1.trans h2.1,h.2.trans h2.2⟩
  rw [if_pos h2,if_pos h3,if_pos h3]
  have h3:¬ (e.1.1=a∧e.1.2=b):=fun h4=>h2 ⟨h.1.symm.trans h4.1,h.2.symm.trans h4.2⟩
  rw [if_neg h2,if_neg h3,if_neg h3]
  rw [if_neg h]
  show (if e.1.1=a∧e.1.2=b then e.2 else DS (HY s c d x) a b)=_
  rw [ih]
  by_cases h2:c=a∧d=b
  have h3:¬ (e.1.1=a∧e.1.2=b):=fun h4=>h ⟨h4.1.trans h2.1.symm,h4.2.trans h2.2.symm⟩
  rw [if_pos h2,if_neg h3,if_neg h3,if_pos h2]
  rw [if_neg h2,if_neg h2]
theorem Mh.drop {st:Ey} (h:Mh st) (c:Int):Mh (Iq st c):=by
 intro a b;rw [aD];split;exact ⟨by simp,fun x hx=>by cases hx⟩;exact h a b
theorem Mh.put {st:Ey} (h:Mh st) {a b q:Int} {x:List Au} (hx:x.length≤8):Mh (Fl st a b q x):=by
 unfold Fl;split;rename_i hm;intro c d;rw [aC];split;rename_i e;obtain ⟨rfl,rfl⟩:=e;have h1:=hm.1;have h2:=hm.2.2.2;unfold EU at h1;refine ⟨by rw [nr,sx];omega,fun y hy=>?_⟩;rcases pj.1 hy with hy|hy
 exact (h _ _).2 y hy;rw [pc.1 hy];exact hx;exact h c d;exact h
theorem C7.looks {n:Nat} {J:AS} {R:A9} (h:C7 n R) (h6:J.us.length≤6) (k:Nat):C7 (n+1) (Ek J R k).1:=by
 have hg:∀ ps:List Au,ps.length≤40→∀ i,((B7 R.g k { R.g k with merged:=true,pairs:=ps }:Nat→Ew) i).pairs.length≤1000:=fun ps hps i=>by
  by_cases e:i=k;subst e;rw [HX];show ps.length≤1000;omega;rw [Ip _ _ e];exact h.pairs i
 have h':C7 (n+1) R:=h.mono (sn n);unfold Ek;split;exact h';split;exact h';split;exact h';rename_i hl;dsimp only;split;refine ⟨hg _ (by omega),h.st.drop _,by show (R.sets++[_]).length≤n+1;rw [nr,sx];have:=h.sets;omega,fun s hs=>?_⟩;rcases pj.1 hs with hs|hs
 exact h.setl s hs;rw [pc.1 hs];exact ot (TM _ _) (by omega);exact ⟨hg _ (by omega),h.st.drop _,Nat.le_succ_of_le h.sets,h.setl⟩
theorem C7.push {n:Nat} {J:AS} {R:A9} (h:C7 n R) (h6:J.us.length≤6) (m:Bu):C7 (n+1) (AQ J R m).1:=by
 unfold AQ;split;exact h.mono (sn n);show C7 (n+1) (GO J R m).1;unfold GO;split;rename_i ht;exact C7.looks (R:={ R with st:=Fl R.st m.sp m.att m.seq m.pairs }) ⟨h.pairs,h.st.put ht.2.1,h.sets,h.setl⟩ h6 _;exact h.mono (sn n)
theorem C7.won {n:Nat} {J:AS} {t:Int} {R:A9} (h:C7 n R) (h6:J.us.length≤6) (sp att cnt:Int):C7 (n+1) (EB J t R sp att cnt).1:=by
 unfold EB;split;exact h.mono (sn n);refine C7.looks (R:={ R with g:=B7 R.g sp.toNat { R.g sp.toNat with told:=true,att:=att,cnt:=cnt } }) ⟨fun i=>?_,h.st,h.sets,h.setl⟩ h6 _;show ((B7 R.g sp.toNat { R.g sp.toNat with told:=true,att:=att,cnt:=cnt }:Nat→Ew) i).pairs.length≤1000;by_cases e:i=sp.toNat;subst e;rw [HX];exact h.pairs _;rw [Ip _ _ e];exact h.pairs i
theorem qP (n:Nat) (p ep:Int) (rs:List Bp):(EF n p ep rs).sets.length≤rs.length:=by
 have key:∀ rs:List Bp,(EF n p ep rs.reverse).sets.length≤rs.length:=by
  intro rs;induction rs with
  |nil=>simp [EF,Me]
  |cons x rs ih=>
   rw [yr,YB,nz];have hx:∀ R:A9,(E1 n R x).sets.length≤R.sets.length+1:=by
    intro R;unfold E1;dsimp only;split;omega;split<;>split<;>simp
   have:=hx (EF n p ep rs.reverse);omega
 have:=key rs.reverse;rwa [xl,List.length_reverse] at this
theorem qO (n:Nat) (p ep:Int) (b:Nat) (rs:List Bp) (h:∀ r∈rs,r.set.length≤b):∀ s∈(EF n p ep rs).sets,s.length≤b:=by
 have key:∀ (rs:List Bp) (R:A9),(∀ r∈rs,r.set.length≤b)→(∀ s∈R.sets,s.length≤b)→∀ s∈(rs.foldl (E1 n) R).sets,s.length≤b:=by
  intro rs;induction rs with
  |nil=>intro R _ h;exact h
  |cons x rs ih=>
   intro R hr hR;refine ih (E1 n R x) (fun r hq=>hr r (ow _ hq)) ?_;have hx:=hr x (od ..);have hc:∀ R1:A9,R1.sets=R.sets→∀ s∈(if x.kind=5 then ({ R1 with sets:=R1.sets++[x.set] }:A9) else R1).sets,s.length≤b:=by
    intro R1 e s hs;split at hs;rcases pj.1 hs with hs|hs
    rw [e] at hs;exact hR s hs;rw [pc.1 hs];exact hx;rw [e] at hs;exact hR s hs
   unfold E1;dsimp only;split;exact hR;refine hc _ ?_;split<;>rfl
 exact key rs (Me p ep) h fun s hs=>by cases hs
theorem C7.new {n:Nat} {p ep:Int} {rs:List Bp} (h:∀ r∈rs,r.pairs.length≤1000∧r.set.length≤1000):C7 rs.length (EF n p ep rs):=⟨qL fun r hr=>(h r hr).1,by rw [(OC n p ep rs).2.2];exact fun a b=>⟨by simp [DS],fun x hx=>by cases hx⟩,qP n p ep rs,qO n p ep 1000 rs fun r hr=>(h r hr).2⟩
theorem aG {o:Option α} (d:α) (h:o.isSome=true):o=some (o.getD d):=by
 cases o with
 |none=>cases h
 |some x=>rfl
theorem qY {o:Option α} (h:¬ o.isSome=true):o=none:=by
 cases o with
 |none=>rfl
 |some x=>exact absurd rfl h
section
variable {J:AS} {R R1:A9} {k:Nat} {n:Int} {ps:List Au}
theorem nQ (h:¬ (R.g k).told=true):Ek J R k=(R,[]):=by
 unfold Ek;rw [if_pos (by simpa using h)]
theorem nR (hn:((k:Nat):Int)=n) (h:BZ R.st n (R.g k).att (R.g k).cnt=none):Ek J R k=(R,[]):=by
 unfold Ek;rw [hn,h];split<;>rfl
theorem nS (hn:((k:Nat):Int)=n) (h:BZ R.st n (R.g k).att (R.g k).cnt=some ps) (hl:40<ps.length):Ek J R k=(R,[]):=by
 unfold Ek;rw [hn,h];dsimp only;rw [if_pos hl];split<;>rfl
theorem nT (hn:((k:Nat):Int)=n) (ht:(R.g k).told=true) (h:BZ R.st n (R.g k).att (R.g k).cnt=some ps) (hl:ps.length≤40) (h1:R1={ R with g:=B7 R.g k { R.g k with merged:=true,pairs:=ps },st:=Iq R.st n }) (hm:¬ ((BF J.us.length R1).length:Int)∈J.marks):
  Ek J R k=(R1,[⟨4,R.part,n,(R.g k).att,0,[],ps⟩]):=by
 unfold Ek;rw [if_neg (by rw [ht];decide),hn,h];dsimp only;rw [if_neg (by omega),←h1,if_neg hm]
theorem Ty (hn:((k:Nat):Int)=n) (ht:(R.g k).told=true) (h:BZ R.st n (R.g k).att (R.g k).cnt=some ps) (hl:ps.length≤40) (h1:R1={ R with g:=B7 R.g k { R.g k with merged:=true,pairs:=ps },st:=Iq R.st n }) (hm:((BF J.us.length R1).length:Int)∈J.marks):
  Ek J R k=({ R1 with sets:=R1.sets++[BF J.us.length R1] },[⟨4,R.part,n,(R.g k).att,0,[],ps⟩,⟨5,R.part,0,0,0,BF J.us.length R1,[]⟩]):=by
 unfold Ek;rw [if_neg (by rw [ht];decide),hn,h];dsimp only;rw [if_neg (by omega),←h1,if_pos hm];subst h1;rfl
end
theorem sZ {g g':Nat→Ew} (h:∀ i,(g i).pairs=(g' i).pairs):Di g hv=Di g' hv:=by
 unfold Di;exact Vu fun i _=>by unfold Ln;rw [h i]
theorem xU (g:Nat→α) (k:Nat) (a b:α):B7 (B7 g k a) k b=B7 g k b:=by
 funext j;by_cases e:j=k;subst e;rw [HX,HX];rw [Ip _ _ e,Ip _ _ e,Ip _ _ e]
theorem Z7 {g:Nat→Ew} {x:Ew} (h:x.pairs=(g k).pairs) (i:Nat):(g i).pairs=(B7 g k x i).pairs:=by
 by_cases e:i=k;subst e;rw [HX,h];rw [Ip _ _ e]
/-! ### Once -/
/-! ### Records -/
structure AbM (n:Nat) (R N:A9):Prop where
 part:N.part=R.part
 g:∀ s,s<n→(N.g s).merged=(R.g s).merged∧(N.g s).pairs=(R.g s).pairs
 sets:N.sets=R.sets
abbrev Eb:=(Int×Int)×Value×List (Value×List Au)
def FZ (e:Eb):(Int×Int)×List (List Au):=(e.1,e.2.2.map (·.2))
def Do (e:Eb):(Int×Int)×Value:=(e.1,e.2.1)
def Ev (e:Eb):SP:=Aa (Bd Ak) e.2.1 e.2.2
def Pa (mb:Nat) (st:Ey):SP:=ex fun kvs:List Eb=>Fo [FW (kvs.map FZ=st),Db DW mb (kvs.map Do),Cg Ev kvs]
def Dp (t sb:Nat) (st:Ey):SP:=ex fun mb:Nat=>Fo [blk sb [.map (some mb)] t,Pa mb st]
def Km:Value:=.slice none 0 0
def Fm (k:Int×Int):List Eb→Value×List (Value×List Au)
 |[]=>(Km,[])
 |e::r=>if e.1=k then e.2 else Fm k r
def EP (k:Int×Int) (kvs:List Eb):List Eb:=kvs.filter fun e=>decide (e.1≠k)
def Jj (k:Int×Int) (x:Value×List (Value×List Au)):List Eb→List Eb
 |[]=>[(k,x)]
 |e::r=>if e.1=k then (k,x)::r else e::Jj k x r
def Ny:Ey→Int×Int→List (List Au)→Ey
 |[],k,x=>[(k,x)]
 |e::s,k,x=>if e.1=k then (k,x)::s else e::Ny s k x
section
variable {kvs:List Eb} {k:Int×Int} {x:Value×List (Value×List Au)}
theorem aM:∀ kvs:List Eb,(Gf k (kvs.map Do)).getD Km=(Fm k kvs).1
 |[]=>rfl
 |e::r=>by
  show (if e.1=k then some e.2.1 else Gf k (r.map Do)).getD Km=(if e.1=k then e.2 else Fm k r).1
  split
  rfl
  exact aM r
theorem aN:∀ kvs:List Eb,(Fm k kvs).2.map (·.2)=DS (kvs.map FZ) k.1 k.2
 |[]=>rfl
 |e::r=>by
  have hk:(e.1=k)↔(e.1.1=k.1∧e.1.2=k.2):=Prod.ext_iff
  show (if e.1=k then e.2 else Fm k r).2.map (·.2)=if e.1.1=k.1∧e.1.2=k.2 then e.2.2.map (·.2) else DS (r.map FZ) k.1 k.2
  by_cases h:e.1=k
  rw [if_pos h,if_pos (hk.1 h)]
  rw [if_neg h,if_neg fun h2=>h (hk.2 h2)]
  exact aN r
theorem Z9:∀ kvs:List Eb,(Jj k x kvs).map Do=FY k x.1 (kvs.map Do)
 |[]=>rfl
 |e::r=>by
  show (if e.1=k then (k,x)::r else e::Jj k x r).map Do=if e.1=k then (k,x.1)::r.map Do else Do e::FY k x.1 (r.map Do)
  split
  rfl
  rw [pf,Z9 r]
theorem Z8:∀ kvs:List Eb,(Jj k x kvs).map FZ=Ny (kvs.map FZ) k (x.2.map (·.2))
 |[]=>rfl
 |e::r=>by
  show (if e.1=k then (k,x)::r else e::Jj k x r).map FZ=if e.1=k then (k,x.2.map (·.2))::r.map FZ else FZ e::Ny (r.map FZ) k (x.2.map (·.2))
  split
  rfl
  rw [pf,Z8 r]
theorem aE (x:List Au):∀ st:Ey,Ny st k (DS st k.1 k.2++[x])=HY st k.1 k.2 x
 |[]=>rfl
 |e::s=>by
  have hk:(e.1=k)↔(e.1.1=k.1∧e.1.2=k.2):=Prod.ext_iff
  unfold Ny DS HY
  by_cases h:e.1=k
  rw [if_pos h,if_pos (hk.1 h),if_pos (hk.1 h),h]
  rw [if_neg h,if_neg fun h2=>h (hk.2 h2),if_neg fun h2=>h (hk.2 h2),aE x s]
theorem TT {kvs:List Eb}:F8 (kvs.map Do)↔(kvs.map (·.1)).Nodup:=by
 unfold F8;rw [ry];rfl
theorem Rj (h:∀ e∈kvs,e.1≠k):EP k kvs=kvs:=ua.2 fun e he=>decide_eq_true (h e he)
theorem Z_:∀ {kvs:List Eb},(kvs.map (·.1)).Nodup→(Jj k x kvs).Perm ((k,x)::EP k kvs)
 |[],_=>List.Perm.refl _
 |e::r,hn=>by
  rw [pf,rx] at hn
  unfold Jj EP
  by_cases h:e.1=k
  ·rw [if_pos h,qg (by simpa using h)]
   exact (List.Perm.of_eq (Rj fun e2 a h2=>hn.1 (pi.2 ⟨e2,a,h2.trans h.symm⟩)).symm).cons _
  ·rw [if_neg h,pq (p:=fun e:Eb=>decide (e.1≠k)) (decide_eq_true h)]
   exact ((Z_ hn.2).cons e).trans (List.Perm.swap _ _ _)
theorem UB:∀ {kvs:List Eb},(kvs.map (·.1)).Nodup→(∃ e∈kvs,e.1=k)→kvs.Perm ((k,Fm k kvs)::EP k kvs)
 |[],_,⟨_,h,_⟩=>by cases h
 |e::r,hn,⟨d,a,b⟩=>by
  rw [pf,rx] at hn
  unfold Fm EP
  by_cases h:e.1=k
  ·rw [if_pos h,qg (by simpa using h)]
   rw [show (k,e.2)=e from by rw [←h]]
   exact (List.Perm.of_eq (Rj fun e2 c h2=>hn.1 (pi.2 ⟨e2,c,h2.trans h.symm⟩)).symm).cons _
  ·rw [if_neg h,pq (p:=fun e:Eb=>decide (e.1≠k)) (decide_eq_true h)]
   rcases pn.1 a with rfl|a
   ·exact absurd b h
   ·exact ((UB hn.2 ⟨d,a,b⟩).cons e).trans (List.Perm.swap _ _ _)
theorem yS (h:∀ e∈kvs,e.1≠k):Fm k kvs=(Km,[]):=by
 induction kvs with
 |nil=>rfl
 |cons e r ih=>
  unfold Fm;rw [if_neg (h e (od ..))];exact ih fun e2 a=>h e2 (ow _ a)
end
section
variable {w0 w:World} {F0:BD} {As Rs:List SP} {t sb mb:Nat} {st:Ey} {kvs:List Eb} {k:Int×Int} {v:Value} {us:List (Value×List Au)}
theorem Hd.bigP {f:α→SP} {l':List α} (p:l.Perm l') (h:Hd w0 F0 w (Cg f l::As) Rs):Hd w0 F0 w (Cg f l'::As) Rs:=(h.stA.perm ((p.map f).append_right As)).stI
theorem Hd.stgC (he:kvs.map FZ=st) (H:Hd w0 F0 w (blk sb [.map (some mb)] t::Db DW mb (kvs.map Do)::Cg Ev kvs::As) Rs):Hd w0 F0 w (Dp t sb st::As) Rs:=by
 have h3:Hd w0 F0 w (FW (kvs.map FZ=st)::Db DW mb (kvs.map Do)::Cg Ev kvs::blk sb [.map (some mb)] t::As) Rs:=
  (H.perm (((List.Perm.swap _ _ _).trans ((List.Perm.swap _ _ _).cons _)):(blk sb [.map (some mb)] t::Db DW mb (kvs.map Do)::Cg Ev kvs::As).Perm (Db DW mb (kvs.map Do)::Cg Ev kvs::blk sb [.map (some mb)] t::As))).puI he
 have h4:Hd w0 F0 w (Pa mb st::blk sb [.map (some mb)] t::As) Rs:=Hd.exI _ (Hd.stI (Bs:=[FW (kvs.map FZ=st),Db DW mb (kvs.map Do),Cg Ev kvs]) h3);exact Hd.exI _ (Hd.stI (Bs:=[blk sb [.map (some mb)] t,Pa mb st]) (h4.perm (List.Perm.swap _ _ _)))
theorem Hd.st0 (H:Hd w0 F0 w (blk sb [.map (some mb)] t::Db DW mb []::As) Rs):Hd w0 F0 w (Dp t sb []::As) Rs:=
 Hd.stgC (kvs:=[]) rfl (((H.perm (List.Perm.swap _ _ _)).big0 Ev).perm (((List.Perm.swap _ _ _).trans ((List.Perm.swap _ _ _).cons _)).trans (List.Perm.swap _ _ _)))
theorem Hd.stgA (H:Hd w0 F0 w (Dp t sb st::As) Rs):∃ mb kvs,kvs.map FZ=st∧F8 (kvs.map Do)∧Hd w0 F0 w (blk sb [.map (some mb)] t::Db DW mb (kvs.map Do)::Cg Ev kvs::As) Rs:=by
 obtain ⟨mb,H⟩:=Hd.exA H;have H1:Hd w0 F0 w (Pa mb st::blk sb [.map (some mb)] t::As) Rs:=(show Hd w0 F0 w (blk sb [.map (some mb)] t::Pa mb st::As) Rs from H.stA).perm (List.Perm.swap _ _ _);obtain ⟨kvs,b⟩:=Hd.exA H1;have c:Hd w0 F0 w (FW (kvs.map FZ=st)::Db DW mb (kvs.map Do)::Cg Ev kvs::blk sb [.map (some mb)] t::As) Rs:=b.stA;obtain ⟨he,a⟩:=c.puA;obtain ⟨_,_,_,_,hn,_⟩:=a.mapKf;exact ⟨mb,kvs,he,hn,a.perm (((List.Perm.swap _ _ _).cons _).trans (List.Perm.swap _ _ _))⟩
theorem Hd.stgO (k:Int×Int) (hn:F8 (kvs.map Do)) (H:Hd w0 F0 w (Cg Ev kvs::As) Rs):Hd w0 F0 w (Aa (Bd Ak) (Fm k kvs).1 (Fm k kvs).2::Cg Ev (EP k kvs)::As) Rs:=by
 by_cases h:∀ e∈kvs,e.1≠k;rw [yS h,Rj h];exact H.newnil _;have he:∃ e∈kvs,e.1=k:=qq fun h2=>h fun e he hk=>h2 ⟨e,he,hk⟩;have H1:=H.bigP (UB ((TT).1 hn) he);exact H1.bigO 0 U
theorem Hd.stgI_ (hn:F8 (kvs.map Do)) (H:Hd w0 F0 w (Aa (Bd Ak) v us::Cg Ev (EP k kvs)::As) Rs):Hd w0 F0 w (Cg Ev (Jj k (v,us) kvs)::As) Rs:=by
 have H1:Hd w0 F0 w (Cg Ev (EP k kvs++[(k,v,us)])::As) Rs:=Hd.bigN (f:=Ev) H;exact H1.bigP ((pr (l₁:=EP k kvs) (l₂:=[(k,v,us)])).trans (Z_ ((TT).1 hn)).symm)
theorem Hd.stgI0 (hn:F8 (kvs.map Do)) (H:Hd w0 F0 w (Aa (Bd Ak) (Fm k kvs).1 (Fm k kvs).2::Cg Ev (EP k kvs)::As) Rs):Hd w0 F0 w (Cg Ev kvs::As) Rs:=by
 by_cases h:∀ e∈kvs,e.1≠k;have H1:=H.drop;rwa [Rj h] at H1
 have he:∃ e∈kvs,e.1=k:=qq fun h2=>h fun e he hk=>h2 ⟨e,he,hk⟩;have H1:Hd w0 F0 w (Cg Ev (EP k kvs++[(k,Fm k kvs)])::As) Rs:=Hd.bigN (f:=Ev) H;exact H1.bigP ((pr (l₁:=EP k kvs) (l₂:=[(k,Fm k kvs)])).trans (UB ((TT).1 hn) he).symm)
end
def OT (r:Ao):SP:=Fo [Aa (Av .i64) r.sv r.set,Aa Ak r.pv r.pairs]
def Ns (us:List Ao):SP:=Cg OT us
section
variable {w0 w:World} {F F0:BD} {As Rs:List SP} {v:Value} {us:List Ao}
theorem u6 {r:Ao} (h:(OT r).P w F):J9 r=Hr (EV r):=by
 obtain ⟨F1,F2,_,_,_,a,e,f,_,_,_,b,_⟩:=h;obtain ⟨c,c1,e1,_⟩:=Fk (Bi _ a);obtain ⟨d,c2,e2,_⟩:=Fk (Bi _ b);simp [J9,Hr,EV,Id,e1,e2]
theorem u5 {r:Ao} (h:(OT r).P w F):BE.O w F r (Hr (EV r)):=by
 have e:=u6 h;obtain ⟨F1,F2,h1,h2,h3,a,d,f,g1,g2,g3,b,_⟩:=h;exact ⟨e.symm,F1,d,h1,fun k hk=>h2 k (g1 k hk),fun k hk c=>h3 k hk (g1 k c),a,b⟩
theorem ZR:∀ {us:List Ao} {F:BD},(Ns us).P w F→DN BE w F us ((us.map EV).flatMap Hr)
 |[],_,_=>rfl
 |u::us,F,⟨F1,F2,h1,h2,h3,a,s⟩=>⟨F1,F2,Hr (EV u),(us.map EV).flatMap Hr,h1,h2,h3,rfl,u5 a,ZR (us:=us) s⟩
theorem Hd.recI (H:Hd w0 F0 w (Aa FM v (us.map EV)::Ns us::As) Rs):Hd w0 F0 w (Aa BE v us::As) Rs:=by
 refine H.turn2 fun F1 F2 hd h1 h2=>?_;obtain ⟨A,n,c,e,hl,cs,a,b,s1,s2,dj,row,reps⟩:=h1;have hcs:cs=(us.map EV).flatMap Hr:=BB.flat_eq.1 reps.toR;subst hcs;exact ⟨A,n,c,e,by simpa using hl,_,a,F2,fun k hk=>.inl (s1 k hk),fun k hk=>.inr hk,fun k hk hg=>hd k (s1 k hk) hg,row,ZR h2⟩
theorem Hd.recN {r:Ao} (H:Hd w0 F0 w (Aa (Av .i64) r.sv r.set::Aa Ak r.pv r.pairs::Ns us::As) Rs):Hd w0 F0 w (Ns (us++[r])::As) Rs:=
 Hd.bigN (f:=OT) (Hd.stI (Bs:=[Aa (Av .i64) r.sv r.set,Aa Ak r.pv r.pairs]) H)
theorem Hd.rec0 (H:Hd w0 F0 w As Rs):Hd w0 F0 w (Ns []::As) Rs:=H.big0 OT
end
theorem Qu (J:AS) (R:A9) (k:Nat):(Ek J R k).1.part=R.part∧(Ek J R k).1.ep=R.ep:=by
 unfold Ek;split;exact ⟨U,U⟩;split;exact ⟨U,U⟩;split;exact ⟨U,U⟩;dsimp only;split<;>exact ⟨rfl,rfl⟩
theorem QP {J:AS} {R:A9} {m:Bu}:(AQ J R m).1.part=R.part∧(AQ J R m).1.ep=R.ep:=by
 unfold AQ;split;exact ⟨U,U⟩;show (GO J R m).1.part=R.part∧_;unfold GO;split;exact Qu J { R with st:=_ } _;exact ⟨U,U⟩
theorem b_ {J:AS} {t:Int} {R:A9} {sp att cnt:Int}:(EB J t R sp att cnt).1.part=R.part∧(EB J t R sp att cnt).1.ep=R.ep:=by
 unfold EB;split;exact ⟨U,U⟩;exact Qu J { R with g:=_ } _
theorem Ub {J:AS} {R:A9} {m:Bu} (h:GN J R m):AQ J R m=(R,OA,[]):=if_pos h
theorem Lo {J:AS} {R:A9} {m:Bu} (h:¬ GN J R m):AQ J R m=((GO J R m).1,RK (GO J R m).1 m,(GO J R m).2):=if_neg h
theorem Nk {J:AS} {R:A9} {m:Bu} (h:¬ Il R m):GO J R m=(R,[]):=if_neg h
theorem Zb {J:AS} {R:A9} {m:Bu} (h:Il R m):GO J R m=Ek J { R with st:=Fl R.st m.sp m.att m.seq m.pairs } m.sp.toNat:=if_pos h
theorem KM {R:A9} {m:Bu} {part ep nx:Int} (h1:R.part=part) (h2:R.ep=ep) (h3:(if (R.g m.sp.toNat).merged=true then 40 else EU R.st m.sp m.att)=nx):RK R m=⟨3,m.sp,m.att,part,0,nx,ep,0,[],[]⟩:=by
 subst h1 h2 h3;rfl
theorem i_ {J:AS} {R:A9} (h:(Gp D J R).2.2=true):BP D J R=⟨8,0,0,R.part,0,0,R.ep,(Gp D J R).2.1,[],[]⟩:=if_pos h
theorem W6 {J:AS} {R:A9} (h:¬ (Gp D J R).2.2=true):BP D J R=⟨6,0,0,R.part,0,0,R.ep,0,BF J.us.length R,[]⟩:=if_neg h
/-! ### Six slices in a row -/
section
variable {w:World} {F:BD}
theorem ZE {us:List Ao} (h:(An FM v (us.map EV)).P w F) (hu:∀ r∈us,(An (Av .i64) r.sv r.set).P w F∧(An Ak r.pv r.pairs).P w F):(An BE v us).P w F:=by
 obtain ⟨A,m,c,e,h1,h2,h3,cs,h4,h5⟩:=h;refine ⟨A,m,c,e,by simpa using h1,h2,h3,cs,h4,?_⟩;have hcs:cs=(us.map EV).flatMap Hr:=BB.flat_eq.1 h5;subst hcs;clear h5 h4 h1 e
 induction us with
 |nil=>rfl
 |cons r us ih=>
  obtain ⟨g1,g2⟩:=hu r (od ..);obtain ⟨a,c1,e1,_⟩:=Fk g1;obtain ⟨b,c2,e2,_⟩:=Fk g2;refine ⟨Hr (EV r),(us.map EV).flatMap Hr,U,⟨?_,g1,g2⟩,ih fun q hq=>hu q (ow _ hq)⟩;simp [J9,Hr,EV,Id,e1,e2]
def QF:Value:=.slice none 0 0
end
theorem B0.out {A:AS} (h:B0 A B) (D:B5) (R:A9):Gp D A R=Gp D B R:=by
 unfold Gp TX;rw [h.len,h.red,h.fuel]
theorem rS {P:Program} {t j i:TypeId}
  (hs:He P t=some [(j,0,9),(i,9,1),(i,10,1),(i,11,1)]) (hc:P.cellsOf t=12) (hi:P.underlying i=some (.int .i64))
  {H:Type} (enc:TypeId×Value→H) (w:World) (fuel:Nat) (cs:List Value) (x:DataW H×List MemPlace) (h:DataW.trod enc P w 0 (fun _=>true) true fuel t cs=some x):
  ∃ (js:List Value) (m:Nat) (y:DataW H×List MemPlace) (n1 d e:Int),cs=js++[Y Z n1,Y Z d,Y Z e]∧DataW.trod enc P w 0 (fun _=>true) true m j js=some y∧js.length=9∧(Aw n1∧Aw d∧Aw e):=by
 obtain ⟨hl,n,hf⟩:=L7 hs h;rw [hc] at hl;match cs,hl with
 |[c0,c1,c2,c3,c4,c5,c6,c7,g,c9,a,b],_=>
  obtain ⟨o,g0⟩:=hf 0 _ _ _ rfl;obtain ⟨p,g1⟩:=hf 1 _ _ _ rfl;obtain ⟨q,g2⟩:=hf 2 _ _ _ rfl;obtain ⟨r,g3⟩:=hf 3 _ _ _ rfl;obtain ⟨c,r1,w1⟩:=Fe hi enc w n _ _ g1;obtain ⟨a2,r2,w2⟩:=Fe hi enc w n _ _ g2;obtain ⟨a3,k,l⟩:=Fe hi enc w n _ _ g3;have q1:[c9]=[ph .i64 c]:=r1;have q2:[a]=[ph .i64 a2]:=r2;have f:[b]=[ph .i64 a3]:=k;simp only [List.cons.injEq,and_true] at q1 q2 f;subst q1 q2 f;exact ⟨[c0,c1,c2,c3,c4,c5,c6,c7,g],n,o,c,a2,a3,U,g0,U,w1,w2,l⟩
structure HG (α:Type) where
 sz:Nat
 enc:α→Value→Value→List Value
 len:∀ a s p,(enc a s p).length=sz
 one:∀ a s p,∀ c∈enc a s p,c=s∨c=p∨c.oneCell'=true
 pos:0<sz
structure AM (α:Type) where
 h:α
 sv:Value
 set:List Int
 pv:Value
 pairs:List Au
structure E3 (α:Type) where
 h:α
 hs:HD
 hp:HD
section
variable {α:Type}
def HG.e (S:HG α) (x:AM α):List Value:=S.enc x.h x.sv x.pv
def HG.f (S:HG α) (x:E3 α):List Value:=S.enc x.h (.slice x.hs.A x.hs.n x.hs.c) (.slice x.hp.A x.hp.n x.hp.c)
def FO (S:HG α):Kd (AM α) where
 sz:=S.sz
 O w F x cs:=cs=S.e x∧∃ F1 F2:BD,(∀ k,F1 k→F k)∧(∀ k,F2 k→F k)∧(∀ k,F1 k→¬ F2 k)∧(CO (Av .i64)).O w F1 x.set [x.sv]∧(CO Ak).O w F2 x.pairs [x.pv]
 R w F x cs:=cs=S.e x∧(CO (Av .i64)).R w F x.set [x.sv]∧(CO Ak).R w F x.pairs [x.pv]
 O_loc:=fun ⟨e,F1,F2,s1,s2,dj,h1,h2⟩ hk=>⟨e,F1,F2,s1,s2,dj,(CO _).O_loc h1 (fun k x=>hk k (s1 k x)),(CO _).O_loc h2 (fun k x=>hk k (s2 k x))⟩
 O_mono:=fun ⟨e,F1,F2,s1,s2,dj,h1,h2⟩ hk=>⟨e,F1,F2,fun k x=>hk k (s1 k x),fun k x=>hk k (s2 k x),dj,h1,h2⟩
 R_loc:=fun ⟨e,h1,h2⟩ hk=>⟨e,(CO _).R_loc h1 hk,(CO _).R_loc h2 hk⟩
 R_mono:=fun ⟨e,h1,h2⟩ hk=>⟨e,(CO _).R_mono h1 hk,(CO _).R_mono h2 hk⟩
 O_R:=fun ⟨e,F1,F2,s1,s2,dj,h1,h2⟩=>⟨e,(CO _).R_mono ((CO _).O_R h1) s1,(CO _).R_mono ((CO _).O_R h2) s2⟩
 len h:=by rw [h.1];exact S.len _ _ _
 one:=fun ⟨e,h1,h2⟩ c hc=>by
  have g1:=(CO _).one h1
  have g2:=(CO _).one h2
  subst e
  rcases S.one _ _ _ c hc with rfl|rfl|h
  ·exact g1 _ (od ..)
  ·exact g2 _ (od ..)
  ·exact h
 pos:=S.pos
def MX (S:HG α):Kd (E3 α):=flat S.f S.sz S.pos (fun x=>S.len _ _ _) (fun x c hc=>by
 rcases S.one _ _ _ c hc with rfl|rfl|h
 ·rfl
 ·rfl
 ·exact h)
def BR (r:AM α):E3 α:=⟨r.h,Id r.sv,Id r.pv⟩
variable {S:HG α} {w w0:World} {F F0:BD} {As Rs:List SP} {A:Option Addr} {m c:Nat}
theorem Ml {us:List (AM α)} (h:(An (FO S) (V A m c) us).P w F) {i:Nat} {x:AM α} (hx:us[i]?=some x):
  Ia A∧(∀ q u,(S.e x)[q]?=some u→w.cell? ⟨E_ A,Bl A+i*S.sz+q,none⟩=some u)∧(An (Av .i64) x.sv x.set).P w F∧(An Ak x.pv x.pairs).P w F:=by
 obtain ⟨b,off,cs,e,hl,hc,h1,h2,h3⟩:=OY h hx;subst h1 e;exact ⟨U,hc,h2,h3⟩
theorem KD {us:List (AM α)} (h:(An (FO S) (V A m c) us).P w F) {i:Nat} {a:α} {sv pv:Value} {set:List Int} {pairs:List Au} (hx:us[i]?=some ⟨a,sv,set,pv,pairs⟩):(An (Av .i64) sv set).P w F:=(Ml h hx).2.2.1
theorem KC {us:List (AM α)} (h:(An (FO S) (V A m c) us).P w F) {i:Nat} {a:α} {sv pv:Value} {set:List Int} {pairs:List Au} (hx:us[i]?=some ⟨a,sv,set,pv,pairs⟩):(An Ak pv pairs).P w F:=(Ml h hx).2.2.2
theorem Hd.thRt {us:List (AM α)} (H:Hd w0 F0 w As Rs) (j:Nat) (hj:Rs[j]?=some (An (FO S) (V A m c) us)) {i:Nat} {x:AM α} (hx:us[i]?=some x):Ia A:=H.factR (nt hj) fun _ h=>(Ml h hx).1
theorem Hd.thAt {us:List (AM α)} (H:Hd w0 F0 w As Rs) (j:Nat) (hj:As[j]?=some (Aa (FO S) (V A m c) us)) {i:Nat} {x:AM α} (hx:us[i]?=some x):Ia A:=H.fact (nt hj) fun F h=>(Ml (Bi F h) hx).1
theorem Hd.elRt {us:List (AM α)} (H:Hd w0 F0 w As Rs) (j:Nat) (hj:Rs[j]?=some (An (FO S) (V A m c) us)) {i:Nat} {x:AM α} (hx:us[i]?=some x) {p:Nat} (hu:(S.e x)[q]?=some u) (hp:Bl A+i*S.sz+q=p):w.cell? ⟨E_ A,p,none⟩=some u:=by
 subst hp;exact H.factR (nt hj) fun _ h=>(Ml h hx).2.1 q u hu
theorem Hd.elAt {us:List (AM α)} (H:Hd w0 F0 w As Rs) (j:Nat) (hj:As[j]?=some (Aa (FO S) (V A m c) us)) {i:Nat} {x:AM α} (hx:us[i]?=some x) {p:Nat} (hu:(S.e x)[q]?=some u) (hp:Bl A+i*S.sz+q=p):w.cell? ⟨E_ A,p,none⟩=some u:=by
 subst hp;exact H.fact (nt hj) fun F h=>(Ml (Bi F h) hx).2.1 q u hu
theorem sR {l:List Value} {n:Nat} (h:(l.drop d).take n=cs) (hq:cs[q]?=some v):l[d+q]?=some v:=by
 subst h;rw [List.getElem?_take] at hq;split at hq;rwa [List.getElem?_drop] at hq
 cases hq
theorem Hd.elsRt {us:List (AM α)} (H:Hd w0 F0 w As Rs) (j:Nat) (hj:Rs[j]?=some (An (FO S) (V A m c) us)) {i:Nat} {x:AM α} (hx:us[i]?=some x) {p:Nat} (d n:Nat) (hc:((S.e x).drop d).take n=cs) (hpj:Bl A+i*S.sz+d=p):∀ q v,cs[q]?=some v→w.cell? ((⟨E_ A,p,none⟩:Addr).add q)=some v:=by
 intro q v hq;rw [GE,←hpj,Nat.add_assoc];exact H.factR (nt hj) fun F h=>(Ml h hx).2.1 _ v (sR hc hq)
theorem Hd.nestRt {us:List (AM α)} (H:Hd w0 F0 w As Rs) (j:Nat) (hj:Rs[j]?=some (An (FO S) (V A m c) us)) {i:Nat} {a:α} {sv pv:Value} {set:List Int} {pairs:List Au} (hx:us[i]?=some ⟨a,sv,set,pv,pairs⟩):
  ∃ b c1 d c2,sv=V b set.length c1∧pv=V d pairs.length c2∧set.length≤c1∧c1≤9223372036854775807∧pairs.length≤c2∧c2≤9223372036854775807:=by
 refine H.factR (nt hj) fun _ h=>?_;obtain ⟨b,c1,e1,g1,g2,_⟩:=Fk (KD h hx);obtain ⟨d,c2,e2,g3,g4,_⟩:=Fk (KC h hx);exact ⟨b,c1,d,c2,e1,e2,g1,g2,g3,g4⟩
theorem Hd.nestAt {us:List (AM α)} (H:Hd w0 F0 w As Rs) (j:Nat) (hj:As[j]?=some (Aa (FO S) (V A m c) us)) {i:Nat} {a:α} {sv pv:Value} {set:List Int} {pairs:List Au} (hx:us[i]?=some ⟨a,sv,set,pv,pairs⟩):
  ∃ b c1 d c2,sv=V b set.length c1∧pv=V d pairs.length c2∧set.length≤c1∧c1≤9223372036854775807∧pairs.length≤c2∧c2≤9223372036854775807:=by
 refine H.fact (nt hj) fun F h=>?_;obtain ⟨b,c1,e1,g1,g2,_⟩:=Fk (KD (Bi F h) hx);obtain ⟨d,c2,e2,g3,g4,_⟩:=Fk (KC (Bi F h) hx);exact ⟨b,c1,d,c2,e1,e2,g1,g2,g3,g4⟩
/-! ### Held: the cells in one row, the slices apart -/
theorem aU {r:AM α} {a b:Option Addr} {n1 c1 c c2:Nat} (e1:r.sv=V a n1 c1) (e2:r.pv=V b c c2):S.e r=S.f (BR r):=by
 simp [HG.e,HG.f,BR,Id,e1,e2]
theorem zX {us:List (AM α)} (h:(An (MX S) v (us.map BR)).P w F) (hu:∀ r∈us,(An (Av .i64) r.sv r.set).P w F∧(An Ak r.pv r.pairs).P w F):(An (FO S) v us).P w F:=by
 obtain ⟨A,m,c,e,h1,h2,h3,cs,h4,h5⟩:=h;refine ⟨A,m,c,e,by simpa using h1,h2,h3,cs,h4,?_⟩;have hcs:cs=(us.map BR).flatMap S.f:=BB.flat_eq.1 h5;subst hcs;clear h5 h4 h1 e
 induction us with
 |nil=>rfl
 |cons r us ih=>
  obtain ⟨g1,g2⟩:=hu r (od ..);obtain ⟨a,c1,e1,_⟩:=Fk g1;obtain ⟨b,c2,e2,_⟩:=Fk g2;exact ⟨S.f (BR r),(us.map BR).flatMap S.f,U,⟨(aU e1 e2).symm,g1,g2⟩,ih fun q hq=>hu q (ow _ hq)⟩
def Hf (r:AM α):SP:=Fo [Aa (Av .i64) r.sv r.set,Aa Ak r.pv r.pairs]
def C6 (us:List (AM α)):SP:=Cg Hf us
theorem aT {r:AM α} (h:(Hf r).P w F):S.e r=S.f (BR r):=by
 obtain ⟨F1,F2,_,_,_,a,g,i,_,_,_,b,_⟩:=h;obtain ⟨c,c1,e1,_⟩:=Fk (Bi _ a);obtain ⟨d,c2,e2,_⟩:=Fk (Bi _ b);exact aU e1 e2
theorem zV {r:AM α} (h:(Hf r).P w F):(FO S).O w F r (S.f (BR r)):=by
 have e:=aT (S:=S) h;obtain ⟨F1,F2,h1,h2,h3,a,d,g,g1,g2,g3,b,_⟩:=h;exact ⟨e.symm,F1,d,h1,fun k hk=>h2 k (g1 k hk),fun k hk c=>h3 k hk (g1 k c),a,b⟩
theorem zW {r:AM α} (h:(FO S).O w F r cs):(Hf r).P w F∧cs=S.e r:=by
 obtain ⟨e,F1,F2,h1,h2,h3,a,b⟩:=h;exact ⟨⟨F1,F2,h1,h2,h3,a,F2,none_,fun _ q=>q,fun _ q=>q.elim,fun _ _ q=>q,b,trivial⟩,e⟩
theorem ZS:∀ {us:List (AM α)} {F:BD},(C6 us).P w F→DN (FO S) w F us ((us.map BR).flatMap S.f)
 |[],_,_=>rfl
 |u::us,F,⟨F1,F2,h1,h2,h3,a,s⟩=>⟨F1,F2,S.f (BR u),(us.map BR).flatMap S.f,h1,h2,h3,rfl,zV a,ZS (us:=us) s⟩
variable {v:Value} {us:List (AM α)}
theorem Hd.twI (H:Hd w0 F0 w (Aa (MX S) v (us.map BR)::C6 us::As) Rs):Hd w0 F0 w (Aa (FO S) v us::As) Rs:=by
 refine H.turn2 fun F1 F2 hd h1 h2=>?_;obtain ⟨A,n,c,e,hl,cs,a,b,s1,s2,dj,row,reps⟩:=h1;have hcs:cs=(us.map BR).flatMap S.f:=BB.flat_eq.1 reps.toR;subst hcs;exact ⟨A,n,c,e,by simpa using hl,_,a,F2,fun k hk=>.inl (s1 k hk),fun k hk=>.inr hk,fun k hk hg=>hd k (s1 k hk) hg,row,ZS h2⟩
theorem ZT:∀ {us:List (AM α)} {F:BD} {cs:List Value},DN (FO S) w F us cs→(C6 us).P w F∧cs=(us.map BR).flatMap S.f
 |[],_,_,h=>⟨trivial,h⟩
 |u::us,F,cs,⟨F1,F2,c,cs',h1,h2,h3,e,a,s⟩=>by
  obtain ⟨g1,g2⟩:=ZT s
  obtain ⟨b,d⟩:=zW a
  refine ⟨⟨F1,F2,h1,h2,h3,b,g1⟩,?_⟩
  rw [e,d,g2,aT b];rfl
theorem Hd.twO (H:Hd w0 F0 w (Aa (FO S) v us::As) Rs):Hd w0 F0 w (Aa (MX S) v (us.map BR)::C6 us::As) Rs:=by
 have:Hd w0 F0 w ([Aa (MX S) v (us.map BR),C6 us]++As) Rs:=H.open_ fun F h=>by
  obtain ⟨A,n,c,e,hl,cs,a,b,s1,s2,dj,row,reps⟩:=h;obtain ⟨g1,rfl⟩:=ZT reps;exact ⟨a,b,s1,s2,dj,⟨A,n,c,e,by simpa using hl,_,a,none_,fun _ h=>h,fun _ h=>h.elim,fun _ _ h=>h,row,DN.flatR (F:=none_) (BB.flat_eq.2 U)⟩,b,none_,fun _ h=>h,fun _ h=>h.elim,fun _ _ h=>h,g1,trivial⟩
 exact this
theorem Hd.twN {r:AM α} (H:Hd w0 F0 w (Aa (Av .i64) r.sv r.set::Aa Ak r.pv r.pairs::C6 us::As) Rs):Hd w0 F0 w (C6 (us++[r])::As) Rs:=
 Hd.bigN (f:=Hf) (Hd.stI (Bs:=[Aa (Av .i64) r.sv r.set,Aa Ak r.pv r.pairs]) H)
theorem Hd.tw0 (H:Hd w0 F0 w As Rs):Hd w0 F0 w (C6 ([]:List (AM α))::As) Rs:=H.big0 Hf
end
/-! ### Messages, letters, acts, snapshots -/
structure DM where
 kind:Int
 sp:Int
 att:Int
 part:Int
 seq:Int
 next:Int
 ep:Int
 why:Int
def Rg:HG DM where
 sz:=10
 enc m s p:=[.int .i64 m.kind,.int .i64 m.sp,.int .i64 m.att,.int .i64 m.part,.int .i64 m.seq,.int .i64 m.next,.int .i64 m.ep,.int .i64 m.why,s,p]
 len _ _ _:=rfl
 one _ _ _ c h:=by
  simp only [pn,qx,or_false] at h
  rcases h with rfl|rfl|rfl|rfl|rfl|rfl|rfl|rfl|rfl|rfl<;>first |exact .inr (.inr rfl)|exact .inl rfl|exact .inr (.inl rfl)
 pos:=by omega
structure AbI where
 won:Bool
 m:DM
 n:Int
structure AbJ where
 hear:Bool
 fr:Int
 m:DM
structure A0 where
 fr:Int
 to:Int
 m:DM
def Rf:HG A0 where
 sz:=12
 enc a s p:=[.int .i64 a.fr,.int .i64 a.to,.int .i64 a.m.kind,.int .i64 a.m.sp,.int .i64 a.m.att,.int .i64 a.m.part,.int .i64 a.m.seq,.int .i64 a.m.next,.int .i64 a.m.ep,.int .i64 a.m.why,s,p]
 len _ _ _:=rfl
 one _ _ _ c h:=by
  simp only [pn,qx,or_false] at h
  rcases h with rfl|rfl|rfl|rfl|rfl|rfl|rfl|rfl|rfl|rfl|rfl|rfl<;>first |exact .inr (.inr rfl)|exact .inl rfl|exact .inr (.inl rfl)
 pos:=by omega
abbrev S3:=FO Rg
abbrev L2:=MX Rg
abbrev By:=FO Rf
abbrev DJ:=MX Rf
def DM.p (m:DM) (set:List Int) (ps:List Au):Bu:=⟨m.kind,m.sp,m.att,m.part,m.seq,m.next,m.ep,m.why,set,ps⟩
def JJ (x:AM DM):Bu:=x.h.p x.set x.pairs
theorem IM {a b:Bu}:a=b↔a.kind=b.kind∧a.sp=b.sp∧a.att=b.att∧a.part=b.part∧a.seq=b.seq∧a.next=b.next∧a.ep=b.ep∧a.why=b.why∧a.set=b.set∧a.pairs=b.pairs:=by
 constructor
 ·rintro rfl;exact ⟨rfl,rfl,rfl,rfl,rfl,rfl,rfl,rfl,rfl,rfl⟩
 ·rintro ⟨h1,h2,h3,h4,h5,h6,h7,h8,h9,h10⟩
  cases a;cases b;simp only at h1 h2 h3 h4 h5 h6 h7 h8 h9 h10;subst h1 h2 h3 h4 h5 h6 h7 h8 h9 h10;rfl
instance msgD (a b:Bu):Decidable (a=b):=decidable_of_iff _ IM.symm
/-! ### How they come in -/
section
variable {P:Program} {t:TypeId}
abbrev LE (m:DM):Prop:=Aw m.kind∧Aw m.sp∧Aw m.att∧Aw m.part∧Aw m.seq∧Aw m.next∧Aw m.ep∧Aw m.why
def LF {α:Type} (Q:α→Prop) (W2:Au→Prop) (x:AM α):Prop:=Q x.h∧((∀ i∈x.set,Aw i)∧x.set.length≤9223372036854775807)∧((∀ p∈x.pairs,W2 p)∧x.pairs.length≤9223372036854775807)
theorem rW {i s p:TypeId} {W2:Au→Prop} (hs:He P t=some [(i,0,1),(i,1,1),(i,2,1),(i,3,1),(i,4,1),(i,5,1),(i,6,1),(i,7,1),(s,8,1),(p,9,1)]) (hc:P.cellsOf t=10) (hi:P.underlying i=some (.int .i64))
  (h1:Hk P s (CO (Av .i64)) (fun xs=>(∀ x∈xs,Aw x)∧xs.length≤9223372036854775807)) (h2:Hk P p (CO Ak) (fun xs=>(∀ x∈xs,W2 x)∧xs.length≤9223372036854775807)):
  Hk P t S3 (LF LE W2):=by
 intro H enc w fuel cs x h;obtain ⟨hl,n,hf⟩:=L7 hs h;rw [hc] at hl;match cs,hl with
 |[c0,c1,c2,c3,c4,c5,c6,c7,e,c9],_=>
  obtain ⟨G,g0⟩:=hf 0 _ _ _ rfl;obtain ⟨I,g1⟩:=hf 1 _ _ _ rfl;obtain ⟨J,g2⟩:=hf 2 _ _ _ rfl;obtain ⟨K,g3⟩:=hf 3 _ _ _ rfl;obtain ⟨L,g4⟩:=hf 4 _ _ _ rfl;obtain ⟨M,g5⟩:=hf 5 _ _ _ rfl;obtain ⟨N,g6⟩:=hf 6 _ _ _ rfl;obtain ⟨O,g7⟩:=hf 7 _ _ _ rfl;obtain ⟨Q,g8⟩:=hf 8 _ _ _ rfl;obtain ⟨S,g9⟩:=hf 9 _ _ _ rfl;obtain ⟨a0,r0,w0⟩:=Fe hi enc w n _ _ g0;obtain ⟨a,r1,w1⟩:=Fe hi enc w n _ _ g1;obtain ⟨a2,r2,w2⟩:=Fe hi enc w n _ _ g2;obtain ⟨a3,m,z⟩:=Fe hi enc w n _ _ g3;obtain ⟨a4,o,A⟩:=Fe hi enc w n _ _ g4;obtain ⟨a5,q,B⟩:=Fe hi enc w n _ _ g5;obtain ⟨b,r,C⟩:=Fe hi enc w n _ _ g6;obtain ⟨c,u,D⟩:=Fe hi enc w n _ _ g7;obtain ⟨d,v,E⟩:=h1 enc w n _ _ g8;obtain ⟨a9,y,F⟩:=h2 enc w n _ _ g9;have r8':(CO (Av .i64)).R w (Hj w) d [e]:=v;have r9':(CO Ak).R w (Hj w) a9 [c9]:=y;refine ⟨⟨⟨a0,a,a2,a3,a4,a5,b,c⟩,e,d,c9,a9⟩,⟨?_,r8',r9'⟩,⟨w0,w1,w2,z,A,B,C,D⟩,E,F⟩;have q0:[c0]=[ph .i64 a0]:=r0;have q1:[c1]=[ph .i64 a]:=r1;have q2:[c2]=[ph .i64 a2]:=r2;have f:[c3]=[ph .i64 a3]:=m;have g:[c4]=[ph .i64 a4]:=o;have j:[c5]=[ph .i64 a5]:=q;have k:[c6]=[ph .i64 b]:=r;have l:[c7]=[ph .i64 c]:=u;simp only [List.cons.injEq,and_true] at q0 q1 q2 f g j k l;subst q0 q1 q2 f g j k l;rfl
end
/-! ### A result in cells, and another one -/
section
variable {P:Program} {fn:Func} {R:Ending→World→Prop} {n:Nat} {l:Cb} {w:World} {t:TypeId} {a:Act}
theorem vX {s u:Tmp} {sz:Nat} {p:Addr} (hr:fn.results=#[.cell s t,.tmp u]) (ha:DC n l a) (hs:lk l s=some (zP (some p))) (hu:lk l u=some v) (ht:CK P t=some (true,sz)) (hz:cs.length=sz) (hc:∀ j v,cs[j]?=some v→w.cell? (p.add j)=some v):
  (results fn a.tmps).run P w=.ok (.tuple #[.agg cs.toArray,v]) w:=by
 have hl:=run_loadCells_list (P:=P) w p cs hc;have hg:=(ha.get s _ hs).1;have e2:=(ha.get u _ hu).1;simp [results,hr];simp only [←pm,hg,e2];simp [asAddr,loadVar,Nv ht,Rb ht,←hz,hl]
theorem Jd {s u:Tmp} {sz:Nat} {p:Addr} (hr:fn.results=#[.cell s t,.tmp u]) (hs:lk l s=some (zP (some p))) (hu:lk l u=some v) (ht:CK P t=some (true,sz)) (hz:cs.length=sz) (hc:∀ j v,cs[j]?=some v→w.cell? (p.add j)=some v) (h:R (.returned (.tuple #[.agg cs.toArray,v])) w):WQ (bodyPost P fn R) .ret n l w:=
 fun a ha=>bodyPost_ret (vX hr ha hs hu ht hz hc) ha.defers h
end
structure Dx where
 fr:Int
 to:Int
 m:Bu
def Bq (x:AM A0):Dx:=⟨x.h.fr,x.h.to,x.h.m.p x.set x.pairs⟩
theorem Ou {a b:Dx}:a=b↔a.fr=b.fr∧a.to=b.to∧a.m=b.m:=by
 constructor;rintro rfl;exact ⟨rfl,rfl,rfl⟩;rintro ⟨h1,h2,h3⟩;cases a;cases b;simp only at h1 h2 h3;subst h1 h2 h3;rfl
instance letPD (a b:Dx):Decidable (a=b):=decidable_of_iff _ Ou.symm
structure B9 where
 ep:Int
 rs:List A9
 ts:List Ce
 over:Bool
def EN (r:Ao):Bool:=decide (r.kind=6)
def Ka (recs:List Ao):Int:=((1+cnt EN recs:Nat):Int)
def IK (C:Cf) (id:Int) (k:Nat):List Nat:=(qa k).filter fun (p:Nat)=>decide (Fs C (p:Int)=id)
def Fv (C:Cf) (id:Int) (recs:List Ao) (k:Nat):List A9:=(IK C id k).map fun (p:Nat)=>EF C.J.us.length p (Ka recs) (recs.map Ao.p)
def newW (C:Cf) (id:Int) (recs:List Ao):B9:=⟨Ka recs,Fv C id recs C.J.parts.toNat,[],false⟩
theorem W9 {id:Int} (h:Fs C (k:Int)=id):IK C id (k+1)=IK C id k++[k]:=by
 unfold IK;rw [rn,po];congr 1;exact pq (decide_eq_true h)
theorem jD {id:Int} (h:¬ Fs C (k:Int)=id):IK C id (k+1)=IK C id k:=by
 unfold IK;rw [rn,po];have e:[k].filter (fun (p:Nat)=>decide (Fs C (p:Int)=id))=[]:=qg (by rw [decide_eq_false h];decide);rw [e,oy]
theorem jC {id:Int} {p:Nat} (h:p∈IK C id k):p<k:=um.1 (re.1 h).1
theorem jB (C:Cf) {id:Int} (k:Nat):(IK C id k).length≤k:=ot (ql _ _) (by simp)
theorem vU {id:Int} {recs:List Ao} (h:Fs C (k:Int)=id):Fv C id recs (k+1)=Fv C id recs k++[EF C.J.us.length k (Ka recs) (recs.map Ao.p)]:=by
 unfold Fv;rw [W9 h,oa];rfl
theorem vQ {id:Int} {recs:List Ao} (h:¬ Fs C (k:Int)=id):Fv C id recs (k+1)=Fv C id recs k:=by
 unfold Fv;rw [jD h]
def YY (R:A9):Int:=R.part
theorem vT (C:Cf) (id:Int) (recs:List Ao) (k:Nat):(Fv C id recs k).map YY=(IK C id k).map fun (p:Nat)=>(p:Int):=by
 unfold Fv;rw [ry];exact xv fun p _=>(OC _ _ _ _).1
theorem ZM (C:Cf) (id:Int) (recs:List Ao) (k:Nat):(Fv C id recs k).length≤k:=by
 unfold Fv;rw [nu];exact jB C k
/-! ### What it does -/
def G8 (sp att:Int) (M:Ce):Bool:=decide ((M.sp:Int)=sp) && decide (M.att=att)
def HN (ts:List Ce) (sp att:Int):Bool:=ts.any (G8 sp att)
def Nu (C:Cf) (sp att:Int):Prop:=0≤sp∧sp<((C.J.us.length:Nat):Int)∧1≤att∧att≤C.t
instance runMayD (C:Cf) (sp att:Int):Decidable (Nu C sp att):=by unfold Nu;infer_instance
def Jh (D:B5) (C:Cf) (W:B9) (sp att:Int):B9:=if (W.over||HN W.ts sp att)=true then W else if Nu C sp att then { W with ts:=W.ts++[GH D C.J sp.toNat att] } else W
def doneL (D:B5) (J:AS) (M:Ce):Dx:=
 if (BV D J M.sp).2≠0 then ⟨0,0,⟨5,M.sp,M.att,0,0,0,0,(BV D J M.sp).2,[],[]⟩⟩ else ⟨0,0,⟨4,M.sp,M.att,0,0,0,0,0,Da D J M.sp M.att,[]⟩⟩
def pushL (C:Cf) (m:Bu):Dx:=⟨0,Fs C m.part,m⟩
def Gu (D:B5) (C:Cf) (M:Ce):List Dx:=doneL D C.J M::(Kr D C.J M).map (pushL C)
def I7 (D:B5) (J:AS) (R:A9):Dx:=⟨0,0,BP D J R⟩
def Es (D:B5) (C:Cf) (W:B9):List Dx:=if W.over=true then [] else W.ts.flatMap (Gu D C)++W.rs.map (I7 D C.J)
/-! ### In memory -/
def EO (b:Bool):Int:=if b then 1 else 0
theorem r_ {b:Bool}:decide (EO b≠0)=b:=by cases b<;>rfl
structure Ju where
 sp:Int
 att:Int
 b:Nat
def V_ (t:Ju):List Value:=[.int .i64 t.sp,.int .i64 t.att,.pointer (some ⟨t.b,0,none⟩)]
def E7:Kd Ju:=flat V_ 3 (by omega) (fun _=>rfl) (fun _ c h=>by simp [V_] at h;rcases h with rfl|rfl|rfl<;>rfl)
def BI (e:Nat×Ce):Ju:=⟨(e.2.sp:Int),e.2.att,e.1⟩
def BL (e:Nat×A9):Int:=e.2.part
def ES (e:Nat×A9):Int×Value:=(e.2.part,.pointer (some ⟨e.1,0,none⟩))
def Io (rl:List (Nat×A9)) (p:Int):Option Addr:=match rl.find? (fun e=>decide (e.2.part=p)) with
 |some e=>some ⟨e.1,0,none⟩
 |none=>none
theorem Qt (p:Int):∀ rl:List (Nat×A9),(Gf p (rl.map ES)).getD (zP none)=zP (Io rl p)
 |[]=>rfl
 |e::rl=>by
  have ih:=Qt p rl
  rw [pf]
  unfold Io at ih ⊢
  by_cases h:e.2.part=p
  have h1:(ES e).1=p:=h
  unfold Gf
  rw [if_pos h1,List.find?_cons_of_pos (p:=fun e:Nat×A9=>decide (e.2.part=p)) (decide_eq_true h)]
  rfl
  have h1:¬ (ES e).1=p:=h
  unfold Gf
  rw [if_neg h1,List.find?_cons_of_neg (p:=fun e:Nat×A9=>decide (e.2.part=p)) (by rw [decide_eq_false h];decide)]
  exact ih
theorem vN {rl:List (Nat×A9)} {i:Nat} {e:Nat×A9} (hn:((rl.map ES).map fun p=>p.1).Nodup) (h:rl[i]?=some e):Io rl (e.2.part)=some ⟨e.1,0,none⟩:=by
 have h1:(rl.map ES)[i]?=some (e.2.part,.pointer (some ⟨e.1,0,none⟩)):=by rw [om,h];rfl
 have h2:=Ox hn h1;have h3:=Qt e.2.part rl;rw [h2] at h3;simpa using h3.symm
theorem nA {rl:List (Nat×A9)} {b:Nat} {R:A9} {p:Int} (hp:R.part=p) (h:¬ p∈rl.map BL):FY p b (rl.map ES)=(rl++[(b,R)]).map ES:=by
 rw [O5];rw [oa];subst hp;rfl;intro q hq;obtain ⟨e,he,rfl⟩:=pi.1 hq;exact fun g=>h (pi.2 ⟨e,he,g⟩)
theorem sS {rl:List (Nat×A9)} {rs:List A9} (h:rl.map Prod.snd=rs):rl.map BL=rs.map YY:=by
 rw [←h,ry];rfl
theorem eQ {ts:List Ce} {sp att:Int} {M:Ce} (hx:ts[k]?=some M) (h:G8 sp att M=true):HN ts sp att=true:=sj.2 ⟨M,CU hx,h⟩
theorem gJ {ts:List Ce} {sp att:Int} (h:∀ M∈ts,G8 sp att M=false):HN ts sp att=false:=by
 unfold HN;rw [rz];exact fun M hM=>by rw [h M hM];decide
theorem B0.doneL {A:AS} (h:B0 A B) (D:B5) (M:Ce):doneL D A M=doneL D B M:=by
 unfold X.doneL;rw [h.split,VT h]
theorem E9.home {A B:Cf} (h:E9 A B) (p:Int):Fs A p=Fs B p:=by
 unfold Fs;have h1:CD A↔CD B:=⟨h.may,h.symm.may⟩;rw [h.J.parts,h.w];by_cases g:¬ CD B∨¬ (0≤p∧p≤B.J.parts - 1);rw [if_pos g,if_pos (by rw [h1];exact g)];rw [if_neg g,if_neg (by rw [h1];exact g)]
def Cx (J:AS) (C:Cf):Cf:=⟨J,C.w,C.t,C.o⟩
theorem FX {J:AS} (h:B0 J C.J):E9 (Cx J C) C:=⟨h,rfl,rfl,rfl⟩
def lf (C:Cf) (m:AM DM):AM A0:=⟨⟨0,Fs C m.h.part,m.h⟩,m.sv,m.set,m.pv,m.pairs⟩
theorem zU (C:Cf) (zs:List (AM DM)):C6 (zs.map (lf C))=C6 zs:=by
 unfold C6 Cg;rw [ry];rfl
section
variable {w0 w:World} {F0:BD} {As Rs:List SP}
theorem Hd.bigC {f:α→SP} {x:α} (h:Hd w0 F0 w (f x::Cg f l::As) Rs):Hd w0 F0 w (Cg f (x::l)::As) Rs:=by
 have h1:Hd w0 F0 w (Cg f l::(As++[f x])) Rs:=h.perm (pr (l₁:=[f x]) (l₂:=Cg f l::As));have h2:Hd w0 F0 w (l.map f++As++[f x]) Rs:=by rw [og];exact h1.stA
 have h3:Hd w0 F0 w ((x::l).map f++As) Rs:=h2.perm (pr (l₁:=l.map f++As) (l₂:=[f x]));exact h3.stI
theorem Hd.twC {r:AM α} {us:List (AM α)} (H:Hd w0 F0 w (Aa (Av .i64) r.sv r.set::Aa Ak r.pv r.pairs::C6 us::As) Rs):Hd w0 F0 w (C6 (r::us)::As) Rs:=
 Hd.bigC (f:=Hf) (show Hd w0 F0 w (Hf r::Cg Hf us::As) Rs from Hd.stI (Bs:=[Aa (Av .i64) r.sv r.set,Aa Ak r.pv r.pairs]) H)
theorem Pg {a b:List (AM α)} (H:Hd w0 F0 w (C6 a::C6 b::As) Rs):Hd w0 F0 w (C6 (a++b)::As) Rs:=by
 have h1:Hd w0 F0 w (a.map Hf++(C6 b::As)) Rs:=Hd.stA (Bs:=a.map Hf) H;have h2:Hd w0 F0 w (C6 b::(a.map Hf++As)) Rs:=h1.perm List.perm_middle;have h3:Hd w0 F0 w (b.map Hf++(a.map Hf++As)) Rs:=Hd.stA (Bs:=b.map Hf) h2;have h4:Hd w0 F0 w ((a++b).map Hf++As) Rs:=h3.perm (by
  rw [oa,og];exact (List.perm_append_comm_assoc _ _ _))
 exact h4.stI
end
theorem o7 {zs:List (AM DM)} {x:E3 DM} (hx:(zs.map BR)[k]?=some x):∃ m,zs[k]?=some m∧x=BR m:=by
 rw [om] at hx;obtain ⟨m,hm,rfl⟩:=qc.1 hx;exact ⟨m,hm,U⟩
theorem Zd (D:B5) (J:AS) (s:Nat) (att:Int):∀ (ws:List DG) (p:Nat) (m:Bu),m∈Ff D J s att ws p→∃ q:Nat,m.part=(q:Int)∧q<p+ws.length
 |[],_,_,h=>by cases h
 |w::ws,p,m,h=>by
  have h':m∈Gi D J s att w p++Ff D J s att ws (p+1):=h
  rcases pj.1 h' with g|g
  obtain ⟨q,_,rfl⟩:=pi.1 g
  exact ⟨p,U,by rw [nz];omega⟩
  obtain ⟨q,h1,h2⟩:=Zd D J s _ _ _ m g
  exact ⟨q,h1,by rw [nz];omega⟩
theorem tD {J:AS} {M:Ce} (hM:Fi M) {zs:List (AM DM)} (hz:zs.map JJ=Kr D J M) {m:AM DM} (hm:zs[k]?=some m):Aw m.h.part:=by
 have h1:JJ m∈Kr D J M:=by rw [←hz];exact sh (nt hm)
 obtain ⟨q,h2,h3⟩:=Zd D J _ _ _ 0 _ h1;have h4:=hM.2;have h5:m.h.part=(q:Int):=h2;unfold Aw;omega
theorem o8 {J:AS} {M:Ce} (hM:Fi M) {zs:List (AM DM)} (hz:zs.map JJ=Kr D J M):zs.length≤4000:=by
 have h1:=congrArg qt hz;rw [nu] at h1;have h2:=QO (D:=D) (J:=J) (s:=M.sp) (att:=M.att) 0 hM.1;have h3:=hM.2;have h4:(Kr D J M).length=(Ff D J M.sp M.att M.ws 0).length:=rfl;omega
theorem zH {M:Ce} {z0:AM A0} {zs:List (AM DM)} (h0:Bq z0=doneL D C.J M) (hz:zs.map JJ=Kr D C.J M):(z0::zs.map (lf C)).map Bq=Gu D C M:=by
 unfold Gu;rw [pf,h0,←hz,ry,ry];rfl
theorem UF {M:Ce} (hM:Fi M):(Gu D C M).length≤4001:=by
 have h2:=QO (D:=D) (J:=C.J) (s:=M.sp) (att:=M.att) 0 hM.1;have h3:=hM.2;have h4:(Kr D C.J M).length=(Ff D C.J M.sp M.att M.ws 0).length:=rfl;unfold Gu;rw [nz,nu];omega
theorem B0.hello {A:AS} (h:B0 A B) (D:B5) (R:A9):BP D A R=BP D B R:=by
 unfold BP;rw [h.out,h.len]
theorem gP {f:α→List β} {x:α} (h:l[k]?=some x):(l.take (k+1)).flatMap f=(l.take k).flatMap f++f x:=by
 rw [Dd h,pu];simp
theorem M_ {f:α→β} {x:α} (h:l[k]?=some x):(l.take (k+1)).map f=(l.take k).map f++[f x]:=by
 rw [Dd h,oa];rfl
theorem i7 {J:AS} {R:A9}:(BP D J R).pairs=[]:=by
 unfold BP;split<;>rfl
theorem pA {m:Bu} (h:m.pairs=[]):(⟨m.kind,m.sp,m.att,m.part,m.seq,m.next,m.ep,m.why,m.set,[]⟩:Bu)=m:=by
 cases m;simp only at h;subst h;rfl
theorem sQ {rl:List (Nat×A9)} {rs:List A9} (hrl:rl.map Prod.snd=rs) {x:Int} (hx:(rl.map BL)[k]?=some x):∃ e,rl[k]?=some e∧rs[k]?=some e.2∧x=BL e:=by
 rw [om] at hx;obtain ⟨e,he,rfl⟩:=qc.1 hx;exact ⟨e,he,by rw [←hrl,om,he];rfl,U⟩
theorem vO {id:Int} {recs:List Ao} {p:Nat} {rl:List (Nat×A9)} (hrl:rl.map Prod.snd=Fv C id recs p):¬ ((p:Nat):Int)∈rl.map BL:=fun h=>by
 rw [sS hrl,vT] at h
 obtain ⟨q,hq,e⟩:=pi.1 h
 have:=jC hq
 omega
def MT (set:List Int) (pairs:List Au):Bool:=decide (20<(set.length:Int))||G4 pairs 50
def I5 {α:Type} (x:AM α):Bool:=MT x.set x.pairs
def JE {α:Type} (J:AS) (rs:List Ao) (acts:List (AM α)) (most:Int):Bool:=
 decide (¬ ((acts.length:Int)≤most∧∀ a∈acts,I5 a=false))||Ic J||PX rs 20
theorem WR {x:AM α} (h:I5 x=false):x.set.length≤20∧G4 x.pairs 50=false:=by
 unfold I5 MT at h;rw [vd] at h;have:=of_decide_eq_false h.1;exact ⟨by omega,h.2⟩
section
variable {α:Type} {J:AS} {rs:List Ao} {acts:List (AM α)} {most:Int}
theorem iF {x:AM α} (hx:acts[k]?=some x) (h:I5 x=true):true=JE J rs acts most:=by
 unfold JE;rw [decide_eq_true (show ¬ ((acts.length:Int)≤most∧∀ a∈acts,I5 a=false) from fun g=>by have:=g.2 _ (CU hx);rw [h] at this;cases this)];rfl
theorem WN (h:Ic J=true∨PX rs 20=true):true=JE J rs acts most:=by
 unfold JE;rcases h with h|h<;>rw [h]<;>simp
theorem WM (hn:∀ a∈acts.take k,I5 a=false) (h:acts.length≤k∨most<(acts.length:Int)) (h1:Ic J=false) (h2:PX rs 20=false):decide (most<(acts.length:Int))=JE J rs acts most:=by
 unfold JE;rw [h1,h2,jad,jad];by_cases hl:most<(acts.length:Int);rw [decide_eq_true hl,decide_eq_true (by omega)];rw [decide_eq_false hl,decide_eq_false];intro hh;refine hh ⟨by omega,?_⟩;rw [oe (h.resolve_right hl)] at hn;exact hn
theorem iG (h:JE J rs acts most=false):((acts.length:Int)≤most∧∀ a∈acts,I5 a=false)∧Ic J=false∧PX rs 20=false:=by
 unfold JE at h;rw [vd,vd] at h;exact ⟨oq.1 (of_decide_eq_false h.1.1),h.1.2,h.2⟩
end
/-! ### Lists of structs held against one another -/
theorem yB {a b:U2}:a=b↔a.why=b.why∧a.set=b.set∧a.pairs=b.pairs:=by
 constructor;rintro rfl;exact ⟨rfl,rfl,rfl⟩;rintro ⟨h1,h2,h3⟩;cases a;cases b;simp only at h1 h2 h3;subst h1 h2 h3;rfl
instance snapPD (a b:U2):Decidable (a=b):=decidable_of_iff _ yB.symm
theorem oP {γ:Type} {f:α→γ} {g:β→γ} {a:List α} {b:List β} {x:α} {y:β} (hx:a[k]?=some x) (hy:b[k]?=some y) (e:f x=g y) (h:(a.take k).map f=(b.take k).map g):(a.take (k+1)).map f=(b.take (k+1)).map g:=by
 rw [Dd hx,Dd hy,oa,oa,h];simp [e]
theorem TK {γ:Type} {f:α→γ} {g:β→γ} {a:List α} {b:List β} {x:α} {y:β} (hx:a[k]?=some x) (hy:b[k]?=some y) (e:a.map f=b.map g):f x=g y:=by
 have h:=congrArg (·[k]?) e;simp only [om,hx,hy,rk] at h;exact Option.some.inj h
/-! ### A small configuration -/
def Ov:Ao:=⟨6,0,0,0,0,QF,[],QF,[]⟩
theorem nK {w:World} {n:Nat}:∀ r∈pd n Ov,(An (Av .i64) r.sv r.set).P w F∧(An Ak r.pv r.pairs).P w F:=fun r hr=>by
 rw [uh hr]
 exact ⟨Jg _ trivial (by decide),Jg _ trivial (by decide)⟩
theorem X3:∀ n:Nat,cnt EN (pd n Ov)=n
 |0=>rfl
 |n+1=>by
  have ih:=X3 n
  unfold cnt at ih ⊢
  rw [List.replicate_succ,pq (show EN Ov=true from rfl),nz,ih]
theorem nJ (n:Nat):Ka (pd n Ov)=((n+1:Nat):Int):=by
 unfold Ka;rw [X3,Nat.add_comm]
/-! ### Each part has one home -/
section
variable {w w0:World} {F F0:BD} {α:Type} {d:Kd α} {A:Option Addr} {m c:Nat} {xs:List α} {As Rs:List SP}
theorem Hd.cutO (H:Hd w0 F0 w (Aa d (V A m c) xs::As) Rs) {i:Nat} (hi:i≤m):Hd w0 F0 w (Aa d (V A i c) (xs.take i)::As) Rs:=H.turn fun F h=>YW h hi
end
def HK (L k:Nat) (keep:Int):Nat:=k+(IntKind.u64.wrap keep%(((L - k+1:Nat)):Int)).toNat
theorem VX {L:Nat} {keep:Int} (h:k≤L):k≤HK L k keep∧HK L k keep≤L:=by
 unfold HK;have h1:=sy (IntKind.u64.wrap keep) (show (((L - k+1:Nat)):Int)≠0 by omega);have h2:=rq (IntKind.u64.wrap keep) (show 0<(((L - k+1:Nat)):Int) by omega);omega
theorem VV {L:Nat} {keep:Int} (h:L≤1000000000000):IntKind.i64.wrap (IntKind.u64.wrap keep%((L - k+1:Nat):Int))=IntKind.u64.wrap keep%((L - k+1:Nat):Int):=by
 have h1:=sy (IntKind.u64.wrap keep) (show (((L - k+1:Nat)):Int)≠0 by omega);have h2:=rq (IntKind.u64.wrap keep) (show 0<(((L - k+1:Nat)):Int) by omega);exact Df (by omega) (by omega)
theorem VW {L:Nat} {keep:Int} (hk:k≤L) (h:L≤1000000000000):IntKind.i64.wrap (((k:Nat):Int)+IntKind.u64.wrap keep%((L - k+1:Nat):Int))=((HK L k keep:Nat):Int):=by
 have h1:=sy (IntKind.u64.wrap keep) (show (((L - k+1:Nat)):Int)≠0 by omega);have h2:=rq (IntKind.u64.wrap keep) (show 0<(((L - k+1:Nat)):Int) by omega);unfold HK;rw [Df (by omega) (by omega)];generalize IntKind.u64.wrap keep%((L - k+1:Nat):Int)=z at h1 h2 ⊢;omega
def Ig:Bp:=⟨6,0,0,0,0,[],[]⟩
theorem Tw:CG Ig:=by decide
def Gn (n:Nat):List Bp:=pd n Ig
theorem nM (n:Nat):∀ r∈Gn n,CG r:=fun r hr=>by rw [uh hr];exact Tw
theorem X6 (n:Nat):Gn (n+1)=Gn n++[Ig]:=List.replicate_succ'
theorem Ot (n:Nat):(Ch (Gn n)).length=64*n:=by
 induction n with
 |zero=>rfl
 |succ n ih=>
  rw [X6,X0,nr,ih,Pc];have:(Dh Ig).length=56:=by
   unfold Dh FD;rw [nr,nr,Lj,FI];rfl
  omega
theorem Tv:FQ [Ig]=Ch (Gn 1):=by
 unfold FQ;rw [if_pos (fun r hr=>by rw [pc.1 hr];exact Tw)];rfl
theorem nE (n:Nat):Ch (Gn n)++FQ [Ig]=Ch (Gn (n+1)):=by
 rw [Tv,X6 n,M9];rfl
inductive F_
 |z
 |e (i:Nat) (s:F_)
 |m (i:Nat) (s:F_)
 |p (i j:Nat) (s:F_)
 |b (i j:Nat) (s t:F_)
def Is:F_→Nat
 |.z=>0
 |.e _ s=>Is s+1
 |.m _ s=>Is s+1
 |.p _ _ s=>Is s+2
 |.b _ _ s _=>Is s+1
def HU (ops:Array Oper):F_→Array Bool→Bool
 |.z,listed=>(Region.ready .any ops listed).isEmpty
 |.m i s,listed=>decide (Region.ready .any ops listed=[i]) && HU ops s (listed.setIfInBounds i true)
 |.e i s,listed=>(Region.ready .any ops listed).contains i && Region.free .any ops listed i && HU ops s (listed.setIfInBounds i true)
 |.p i j s,listed=>decide (Region.ready .any ops listed=[i,j]) && decide (Region.ready .any ops (listed.setIfInBounds i true)=[j]) && decide (Region.ready .any ops (listed.setIfInBounds j true)=[i]) && Nat.blt i j && HU ops s ((listed.setIfInBounds i true).setIfInBounds j true)
 |.b i j s t,listed=>decide (Region.ready .any ops listed=[i,j]) && ym (Is s) (Is t) && HU ops s (listed.setIfInBounds i true) && HU ops t (listed.setIfInBounds j true)
section
variable {P:Program} {ops:Array Oper} {Q:Exit→Act→World→Prop} {S:World→Prop}
def FT (K:Act→World→Prop):Exit→Act→World→Prop
 |.normal,a,w=>K a w
 |_,_,_=>False
def H9 (P:Program) (ops:Array Oper) (Q:Exit→Act→World→Prop) (S:World→Prop):F_→Act→World→Prop
 |.z,a,w=>Q .normal a w
 |.p i j s,a,w=>∃ oi oj vi vj,ops[i]?=some oi∧ops[j]?=some oj∧(∀ a',(a'=a∨a'=a.put oj.dst vj)→Region.wanted oi (yielded ops a'.tmps)=true∧(execOp a'.eval oi).run P w=.ok (.value vi) w)∧
   (∀ a',(a'=a∨a'=a.put oi.dst vi)→Region.wanted oj (yielded ops a'.tmps)=true∧(execOp a'.eval oj).run P w=.ok (.value vj) w)∧H9 P ops Q S s ((a.put oi.dst vi).put oj.dst vj) w∧H9 P ops Q S s ((a.put oj.dst vj).put oi.dst vi) w
 |.b i j s t,a,w=>(∃ o,ops[i]?=some o∧wpList P ops (FT fun a w=>S w∧H9 P ops Q S s a w) [o] a w)∧∃ o,ops[j]?=some o∧wpList P ops (FT fun a w=>S w∧H9 P ops Q S t a w) [o] a w
 |.m i s,a,w=>∃ o,ops[i]?=some o∧wpList P ops (FT fun a w=>S w∧H9 P ops Q S s a w) [o] a w
 |.e i s,a,w=>∃ o v,ops[i]?=some o∧YieldsIf P ops S o v a∧H9 P ops Q S s (a.put o.dst v) w
theorem cC {o:Oper} {a:Act} {w:World} {Q':Exit→Act→World→Prop} (hh:o.wp P a w K (FT K)):o.wp P a w K Q':=by
 unfold Oper.wp at *;generalize (execOp a.eval o).run P w=r at *;cases r with
 |ok n w'=>
  cases n<;>simp only [Oper.upon] at hh ⊢<;>
   first
    |exact hh
    |exact Calls.mono hh (fun e w'' he=>by cases e<;>first |exact he|exact he.elim|exact (let ⟨_,_,h⟩:=he;h.elim))
 |halt x w'=>cases x<;>simp only [Oper.upon] at hh ⊢<;>first |exact hh|exact hh.elim
theorem UX {i:Nat} {o:Oper} {a:Act} {w:World} {b:Act→World→Prop} (ho:ops[i]?=some o) (hS:S w) (h:wpList P ops (FT fun a w=>S w∧K a w) [o] a w) (hk:∀ a' w',S w'→K a' w'→b a' w'):
  wpOp P ops (FT fun a w=>Q .normal a w) i (fun a' w'=>S w'∧b a' w') a w:=by
 unfold wpOp;simp only [ho];simp only [wpList] at h;split;rename_i hw;rw [if_pos hw] at h;rcases h with h|⟨_,a',w',h⟩;exact .inl (Oper.wp_mono (fun a' w' (h':S w'∧K a' w')=>⟨h'.1,hk a' w' h'.1 h'.2⟩) (cC h));exact h.elim;rename_i hw;rw [if_neg hw] at h;exact ⟨h.1,hk _ w h.1 h.2⟩
theorem LD (hs:Region.noSelect ops=true):∀ (s:F_) (listed:Array Bool) (a:Act) (w:World),HU ops s listed=true→S w→H9 P ops Q S s a w→
  wpAnyH P .any ops (FT fun a w=>Q .normal a w) S (Is s) listed a w
 |.z,listed,a,w,hB,_,h=>⟨by simpa [HU] using hB,h⟩
 |.b i j s t,listed,a,w,hB,hS,h=>by
  simp only [HU,qe,decide_eq_true_eq] at hB
  obtain ⟨⟨⟨d,c⟩,f⟩,g⟩:=hB
  have c:Is s=Is t:=tk c
  obtain ⟨⟨oi,hi,h1⟩,oj,hj,h2⟩:=h
  refine wpAnyH_all d (by simp) fun q hq=>?_
  simp only [pn,qx,or_false] at hq
  rcases hq with rfl|rfl
  exact UX hi hS h1 fun a' w' hS' h'=>LD hs s _ _ _ f hS' h'
  refine UX hj hS h2 fun a' w' hS' h'=>?_
  have:=LD hs t _ _ _ g hS' h'
  rwa [←c] at this
 |.m i s,listed,a,w,hB,hS,h=>by
  simp only [HU,qe,decide_eq_true_eq] at hB
  obtain ⟨o,ho,h⟩:=h
  refine wpAnyH_all hB.1 (by simp) fun j hj=>?_
  obtain rfl:j=i:=by simpa using hj
  exact UX ho hS h fun a' w' hS' h'=>LD hs s _ _ _ hB.2 hS' h'
 |.p i j s,listed,a,w,hB,hS,h=>by
  simp only [HU,qe,decide_eq_true_eq] at hB
  obtain ⟨⟨⟨⟨d,c⟩,f⟩,g⟩,l⟩:=hB
  obtain ⟨oi,oj,vi,vj,hi,hj,ri,rj,k1,k2⟩:=h
  have hij:j≠i:=by
   have:i+1≤j:=by simpa [Nat.blt] using g
   omega
  have one:∀ (k:Nat) (o:Oper) (v:Value) (a:Act) (K:Act→World→Prop),ops[k]?=some o→Region.wanted o (yielded ops a.tmps)=true→(execOp a.eval o).run P w=.ok (.value v) w→K (a.put o.dst v) w→wpOp P ops (FT fun a w=>Q .normal a w) k K a w:=by
   intro k o v a K hk hw hr hK;unfold wpOp;simp only [hk,hw,if_true,Oper.wp,hr,Oper.upon];exact .inl hK
  refine wpAnyH_all d (by simp) fun q hq=>?_;simp only [pn,qx,or_false] at hq;rcases hq with rfl|rfl
  obtain ⟨w1,e1⟩:=ri a (.inl rfl);obtain ⟨w2,e2⟩:=rj _ (.inr rfl);refine one _ _ _ _ _ hi w1 e1 ⟨hS,wpAnyH_all c (by simp) fun r hr=>?_⟩;obtain rfl:r=j:=by simpa using hr
  exact one _ _ _ _ _ hj w2 e2 ⟨hS,LD hs s _ _ w l hS k1⟩;obtain ⟨w1,e1⟩:=rj a (.inl rfl);obtain ⟨w2,e2⟩:=ri _ (.inr rfl);refine one _ _ _ _ _ hj w1 e1 ⟨hS,wpAnyH_all f (by simp) fun r hr=>?_⟩;obtain rfl:r=i:=by simpa using hr
  refine one _ _ _ _ _ hi w2 e2 ⟨hS,?_⟩;rw [wl _ _ hij];exact LD hs s _ _ w l hS k2
 |.e i s,listed,a,w,hB,hS,h=>by
  simp only [HU,qe] at hB;obtain ⟨o,v,ho,hy,h⟩:=h;exact wpAnyH_take ho hs hB.1.2 hB.1.1 (fun _ _ _ h=>h) hy hS (LD hs s _ _ w hB.2 hS h)
end
section
variable {P:Program} {Q:Exit→Act→World→Prop} {S:World→Prop} {n:Nat} {l:Cb} {w0 w:World} {F0:BD} {As Rs:List SP} {s t:F_} {os:List Oper} {o:Oper} {v:Value} {i:Nat}
def WD (P:Program) (os:List Oper) (Q:Exit→Act→World→Prop) (S:World→Prop) (s:F_) (n:Nat) (l:Cb) (w:World):Prop:=∀ a,DC n l a→H9 P os.toArray Q S s a w
theorem Ej {id:Nat} (s:F_) (S:World→Prop) (hm:P.follows .mixedOrders=true) (hB:(Region.noSelect os.toArray && HU os.toArray s (ue os.length false) && ym (Is s) os.length)=true)
  (hS:∀ w',Hd w0 F0 w' As Rs→S w') (H:Hd w0 F0 w As Rs) (h:∀ w',Hd w0 F0 w' As Rs→WD P os Q S s n l w'):WC P (.region id os.toArray true) Q n l w:=by
 intro a ha;simp only [qe] at hB;have H':Hd w0 F0 { w with drawn:=w.drawn+1 } As Rs:=H.drewN 1;have h1:=LD (Q:=Q) hB.1.1 s _ a _ (by simpa using hB.1.2) (hS _ H') (h _ H' a ha);rw [tk hB.2,show os.length=os.toArray.size by simp] at h1;exact wp_mono (wp_region_held hm (by simpa using h1)) fun e a w h=>by
  cases e<;>first |exact h|exact h.elim
theorem R9 (hi:os[i]?=some o) (hg:gd os.toArray l o=some true) (hd:CF n o.dst=true) (hr:∀ w,S w→BT P n l w o v w) (h:WD P os Q S s n (Cj l o.dst v) w):WD P os Q S (.e i s) n l w:=by
 intro a ha;exact ⟨o,v,by simpa using hi,.inl ⟨Hu ha hg,fun w hw=>hr w hw a ha⟩,h _ (ha.put _ _ hd)⟩
theorem fF (hi:os[i]?=some o) (hg:gd os.toArray l o=some false) (hd:CF n o.dst=true) (h:WD P os Q S s n (Cj l o.dst undef) w):WD P os Q S (.e i s) n l w:=by
 intro a ha;exact ⟨o,undef,by simpa using hi,.inr ⟨Hu ha hg,U⟩,h _ (ha.put _ _ hd)⟩
theorem AB (hi:os[i]?=some o) (h:WL P os.toArray (FT fun a w=>S w∧H9 P os.toArray Q S s a w) [o] n l w):WD P os Q S (.m i s) n l w:=by
 intro a ha;exact ⟨o,by simpa using hi,h a ha⟩
theorem GF {oi oj:Oper} {j:Nat} (hi:os[i]?=some oi) (hj:os[j]?=some oj) (h1:WL P os.toArray (FT fun a w=>S w∧H9 P os.toArray Q S s a w) [oi] n l w)
  (h2:WL P os.toArray (FT fun a w=>S w∧H9 P os.toArray Q S t a w) [oj] n l w):WD P os Q S (.b i j s t) n l w:=by
 intro a ha;exact ⟨⟨oi,by simpa using hi,h1 a ha⟩,oj,by simpa using hj,h2 a ha⟩
theorem Az (hS:S w) (h:WD P os Q S s n l w):WL P os.toArray (FT fun a w=>S w∧H9 P os.toArray Q S s a w) [] n l w:=by
 intro a ha;exact ⟨hS,h a ha⟩
theorem HL (hi:os[i]?=some o) (hS:S w) (hg:gd os.toArray l o=some false) (hd:CF n o.dst=true) (h:WD P os Q S s n (Cj l o.dst undef) w):WD P os Q S (.m i s) n l w:=by
 intro a ha;refine ⟨o,by simpa using hi,?_⟩;simp only [wpList];rw [if_neg (by rw [Hu ha hg];simp)];exact ⟨hS,h _ (ha.put _ _ hd)⟩
theorem Ow {d:Option Tmp} {l:Cb} {s:Nat} (h:d≠some s):lk (Cj l d u) s=lk l s:=by
 cases d with
 |none=>rfl
 |some d=>
  simp only [Cj,lk];split;rename_i e _;exact absurd (congrArg some e) h;rfl
theorem Qq {l:Cb} {s:Nat}:lk (Cj l (some s) u) s=some u:=by
 simp only [Cj,lk];split;rfl;rename_i e _;exact absurd U e
def QG (l:Cb):Option Tmp→Bool
 |some d=>(lk l d).isNone
 |none=>true
theorem Wm {a:Act} {d:Option Tmp} (ha:DC n l a) (hd:CF n d=true) (hn:QG l d=true):DC n l (a.put d u):=by
 refine (ha.put d u hd).sub fun s v hs=>?_;rw [Ow ?_,hs];rintro rfl;simp [QG,hs] at hn
theorem NX {oi oj:Oper} {vi vj:Value} {j:Nat} (hi:os[i]?=some oi) (hj:os[j]?=some oj) (gi:gd os.toArray l oi=some true) (gj:gd os.toArray l oj=some true) (di:CF n oi.dst=true) (dj:CF n oj.dst=true)
  (ni:QG l oi.dst=true) (nj:QG l oj.dst=true) (hij:oi.dst≠oj.dst) (ri:BT P n l w oi vi w) (rj:BT P n l w oj vj w) (h:WD P os Q S s n (Cj (Cj l oi.dst vi) oj.dst vj) w):WD P os Q S (.p i j s) n l w:=by
 intro a ha;have f1:=Wm (u:=vi) ha di ni;have f2:=Wm (u:=vj) ha dj nj;refine ⟨oi,oj,vi,vj,by simpa using hi,by simpa using hj,?_,?_,h _ ((ha.put _ _ di).put _ _ dj),h _ (((ha.put _ _ dj).put _ _ di).sub fun s v hs=>?_)⟩;rintro a' (rfl|rfl);exact ⟨Hu ha gi,ri _ ha⟩;exact ⟨Hu f2 gi,ri _ f2⟩;rintro a' (rfl|rfl);exact ⟨Hu ha gj,rj _ ha⟩;exact ⟨Hu f1 gj,rj _ f1⟩;by_cases e1:oj.dst=some s;rw [Ow (by rw [←e1];exact hij)];rw [e1,Qq] at hs;rw [e1,Qq];exact hs;rw [Ow e1] at hs;by_cases e2:oi.dst=some s;rw [e2,Qq] at hs;rw [e2,Qq];exact hs;rw [Ow e2] at hs ⊢;rw [Ow e1];exact hs
theorem BH (h:WQ Q .normal n l w):WD P os Q S .z n l w:=h
theorem R8 {b:Bool} (hc:lk l d=some (.bool b)) (ht:b=true→WD P os Q S s n ((d,.bool true)::l) w) (hf:b=false→WD P os Q S s n ((d,.bool false)::l) w):WD P os Q S s n l w:=by
 intro a ha;cases b;refine hf U a ⟨ha.defers,ha.size,fun s v hs=>?_⟩;simp only [lk] at hs;split at hs;rename_i e _;obtain rfl:nw false=v:=by simpa using hs
 subst e;exact ha.get _ _ hc;exact ha.get _ _ hs;refine ht U a ⟨ha.defers,ha.size,fun s v hs=>?_⟩;simp only [lk] at hs;split at hs;rename_i e _;obtain rfl:nw true=v:=by simpa using hs
 subst e;exact ha.get _ _ hc;exact ha.get _ _ hs
theorem LL {p:Prop} {_:Decidable p} (hc:lk l d=some (.bool (decide p))) (ht:p→WD P os Q S s n ((d,.bool true)::l) w) (hf:¬ p→WD P os Q S s n ((d,.bool false)::l) w):WD P os Q S s n l w:=
 R8 hc (fun h=>ht (of_decide_eq_true h)) (fun h=>hf (of_decide_eq_false h))
end
inductive Iv
 |e (i:Nat) (q:Iv)
 |m (i:Nat) (q:Iv)
 |w (i:Nat) (s:F_)
def Pb:Iv→Nat
 |.e _ q=>Pb q+1
 |.m _ q=>Pb q+1
 |.w _ s=>Is s+1
def JU:Iv→Nat
 |.e _ q=>JU q
 |.m _ q=>JU q
 |.w i _=>i
def LC (ops:Array Oper) (k i:Nat):Bool:=match ops[k]? with
 |some o=>o.after.any fun e=>Region.binds .any e && ym e.on i
 |none=>false
def Js (ops:Array Oper):Nat→Nat→Nat→Bool
 |0,k,i=>LC ops k i
 |n+1,k,i=>LC ops k i||(qa ops.size).any fun m=>LC ops k m && Js ops n m i
def Mx (ops:Array Oper) (listed:Array Bool):Prop:=∀ (k:Nat) (o:Oper),ops[k]?=some o→listed.getD k true=true→∀ e∈o.after,Region.binds .any e=true→listed.getD e.on true=true
theorem UQ {L:Array Bool} {i:Nat} (h:LC ops k i=true) (hk:∀ o,ops[k]?=some o→∀ e∈o.after,Region.binds .any e=true→L.getD e.on true=true):L.getD i true=true:=by
 unfold LC at h;split at h;rename_i o ho;obtain ⟨x,hx,a⟩:=Array.any_eq_true'.1 h;rw [qe] at a;have:=hk o ho x hx a.1;rwa [tk a.2] at this
 cases h
theorem bT {ops:Array Oper} {L:Array Bool} (hL:Mx ops L) {i:Nat}:∀ (n k:Nat),Js ops n k i=true→(∀ o,ops[k]?=some o→∀ e∈o.after,Region.binds .any e=true→L.getD e.on true=true)→L.getD i true=true
 |0,k,h,hk=>UQ h hk
 |n+1,k,h,hk=>by
  unfold Js at h
  rw [Bool.or_eq_true] at h
  rcases h with h|h
  exact UQ h hk
  obtain ⟨m,_,hm⟩:=sj.1 h
  rw [qe] at hm
  have h1:=UQ hm.1 hk
  exact bT hL n m hm.2 fun o ho e he hb=>hL m o ho h1 e he hb
def Jb (ops:Array Oper):Iv→Array Bool→Bool
 |.e i q,listed=>(Region.ready .any ops listed).contains i && Region.free .any ops listed i && Js ops 2 (JU q) i && Jb ops q (listed.setIfInBounds i true)
 |.m i q,listed=>decide (Region.ready .any ops listed=[i]) && Jb ops q (listed.setIfInBounds i true)
 |.w i s,listed=>decide (Region.ready .any ops listed=[i]) && HU ops s (listed.setIfInBounds i true)
section
variable {P:Program} {ops:Array Oper} {Q:Exit→Act→World→Prop} {S S2:World→Prop} {W:Nat}
def Mu (P:Program) (ops:Array Oper) (Q:Exit→Act→World→Prop) (S S2:World→Prop) (W:Nat):Nat→Array Bool→Act→World→Prop
 |0,listed,a,w=>Region.ready .any ops listed=[]∧Q .normal a w
 |n+1,listed,a,w=>(Region.ready .any ops listed=[]→Q .normal a w)∧∀ i∈Region.ready .any ops listed,
   wpOp P ops Q i (fun a' w'=>(i≠W∧S w'∧Mu P ops Q S S2 W n (listed.setIfInBounds i true) a' w')∨(i=W∧wpAnyH P .any ops Q S2 n (listed.setIfInBounds i true) a' w')) a w
theorem cA:∀ (n:Nat) (listed:Array Bool) (a:Act) (w:World),Mu P ops Q S S2 W n listed a w→wpAny P .any ops Q n listed a w
 |0,_,_,_,h=>h
 |n+1,_,_,_,h=>⟨h.1,fun i hi=>wpOp_mono (fun a' w' h'=>h'.elim (fun g=>cA n _ a' w' g.2.2) fun g=>wpAny_of_held n _ a' w' g.2) (h.2 i hi)⟩
theorem Rd (i:Nat) (L:Array Bool) (h:L.getD k true=true):(L.setIfInBounds i true).getD k true=true:=by
 by_cases e:i=k;subst e;rcases pg i L.size with h'|h'
 simp [pm,h'];simp [pm,rg,h'];rw [getD_set_ne true e];exact h
theorem X4 {L:Array Bool} (h:L.getD k false=true):L.getD k true=true:=by
 rw [pm] at h ⊢;cases hk:L[k]? with
 |none=>rfl
 |some b=>rw [hk] at h;exact h
theorem Ut {L:Array Bool} {j:Nat} (h:Mx ops L) (hj:j∈Region.ready .any ops L):Mx ops (L.setIfInBounds j true):=by
 intro k o ho hk e he hb;obtain ⟨_,oj,hoj,hall⟩:=mem_ready.1 hj;by_cases hjk:j=k;subst hjk;rw [hoj] at ho;injection ho with ho;subst ho;exact Rd j L (X4 (hall e he hb));rw [getD_set_ne true hjk] at hk;exact Rd j L (h k o ho hk e he hb)
theorem gK {i:Nat} {oi:Oper} (hi:ops[i]?=some oi) (hsel:∀ (j:Nat) (o:Oper) cs b,ops[j]?=some o→o.op≠.select cs b) (hQ:∀ c a w,Q (.panic c) (a.put oi.dst v) w→Q (.panic c) a w)
  (hw:Js ops 2 W i=true) (hiW:i≠W):∀ (n:Nat) (listed:Array Bool) (a:Act) (w:World),Mx ops listed→
   (∀ j oj,ops[j]?=some oj→j≠i→listed.getD j true=false→(∀ e∈oj.after,Region.binds .any e=true→e.on≠i)→oi.apart ops oj=true)→
   i∈Region.ready .any ops listed→YieldsIf P ops S oi v a→S w→Mu P ops Q S S2 W n (listed.setIfInBounds i true) (a.put oi.dst v) w→Mu P ops Q S S2 W (n+1) listed a w:=by
 intro n;induction n with
 |zero=>
  intro listed a w hcl _ hr hy hS hH;refine ⟨fun h=>(by rw [h] at hr;cases hr),fun j hj=>?_⟩;by_cases hji:j=i;subst hji;exact hy.wpOp hi hS (.inl ⟨hiW,hS,hH⟩);have:=ready_mono hj hji;rw [hH.1] at this;cases this
 |succ n ih=>
  intro listed a w hcl hfree hr hy hS hH;refine ⟨fun h=>(by rw [h] at hr;cases hr),fun j hj=>?_⟩;by_cases hji:j=i;subst hji;exact hy.wpOp hi hS (.inl ⟨hiW,hS,hH⟩);have h1:=hH.2 j (ready_mono hj hji);obtain ⟨hjun,oj,hoj,hall⟩:=mem_ready.1 hj;have hnot:∀ e∈oj.after,Region.binds .any e=true→e.on≠i:=by
   intro e he hb heq;have g1:=hall e he hb;have g0:=(mem_ready.1 hr).1;rw [heq] at g1;rcases pg i listed.size with h'|h'
   simp [h'] at g0 g1;rw [g0] at g1;cases g1;simp [rg h'] at g1
  have hjW:j≠W:=by
   intro e;have g0:=(mem_ready.1 hr).1;have g1:=bT hcl 2 W hw fun o ho x hx hb=>X4 (hall x (by rw [←e,hoj] at ho;injection ho with ho;rw [ho];exact hx) hb);rw [g1] at g0;cases g0
  have h2:=wpOp_putIf hoj (hfree j oj hoj hji hjun hnot) (fun cs b=>hsel i oi cs b hi) (fun cs b=>hsel j oj cs b hoj) hQ hy h1;refine wpOp_mono (fun a' w' h3=>?_) h2;obtain ⟨hy',h4|h4⟩:=h3;refine .inl ⟨hjW,h4.2.1,ih (listed.setIfInBounds j true) a' w' (Ut hcl hj) (fun k ok hk hki hun hno=>?_) (ready_mono hr (Ne.symm hji)) hy' h4.2.1 ?_⟩;refine hfree k ok hk hki ?_ hno;by_cases hjk:j=k;subst hjk;exact hjun;rw [getD_set_ne true hjk] at hun;exact hun;rw [wl _ _ hji];exact h4.2.2;exact absurd h4.1 hjW
def NJ (P:Program) (ops:Array Oper) (Q:Exit→Act→World→Prop) (S S2:World→Prop):Iv→Act→World→Prop
 |.e i q,a,w=>∃ o v,ops[i]?=some o∧YieldsIf P ops S o v a∧NJ P ops Q S S2 q (a.put o.dst v) w
 |.m i q,a,w=>∃ o,ops[i]?=some o∧wpList P ops (FT fun a w=>S w∧NJ P ops Q S S2 q a w) [o] a w
 |.w i s,a,w=>∃ o,ops[i]?=some o∧wpList P ops (FT fun a w=>S2 w∧H9 P ops Q S2 s a w) [o] a w
theorem cB {i:Nat} {o:Oper} {a:Act} {w:World} {T:World→Prop} {b:Act→World→Prop} (ho:ops[i]?=some o) (h:wpList P ops (FT fun a w=>T w∧K a w) [o] a w) (hk:∀ a' w',T w'→K a' w'→b a' w'):
  wpOp P ops (FT fun a w=>Q .normal a w) i b a w:=by
 unfold wpOp;simp only [ho];simp only [wpList] at h;split;rename_i hw;rw [if_pos hw] at h;rcases h with h|⟨_,a',w',h⟩;exact .inl (Oper.wp_mono (fun a' w' (h':T w'∧K a' w')=>hk a' w' h'.1 h'.2) (cC h));exact h.elim;rename_i hw;rw [if_neg hw] at h;exact hk _ w h.1 h.2
theorem UW (hs:Region.noSelect ops=true):∀ (q:Iv) (listed:Array Bool) (a:Act) (w:World),Jb ops q listed=true→Mx ops listed→(∀ k,Js ops 2 k k=true→False)→listed.getD (JU q) true=false→S w→NJ P ops Q S S2 q a w→
  Mu P ops (FT fun a w=>Q .normal a w) S S2 (JU q) (Pb q) listed a w
 |.e i q,listed,a,w,hB,hcl,hno,hl,hS,h=>by
  simp only [Jb,qe] at hB
  obtain ⟨o,v,ho,hy,h⟩:=h
  have hne:i≠JU q:=fun e=>hno i (by have:=hB.1.2;rw [←e] at this;exact this)
  exact gK ho (Region.noSelect_spec hs) (fun _ _ _ h=>h) hB.1.2 hne _ _ a w hcl (Region.free_spec ho hB.1.1.2) (by simpa using hB.1.1.1) hy hS
   (UW hs q _ _ w hB.2 (Ut hcl (by simpa using hB.1.1.1)) hno (by rw [getD_set_ne true hne];exact hl) hS h)
 |.m i q,listed,a,w,hB,hcl,hno,hl,hS,h=>by
  simp only [Jb,qe,decide_eq_true_eq] at hB
  obtain ⟨o,ho,h⟩:=h
  show Mu P ops _ S S2 (JU q) (Pb q+1) listed a w
  refine ⟨fun h0=>(by rw [hB.1] at h0;cases h0),fun j hj=>?_⟩
  rw [hB.1] at hj
  obtain rfl:j=i:=by simpa using hj
  by_cases hne:j=JU q
  exfalso
  have:∀ (q:Iv) (L:Array Bool),L.getD (JU q) true=true→Jb ops q L=true→False:=by
   intro q;induction q with
   |e i q ih=>intro L hL hB;simp only [Jb,qe] at hB;exact ih _ (Rd i _ hL) hB.2
   |m i q ih=>intro L hL hB;simp only [Jb,qe] at hB;exact ih _ (Rd i _ hL) hB.2
   |w i s=>
    intro L hL hB;simp only [Jb,qe,decide_eq_true_eq] at hB;have hr:i∈Region.ready .any ops L:=by rw [hB.1];simp
    have:=(mem_ready.1 hr).1;rw [show L.getD i true=true from hL] at this;cases this
  refine this q _ ?_ hB.2;rw [←hne];rcases pg j listed.size with h'|h'
  simp [pm,h'];simp [pm,rg h',ru,h'];exact cB ho h fun a' w' hS' h'=>.inl ⟨hne,hS',UW hs q _ _ _ hB.2 (Ut hcl (by rw [hB.1];simp)) hno (by rw [getD_set_ne true hne];exact hl) hS' h'⟩
 |.w i s,listed,a,w,hB,hcl,hno,hl,hS,h=>by
  simp only [Jb,qe,decide_eq_true_eq] at hB;obtain ⟨o,ho,h⟩:=h;show Mu P ops _ S S2 i (Is s+1) listed a w;refine ⟨fun h0=>(by rw [hB.1] at h0;cases h0),fun j hj=>?_⟩;rw [hB.1] at hj;obtain rfl:j=i:=by simpa using hj
  exact cB ho h fun a' w' hS' h'=>.inr ⟨U,LD hs s _ _ _ hB.2 hS' h'⟩
end
section
variable {P:Program} {Q:Exit→Act→World→Prop} {S S2:World→Prop} {n:Nat} {l:Cb} {w0 w:World} {F0:BD} {As Rs:List SP} {s:F_} {q:Iv} {os:List Oper} {o:Oper} {v:Value} {i:Nat}
def WG (P:Program) (os:List Oper) (Q:Exit→Act→World→Prop) (S S2:World→Prop) (q:Iv) (n:Nat) (l:Cb) (w:World):Prop:=∀ a,DC n l a→NJ P os.toArray Q S S2 q a w
def YF (ops:Array Oper):Bool:=(qa ops.size).all fun k=>!Js ops 2 k k
theorem AaX {ops:Array Oper} {k i:Nat} (hk:ops[k]?=none):∀ n,Js ops n k i=false
 |0=>by unfold Js LC;rw [hk]
 |n+1=>by
  have h0:∀ m,LC ops k m=false:=fun m=>by unfold LC;rw [hk]
  unfold Js
  rw [h0,Bool.false_or,rz]
  intro m _
  rw [h0];simp
theorem qV (h:YF ops=true) (k:Nat) (hk:Js ops 2 k k=true):False:=by
 by_cases hl:k<ops.size;have:=List.all_eq_true.1 h k (um.2 hl);rw [hk] at this;cases this;rw [AaX (rg (by omega))] at hk;cases hk
theorem xZ (ops:Array Oper):Mx ops (ue ops.size false):=by
 intro k o ho hk;obtain ⟨hl,_⟩:=ta.1 ho;simp [pm,hl] at hk
theorem dV {id:Nat} (q:Iv) (S S2:World→Prop) (hm:P.follows .mixedOrders=true) (hB:(Region.noSelect os.toArray && YF os.toArray && !((ue os.length false).getD (JU q) true) && Jb os.toArray q (ue os.length false) && ym (Pb q) os.length)=true)
  (hS:∀ w',Hd w0 F0 w' As Rs→S w') (H:Hd w0 F0 w As Rs) (h:∀ w',Hd w0 F0 w' As Rs→WG P os Q S S2 q n l w'):WC P (.region id os.toArray true) Q n l w:=by
 intro a ha;simp only [qe,yq] at hB;have H':Hd w0 F0 { w with drawn:=w.drawn+1 } As Rs:=H.drewN 1;have h1:=UW (Q:=Q) (S2:=S2) hB.1.1.1.1 q _ a _ hB.1.2 (by have:=xZ os.toArray;simpa using this) (qV hB.1.1.1.2) hB.1.1.2 (hS _ H') (h _ H' a ha);have h2:=cA _ _ _ _ h1;rw [tk hB.2,show os.length=os.toArray.size by simp] at h2;exact wp_mono (wp_region_any hm (by simpa using h2)) fun e a w h=>by
  cases e<;>first |exact h|exact h.elim
theorem II (hi:os[i]?=some o) (hg:gd os.toArray l o=some true) (hd:CF n o.dst=true) (hr:∀ w,S w→BT P n l w o v w) (h:WG P os Q S S2 q n (Cj l o.dst v) w):WG P os Q S S2 (.e i q) n l w:=by
 intro a ha;exact ⟨o,v,by simpa using hi,.inl ⟨Hu ha hg,fun w hw=>hr w hw a ha⟩,h _ (ha.put _ _ hd)⟩
theorem hP (hi:os[i]?=some o) (hg:gd os.toArray l o=some false) (hd:CF n o.dst=true) (h:WG P os Q S S2 q n (Cj l o.dst undef) w):WG P os Q S S2 (.e i q) n l w:=by
 intro a ha;exact ⟨o,undef,by simpa using hi,.inr ⟨Hu ha hg,U⟩,h _ (ha.put _ _ hd)⟩
theorem SO (hi:os[i]?=some o) (h:WL P os.toArray (FT fun a w=>S w∧NJ P os.toArray Q S S2 q a w) [o] n l w):WG P os Q S S2 (.m i q) n l w:=by
 intro a ha;exact ⟨o,by simpa using hi,h a ha⟩
theorem SN (hS:S w) (h:WG P os Q S S2 q n l w):WL P os.toArray (FT fun a w=>S w∧NJ P os.toArray Q S S2 q a w) [] n l w:=by
 intro a ha;exact ⟨hS,h a ha⟩
theorem hU (hi:os[i]?=some o) (h:WL P os.toArray (FT fun a w=>S2 w∧H9 P os.toArray Q S2 s a w) [o] n l w):WG P os Q S S2 (.w i s) n l w:=by
 intro a ha;exact ⟨o,by simpa using hi,h a ha⟩
end
def Nf:List Value→Nat→Option Value
 |[],_=>none
 |v::_,0=>some v
 |_::r,i+1=>Nf r i
theorem YH:∀ (l:List Value) (i:Nat),Nf l i=l[i]?
 |[],i=>by simp [Nf]
 |v::r,0=>by simp [Nf]
 |v::r,i+1=>by simp [Nf,YH r i]
def QA (l:Cb):Op→Option Value
 |.move x=>ev l x
 |.assign x=>ev l x
 |.pick c x y=>match ev l c with
  |some (.bool true)=>ev l x
  |some (.bool false)=>ev l y
  |_=>none
 |.extract x i=>match ev l x with
  |some (.tuple vs)=>Nf vs.toList i
  |_=>none
 |_=>none
def Ir (ops:Array Oper) (n:Nat) (l:Cb) (o:Oper):Option Cb:=
 match CF n o.dst with
 |false=>none
 |true=>match gd ops l o with
  |some true=>match QA l o.op with
   |some v=>some (Cj l o.dst v)
   |none=>none
  |some false=>some (Cj l o.dst undef)
  |none=>none
def H0 (ops:Array Oper) (n:Nat):Nat→List Oper→Cb→Option (List Oper×Cb)
 |0,r,l=>some (r,l)
 |k+1,o::r,l=>match Ir ops n l o with
  |some l'=>H0 ops n k r l'
  |none=>none
 |_+1,[],_=>none
theorem QB {P:Program} {n:Nat} {l:Cb} {w:World} {o:Oper} (h:QA l o.op=some v):BT P n l w o v w:=by
 unfold QA at h;split at h;rename_i x ho;exact uA ho h;rename_i x ho;exact tN ho h;rename_i c x y ho;split at h;rename_i hc;exact uG ho hc h;rename_i hc;exact uF ho hc h;cases h;rename_i x i ho;split at h;rename_i vs hx;exact tU ho hx (by rw [YH] at h;simpa using h);cases h;cases h
section
variable {P:Program} {ops:Array Oper} {Q:Exit→Act→World→Prop} {rest rest':List Oper} {n:Nat} {l l':Cb} {w:World} {o:Oper}
theorem Rk (h:Ir ops n l o=some l'):CF n o.dst=true∧((gd ops l o=some true∧∃ v,QA l o.op=some v∧l'=Cj l o.dst v)∨(gd ops l o=some false∧l'=Cj l o.dst undef)):=by
 unfold Ir at h;split at h;cases h;rename_i hd;refine ⟨hd,?_⟩;split at h;rename_i hg;split at h;rename_i v hv;cases h;exact .inl ⟨hg,v,hv,rfl⟩;cases h;rename_i hg;cases h;exact .inr ⟨hg,rfl⟩;cases h
theorem Ag (h:Ir ops n l o=some l') (hk:WL P ops Q rest n l' w):WL P ops Q (o::rest) n l w:=by
 obtain ⟨hd,⟨hg,v,hv,rfl⟩|⟨hg,rfl⟩⟩:=Rk h;exact Ed hg hd (QB hv) hk;exact xF hg hd hk
theorem Ai (k:Nat) (h:H0 ops n k rest l=some (rest',l')) (hk:WL P ops Q rest' n l' w):WL P ops Q rest n l w:=by
 induction k generalizing rest l with
 |zero=>unfold H0 at h;cases h;exact hk
 |succ k ih=>
  cases rest with
  |nil=>unfold H0 at h;cases h
  |cons o r=>
   unfold H0 at h;split at h;rename_i a h1;exact Ag h1 (ih h);cases h
theorem D9 {C:World→Prop} {K:Act→Prop} (h:Ir ops n l o=some l') (hk:WU P ops C K rest n l'):WU P ops C K (o::rest) n l:=by
 obtain ⟨hd,⟨hg,v,hv,rfl⟩|⟨hg,rfl⟩⟩:=Rk h;exact aZ hg hd (fun _ _=>QB hv) hk;exact z8 hg hd hk
theorem GR {C:World→Prop} {K:Act→Prop} (k:Nat) (h:H0 ops n k rest l=some (rest',l')) (hk:WU P ops C K rest' n l'):WU P ops C K rest n l:=by
 induction k generalizing rest l with
 |zero=>unfold H0 at h;cases h;exact hk
 |succ k ih=>
  cases rest with
  |nil=>unfold H0 at h;cases h
  |cons o r=>
   unfold H0 at h;split at h;rename_i a h1;exact D9 h1 (ih h);cases h
def Lw (os:List Oper) (n:Nat) (l:Cb) (i:Nat):Option Cb:=match os[i]? with
 |some o=>Ir os.toArray n l o
 |none=>none
theorem A_ {os:List Oper} {S:World→Prop} {s:F_} {i:Nat} (h:Lw os n l i=some l') (hk:WD P os Q S s n l' w):WD P os Q S (.e i s) n l w:=by
 unfold Lw at h;split at h;rename_i o ho;obtain ⟨hd,⟨hg,v,hv,rfl⟩|⟨hg,rfl⟩⟩:=Rk h;exact R9 ho hg hd (fun _ _=>QB hv) hk;exact fF ho hg hd hk;cases h
theorem g_1 {os:List Oper} {S S2:World→Prop} {q:Iv} {i:Nat} (h:Lw os n l i=some l') (hk:WG P os Q S S2 q n l' w):WG P os Q S S2 (.e i q) n l w:=by
 unfold Lw at h;split at h;rename_i o ho;obtain ⟨hd,⟨hg,v,hv,rfl⟩|⟨hg,rfl⟩⟩:=Rk h;exact II ho hg hd (fun _ _=>QB hv) hk;exact hP ho hg hd hk;cases h
end
section
variable {w0 w:World} {F0:BD} {As Rs:List SP} {A B C D E F G I J K:SP}
theorem Hd.k1 (H:Hd w0 F0 w (A::As) Rs):Hd w0 F0 w [A] Rs:=H.keep 1
theorem Hd.k2 (H:Hd w0 F0 w (A::B::As) Rs):Hd w0 F0 w [A,B] Rs:=H.keep 2
theorem Hd.k3 (H:Hd w0 F0 w (A::B::C::As) Rs):Hd w0 F0 w [A,B,C] Rs:=H.keep 3
theorem Hd.k4 (H:Hd w0 F0 w (A::B::C::D::As) Rs):Hd w0 F0 w [A,B,C,D] Rs:=H.keep 4
theorem Hd.k5 (H:Hd w0 F0 w (A::B::C::D::E::As) Rs):Hd w0 F0 w [A,B,C,D,E] Rs:=H.keep 5
theorem Hd.k6 (H:Hd w0 F0 w (A::B::C::D::E::F::As) Rs):Hd w0 F0 w [A,B,C,D,E,F] Rs:=H.keep 6
theorem Hd.k7 (H:Hd w0 F0 w (A::B::C::D::E::F::G::As) Rs):Hd w0 F0 w [A,B,C,D,E,F,G] Rs:=H.keep 7
theorem Hd.k8 (H:Hd w0 F0 w (A::B::C::D::E::F::G::I::As) Rs):Hd w0 F0 w [A,B,C,D,E,F,G,I] Rs:=H.keep 8
theorem Hd.k9 (H:Hd w0 F0 w (A::B::C::D::E::F::G::I::J::As) Rs):Hd w0 F0 w [A,B,C,D,E,F,G,I,J] Rs:=H.keep 9
theorem Hd.k10 (H:Hd w0 F0 w (A::B::C::D::E::F::G::I::J::K::As) Rs):Hd w0 F0 w [A,B,C,D,E,F,G,I,J,K] Rs:=H.keep 10
theorem Hd.p1 (H:Hd w0 F0 w (A::B::As) Rs):Hd w0 F0 w (B::A::As) Rs:=H.pick 1 rfl
theorem Hd.p2 (H:Hd w0 F0 w (A::B::C::As) Rs):Hd w0 F0 w (C::A::B::As) Rs:=H.pick 2 rfl
theorem Hd.p3 (H:Hd w0 F0 w (A::B::C::D::As) Rs):Hd w0 F0 w (D::A::B::C::As) Rs:=H.pick 3 rfl
theorem Hd.p4 (H:Hd w0 F0 w (A::B::C::D::E::As) Rs):Hd w0 F0 w (E::A::B::C::D::As) Rs:=H.pick 4 rfl
theorem Hd.p5 (H:Hd w0 F0 w (A::B::C::D::E::F::As) Rs):Hd w0 F0 w (F::A::B::C::D::E::As) Rs:=H.pick 5 rfl
theorem Hd.p6 (H:Hd w0 F0 w (A::B::C::D::E::F::G::As) Rs):Hd w0 F0 w (G::A::B::C::D::E::F::As) Rs:=H.pick 6 rfl
theorem Hd.p7 (H:Hd w0 F0 w (A::B::C::D::E::F::G::I::As) Rs):Hd w0 F0 w (I::A::B::C::D::E::F::G::As) Rs:=H.pick 7 rfl
theorem Hd.p8 (H:Hd w0 F0 w (A::B::C::D::E::F::G::I::J::As) Rs):Hd w0 F0 w (J::A::B::C::D::E::F::G::I::As) Rs:=H.pick 8 rfl
theorem Hd.p9 (H:Hd w0 F0 w (A::B::C::D::E::F::G::I::J::K::As) Rs):Hd w0 F0 w (K::A::B::C::D::E::F::G::I::J::As) Rs:=H.pick 9 rfl
theorem Hd.h1 (H:Hd w0 F0 w (A::As) Rs):Hd w0 F0 w (A::As) Rs:=H
theorem Hd.h2 (H:Hd w0 F0 w (A::B::As) Rs):Hd w0 F0 w (A::B::As) Rs:=H
theorem Hd.h3 (H:Hd w0 F0 w (A::B::C::As) Rs):Hd w0 F0 w (A::B::C::As) Rs:=H
theorem Hd.h4 (H:Hd w0 F0 w (A::B::C::D::As) Rs):Hd w0 F0 w (A::B::C::D::As) Rs:=H
theorem Hd.h5 (H:Hd w0 F0 w (A::B::C::D::E::As) Rs):Hd w0 F0 w (A::B::C::D::E::As) Rs:=H
theorem Hd.h6 (H:Hd w0 F0 w (A::B::C::D::E::F::As) Rs):Hd w0 F0 w (A::B::C::D::E::F::As) Rs:=H
theorem Hd.h7 (H:Hd w0 F0 w (A::B::C::D::E::F::G::As) Rs):Hd w0 F0 w (A::B::C::D::E::F::G::As) Rs:=H
theorem Hd.h8 (H:Hd w0 F0 w (A::B::C::D::E::F::G::I::As) Rs):Hd w0 F0 w (A::B::C::D::E::F::G::I::As) Rs:=H
theorem Hd.h9 (H:Hd w0 F0 w (A::B::C::D::E::F::G::I::J::As) Rs):Hd w0 F0 w (A::B::C::D::E::F::G::I::J::As) Rs:=H
theorem Hd.h10 (H:Hd w0 F0 w (A::B::C::D::E::F::G::I::J::K::As) Rs):Hd w0 F0 w (A::B::C::D::E::F::G::I::J::K::As) Rs:=H
end
def Jt (f:List SP→List SP) (As:List SP):Prop:=∃ Ar,As=f Ar
theorem P1 {A:SP}:Jt (fun r=>A::r) (A::As):=⟨As,rfl⟩
theorem P2 {A B:SP}:Jt (fun r=>A::B::r) (A::B::As):=⟨As,rfl⟩
theorem P3 {A B C:SP}:Jt (fun r=>A::B::C::r) (A::B::C::As):=⟨As,rfl⟩
theorem P4 {A B C D:SP}:Jt (fun r=>A::B::C::D::r) (A::B::C::D::As):=⟨As,rfl⟩
theorem P5 {A B C D:SP}:Jt (fun r=>A::B::C::D::E::r) (A::B::C::D::E::As):=⟨As,rfl⟩
theorem P6 {A B C D G:SP}:Jt (fun r=>A::B::C::D::E::G::r) (A::B::C::D::E::G::As):=⟨As,rfl⟩
theorem P8 {A B C D G I J:SP}:Jt (fun r=>A::B::C::D::E::G::I::J::r) (A::B::C::D::E::G::I::J::As):=⟨As,rfl⟩
theorem P9 {A B C D G I J K:SP}:Jt (fun r=>A::B::C::D::E::G::I::J::K::r) (A::B::C::D::E::G::I::J::K::As):=⟨As,rfl⟩
theorem GD {A B C D G I J K L:SP}:Jt (fun r=>A::B::C::D::E::G::I::J::K::L::r) (A::B::C::D::E::G::I::J::K::L::As):=⟨As,rfl⟩
section
variable {P:Program} {Q:Exit→Act→World→Prop} {n:Nat} {l:Cb} {w0 w:World} {F0:BD} {As Rs:List SP} {os:List Oper} {f:List SP→List SP}
theorem Ct {id:Nat} (s:F_) (hp:Jt f As) (hm:P.follows .mixedOrders=true) (hB:(Region.noSelect os.toArray && HU os.toArray s (ue os.length false) && ym (Is s) os.length)=true)
  (H:Hd w0 F0 w As Rs) (h:∀ w',Hd w0 F0 w' As Rs→WD P os Q (fun w=>∃ Ar,Hd w0 F0 w (f Ar) Rs) s n l w'):WC P (.region id os.toArray true) Q n l w:=Ej s _ hm hB (fun _ H=>by obtain ⟨Ar,rfl⟩:=hp;exact ⟨Ar,H⟩) H h
end
/-! ### Two steps in one -/
section
variable {P:Program} {Q:Exit→Act→World→Prop} {n k:Nat} {l l':Cb} {w w':World} {os ops:List Oper} {o:Oper} {y:Code} {id i j:Nat} {v:Value} {rest rest':List Oper} {S:World→Prop} {s:F_}
theorem Am (h:WL P os.toArray (Exit.then (y.wp P Q) Q) os n l w):WC P (.seq (.region id os.toArray false) y) Q n l w:=Ab (Ap h)
theorem Bx {ops:Array Oper} (h:WC P y Q n l w):WL P ops (Exit.then (y.wp P Q) Q) [] n l w:=AH (AY h)
theorem Ax {ops:Array Oper} (h:WQ Q .ret n l w):WL P ops (Exit.then (Code.ret.wp P Q) Q) [] n l w:=AH (AY (Fb h))
theorem xG {ops:Array Oper} {R:Ending→World→Prop} {t:Tmp} (hr:fn.results=#[.tmp t]) (hv:lk l t=some v) (h:R (.returned v) w):WL P ops (Exit.then (Code.ret.wp P (bodyPost P fn R)) (bodyPost P fn R)) [] n l w:=AH (AY (Fb (Ma hr hv h)))
theorem BG {ops:Array Oper} {R:Ending→World→Prop} {t:Tmp} (hz0:(fn.results,lk l t)=(#[.tmp t],some v)) (h:R (.returned v) w):WL P ops (Exit.then (Code.ret.wp P (bodyPost P fn R)) (bodyPost P fn R)) [] n l w:=xG (Prod.mk.inj hz0).1 (Prod.mk.inj hz0).2 h
theorem Ae (h:Ir (o::rest).toArray n l o=some l') (hk:WL P (o::rest).toArray (Exit.then (y.wp P Q) Q) rest n l' w):WC P (.seq (.region id (o::rest).toArray false) y) Q n l w:=Ab (Ap (Ag h hk))
theorem AD (k:Nat) (h:H0 os.toArray n k os l=some (rest',l')) (hk:WL P os.toArray (Exit.then (y.wp P Q) Q) rest' n l' w):WC P (.seq (.region id os.toArray false) y) Q n l w:=Ab (Ap (Ai k h hk))
theorem EA (hg:gd (o::rest).toArray l o=some true) (hd:CF n o.dst=true) (hr:BT P n l w o v w') (h:WL P (o::rest).toArray (Exit.then (y.wp P Q) Q) rest n (Cj l o.dst v) w'):WC P (.seq (.region id (o::rest).toArray false) y) Q n l w:=Ab (Ap (Ed hg hd hr h))
theorem AG (h:WC P y Q n l w):WC P .skip (Exit.then (y.wp P Q) Q) n l w:=Bf (AY h)
theorem AI {ops:Array Oper} (k:Nat) (h:H0 ops n k rest l=some ([],l')) (hk:WC P y Q n l' w):WL P ops (Exit.then (y.wp P Q) Q) rest n l w:=Ai k h (AH (AY hk))
theorem AO (h:WC P y Q n l w):WQ (Exit.inBlock id (Exit.then (y.wp P Q) Q)) .normal n l w:=Cq (AY h)
theorem tL {R:Ending→World→Prop} {t:Tmp} (hr:fn.results=#[.tmp t]) (hv:lk l t=some v) (h:R (.returned v) w):WQ (Exit.then K (bodyPost P fn R)) .ret n l w:=Bg (Ma hr hv h)
theorem AZ {R:Ending→World→Prop} {t:Tmp} (hz0:(fn.results,lk l t)=(#[.tmp t],some v)) (h:R (.returned v) w):WQ (Exit.then K (bodyPost P fn R)) .ret n l w:=tL (Prod.mk.inj hz0).1 (Prod.mk.inj hz0).2 h
theorem fE {os:List Oper} {l'':Cb} (h:Lw os n l i=some l') (h':Lw os n l' j=some l'') (hk:WD P os Q S s n l'' w):WD P os Q S (.e i (.e j s)) n l w:=A_ h (A_ h' hk)
theorem Ba {os:List Oper} {l'':Cb} (hz0:(Lw os n l i,Lw os n l' j)=(some l',some l'')) (hk:WD P os Q S s n l'' w):WD P os Q S (.e i (.e j s)) n l w:=fE (Prod.mk.inj hz0).1 (Prod.mk.inj hz0).2 hk
theorem BO {ops:Array Oper} (h:Ir ops n l o=some l') (hk:WC P y Q n l' w):WL P ops (Exit.then (y.wp P Q) Q) [o] n l w:=Ag h (AH (AY hk))
theorem Ho {R:Ending→World→Prop} {t:Tmp} (hr:fn.results=#[.tmp t]) (hv:lk l t=some v) (h:R (.returned v) w):WC P .ret (bodyPost P fn R) n l w:=Fb (Ma hr hv h)
theorem wY {ops:Array Oper} {R:Ending→World→Prop} {t:Tmp} (k:Nat) (h:H0 ops n k rest l=some ([],l')) (hr:fn.results=#[.tmp t]) (hv:lk l' t=some v) (hk:R (.returned v) w):WL P ops (Exit.then (Code.ret.wp P (bodyPost P fn R)) (bodyPost P fn R)) rest n l w:=AI k h (Ho hr hv hk)
theorem Bn {ops:Array Oper} {R:Ending→World→Prop} {t:Tmp} (k:Nat) (hz0:(H0 ops n k rest l,fn.results,lk l' t)=(some ([],l'),#[.tmp t],some v)) (hk:R (.returned v) w):WL P ops (Exit.then (Code.ret.wp P (bodyPost P fn R)) (bodyPost P fn R)) rest n l w:=wY k (Prod.mk.inj hz0).1 (Prod.mk.inj (Prod.mk.inj hz0).2).1 (Prod.mk.inj (Prod.mk.inj hz0).2).2 hk
theorem AP (h:Ir [o].toArray n l o=some l') (hk:WC P y Q n l' w):WC P (.seq (.region id [o].toArray false) y) Q n l w:=Ae h (Bx hk)
theorem DI (k:Nat) (h:H0 os.toArray n k os l=some ([],l')) (hk:WC P y Q n l' w):WC P (.seq (.region id os.toArray false) y) Q n l w:=AD k h (Bx hk)
theorem xI {ops:Array Oper} (hg:gd ops l o=some true) (hd:CF n o.dst=true) (hr:BT P n l w o v w') (h:Ir ops n (Cj l o.dst v) o'=some l') (hk:WL P ops Q rest n l' w'):WL P ops Q (o::o'::rest) n l w:=Ed hg hd hr (Ag h hk)
theorem Al {ops:Array Oper} (hz0:(gd ops l o,CF n o.dst)=(some true,true)) (hr:BT P n l w o v w') (h:Ir ops n (Cj l o.dst v) o'=some l') (hk:WL P ops Q rest n l' w'):WL P ops Q (o::o'::rest) n l w:=xI (Prod.mk.inj hz0).1 (Prod.mk.inj hz0).2 hr h hk
theorem xJ {ops:Array Oper} (hg:gd ops l o=some true) (hd:CF n o.dst=true) (hr:BT P n l w o v w') (h:Ir ops n (Cj l o.dst v) o'=some l') (hk:WC P y Q n l' w'):WL P ops (Exit.then (y.wp P Q) Q) [o,o'] n l w:=Ed hg hd hr (BO h hk)
theorem AC {ops:Array Oper} (hz0:(gd ops l o,CF n o.dst)=(some true,true)) (hr:BT P n l w o v w') (h:Ir ops n (Cj l o.dst v) o'=some l') (hk:WC P y Q n l' w'):WL P ops (Exit.then (y.wp P Q) Q) [o,o'] n l w:=xJ (Prod.mk.inj hz0).1 (Prod.mk.inj hz0).2 hr h hk
theorem xK {ops:Array Oper} (hg:gd ops l o=some true) (hd:CF n o.dst=true) (hr:BT P n l w o v w') (h:WC P y Q n (Cj l o.dst v) w'):WL P ops (Exit.then (y.wp P Q) Q) [o] n l w:=Ed hg hd hr (Bx h)
theorem AV {ops:Array Oper} (hz0:(gd ops l o,CF n o.dst)=(some true,true)) (hr:BT P n l w o v w') (h:WC P y Q n (Cj l o.dst v) w'):WL P ops (Exit.then (y.wp P Q) Q) [o] n l w:=xK (Prod.mk.inj hz0).1 (Prod.mk.inj hz0).2 hr h
theorem xL {ops:Array Oper} {w'':World} (hg:gd ops l o=some true) (hd:CF n o.dst=true) (hr:BT P n l w o v w') (hg':gd ops (Cj l o.dst v) o'=some true) (hd':CF n o'.dst=true) (hr':BT P n (Cj l o.dst v) w' o' v' w'') (h:WL P ops Q rest n (Cj (Cj l o.dst v) o'.dst v') w''):WL P ops Q (o::o'::rest) n l w:=Ed hg hd hr (Ed hg' hd' hr' h)
theorem BW {ops:Array Oper} {w'':World} (hz0:(gd ops l o,CF n o.dst)=(some true,true)) (hr:BT P n l w o v w') (a:(gd ops (Cj l o.dst v) o',CF n o'.dst)=(some true,true)) (hr':BT P n (Cj l o.dst v) w' o' v' w'') (h:WL P ops Q rest n (Cj (Cj l o.dst v) o'.dst v') w''):WL P ops Q (o::o'::rest) n l w:=xL (Prod.mk.inj hz0).1 (Prod.mk.inj hz0).2 hr (Prod.mk.inj a).1 (Prod.mk.inj a).2 hr' h
theorem B3 {L:Act→World→Prop} (h:WQ Q .normal n l w):WC P (.exit id) (Exit.then K (Exit.then L (Exit.inBlock id Q))) n l w:=MB (Mb (Mb (Nl h)))
end
/-! ### What is shown by one equation -/
section
variable {P:Program} {Q:Exit→Act→World→Prop} {n k:Nat} {l l':Cb} {w0 w w':World} {F0:BD} {As Rs:List SP} {os:List Oper} {ops:Array Oper} {o:Oper} {i j:Nat} {v:Value} {rest:List Oper} {S:World→Prop} {s:F_} {x:Operand} {t:TypeId}
theorem AF {a:Addr} (hz:(gd ops l o,CF n o.dst,o.op,ev l x)=(some true,true,.nilCheck x,some (.pointer (some a)))) (h:WL P ops Q rest n (Cj l o.dst (.pointer (some a))) w):WL P ops Q (o::rest) n l w:=by
 simp only [Prod.mk.injEq] at hz;exact Ed hz.1 hz.2.1 (Zn hz.2.2.1 hz.2.2.2) h
theorem AJ {s:TypeId} {b fo:Nat} (hz:(gd ops l o,CF n o.dst,o.op,ev l x)=(some true,true,.fieldAddr s x k,some (.pointer (some ⟨b,off,none⟩)))) (hf:BJ P s k=some fo) (h:WL P ops Q rest n (Cj l o.dst (.pointer (some ⟨b,off+fo,none⟩))) w):WL P ops Q (o::rest) n l w:=by
 simp only [Prod.mk.injEq] at hz;exact Ed hz.1 hz.2.1 (Ay hz.2.2.1 hf hz.2.2.2) h
theorem C2 {b sz:Nat} (hz:(gd ops l o,CF n o.dst,o.op,ev l x)=(some true,true,.load t x,some (.pointer (some ⟨b,j,none⟩)))) (ht:CK P t=some (false,sz)) (H:Hd w0 F0 w As Rs) (i:Nat) (hi:(As[i]?,cs[j]?)=(some (blk b cs bt),some v)) (h:WL P ops Q rest n (Cj l o.dst v) w):WL P ops Q (o::rest) n l w:=by
 simp only [Prod.mk.injEq] at hz hi;exact Ed hz.1 hz.2.1 (AA hz.2.2.1 ht hz.2.2.2 (H.cellI i hi.1 hi.2)) h
theorem Ah {x':Operand} {s:TypeId} {b fo sz:Nat} (hz:(gd ops l o,CF n o.dst,o.op,ev l x)=(some true,true,.fieldAddr s x k,some (.pointer (some ⟨b,off,none⟩)))) (hf:BJ P s k=some fo)
  (hy:(gd ops (Cj l o.dst (.pointer (some ⟨b,off+fo,none⟩))) o',CF n o'.dst,o'.op,ev (Cj l o.dst (.pointer (some ⟨b,off+fo,none⟩))) x')=(some true,true,.load t x',some (.pointer (some ⟨b,j,none⟩)))) (ht:CK P t=some (false,sz)) (H:Hd w0 F0 w As Rs) (i:Nat) (hi:(As[i]?,cs[j]?)=(some (blk b cs bt),some v)) (h:WL P ops Q rest n (Cj (Cj l o.dst (.pointer (some ⟨b,off+fo,none⟩))) o'.dst v) w):WL P ops Q (o::o'::rest) n l w:=AJ hz hf (C2 hy ht H i hi h)
theorem Bw {f:FuncId} {xs:List Operand} {ts:Array TypeId} (hc:Cn P f args Cs Ss T) (H:Hd w0 F0 w (Cs++As) Rs) (hl:HE w As Rs Ss) (hk:AN P f) (hz:(gd ops l o,CF n o.dst,o.op,xs.map (ev l))=(some true,true,.call { callee:=.value (.func f),args:=xs.toArray,argTypes:=ts },args.map some))
  (h:∀ v Bs w',T v Bs→Hd w0 F0 w' (Bs++As) Rs→WL P ops Q rest n (Cj l o.dst v) w'):WL P ops Q (o::rest) n l w:=by
 simp only [Prod.mk.injEq] at hz;exact sc hc H hl hz.1 hz.2.1 (ME hk hz.2.2.1 hz.2.2.2) h
theorem C5 {f:FuncId} {xs:List Operand} {ts:Array TypeId} (hc:Cn P f args Cs [] T) (H:Hd w0 F0 w (Cs++As) Rs) (hk:AN P f) (hz:(gd ops l o,CF n o.dst,o.op,xs.map (ev l))=(some true,true,.call { callee:=.value (.func f),args:=xs.toArray,argTypes:=ts },args.map some))
  (h:∀ v Bs w',T v Bs→Hd w0 F0 w' (Bs++As) Rs→WL P ops Q rest n (Cj l o.dst v) w'):WL P ops Q (o::rest) n l w:=Bw hc H l0 hk hz h
theorem AR {f:FuncId} {xs:List Operand} {ts:Array TypeId} {a:Value} (hc:Cn P f args Cs Ss (fun v B=>v=a∧B=Bs)) (H:Hd w0 F0 w (Cs++As) Rs) (hl:HE w As Rs Ss) (hk:AN P f) (hz:(gd ops l o,CF n o.dst,o.op,xs.map (ev l))=(some true,true,.call { callee:=.value (.func f),args:=xs.toArray,argTypes:=ts },args.map some))
  (h:∀ w',Hd w0 F0 w' (Bs++As) Rs→WL P ops Q rest n (Cj l o.dst a) w'):WL P ops Q (o::rest) n l w:=Bw hc H hl hk hz (fun _ _ w' ⟨e1,e2⟩ H=>by subst e1 e2;exact h w' H)
theorem Bo {f:FuncId} {xs:List Operand} {ts:Array TypeId} {a:Value} (hc:Cn P f args Cs [] (fun v B=>v=a∧B=Bs)) (H:Hd w0 F0 w (Cs++As) Rs) (hk:AN P f) (hz:(gd ops l o,CF n o.dst,o.op,xs.map (ev l))=(some true,true,.call { callee:=.value (.func f),args:=xs.toArray,argTypes:=ts },args.map some))
  (h:∀ w',Hd w0 F0 w' (Bs++As) Rs→WL P ops Q rest n (Cj l o.dst a) w'):WL P ops Q (o::rest) n l w:=AR hc H l0 hk hz h
theorem fz {a:Value} (H:Hd w0 F0 w Bs Rs):LI (fun v w'=>∃ B,(v=a∧B=Bs)∧Hd w0 F0 w' B Rs) (.returned a) w:=Ac (T:=fun v B=>v=a∧B=Bs) ⟨rfl,rfl⟩ H
theorem en {f:FuncId} {c:Code} {R:Ending→World→Prop} (hf:P.funcs[f]?=some fn) (hz:(fn.body,fn.ntmps,Nat.ble args.length n)=(some c,n,true)) (h:WC P c (bodyPost P fn R) n (LO 0 args) w):Calls P f args.toArray w R:=by
 simp only [Prod.mk.injEq] at hz;exact enter hf hz.1 hz.2.1 (Nat.le_of_ble_eq_true hz.2.2) h
def M6 (l:Cb):Cb→List (Option Value)
 |[]=>[]
 |p::r=>lk l p.1::M6 l r
def M7:Cb→List (Option Value)
 |[]=>[]
 |p::r=>some p.2::M7 r
theorem kp:∀ {m:Cb},M6 l m=M7 m→LG l m
 |[],_=>trivial
 |(s,v)::m,h=>by
  simp only [M6,M7,List.cons.injEq] at h
  exact ⟨h.1,kp h.2⟩
theorem B6 {c:Code} (L:σ→Cb) (I:σ→World→Prop) (μ:σ→Nat) (a:σ) (h0:M6 l (L a)=M7 (L a)) (hI:I a w)
  (round:∀ s w,I s w→WC P c (Exit.then (fun a' w'=>∃ s',DC n (L s') a'∧I s' w'∧μ s'<μ s) Q) n (L s) w):WC P (.loop c) Q n l w:=VC L I μ a (kp h0) hI round
theorem Bm {L:σ→Cb} {I:σ→World→Prop} {μ:σ→Nat} {s:σ} (s':σ) (hk:M6 l (L s')=M7 (L s')) (hI:I s' w) (hm:μ s'<μ s):WQ (Exit.then (fun a' w'=>∃ s',DC n (L s') a'∧I s' w'∧μ s'<μ s) Q) .normal n l w:=QQ s' (kp hk) hI hm
theorem Cm {L:σ→Cb} {I:σ→World→Prop} (s:σ) (hk:M6 l (L s)=M7 (L s)) (hI:I s w):WQ (Exit.then (fun a' w'=>∃ s,DC n (L s) a'∧I s w') Q) .normal n l w:=tJ s (kp hk) hI
theorem wz {x z:Int} (h: -9223372036854775808≤x∧x≤9223372036854775807∧x=z):IntKind.i64.wrap x=z:=by rw [Df h.1 h.2.1];exact h.2.2
theorem Ad (hz:(os[i]?,gd os.toArray l o,CF n o.dst)=(some o,some true,true)) (hr:∀ {w},BT P n l w o v w) (h:WD P os Q S s n (Cj l o.dst v) w):WD P os Q S (.e i s) n l w:=by
 simp only [Prod.mk.injEq] at hz;exact R9 hz.1 hz.2.1 hz.2.2 (fun _ _=>hr) h
theorem AL {f:List SP→List SP} (hz:(os[i]?,gd os.toArray l o,CF n o.dst)=(some o,some true,true)) (hr:∀ {w Ar},Hd w0 F0 w (f Ar) Rs→BT P n l w o v w) (h:WD P os Q (fun w=>∃ Ar,Hd w0 F0 w (f Ar) Rs) s n (Cj l o.dst v) w):WD P os Q (fun w=>∃ Ar,Hd w0 F0 w (f Ar) Rs) (.e i s) n l w:=by
 simp only [Prod.mk.injEq] at hz;exact R9 hz.1 hz.2.1 hz.2.2 (fun _ ⟨_,H⟩=>hr H) h
def zE:Nat→Nat→F_→F_
 |_,0,s=>s
 |i,k+1,s=>.e i (zE (i+1) k s)
end
def zL (J:AS) (a b c d e:Value) (t:List SP):Tk:=⟨⟩
def zM (J:AS) (a b c d e:Value) (t:List SP):Tk:=⟨⟩
def zC (J:AS) (a b c d e:Value) (t:List Value):Tk:=⟨⟩
def H_ (J:AS) (a:Option Addr) (i:Nat) (b:Option Addr) (j:Nat) (c:Option Addr) (k:Nat) (d:Option Addr) (l:Nat) (e:Option Addr) (m:Nat) (t:List SP):Tk:=⟨⟩
def KI (J:AS) (a:Option Addr) (i:Nat) (x:List (List Au)) (b:Option Addr) (j:Nat) (c:Option Addr) (k:Nat) (d:Option Addr) (l:Nat) (e:Option Addr) (m:Nat) (t:List SP):Tk:=⟨⟩
def Dw (J:AS) (a:Option Addr) (i:Nat) (b:Option Addr) (j:Nat) (c:Option Addr) (k:Nat) (d:Option Addr) (l:Nat) (e:Option Addr) (m:Nat) (t:List Value):Tk:=⟨⟩
def zG {α:Type} (m:α) (t:List Value):Tk:=⟨⟩
section
variable {J:AS} {a b c d e:Value} {t:List SP} {u:List Value}
instance:CoeDep Tk (zL J a b c d e t) (List SP):=⟨An (Bd Ak) a J.us::An At b J.map::An At c J.comb::An At d J.red::An (Av .i64) e J.marks::t⟩
instance:CoeDep Tk (zM J a b c d e t) (List SP):=⟨Aa (Bd Ak) a J.us::Aa At b J.map::Aa At c J.comb::Aa At d J.red::Aa (Av .i64) e J.marks::t⟩
instance:CoeDep Tk (zC J a b c d e u) (List Value):=⟨a::.int .i64 J.parts::b::c::d::.int .i64 J.chunk::.int .i64 J.window::.int .i64 J.fuel::e::u⟩
end
section
variable {J:AS} {a b c d e:Option Addr} {i j k l m:Nat} {t:List SP} {u:List Value} {x:List (List Au)}
instance:CoeDep Tk (H_ J a i b j c k d l e m t) (List SP):=⟨An (Bd Ak) (.slice a J.us.length i) J.us::An At (.slice b J.map.length j) J.map::An At (.slice c J.comb.length k) J.comb::An At (.slice d J.red.length l) J.red::An (Av .i64) (.slice e J.marks.length m) J.marks::t⟩
instance:CoeDep Tk (KI J a i x b j c k d l e m t) (List SP):=⟨An (Bd Ak) (.slice a J.us.length i) J.us::An (CO Ak) (.slice a J.us.length i) x::An At (.slice b J.map.length j) J.map::An At (.slice c J.comb.length k) J.comb::An At (.slice d J.red.length l) J.red::An (Av .i64) (.slice e J.marks.length m) J.marks::t⟩
instance:CoeDep Tk (Dw J a i b j c k d l e m u) (List Value):=⟨.slice a J.us.length i::.int .i64 J.parts::.slice b J.map.length j::.slice c J.comb.length k::.slice d J.red.length l::.int .i64 J.chunk::.int .i64 J.window::.int .i64 J.fuel::.slice e J.marks.length m::u⟩
end
instance {m:Bu} {t:List Value}:CoeDep Tk (zG m t) (List Value):=⟨.int .i64 m.kind::.int .i64 m.sp::.int .i64 m.att::.int .i64 m.part::.int .i64 m.seq::.int .i64 m.next::.int .i64 m.ep::.int .i64 m.why::t⟩
instance {m:DM} {t:List Value}:CoeDep Tk (zG m t) (List Value):=⟨.int .i64 m.kind::.int .i64 m.sp::.int .i64 m.att::.int .i64 m.part::.int .i64 m.seq::.int .i64 m.next::.int .i64 m.ep::.int .i64 m.why::t⟩
theorem cV:E4 np 103=some (#[V none 0 0,Y Z 0,V none 0 0,V none 0 0,V none 0 0,Y Z 0,Y Z 0,Y Z 0,V none 0 0,Y Z 0,Y Z 0,Y Z 0,Y Z 0,V none 0 0,.map none,V none 0 0,.int .u32 0],#[(0,12),(12,1),(13,1),(14,1),(15,1),(16,1)]):=by kernel_rfl
theorem cW:E4 np 109=some (#[V none 0 0,Y Z 0],#[(0,1),(1,1)]):=by kernel_rfl
theorem cX:E4 np 115=some (#[V none 0 0,Y Z 0,false],#[(0,1),(1,1),(2,1)]):=by kernel_rfl
theorem RT:E4 np 122=some (#[.string ⟨#[]⟩,.string ⟨#[]⟩],#[(0,1),(1,1)]):=by kernel_rfl
theorem cY:E4 np 124=some (#[Y Z 0,Y Z 0,.string ⟨#[]⟩],#[(0,1),(1,1),(2,1)]):=by kernel_rfl
theorem RU:E4 np 143=some (#[V none 0 0,Y Z 0,V none 0 0,V none 0 0,V none 0 0,Y Z 0,Y Z 0,Y Z 0,V none 0 0,Y Z 0,Y Z 0,Y Z 0,Y Z 0,V none 0 0,false,false,false,false,Y Z 0,Y Z 0,Y Z 0,zP none],#[(0,12),(12,1),(13,1),(14,4),(18,1),(19,1),(20,1),(21,1)]):=by kernel_rfl
theorem cZ:E4 np 151=some (#[Y Z 0,Y Z 0,zP none],#[(0,1),(1,1),(2,1)]):=by kernel_rfl
theorem c_:E4 np 197=some (#[V none 0 0,Y Z 0,V none 0 0,V none 0 0,V none 0 0,Y Z 0,Y Z 0,Y Z 0,V none 0 0,Y Z 0,Y Z 0,Y Z 0,Y Z 0,Y Z 0,.bool false,V none 0 0,.bool false,Y Z 0,Y Z 0,.bool false,V none 0 0,.bool false,Y Z 0,Y Z 0,.bool false,V none 0 0,.bool false,Y Z 0,Y Z 0,.bool false,V none 0 0,.bool false,Y Z 0,Y Z 0,.bool false,V none 0 0,.bool false,Y Z 0,Y Z 0,.bool false,V none 0 0,.bool false,Y Z 0,Y Z 0,zP none,V none 0 0],#[(0,12),(12,1),(13,1),(14,30),(44,1),(45,1)]):=by kernel_rfl
theorem dA:E4 np 215=some (#[V none 0 0,Y Z 0,V none 0 0,V none 0 0,V none 0 0,Y Z 0,Y Z 0,Y Z 0,V none 0 0,Y Z 0,Y Z 0,Y Z 0,Y Z 0,Y Z 0,Y Z 0,zP none,V none 0 0],#[(0,12),(12,1),(13,1),(14,1),(15,1),(16,1)]):=by kernel_rfl
theorem dB:E4 np 254=some (#[Y Z 0,Y Z 0,Y Z 0,Y Z 0,Y Z 0,Y Z 0,Y Z 0,Y Z 0],#[(0,8)]):=by kernel_rfl
theorem dC:E4 np 26=some (#[V none 0 0,Y Z 0,V none 0 0,V none 0 0,V none 0 0,Y Z 0,Y Z 0,Y Z 0,V none 0 0],#[(0,1),(1,1),(2,1),(3,1),(4,1),(5,1),(6,1),(7,1),(8,1)]):=by kernel_rfl
theorem RV:E4 np 272=some (#[Y Z 0,Y Z 0],#[(0,1),(1,1)]):=by kernel_rfl
theorem dD:E4 np 275=some (#[.map none],#[(0,1)]):=by kernel_rfl
theorem dE:E4 np 279=some (#[Y Z 0,Y Z 0,Y Z 0,Y Z 0],#[(0,1),(1,1),(2,1),(3,1)]):=by kernel_rfl
theorem dF:E4 np 28=some (#[V none 0 0,Y Z 0,V none 0 0,V none 0 0,V none 0 0,Y Z 0,Y Z 0,Y Z 0,V none 0 0,Y Z 0,Y Z 0,Y Z 0],#[(0,9),(9,1),(10,1),(11,1)]):=by kernel_rfl
theorem Vs:E4 np 305=some (#[.int .u32 0,.int .i32 0,.int .u32 0,.int .u32 0,.nilFunc,.string ⟨#[]⟩],#[(0,3),(3,1),(4,1),(5,1)]):=by kernel_rfl
theorem Vt:E4 np 330=some (#[.bool false,Y Z 0,.string ⟨#[]⟩],#[(0,1),(1,1),(2,1)]):=by kernel_rfl
theorem dG:E4 np 334=some (#[V none 0 0,.string ⟨#[]⟩,V none 0 0,Y Z 0,Y Z 0,Y Z 0,.bool false,V none 0 0,.bool false,Y Z 0,.string ⟨#[]⟩,.bool false,Y Z 0,.string ⟨#[]⟩,.bool false,Y Z 0,.string ⟨#[]⟩,.bool false,Y Z 0,.string ⟨#[]⟩,.bool false,Y Z 0,.string ⟨#[]⟩,.bool false,Y Z 0,.string ⟨#[]⟩,.bool false,Y Z 0,.string ⟨#[]⟩,.bool false,Y Z 0,.string ⟨#[]⟩,V none 0 0,.map none],#[(0,1),(1,1),(2,1),(3,1),(4,1),(5,1),(6,1),(7,1),(8,24),(32,1),(33,1)]):=by kernel_rfl
theorem HH:E4 np 49=some (#[Y Z 0,Y Z 0,Y Z 0,Y Z 0,Y Z 0,Y Z 0,Y Z 0,Y Z 0,V none 0 0,V none 0 0],#[(0,1),(1,1),(2,1),(3,1),(4,1),(5,1),(6,1),(7,1),(8,1),(9,1)]):=by kernel_rfl
theorem JZ:E4 np 51=some (#[Y Z 0,Y Z 0,Y Z 0,Y Z 0,Y Z 0,Y Z 0,Y Z 0,Y Z 0,Y Z 0,Y Z 0,V none 0 0,V none 0 0],#[(0,1),(1,1),(2,10)]):=by kernel_rfl
theorem Jw:E4 np 69=some (#[Y Z 0,Y Z 0,Y Z 0,Y Z 0,Y Z 0,V none 0 0,V none 0 0],#[(0,1),(1,1),(2,1),(3,1),(4,1),(5,1),(6,1)]):=by kernel_rfl
theorem RW:E4 np 91=some (#[V none 0 0,Y Z 0,V none 0 0,V none 0 0,V none 0 0,Y Z 0,Y Z 0,Y Z 0,V none 0 0,Y Z 0,Y Z 0,Y Z 0,Y Z 0,false,zP none,V none 0 0],#[(0,12),(12,1),(13,1),(14,1),(15,1)]):=by kernel_rfl
theorem RX:E4 np 93=some (#[V none 0 0,Y Z 0,V none 0 0,V none 0 0,V none 0 0,Y Z 0,Y Z 0,Y Z 0,V none 0 0,Y Z 0,Y Z 0,Y Z 0,Y Z 0,false,zP none,V none 0 0,zP none,zP none],#[(0,16),(16,1),(17,1)]):=by kernel_rfl
theorem VD:Tryz.prog.cellsOf 122=2:=by kernel_rfl
theorem dY:Tryz.prog.cellsOf 124=3:=by kernel_rfl
theorem dZ:Tryz.prog.cellsOf 26=9:=by kernel_rfl
theorem d5:Tryz.prog.cellsOf 28=12:=by kernel_rfl
theorem d6:Tryz.prog.cellsOf 49=10:=by kernel_rfl
theorem d8:Tryz.prog.cellsOf 51=12:=by kernel_rfl
theorem d9:Tryz.prog.cellsOf 53=14:=by kernel_rfl
theorem f6:KK np 122 [⟨ "Key",9,0,false, "", "",0⟩,⟨ "Value",9,1,false, "", "",16⟩]:=⟨by kernel_rfl,by kernel_rfl,by kernel_rfl⟩
theorem f7:KK np 272 [⟨ "split",3,0,false, "", "staithe/stage",0⟩,⟨ "attempt",3,1,false, "", "staithe/stage",8⟩]:=⟨by kernel_rfl,by kernel_rfl,by kernel_rfl⟩
theorem Sk:GS np 155 (Extern.Atomic.storeT):=⟨_,Tryz.func155,by kernel_rfl,by kernel_rfl,by kernel_rfl,by kernel_rfl⟩
theorem Sl:GS np 187 (Extern.Atomic.loadT (.int .u32)):=⟨_,Tryz.func187,by kernel_rfl,by kernel_rfl,by kernel_rfl,by kernel_rfl⟩
theorem Wg:GS np 236 (Extern.Atomic.loadT (.int .i64)):=⟨_,Tryz.func236,by kernel_rfl,by kernel_rfl,by kernel_rfl,by kernel_rfl⟩
theorem Wh:GS np 237 (Extern.Atomic.casT (.int .i64)):=⟨_,Tryz.func237,by kernel_rfl,by kernel_rfl,by kernel_rfl,by kernel_rfl⟩
theorem Wi:GS np 291 (fun _=>do mark .disable;pure Extern.Race.none_):=⟨_,Tryz.func291,by kernel_rfl,by kernel_rfl,by kernel_rfl,by kernel_rfl⟩
theorem gE:GS np 292 (Extern.Atomic.casT (.int .i32)):=⟨_,Tryz.func292,by kernel_rfl,by kernel_rfl,by kernel_rfl,by kernel_rfl⟩
theorem Wj:GS np 293 (fun _=>do mark .enable;pure Extern.Race.none_):=⟨_,Tryz.func293,by kernel_rfl,by kernel_rfl,by kernel_rfl,by kernel_rfl⟩
theorem gF:GS np 294 (Extern.Race.marked .acquire):=⟨_,Tryz.func294,by kernel_rfl,by kernel_rfl,by kernel_rfl,by kernel_rfl⟩
theorem gG:GS np 296 (Extern.Race.marked .releaseMerge):=⟨_,Tryz.func296,by kernel_rfl,by kernel_rfl,by kernel_rfl,by kernel_rfl⟩
theorem gH:GS np 297 (Extern.Atomic.update (Op.intArith .add) .i32 true):=⟨_,Tryz.func297,by kernel_rfl,by kernel_rfl,by kernel_rfl,by kernel_rfl⟩
theorem MJ:BJ np 101 1=some 0:=by kernel_rfl
theorem N5:BJ np 103 0=some 0:=by kernel_rfl
theorem Sv:BJ np 103 1=some 12:=by kernel_rfl
theorem Sw:BJ np 103 2=some 13:=by kernel_rfl
theorem Sx:BJ np 103 3=some 14:=by kernel_rfl
theorem Kb:BJ np 103 4=some 15:=by kernel_rfl
theorem N6:BJ np 103 5=some 16:=by kernel_rfl
theorem KT:BJ np 109 0=some 0:=by kernel_rfl
theorem N7:BJ np 109 1=some 1:=by kernel_rfl
theorem Sy:BJ np 115 0=some 0:=by kernel_rfl
theorem LR:BJ np 115 1=some 1:=by kernel_rfl
theorem KU:BJ np 115 2=some 2:=by kernel_rfl
theorem HQ:BJ np 122 0=some 0:=by kernel_rfl
theorem LS:BJ np 122 1=some 1:=by kernel_rfl
theorem ED:BJ np 124 0=some 0:=by kernel_rfl
theorem ER:BJ np 124 1=some 1:=by kernel_rfl
theorem HR:BJ np 124 2=some 2:=by kernel_rfl
theorem Kc:BJ np 143 0=some 0:=by kernel_rfl
theorem N8:BJ np 143 1=some 12:=by kernel_rfl
theorem I1:BJ np 143 2=some 13:=by kernel_rfl
theorem Wp:BJ np 143 3=some 14:=by kernel_rfl
theorem Fh:BJ np 143 4=some 18:=by kernel_rfl
theorem MK:BJ np 143 5=some 19:=by kernel_rfl
theorem Sz:BJ np 143 6=some 20:=by kernel_rfl
theorem gS:BJ np 143 7=some 21:=by kernel_rfl
theorem ML:BJ np 147 0=some 0:=by kernel_rfl
theorem LT:BJ np 147 1=some 1:=by kernel_rfl
theorem SA:BJ np 147 2=some 2:=by kernel_rfl
theorem PJ:BJ np 147 3=some 3:=by kernel_rfl
theorem SB:BJ np 147 4=some 4:=by kernel_rfl
theorem Wq:BJ np 147 5=some 5:=by kernel_rfl
theorem PK:BJ np 151 0=some 0:=by kernel_rfl
theorem PL:BJ np 151 1=some 1:=by kernel_rfl
theorem MM:BJ np 151 2=some 2:=by kernel_rfl
theorem I2:BJ np 192 0=some 0:=by kernel_rfl
theorem SC:BJ np 192 1=some 1:=by kernel_rfl
theorem SD:BJ np 192 2=some 2:=by kernel_rfl
theorem SE:BJ np 192 3=some 3:=by kernel_rfl
theorem Wr:BJ np 192 4=some 4:=by kernel_rfl
theorem Ke:BJ np 197 0=some 0:=by kernel_rfl
theorem KV:BJ np 197 1=some 12:=by kernel_rfl
theorem SF:BJ np 197 2=some 13:=by kernel_rfl
theorem N9:BJ np 197 3=some 14:=by kernel_rfl
theorem LU:BJ np 197 4=some 44:=by kernel_rfl
theorem ID:BJ np 197 5=some 45:=by kernel_rfl
theorem PM:BJ np 215 0=some 0:=by kernel_rfl
theorem gT:BJ np 215 1=some 12:=by kernel_rfl
theorem Ws:BJ np 215 2=some 13:=by kernel_rfl
theorem SG:BJ np 215 3=some 14:=by kernel_rfl
theorem PN:BJ np 215 4=some 15:=by kernel_rfl
theorem LV:BJ np 215 5=some 16:=by kernel_rfl
theorem PO:BJ np 251 2=some 0:=by kernel_rfl
theorem Wt:BJ np 254 0=some 0:=by kernel_rfl
theorem Fq:BJ np 26 0=some 0:=by kernel_rfl
theorem JA:BJ np 26 1=some 1:=by kernel_rfl
theorem MN:BJ np 26 2=some 2:=by kernel_rfl
theorem MO:BJ np 26 3=some 3:=by kernel_rfl
theorem MP:BJ np 26 4=some 4:=by kernel_rfl
theorem Wu:BJ np 26 5=some 5:=by kernel_rfl
theorem Wv:BJ np 26 6=some 6:=by kernel_rfl
theorem PP:BJ np 26 7=some 7:=by kernel_rfl
theorem LW:BJ np 26 8=some 8:=by kernel_rfl
theorem gU:BJ np 272 0=some 0:=by kernel_rfl
theorem LX:BJ np 275 0=some 0:=by kernel_rfl
theorem Ww:BJ np 279 0=some 0:=by kernel_rfl
theorem gV:BJ np 279 1=some 1:=by kernel_rfl
theorem PQ:BJ np 279 2=some 2:=by kernel_rfl
theorem N_:BJ np 279 3=some 3:=by kernel_rfl
theorem DQ:BJ np 28 0=some 0:=by kernel_rfl
theorem JB:BJ np 28 1=some 9:=by kernel_rfl
theorem KW:BJ np 28 2=some 10:=by kernel_rfl
theorem Wx:BJ np 28 3=some 11:=by kernel_rfl
theorem SH:BJ np 299 0=some 0:=by kernel_rfl
theorem Wy:BJ np 301 1=some 0:=by kernel_rfl
theorem SI:BJ np 303 1=some 0:=by kernel_rfl
theorem SJ:BJ np 305 0=some 0:=by kernel_rfl
theorem SK:BJ np 305 1=some 3:=by kernel_rfl
theorem PR:BJ np 305 2=some 4:=by kernel_rfl
theorem Oa:BJ np 305 3=some 5:=by kernel_rfl
theorem LY:BJ np 330 0=some 0:=by kernel_rfl
theorem Hs:BJ np 330 1=some 1:=by kernel_rfl
theorem I3:BJ np 330 2=some 2:=by kernel_rfl
theorem gW:BJ np 334 1=some 1:=by kernel_rfl
theorem Ob:BJ np 334 10=some 33:=by kernel_rfl
theorem PS:BJ np 334 2=some 2:=by kernel_rfl
theorem gX:BJ np 334 3=some 3:=by kernel_rfl
theorem MQ:BJ np 334 4=some 4:=by kernel_rfl
theorem SL:BJ np 334 5=some 5:=by kernel_rfl
theorem Wz:BJ np 334 6=some 6:=by kernel_rfl
theorem Kf:BJ np 334 7=some 7:=by kernel_rfl
theorem WA:BJ np 334 8=some 8:=by kernel_rfl
theorem PT:BJ np 334 9=some 32:=by kernel_rfl
theorem DV:BJ np 49 0=some 0:=by kernel_rfl
theorem E6:BJ np 49 1=some 1:=by kernel_rfl
theorem Fr:BJ np 49 2=some 2:=by kernel_rfl
theorem Gc:BJ np 49 3=some 3:=by kernel_rfl
theorem SM:BJ np 49 4=some 4:=by kernel_rfl
theorem Gd:BJ np 49 5=some 5:=by kernel_rfl
theorem JC:BJ np 49 6=some 6:=by kernel_rfl
theorem Kg:BJ np 49 7=some 7:=by kernel_rfl
theorem KX:BJ np 49 8=some 8:=by kernel_rfl
theorem MR:BJ np 49 9=some 9:=by kernel_rfl
theorem KY:BJ np 51 0=some 0:=by kernel_rfl
theorem WB:BJ np 51 1=some 1:=by kernel_rfl
theorem Oc:BJ np 51 2=some 2:=by kernel_rfl
theorem WE:BJ np 53 0=some 0:=by kernel_rfl
theorem PU:BJ np 53 1=some 1:=by kernel_rfl
theorem Od:BJ np 53 2=some 2:=by kernel_rfl
theorem Ec:BJ np 69 0=some 0:=by kernel_rfl
theorem JD:BJ np 69 1=some 1:=by kernel_rfl
theorem IE:BJ np 69 2=some 2:=by kernel_rfl
theorem IF:BJ np 69 3=some 3:=by kernel_rfl
theorem IG:BJ np 69 4=some 4:=by kernel_rfl
theorem Ib:BJ np 69 5=some 5:=by kernel_rfl
theorem IH:BJ np 69 6=some 6:=by kernel_rfl
theorem WF:BJ np 91 0=some 0:=by kernel_rfl
theorem Oe:BJ np 91 1=some 12:=by kernel_rfl
theorem HS:BJ np 91 2=some 13:=by kernel_rfl
theorem Ht:BJ np 91 3=some 14:=by kernel_rfl
theorem HT:BJ np 91 4=some 15:=by kernel_rfl
theorem DA:BJ np 93 0=some 0:=by kernel_rfl
theorem I4:BJ np 93 1=some 16:=by kernel_rfl
theorem PV:BJ np 93 2=some 17:=by kernel_rfl
theorem Og:(Tryz.prog.info? 192).map (·.size)=some 5:=by kernel_rfl
theorem Xf:(Tryz.prog.info? 251).map (·.size)=some 1:=by kernel_rfl
theorem Xg:(Tryz.prog.info? 330).map (·.size)=some 3:=by kernel_rfl
theorem Xh:(Tryz.prog.info? 4).map (·.size)=some 1:=by kernel_rfl
theorem Qa:AN np 10:=AU Tryz.func10 rfl
theorem S5:AN np 100:=AU Tryz.func100 rfl
theorem Qb:AN np 101:=AU Tryz.func101 rfl
theorem Xl:AN np 102:=AU Tryz.func102 rfl
theorem j0:AN np 103:=AU Tryz.func103 rfl
theorem j1:AN np 104:=AU Tryz.func104 rfl
theorem Oh:AN np 105:=AU Tryz.func105 rfl
theorem j2:AN np 106:=AU Tryz.func106 rfl
theorem S6:AN np 11:=AU Tryz.func11 rfl
theorem j3:AN np 12:=AU Tryz.func12 rfl
theorem j4:AN np 123:=AU Tryz.func123 rfl
theorem j5:AN np 124:=AU Tryz.func124 rfl
theorem Xm:AN np 125:=AU Tryz.func125 rfl
theorem j6:AN np 126:=AU Tryz.func126 rfl
theorem j7:AN np 127:=AU Tryz.func127 rfl
theorem Qc:AN np 128:=AU jau rfl
theorem Xn:AN np 129:=AU Tryz.func129 rfl
theorem S7:AN np 130:=AU Tryz.func130 rfl
theorem j8:AN np 131:=AU Tryz.func131 rfl
theorem Oi:AN np 132:=AU Tryz.func132 rfl
theorem j9:AN np 133:=AU Tryz.func133 rfl
theorem j_:AN np 134:=AU Tryz.func134 rfl
theorem Qd:AN np 135:=AU Tryz.func135 rfl
theorem S8:AN np 136:=AU Tryz.func136 rfl
theorem Qe:AN np 137:=AU Tryz.func137 rfl
theorem kA:AN np 138:=AU Tryz.func138 rfl
theorem kB:AN np 139:=AU Tryz.func139 rfl
theorem S9:AN np 140:=AU Tryz.func140 rfl
theorem Xo:AN np 141:=AU yb rfl
theorem Xp:AN np 142:=AU yc rfl
theorem Xq:AN np 143:=AU jbe rfl
theorem Xr:AN np 144:=AU Tryz.func144 rfl
theorem kC:AN np 145:=AU Tryz.func145 rfl
theorem Xt:AN np 146:=AU Tryz.func146 rfl
theorem S_:AN np 147:=AU Tryz.func147 rfl
theorem kD:AN np 148:=AU Tryz.func148 rfl
theorem Xu:AN np 149:=AU Tryz.func149 rfl
theorem Oj:AN np 15:=AU Tryz.func15 rfl
theorem MY:AN np 150:=AU Tryz.func150 rfl
theorem kE:AN np 151:=AU Tryz.func151 rfl
theorem Xv:AN np 152:=AU Tryz.func152 rfl
theorem MZ:AN np 153:=AU Tryz.func153 rfl
theorem kF:AN np 154:=AU Tryz.func154 rfl
theorem Ta:AN np 156:=AU Tryz.func156 rfl
theorem M0:AN np 157:=AU Tryz.func157 rfl
theorem kG:AN np 158:=AU Tryz.func158 rfl
theorem Qf:AN np 16:=AU Tryz.func16 rfl
theorem Qg:AN np 17:=AU Tryz.func17 rfl
theorem kH:AN np 18:=AU Tryz.func18 rfl
theorem kI:AN np 183:=AU Tryz.func183 rfl
theorem kJ:AN np 184:=AU Tryz.func184 rfl
theorem kK:AN np 185:=AU Tryz.func185 rfl
theorem Ok:AN np 186:=AU Tryz.func186 rfl
theorem Tb:AN np 188:=AU Tryz.func188 rfl
theorem Tc:AN np 189:=AU Tryz.func189 rfl
theorem Qh:AN np 19:=AU Tryz.func19 rfl
theorem Td:AN np 190:=AU Tryz.func190 rfl
theorem Ol:AN np 191:=AU Tryz.func191 rfl
theorem kL:AN np 192:=AU Tryz.func192 rfl
theorem kM:AN np 193:=AU Tryz.func193 rfl
theorem kO:AN np 194:=AU Tryz.func194 rfl
theorem Xw:AN np 195:=AU yf rfl
theorem Xx:AN np 196:=AU yg rfl
theorem kP:AN np 197:=AU Tryz.func197 rfl
theorem kQ:AN np 198:=AU Tryz.func198 rfl
theorem kR:AN np 199:=AU Tryz.func199 rfl
theorem Om:AN np 20:=AU Tryz.func20 rfl
theorem Xy:AN np 200:=AU Tryz.func200 rfl
theorem kS:AN np 201:=AU Tryz.func201 rfl
theorem kT:AN np 202:=AU Tryz.func202 rfl
theorem kU:AN np 203:=AU Tryz.func203 rfl
theorem kV:AN np 204:=AU Tryz.func204 rfl
theorem kW:AN np 205:=AU Tryz.func205 rfl
theorem kX:AN np 206:=AU Tryz.func206 rfl
theorem kY:AN np 207:=AU Tryz.func207 rfl
theorem Qi:AN np 21:=AU Tryz.func21 rfl
theorem DK:AN np 22:=AU Tryz.func22 rfl
theorem kZ:AN np 229:=AU Tryz.func229 rfl
theorem I8:AN np 23:=AU Tryz.func23 rfl
theorem k_:AN np 230:=AU Tryz.func230 rfl
theorem lB:AN np 231:=AU Tryz.func231 rfl
theorem Te:AN np 232:=AU Tryz.func232 rfl
theorem lC:AN np 234:=AU Tryz.func234 rfl
theorem lD:AN np 235:=AU Tryz.func235 rfl
theorem lE:AN np 238:=AU Tryz.func238 rfl
theorem lF:AN np 239:=AU Tryz.func239 rfl
theorem IL:AN np 24:=AU Tryz.func24 rfl
theorem lG:AN np 240:=AU Tryz.func240 rfl
theorem Ki:AN np 25:=AU Tryz.func25 rfl
theorem lH:AN np 251:=AU Tryz.func251 rfl
theorem Xz:AN np 252:=AU Tryz.func252 rfl
theorem lI:AN np 253:=AU Tryz.func253 rfl
theorem lJ:AN np 254:=AU Tryz.func254 rfl
theorem XA:AN np 255:=AU Tryz.func255 rfl
theorem Tf:AN np 256:=AU Tryz.func256 rfl
theorem XB:AN np 257:=AU Tryz.func257 rfl
theorem lK:AN np 258:=AU Tryz.func258 rfl
theorem Qj:AN np 26:=AU Tryz.func26 rfl
theorem lL:AN np 264:=AU Tryz.func264 rfl
theorem lM:AN np 267:=AU Tryz.func267 rfl
theorem XC:AN np 268:=AU Tryz.func268 rfl
theorem lN:AN np 269:=AU Tryz.func269 rfl
theorem Qk:AN np 27:=AU Tryz.func27 rfl
theorem M1:AN np 270:=AU Tryz.func270 rfl
theorem lO:AN np 271:=AU Tryz.func271 rfl
theorem lP:AN np 272:=AU Tryz.func272 rfl
theorem lQ:AN np 273:=AU Tryz.func273 rfl
theorem lS:AN np 274:=AU Tryz.func274 rfl
theorem lT:AN np 281:=AU Tryz.func281 rfl
theorem lU:AN np 282:=AU Tryz.func282 rfl
theorem XD:AN np 283:=AU Tryz.func283 rfl
theorem lV:AN np 284:=AU Tryz.func284 rfl
theorem lW:AN np 285:=AU Tryz.func285 rfl
theorem lY:AN np 286:=AU Tryz.func286 rfl
theorem lZ:AN np 287:=AU Tryz.func287 rfl
theorem l5:AN np 288:=AU Tryz.func288 rfl
theorem l6:AN np 299:=AU Tryz.func299 rfl
theorem l7:AN np 30:=AU Tryz.func30 rfl
theorem l8:AN np 300:=AU Tryz.func300 rfl
theorem Ge:AN np 301:=AU Tryz.func301 rfl
theorem I9:AN np 302:=AU Tryz.func302 rfl
theorem M2:AN np 303:=AU Tryz.func303 rfl
theorem l9:AN np 304:=AU Tryz.func304 rfl
theorem Ql:AN np 305:=AU Tryz.func305 rfl
theorem XE:AN np 306:=AU Tryz.func306 rfl
theorem l_:AN np 307:=AU Tryz.func307 rfl
theorem mA:AN np 308:=AU Tryz.func308 rfl
theorem mB:AN np 309:=AU Tryz.func309 rfl
theorem mC:AN np 310:=AU Tryz.func310 rfl
theorem mD:AN np 311:=AU Tryz.func311 rfl
theorem mE:AN np 312:=AU Tryz.func312 rfl
theorem XF:AN np 313:=AU Tryz.func313 rfl
theorem M3:AN np 314:=AU Tryz.func314 rfl
theorem XG:AN np 315:=AU Tryz.func315 rfl
theorem mF:AN np 333:=AU Tryz.func333 rfl
theorem mG:AN np 334:=AU Tryz.func334 rfl
theorem XH:AN np 335:=AU Tryz.func335 rfl
theorem XI:AN np 336:=AU Tryz.func336 rfl
theorem XJ:AN np 337:=AU Tryz.func337 rfl
theorem mH:AN np 34:=AU Tryz.func34 rfl
theorem mI:AN np 35:=AU Tryz.func35 rfl
theorem mJ:AN np 350:=AU Tryz.func350 rfl
theorem Tg:AN np 353:=AU Tryz.func353 rfl
theorem XK:AN np 36:=AU Tryz.func36 rfl
theorem M4:AN np 37:=AU Tryz.func37 rfl
theorem XL:AN np 38:=AU Tryz.func38 rfl
theorem JF:AN np 39:=AU Tryz.func39 rfl
theorem mK:AN np 40:=AU Tryz.func40 rfl
theorem mL:AN np 41:=AU Tryz.func41 rfl
theorem K6:AN np 42:=AU Tryz.func42 rfl
theorem Th:AN np 43:=AU Tryz.func43 rfl
theorem On:AN np 44:=AU Tryz.func44 rfl
theorem Ti:AN np 45:=AU Tryz.func45 rfl
theorem K7:AN np 46:=AU Tryz.func46 rfl
theorem XM:AN np 47:=AU Tryz.func47 rfl
theorem XN:AN np 48:=AU Tryz.func48 rfl
theorem mM:AN np 49:=AU Tryz.func49 rfl
theorem XO:AN np 50:=AU Tryz.func50 rfl
theorem mN:AN np 51:=AU Tryz.func51 rfl
theorem mO:AN np 52:=AU Tryz.func52 rfl
theorem mP:AN np 53:=AU Tryz.func53 rfl
theorem Qm:AN np 54:=AU Tryz.func54 rfl
theorem mQ:AN np 55:=AU Tryz.func55 rfl
theorem XP:AN np 56:=AU Tryz.func56 rfl
theorem Tj:AN np 67:=AU Tryz.func67 rfl
theorem XQ:AN np 68:=AU Tryz.func68 rfl
theorem Tl:AN np 69:=AU Tryz.func69 rfl
theorem mR:AN np 70:=AU Tryz.func70 rfl
theorem mS:AN np 71:=AU Tryz.func71 rfl
theorem M5:AN np 72:=AU Tryz.func72 rfl
theorem Tm:AN np 73:=AU Tryz.func73 rfl
theorem Kj:AN np 74:=AU Tryz.func74 rfl
theorem Qn:AN np 75:=AU Tryz.func75 rfl
theorem mT:AN np 76:=AU Tryz.func76 rfl
theorem mU:AN np 77:=AU Tryz.func77 rfl
theorem XR:AN np 78:=AU Tryz.func78 rfl
theorem XS:AN np 79:=AU Tryz.func79 rfl
theorem XT:AN np 8:=AU Tryz.func8 rfl
theorem Oo:AN np 80:=AU Tryz.func80 rfl
theorem Tn:AN np 81:=AU Tryz.func81 rfl
theorem XU:AN np 82:=AU Tryz.func82 rfl
theorem mV:AN np 83:=AU Tryz.func83 rfl
theorem mW:AN np 84:=AU Tryz.func84 rfl
theorem To:AN np 85:=AU zc rfl
theorem mX:AN np 86:=AU Tryz.func86 rfl
theorem XV:AN np 87:=AU Tryz.func87 rfl
theorem Tp:AN np 88:=AU Tryz.func88 rfl
theorem Tq:AN np 89:=AU Tryz.func89 rfl
theorem JG:AN np 9:=AU Tryz.func9 rfl
theorem Tr:AN np 90:=AU Tryz.func90 rfl
theorem mY:AN np 91:=AU Tryz.func91 rfl
theorem XW:AN np 92:=AU Tryz.func92 rfl
theorem Kk:AN np 93:=AU Tryz.func93 rfl
theorem K8:AN np 94:=AU Tryz.func94 rfl
theorem mZ:AN np 95:=AU Tryz.func95 rfl
theorem L3:AN np 96:=AU Tryz.func96 rfl
theorem Ts:AN np 97:=AU Tryz.func97 rfl
theorem K9:AN np 98:=AU Tryz.func98 rfl
theorem XX:AN np 99:=AU Tryz.func99 rfl
theorem mo:Tryz.prog.follows .mixedOrders=true:=by kernel_rfl
theorem YM:(Tryz.prog.info? 299).map (fun i=>decide (i.size=0))=some false:=by kernel_rfl
theorem KA:D5 np 139=some (147,6,64):=by kernel_rfl
theorem Uu:D5 np 187=some (49,10,112):=by kernel_rfl
theorem Gs:D5 np 195=some (24,1,24):=by kernel_rfl
theorem x4:D5 np 205=some (4,1,1):=by kernel_rfl
theorem Nz:D5 np 213=some (216,1,8):=by kernel_rfl
theorem Hc:D5 np 22=some (47,1,24):=by kernel_rfl
theorem Lt:D5 np 23=some (124,3,32):=by kernel_rfl
theorem D0:D5 np 24=some (3,1,8):=by kernel_rfl
theorem Lu:D5 np 314=some (9,1,16):=by kernel_rfl
theorem C8:D5 np 328=some (330,3,32):=by kernel_rfl
theorem D1:D5 np 40=some (51,12,128):=by kernel_rfl
theorem Rh:D5 np 45=some (53,14,144):=by kernel_rfl
theorem Cd:D5 np 47=some (122,2,32):=by kernel_rfl
theorem IQ:D5 np 57=some (5,1,1):=by kernel_rfl
theorem Gt:D5 np 59=some (69,7,88):=by kernel_rfl
theorem O6:D5 np 96=some (151,3,24):=by kernel_rfl
theorem aK:He np 122=some [(9,0,1),(9,1,1)]:=by kernel_rfl
theorem yI:He np 124=some [(3,0,1),(3,1,1),(9,2,1)]:=by kernel_rfl
theorem yJ:He np 26=some [(22,0,1),(3,1,1),(23,2,1),(23,3,1),(23,4,1),(3,5,1),(3,6,1),(3,7,1),(24,8,1)]:=by kernel_rfl
theorem yK:He np 28=some [(26,0,9),(3,9,1),(3,10,1),(3,11,1)]:=by kernel_rfl
theorem yL:He np 49=some [(3,0,1),(3,1,1),(3,2,1),(3,3,1),(3,4,1),(3,5,1),(3,6,1),(3,7,1),(24,8,1),(47,9,1)]:=by kernel_rfl
theorem yM:He np 51=some [(3,0,1),(3,1,1),(49,2,10)]:=by kernel_rfl
theorem yN:He np 53=some [(3,0,1),(3,1,1),(51,2,12)]:=by kernel_rfl
theorem Dq:CK np 122=some (true,2):=by kernel_rfl
theorem NC:CK np 124=some (true,3):=by kernel_rfl
theorem Jn:CK np 139=some (false,1):=by kernel_rfl
theorem zZ:CK np 141=some (false,1):=by kernel_rfl
theorem aW:CK np 147=some (true,6):=by kernel_rfl
theorem It:CK np 149=some (false,1):=by kernel_rfl
theorem Mm:CK np 151=some (true,3):=by kernel_rfl
theorem Rt:CK np 166=some (false,1):=by kernel_rfl
theorem Mn:CK np 194=some (false,1):=by kernel_rfl
theorem Gv:CK np 195=some (false,1):=by kernel_rfl
theorem FG:CK np 2=some (false,1):=by kernel_rfl
theorem z1:CK np 21=some (false,1):=by kernel_rfl
theorem Fw:CK np 212=some (false,1):=by kernel_rfl
theorem Ly:CK np 213=some (false,1):=by kernel_rfl
theorem aX:CK np 216=some (false,1):=by kernel_rfl
theorem Fx:CK np 22=some (false,1):=by kernel_rfl
theorem Gw:CK np 23=some (false,1):=by kernel_rfl
theorem D7:CK np 24=some (false,1):=by kernel_rfl
theorem ND:CK np 26=some (true,9):=by kernel_rfl
theorem Ru:CK np 272=some (true,2):=by kernel_rfl
theorem Mo:CK np 273=some (false,1):=by kernel_rfl
theorem D2:CK np 28=some (true,12):=by kernel_rfl
theorem Af:CK np 3=some (false,1):=by kernel_rfl
theorem Rv:CK np 314=some (false,1):=by kernel_rfl
theorem KE:CK np 328=some (false,1):=by kernel_rfl
theorem EH:CK np 330=some (true,3):=by kernel_rfl
theorem Pi:CK np 332=some (false,1):=by kernel_rfl
theorem Rw:CK np 37=some (false,1):=by kernel_rfl
theorem De:CK np 4=some (false,1):=by kernel_rfl
theorem Hg:CK np 40=some (false,1):=by kernel_rfl
theorem D8:CK np 47=some (false,1):=by kernel_rfl
theorem CT:CK np 49=some (true,10):=by kernel_rfl
theorem z6:CK np 5=some (false,1):=by kernel_rfl
theorem IT:CK np 51=some (true,12):=by kernel_rfl
theorem Rx:CK np 53=some (true,14):=by kernel_rfl
theorem HC:CK np 55=some (false,1):=by kernel_rfl
theorem Jo:CK np 57=some (false,1):=by kernel_rfl
theorem Fy:CK np 69=some (true,7):=by kernel_rfl
theorem Jp:CK np 80=some (false,1):=by kernel_rfl
theorem CX:CK np 9=some (false,1):=by kernel_rfl
theorem UH:CK np 95=some (false,1):=by kernel_rfl
theorem KF:CK np 96=some (false,1):=by kernel_rfl
theorem a_:Tryz.prog.underlying 382=some (.interface (Tryz.prog.methodsAt 382)):=by kernel_rfl
theorem Pj:Tryz.prog.underlying 139=some (.slice 147):=by kernel_rfl
theorem bA:Tryz.prog.underlying 140=some (.array 4 4):=by kernel_rfl
theorem bB:Tryz.prog.underlying 141=some (.pointer 254):=by kernel_rfl
theorem Pk:Tryz.prog.underlying 144=some (.pointer 147):=by kernel_rfl
theorem JT:Tryz.prog.underlying 149=some (.pointer 215):=by kernel_rfl
theorem KG:Tryz.prog.underlying 153=some (.pointer 197):=by kernel_rfl
theorem bC:Tryz.prog.underlying 166=some (.func #[] #[9] false):=by kernel_rfl
theorem z_:Tryz.prog.underlying 187=some (.slice 49):=by kernel_rfl
theorem Pl:Tryz.prog.underlying 193=some (.array 6 192):=by kernel_rfl
theorem Ry:Tryz.prog.underlying 194=some (.pointer 275):=by kernel_rfl
theorem bD:Tryz.prog.underlying 199=some (.pointer 251):=by kernel_rfl
theorem NE:Tryz.prog.underlying 2=some (.int .i64):=by kernel_rfl
theorem AaA:Tryz.prog.underlying 205=some (.slice 4):=by kernel_rfl
theorem NF:Tryz.prog.underlying 208=some (.pointer 192):=by kernel_rfl
theorem Pm:Tryz.prog.underlying 212=some (.pointer 305):=by kernel_rfl
theorem UJ:Tryz.prog.underlying 213=some (.slice 216):=by kernel_rfl
theorem bE:Tryz.prog.underlying 216=some (.pointer 279):=by kernel_rfl
theorem Fz:Tryz.prog.underlying 22=some (.slice 47):=by kernel_rfl
theorem Mp:Tryz.prog.underlying 222=some (.int .u64):=by kernel_rfl
theorem IU:Tryz.prog.underlying 23=some (.slice 124):=by kernel_rfl
theorem E2:Tryz.prog.underlying 24=some (.slice 3):=by kernel_rfl
theorem bF:Tryz.prog.underlying 252=some (.array 8 251):=by kernel_rfl
theorem Mq:Tryz.prog.underlying 273=some (.map 272 22):=by kernel_rfl
theorem DT:Tryz.prog.underlying 3=some (.int .i64):=by kernel_rfl
theorem bG:Tryz.prog.underlying 314=some (.slice 9):=by kernel_rfl
theorem Gy:Tryz.prog.underlying 32=some (.pointer 93):=by kernel_rfl
theorem Mr:Tryz.prog.underlying 328=some (.slice 330):=by kernel_rfl
theorem bH:Tryz.prog.underlying 331=some (.array 8 330):=by kernel_rfl
theorem Pn:Tryz.prog.underlying 332=some (.map 2 212):=by kernel_rfl
theorem bI:Tryz.prog.underlying 355=some (.pointer 299):=by kernel_rfl
theorem UK:Tryz.prog.underlying 37=some (.pointer 103):=by kernel_rfl
theorem un4:Tryz.prog.underlying 4=some (.bool):=by kernel_rfl
theorem IV:Tryz.prog.underlying 40=some (.slice 51):=by kernel_rfl
theorem NG:Tryz.prog.underlying 45=some (.slice 53):=by kernel_rfl
theorem DD:Tryz.prog.underlying 47=some (.slice 122):=by kernel_rfl
theorem KH:Tryz.prog.underlying 5=some (.int .u8):=by kernel_rfl
theorem Ms:Tryz.prog.underlying 55=some (.pointer 109):=by kernel_rfl
theorem Gz:Tryz.prog.underlying 57=some (.slice 5):=by kernel_rfl
theorem NH:Tryz.prog.underlying 59=some (.slice 69):=by kernel_rfl
theorem Jq:Tryz.prog.underlying 80=some (.pointer 143):=by kernel_rfl
theorem DE:Tryz.prog.underlying 9=some (.string):=by kernel_rfl
theorem FA:Tryz.prog.underlying 94=some (.int .u64):=by kernel_rfl
theorem UL:Tryz.prog.underlying 95=some (.map 3 153):=by kernel_rfl
theorem UM:Tryz.prog.underlying 96=some (.slice 151):=by kernel_rfl
theorem bJ:Tryz.prog.underlying 99=some (.int .u32):=by kernel_rfl
theorem bM:Tryz.prog.underlying 359=some .unsafePointer:=by kernel_rfl
theorem DY:DO np 122=some (.agg #[.string ⟨#[]⟩,.string ⟨#[]⟩]):=by kernel_rfl
theorem RD:DO np 124=some (.agg #[Y Z 0,Y Z 0,.string ⟨#[]⟩]):=by kernel_rfl
theorem RE:DO np 147=some (.agg #[Y Z 0,Y Z 0,Y Z 0,false,Y Z 0,V none 0 0]):=by kernel_rfl
theorem AbH:DO np 149=some (zP none):=by kernel_rfl
theorem Po:DO np 151=some (.agg #[Y Z 0,Y Z 0,zP none]):=by kernel_rfl
theorem cE:DO np 153=some (zP none):=by kernel_rfl
theorem RF:DO np 212=some (zP none):=by kernel_rfl
theorem RG:DO np 216=some (zP none):=by kernel_rfl
theorem U0:DO np 22=some (V none 0 0):=by kernel_rfl
theorem GC:DO np 24=some (V none 0 0):=by kernel_rfl
theorem cF:DO np 272=some (.agg #[Y Z 0,Y Z 0]):=by kernel_rfl
theorem cG:DO np 28=some (.agg #[V none 0 0,Y Z 0,V none 0 0,V none 0 0,V none 0 0,Y Z 0,Y Z 0,Y Z 0,V none 0 0,Y Z 0,Y Z 0,Y Z 0]):=by kernel_rfl
theorem F6:DO np 3=some (Y Z 0):=by kernel_rfl
theorem EW:DO np 330=some (.agg #[false,Y Z 0,.string ⟨#[]⟩]):=by kernel_rfl
theorem NN:DO np 47=some (V none 0 0):=by kernel_rfl
theorem JW:DO np 49=some (.agg #[Y Z 0,Y Z 0,Y Z 0,Y Z 0,Y Z 0,Y Z 0,Y Z 0,Y Z 0,V none 0 0,V none 0 0]):=by kernel_rfl
theorem NO:DO np 5=some (.int .u8 0):=by kernel_rfl
theorem EK:DO np 51=some (.agg #[Y Z 0,Y Z 0,Y Z 0,Y Z 0,Y Z 0,Y Z 0,Y Z 0,Y Z 0,Y Z 0,Y Z 0,V none 0 0,V none 0 0]):=by kernel_rfl
theorem cH:DO np 53=some (.agg #[Y Z 0,Y Z 0,Y Z 0,Y Z 0,Y Z 0,Y Z 0,Y Z 0,Y Z 0,Y Z 0,Y Z 0,Y Z 0,Y Z 0,V none 0 0,V none 0 0]):=by kernel_rfl
theorem FH:DO np 69=some (.agg #[Y Z 0,Y Z 0,Y Z 0,Y Z 0,Y Z 0,V none 0 0,V none 0 0]):=by kernel_rfl
theorem NP:DO np 9=some (.string ⟨#[]⟩):=by kernel_rfl
theorem gC:U1 np 122 9:=⟨⟨_,_,f6,by decide,by decide,rfl,rfl,rfl,rfl⟩,DE,CX⟩
theorem NM:IX np 272 DW:=jV ⟨⟨_,_,f7,by decide,by decide,rfl,rfl,rfl,rfl⟩,DT,Af⟩
theorem UZ:IX np 3 EZ:=jW DT
theorem Rl  :
    Cn np 128 [] [] [] (fun v Bs=>∃ b,v=zP (some ⟨b,0,none⟩)∧Bs=[blk b [Y Z 0,Y Z 0,Y Z 0,Y Z 0,Y Z 0,Y Z 0,Y Z 0,Y Z 0] 254]):=by
 intro w0 F0 H;exact en jau U (AP U (EA U U (CH (parts:=[]) (vs:=[]) (cs:=[Y Z 0,Y Z 0,Y Z 0,Y Z 0,Y Z 0,Y Z 0,Y Z 0,Y Z 0]) U dB U U) (Cw U H (fun a w H=>(Ag U (BG U (Ac ⟨_,U,U⟩ H)))))))
theorem zB (t:Nat):
    Cn np 142 [t,Y Z 0] [] [] (fun v Bs=>v=zP t∧Bs=[]):=by
 intro w0 F0 H;exact en yc U (AP U (Ab (Ae U (Aj U (CP U bB U U) (Ai 2 U (Aj U (Bt U) (Ai 3 U (AC U (Dj U) U (Bz U (AG (AD 2 U (AF U (AJ U Wt (Al U (JN U bF Xf U U (by omega) (by omega) U) U (BG U (fz H))))))))))))))))
theorem Vm (n:Int) {o:Int} (hn:0≤n∧n≤1099511627776) (ho:0≤o∧o≤1099511627776):
    Cn np 143 [o,nb] [] [blk nb [n] 3] (fun v Bs=>v=Y Z (min (o+n) 1099511627776)∧Bs=[]):=by
 intro w0 F0 H;exact en jbe U (AP U (Ae U (BW U (AA U Af U (H.cellRI 0 U U)) U (AX U U U (Df (by omega) (by omega))) (Al U (Je U U U U) U (BG U (fz H))))))
theorem nN (t:Nat):
    Cn np 195 [t] [] [blk t [c0,c1,c2,c3,c4,c5,c6,c7] 254] (fun v Bs=>v=Y Z c0∧Bs=[]):=by
 intro w0 F0 H;exact en yf U (AP U (Ae U (AF U (AJ U PO (Al U (OK Wg U U (H.cellRI 0 U U)) U (BG U (fz H)))))))
theorem dW (t:Nat) {n:Int}:
    Cn np 196 [t,c0,n] [blk t [c0,c1,c2,c3,c4,c5,c6,c7] 254] [] (fun v Bs=>v=.bool true∧Bs=[blk t [n,c1,c2,c3,c4,c5,c6,c7] 254]):=by
 intro w0 F0 H;exact en yg U (AP U (Ae U (AF U (AJ U PO (Ai 2 U (Uq Wh U U U U H U (fun w H=>(Ag U (BG U (fz H))))))))))
theorem eD (t:Nat) (n:Int) (hn:0≤n∧n≤1099511627776) (ho:0≤c0∧c0≤1099511627776):
    Cn np 141 [zP (some ⟨t,0,none⟩),.func (.func 143) #[] #[zP (some ⟨nb,0,none⟩)]] [blk t [Y Z c0,Y Z c1,Y Z c2,Y Z c3,Y Z c4,Y Z c5,Y Z c6,Y Z c7] 254] [blk nb [Y Z n] 3] (fun v Bs=>v=Y Z (min (c0+n) 1099511627776)∧Bs=[blk t [Y Z (min (c0+n) 1099511627776),Y Z c1,Y Z c2,Y Z c3,Y Z c4,Y Z c5,Y Z c6,Y Z c7] 254]):=by
 intro w0 F0 H;refine en yb U (AP U (Ab (Ae U (AV U (CP U bD U U) (Bz U (AG (AT (B6 (σ:=Unit) (fun u=>[(0,t),(1,.func (.func 143) #[] #[nb])]) (fun u w=>(Hd w0 F0 w [blk t [c0,c1,c2,c3,c4,c5,c6,c7] 254] [blk nb [n] 3])) (fun u=>0) () U H ?_))))))));rintro u w H;refine AT (Ae U (AR (nN t) H (lA 0 U (fun _ h=>h) l0) Xw U (fun w H=>(BO U (AD 2 U (sc (Vm n hn ho) H (lR 0 U l0) U U (IA (vs:=[c0]) (fs:=#[]) (cs:=#[nb]) Xq U U U) ?_))))));rintro _ _ w ⟨rfl,rfl⟩ H;refine BO U (AD 2 U (Al U (AK U) U ?_));refine AE (d:=17) U (fun h1=>?_) (fun h1=>?_);refine AI 5 U (Ck U (AD 2 U (Ax (Bb (Bg (Bb (Ma U U ?_)))))));replace H:Hd w0 F0 w [blk t [Y Z (min (c0+n) 1099511627776),Y Z c1,Y Z c2,Y Z c3,Y Z c4,Y Z c5,Y Z c6,Y Z c7] 254] [blk nb [Y Z n] 3]:=by rw [h1];exact H
 exact fz H;exact Ai 3 U (Bo (dW t) H Xx U (fun w H=>(BO U (Ck U (AD 2 U (Ax (Bb (Bg (Bb (Ma U U (fz H)))))))))))
theorem aR {t:Nat} (c1 c2 c3 c4 c5 c6 c7:Int) {n:Int} (hn:0≤n∧n≤1099511627776) (ho:0≤c0∧c0≤1099511627776):
    Cn np 85 [zP (some ⟨t,0,none⟩),Y Z 0,Y Z n] [blk t [Y Z c0,Y Z c1,Y Z c2,Y Z c3,Y Z c4,Y Z c5,Y Z c6,Y Z c7] 254] [] (fun v Bs=>v=Y Z (min (c0+n) 1099511627776)∧Bs=[blk t [Y Z (min (c0+n) 1099511627776),Y Z c1,Y Z c2,Y Z c3,Y Z c4,Y Z c5,Y Z c6,Y Z c7] 254]):=by
 intro w0 F0 H;refine en zc U (Am (Cw U H (fun a w H=>(BO U (Ab (Am (C2 U Af H 0 U (Al U (Bt U) U ?_))))))));refine AE (d:=9) U (fun h2=>?_) (fun h2=>?_);exfalso;omega;refine C2 U Af H 0 U (AC U (CB U) U ?_);refine Aq U (fun h3=>?_) (fun h3=>?_);exfalso;omega;refine AG (AD 2 U (Bo (zB t) H Xp U (fun w H=>(Aj U (Lp (fs:=#[]) (cs:=#[a]) U U U) ?_))));replace H:=H.p1;refine AR (eD t n hn ho) H (lA 0 U (fun _ h=>h) l0) Xo U (fun w H=>(Ag U (BG U ?_)));replace H:=H.k1;exact fz H
end Go.Proofs.YthhajcnbjiiclaaGreatDoor.X
