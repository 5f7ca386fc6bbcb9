/- WorkerNone: texts XF2, XL, XL3, XU, XProg, XV, XV2, F1, XH, XT, XT2, XT3, XT4, XPair, XMer, XMer2, XProg2, XRec, XV3, V1, V2, V3, XV4, XV5, XG, V4, O1, O2, joined by a program of ours; what nothing names is left out. -/
import Derived.Test.YthgehekecfpikaaGreatDoorWorkerNoneQ1
import Derived.Sort.Row
import Derived.Sort.Grow
import Derived.Sort.EncStr
import Derived.Lib.SlicesCompact
import Derived.WideLaws
import Derived.Sort.Walk0
import Derived.Defers
import Derived.Lib.LaidTab
import Derived.Lib.ItoaNum
import Derived.Lib.AppendIntMem
import Derived.Test.YthgehekecfpikaaGreatDoorShelf
import Derived.Tactics2
import Derived.Laws.Pointers
import Derived.RegionTactic
import Derived.RegionCalls
import Derived.ChangeAlike
set_option linter.unusedVariables false
set_option linter.unusedSimpArgs false
set_option maxHeartbeats 8000000
namespace Go.Proofs.YthgehekecfpikaaGreatDoor.X
open Go
theorem I9:DZ Tryz.prog 121=some (#[.int .i64 0,.int .i64 0,.int .i64 0,.int .i64 0,.int .i64 0,.int .i64 0,.int .i64 0,.int .i64 0,.int .i64 0,.int .i64 0,.slice none 0 0,.slice none 0 0],#[(0,1),(1,1),(2,10)]):=by kernel_rfl
theorem Rr:DZ Tryz.prog 210=some (#[.slice none 0 0,.int .i64 0,.slice none 0 0,.slice none 0 0,.slice none 0 0,.int .i64 0,.int .i64 0,.int .i64 0,.slice none 0 0,.int .i64 0,.int .i64 0,.int .i64 0,.int .i64 0,.slice none 0 0,.map none,.slice none 0 0,.int .u32 0],#[(0,12),(12,1),(13,1),(14,1),(15,1),(16,1)]):=by kernel_rfl
theorem Rt:DZ Tryz.prog 215=some (#[.int .i64 0,.int .i64 0,.pointer none],#[(0,1),(1,1),(2,1)]):=by kernel_rfl
theorem RS:Tryz.prog.cellsOf 128=12:=by kernel_rfl
theorem N5:Bg Tryz.prog 121 0=some 0:=by kernel_rfl
theorem K9:Bg Tryz.prog 121 1=some 1:=by kernel_rfl
theorem K_:Bg Tryz.prog 121 2=some 2:=by kernel_rfl
theorem S3:Bg Tryz.prog 128 1=some 1:=by kernel_rfl
theorem N6:Bg Tryz.prog 128 2=some 2:=by kernel_rfl
theorem Ik:Bg Tryz.prog 210 0=some 0:=by kernel_rfl
theorem Jr:Bg Tryz.prog 210 1=some 12:=by kernel_rfl
theorem Lb:Bg Tryz.prog 210 2=some 13:=by kernel_rfl
theorem Lc:Bg Tryz.prog 210 3=some 14:=by kernel_rfl
theorem HB:Bg Tryz.prog 210 4=some 15:=by kernel_rfl
theorem Oa:Bg Tryz.prog 210 5=some 16:=by kernel_rfl
theorem Ld:Bg Tryz.prog 215 0=some 0:=by kernel_rfl
theorem Le:Bg Tryz.prog 215 1=some 1:=by kernel_rfl
theorem Il:Bg Tryz.prog 215 2=some 2:=by kernel_rfl
theorem T9:AK Tryz.prog 139:=AM Tryz.func139 rfl rfl
theorem T_:AK Tryz.prog 140:=AM Tryz.func140 rfl rfl
theorem Ua:AK Tryz.prog 141:=AM Tryz.func141 rfl rfl
theorem Ub:AK Tryz.prog 143:=AM Tryz.func143 rfl rfl
theorem O6:AK Tryz.prog 68:=AM Tryz.func68 rfl rfl
theorem U2:AK Tryz.prog 69:=AM Tryz.func69 rfl rfl
theorem O7:AK Tryz.prog 70:=AM Tryz.func70 rfl rfl
theorem LK:AK Tryz.prog 72:=AM Tryz.func72 rfl rfl
theorem O8:AK Tryz.prog 73:=AM Tryz.func73 rfl rfl
theorem U3:AK Tryz.prog 74:=AM Tryz.func74 rfl rfl
theorem U4:AK Tryz.prog 75:=AM Tryz.func75 rfl rfl
theorem LL:AK Tryz.prog 76:=AM Tryz.func76 rfl rfl
theorem O9:AK Tryz.prog 77:=AM Tryz.func77 rfl rfl
theorem U5:AK Tryz.prog 78:=AM Tryz.func78 rfl rfl
theorem EE:C2 Tryz.prog 115=some (121,12,128):=by kernel_rfl
theorem Kk:C2 Tryz.prog 203=some (215,3,24):=by kernel_rfl
theorem YJ:GQ Tryz.prog 128=some [(4,0,1),(3,1,1),(64,2,10)]:=by kernel_rfl
theorem MF:Cb Tryz.prog 202=some (false,1):=by kernel_rfl
theorem H0:Cb Tryz.prog 203=some (false,1):=by kernel_rfl
theorem I0:Cb Tryz.prog 215=some (true,3):=by kernel_rfl
theorem E6:Tryz.prog.underlying 112=some (.pointer 210):=by kernel_rfl
theorem H7:Tryz.prog.underlying 115=some (.slice 121):=by kernel_rfl
theorem MG:Tryz.prog.underlying 202=some (.map 3 75):=by kernel_rfl
theorem MH:Tryz.prog.underlying 203=some (.slice 215):=by kernel_rfl
theorem Hn:CV Tryz.prog 121=some (.agg #[.int .i64 0,.int .i64 0,.int .i64 0,.int .i64 0,.int .i64 0,.int .i64 0,.int .i64 0,.int .i64 0,.int .i64 0,.int .i64 0,.slice none 0 0,.slice none 0 0]):=by kernel_rfl
theorem KA:CV Tryz.prog 215=some (.agg #[.int .i64 0,.int .i64 0,.pointer none]):=by kernel_rfl
theorem Rc:CV Tryz.prog 75=some (.pointer none):=by kernel_rfl
theorem MR:GW Tryz.prog 3 BG:=TU D5
def EX {α:Type} (p:α→Bool) (xs:List α):Int:=match xs.findIdx? p with |some i=>(i:Int)|none=> -1
theorem KW {α:Type} {p:α→Bool} {xs:List α} {k:Nat} {x:α} (h:∀ y∈xs.take k,p y=false) (hx:xs[k]?=some x) (hp:p x=true):EX p xs=(k:Int):=by
 have:xs.findIdx? p=some k:=by
  rw [List.findIdx?_eq_some_iff_getElem]
  have hlt:k<xs.length:=by
   rcases Nat.lt_or_ge k xs.length with h'|h'
   ·exact h'
   ·simp [List.getElem?_eq_none h'] at hx
  refine ⟨hlt,by rw [List.getElem?_eq_getElem hlt] at hx;rw [Option.some.inj hx];exact hp,fun j hj=>?_⟩
  have:=h xs[j] (by rw [List.mem_take_iff_getElem];exact ⟨j,by omega,rfl⟩)
  simp [this]
 simp [EX,this]
theorem Jk {α:Type} {p:α→Bool} {xs:List α} (h:∀ y∈xs,p y=false):EX p xs= -1:=by
 have:xs.findIdx? p=none:=by
  rw [List.findIdx?_eq_none_iff]
  exact h
 simp [EX,this]
theorem KX {α:Type} (p:α→Bool) (xs:List α):decide (0≤EX p xs)=xs.any p:=by
 by_cases h:∃ y∈xs,p y=true
 ·have h1:xs.any p=true:=by simpa using h
  rw [h1,decide_eq_true_eq]
  unfold EX
  cases hf:xs.findIdx? p with
  |none=>
   rw [List.findIdx?_eq_none_iff] at hf
   obtain ⟨y,hy,hp⟩:=h
   rw [hf y hy] at hp
   cases hp
  |some i=>simp
 ·have h':∀ y∈xs,p y=false:=fun y hy=>by
   cases hp:p y with
   |false=>rfl
   |true=>exact (h ⟨y,hy,hp⟩).elim
  rw [Jk h']
  have h1:xs.any p=false:=by
   rw [List.any_eq_false]
   intro y hy
   simp [h' y hy]
  rw [h1]
  decide
theorem ME {α:Type} {p:α→Bool} {xs:List α} {k:Nat} {x:α} (h:∀ y∈xs.take k,p y=false) (hx:xs[k]?=some x) (hp:p x=false):∀ y∈xs.take (k+1),p y=false:=by
 intro y hy
 rw [List.take_add_one,hx] at hy
 simp at hy
 exact hy.elim (h y) (fun e=>e▸hp)
def cnt {α:Type} (p:α→Bool) (xs:List α):Nat:=(xs.filter p).length
theorem Sb {α:Type} (p:α→Bool) (xs:List α) (x:α):cnt p (xs++[x])=cnt p xs+if p x then 1 else 0:=by
 unfold cnt
 rw [List.filter_append]
 by_cases h:p x<;>simp [h]
theorem Nz {α:Type} (p:α→Bool) (xs:List α):cnt p xs≤xs.length:=List.length_filter_le p xs
theorem NA {α:Type} {p:α→Bool} {xs:List α} {k:Nat} {x:α} (hx:xs[k]?=some x):cnt p (xs.take (k+1))=cnt p (xs.take k)+if p x then 1 else 0:=by
 rw [List.take_add_one,hx,←Sb]
 rfl
section
variable {w w0:World} {F0:AH} {As Rs:List SP} {α:Type} [Inhabited α] {e1:α→Value}
theorem OB {b t:Nat} {xs:List α} {rest:List Value} (H:Hd w0 F0 w (blk b (xs.map e1++rest) t::As) Rs):Sort.Holds e1 w b 0 xs.toArray:=by
 intro j hj
 simp only [List.size_toArray] at hj
 rw [Nat.zero_add]
 refine ⟨H.cell (List.mem_cons_self ..) ?_,H.free (List.mem_cons_self ..) j⟩
 rw [List.getElem?_append_left (by simpa using hj),List.getElem?_map,List.getElem?_eq_getElem hj]
 simp [hj]
theorem W_ {xs ys:List α} {rest:List Value} (hl:ys.length=xs.length):Sort.putCells e1 0 ys.toArray (xs.map e1++rest).toArray=(ys.map e1++rest).toArray:=by
 apply Array.toList_inj.1
 apply List.ext_getElem?
 intro i
 unfold Sort.putCells
 rw [Array.toList_mapIdx,List.getElem?_mapIdx]
 simp only [List.size_toArray,Nat.zero_le,true_and,Nat.zero_add,Nat.sub_zero,List.getElem!_toArray]
 rcases Nat.lt_or_ge i ys.length with h|h
 ·rw [List.getElem?_append_left (by simpa using (hl▸h)),List.getElem?_append_left (by simpa using h),List.getElem?_map,List.getElem?_map,List.getElem?_eq_getElem h,List.getElem?_eq_getElem (by omega)]
  simp [h]
 ·rw [List.getElem?_append_right (by simp;omega),List.getElem?_append_right (by simpa using h)]
  simp only [List.length_map,hl]
  cases rest[i - xs.length]? with
  |none=>rfl
  |some v=>simp;omega
theorem Nu {b t n:Nat} {xs ys:List α} {rest:List Value} {os:Array Obj} (H:Hd w0 F0 w (blk b (xs.map e1++rest) t::As) Rs) (hl:ys.length=xs.length):
  Hd w0 F0 (Sort.grow (Sort.putRow e1 (Sort.ahead w n) b 0 ys.toArray) os) (blk b (ys.map e1++rest) t::As) Rs:=by
 refine H.write fun F hF=>?_
 have hb:b<w.heap.size:=by
  rcases Nat.lt_or_ge b w.heap.size with h|h
  ·exact h
  ·have:=hF.2
   rw [Array.getElem?_eq_none h] at this
   cases this
 have hh:∀ k,k<w.heap.size→(Sort.grow (Sort.putRow e1 (Sort.ahead w n) b 0 ys.toArray) os).heap[k]?=(w.heap.modify b (Sort.onCells (Sort.putCells e1 0 ys.toArray)))[k]?:=by
  intro k hk
  show ((w.heap.modify b (Sort.onCells (Sort.putCells e1 0 ys.toArray)))++os)[k]?=_
  rw [Array.getElem?_append_left (by simpa using hk)]
 refine ⟨⟨hF.1,?_⟩,rfl,rfl,rfl,?_,fun k hk hn=>?_⟩
 ·rw [hh b hb,Array.getElem?_modify,if_pos rfl,hF.2]
  simp only [Option.map_some,Sort.onCells,W_ hl]
 ·show w.heap.size≤((w.heap.modify b (Sort.onCells (Sort.putCells e1 0 ys.toArray)))++os).size
  simp
 ·rw [hh k hk,Array.getElem?_modify,if_neg (by rintro rfl;exact hn hF.1)]
theorem Tq (w:World):Sort.grow w #[]=w:=by
 unfold Sort.grow
 simp
end
theorem JR {α:Type} {e1:α→Value} (xs:List α):xs.flatMap (fun x=>[e1 x])=xs.map e1:=by
 induction xs with
 |nil=>rfl
 |cons x xs ih=>simp [ih]
section
variable {P:Program} {α:Type} [Inhabited α] {e1:α→Value} {h1:∀ x,∀ c∈[e1 x],c.oneCell'=true} {f:FuncId}
theorem R_ {s:List α→List α} (hlen:∀ xs,(s xs).length=xs.length) (hnil:s []=[])
  (h0:∀ (p:Option Addr) (c:Nat) (w:World),Calls P f #[.slice p 0 c] w fun e w'=>e=.returned (.tuple #[])∧w'=w)
  (hc:∀ (b c:Nat) (xs:List α) (w:World),Sort.Holds e1 w b 0 xs.toArray→b<w.heap.size→xs.length≤1000000→Calls P f #[.slice (some ⟨b,0,none⟩) xs.length c] w fun e w'=>e=.returned (.tuple #[])∧∃ n os,w'=Sort.grow (Sort.putRow e1 (Sort.ahead w n) b 0 (s xs).toArray) os)
  (v:Value) (xs:List α) (hb:xs.length≤1000000):Cn P f [v] [Y (flat (fun x=>[e1 x]) 1 (by omega) (fun _=>rfl) h1) v xs] [] (fun _ Bs=>Bs=[Y (flat (fun x=>[e1 x]) 1 (by omega) (fun _=>rfl) h1) v (s xs)]):=by
 intro w F H
 obtain ⟨A,c,rfl,hle,hmax,hp⟩:=H.fA 0 rfl
 rcases Nat.eq_zero_or_pos xs.length with hx|hx
 ·obtain rfl:=List.eq_nil_of_length_eq_zero hx
  refine (h0 A c w).mono ?_
  rintro e w' ⟨rfl,rfl⟩
  exact ⟨_,rfl,_,rfl,by rw [hnil];exact H⟩
 ·obtain ⟨b,t,rest,rfl,hm,hle',hmax',hr,H'⟩:=H.toBlk hx
  rw [JR] at H'
  have hbl:b<w.heap.size:=H'.fact (List.mem_cons_self ..) fun F hF=>by
   rcases Nat.lt_or_ge b w.heap.size with h|h
   ·exact h
   ·have:=hF.2
    rw [Array.getElem?_eq_none h] at this
    cases this
  refine (hc b c xs w (OB H') hbl hb).mono ?_
  rintro e w' ⟨rfl,n,os,rfl⟩
  refine ⟨_,rfl,_,rfl,?_⟩
  have H2:=Nu (n:=n) (os:=os) H' (hlen xs)
  rw [←JR] at H2
  exact H2.ofBlk (hlen xs) hle' hmax' hr
theorem R9 {s:List α→List α} {z:α} (hlen:∀ xs,(s xs).length≤xs.length) (hnil:s []=[])
  (h0:∀ (p:Option Addr) (c:Nat) (w:World),Calls P f #[.slice p 0 c] w fun e w'=>e=.returned (.slice p 0 c)∧w'=w)
  (hc:∀ (b c:Nat) (xs:List α) (w:World),Sort.Holds e1 w b 0 xs.toArray→xs.length≤1000000→xs.length≤c→Calls P f #[.slice (some ⟨b,0,none⟩) xs.length c] w fun e w'=>e=.returned (.slice (some ⟨b,0,none⟩) (s xs).length c)∧∃ n,w'=Sort.putRow e1 (Sort.ahead w n) b 0 (s xs++List.replicate (xs.length - (s xs).length) z).toArray)
  (v:Value) (xs:List α) (hb:xs.length≤1000000):Cn P f [v] [Y (flat (fun x=>[e1 x]) 1 (by omega) (fun _=>rfl) h1) v xs] [] (fun u Bs=>Bs=[Y (flat (fun x=>[e1 x]) 1 (by omega) (fun _=>rfl) h1) u (s xs)]):=by
 intro w F H
 obtain ⟨A,c,rfl,hle,hmax,hp⟩:=H.fA 0 rfl
 rcases Nat.eq_zero_or_pos xs.length with hx|hx
 ·obtain rfl:=List.eq_nil_of_length_eq_zero hx
  refine (h0 A c w).mono ?_
  rintro e w' ⟨rfl,rfl⟩
  exact ⟨_,rfl,_,rfl,by rw [hnil];exact H⟩
 ·obtain ⟨b,t,rest,rfl,hm,hle',hmax',hr,H'⟩:=H.toBlk hx
  rw [JR] at H'
  refine (hc b c xs w (OB H') hb hle).mono ?_
  rintro e w' ⟨rfl,n,rfl⟩
  refine ⟨_,rfl,_,rfl,?_⟩
  have hl:=hlen xs
  have H2:=Nu (n:=n) (os:=#[]) H' (ys:=s xs++List.replicate (xs.length - (s xs).length) z) (by simp;omega)
  rw [Tq,List.map_append,List.append_assoc,←JR (s xs)] at H2
  exact H2.ofBlk U (by omega) hmax' (by simp;omega)
end
theorem ND {α:Type} [Inhabited α] [DecidableEq α] (xs:List α):(Lib.compact xs).length≤xs.length:=by
 unfold Lib.compact Lib.compactUpTo
 rw [List.length_map]
 exact Nat.le_trans (List.length_filter_le _ _) (by simp)
def Gk (x:ByteArray):List UInt8:=x.data.toList
def IY (x:List UInt8):ByteArray:=⟨x.toArray⟩
def FF (xs:List ByteArray):List ByteArray:=((xs.map Gk).mergeSort fun x y=>decide (x≤y)).map IY
def Gf (xs:List ByteArray):List ByteArray:=(Lib.compact (xs.map Gk)).map IY
theorem OA {w:World} {b:Nat} {xs:List ByteArray} (h:Sort.Holds Value.string w b 0 xs.toArray):Sort.Holds Go.Proofs.encStr w b 0 (xs.map Gk).toArray:=by
 intro j hj
 have hj':j<xs.length:=by simpa using hj
 have:=h j (by simpa using hj')
 simp only [List.getElem!_toArray] at this ⊢
 rw [getElem!_pos _ j (by simpa using hj')]
 rw [getElem!_pos _ j hj'] at this
 rw [List.getElem_map]
 have e:Go.Proofs.encStr (Gk xs[j])=Value.string xs[j]:=by simp [Go.Proofs.encStr,Gk]
 rw [e]
 exact this
theorem P6 {w:World} {b:Nat} {zs:List (List UInt8)}:Sort.putRow Go.Proofs.encStr w b 0 zs.toArray=Sort.putRow Value.string w b 0 (zs.map IY).toArray:=by
 unfold Sort.putRow
 congr 1
 funext c
 unfold Sort.putCells
 congr 1
 funext k x
 simp only [List.size_toArray,List.length_map,List.getElem!_toArray]
 split
 ·rename_i h
  have h':k - 0<zs.length:=by omega
  rw [getElem!_pos (zs.map IY) _ (by simpa using h'),getElem!_pos zs _ h',List.getElem_map]
  rfl
 ·rfl
theorem V4 {s:ByteArray}:s=(⟨#[]⟩:ByteArray)↔s.size=0:=by
 constructor
 ·rintro rfl;rfl
 ·intro h
  have:s.data=#[]:=Array.eq_empty_of_size_eq_zero h
  cases s
  simp at this
  subst this
  rfl
def BB (p:BO) (n:Int):Prop:=0≤p.op∧p.op≤23∧(p.op=1→p.s.size=0)∧(p.op=2→p.a=0∧p.s.size≤64)∧(p.op=19∨p.op=20→0≤p.a∧p.a≤n∧p.s.size=0)∧
 (p.op=21∨p.op=22→0≤p.a∧p.a≤7∧p.s.size=0)∧(¬ (p.op=1∨p.op=2∨p.op=19∨p.op=20∨p.op=21∨p.op=22)→p.a=0∧p.s.size=0)
instance (p:BO) (n:Int):Decidable (BB p n):=by unfold BB;infer_instance
def Ef (n:Int):BO→Bool:=fun p=>!decide (BB p n)
def Dt (xs:List BO):Int:=if 0≤EX (Ef xs.length) (xs.take 40) then EX (Ef xs.length) (xs.take 40) else if (40:Int)<xs.length then 40 else -1
theorem Rn {xs:List BO} {k:Nat} {x:BO} (hk:k<40) (hn:∀ y∈xs.take k,Ef xs.length y=false) (hx:xs[k]?=some x) (hb:¬ BB x xs.length):Dt xs=(k:Int):=by
 have:EX (Ef xs.length) (xs.take 40)=(k:Int):=KW (k:=k) (by rw [List.take_take,Nat.min_eq_left (by omega)];exact hn) (by rw [List.getElem?_take,if_pos hk];exact hx) (by simp [Ef,hb])
 unfold Dt
 rw [this,if_pos (by omega)]
theorem Nm {xs:List BO} {k:Nat} (hk:k=min xs.length 40) (hn:∀ y∈xs.take k,Ef xs.length y=false):Dt xs=if (40:Int)<xs.length then 40 else -1:=by
 have:EX (Ef xs.length) (xs.take 40)= -1:=Jk (by
  intro y hy
  refine hn y ?_
  rw [hk]
  rcases Nat.le_total xs.length 40 with h|h
  ·rw [Nat.min_eq_left h,List.take_of_length_le (Nat.le_refl _)]
   rwa [List.take_of_length_le h] at hy
  ·rwa [Nat.min_eq_right h])
 unfold Dt
 rw [this,if_neg (by omega)]
theorem Ro {xs:List BO} {k:Nat} {x:BO} (hn:∀ y∈xs.take k,Ef xs.length y=false) (hx:xs[k]?=some x) (hb:BB x xs.length):∀ y∈xs.take (k+1),Ef xs.length y=false:=
 ME hn hx (by simp [Ef,hb])
structure AL where
 t:Bool
 n:Int
 b:ByteArray
def Jh (v:AL):List Value:=[.bool v.t,.int .i64 v.n,.string v.b]
def AT:Kd AL:=flat Jh 3 (by omega) (fun _=>rfl) (fun _ c h=>by
 simp only [Jh,List.mem_cons,List.not_mem_nil,or_false] at h
 rcases h with rfl|rfl|rfl<;>rfl)
def C8 (n:Int):AL:=⟨false,n,⟨#[]⟩⟩
def Ep (s:ByteArray):AL:=⟨true,0,s⟩
def CC:AL:=⟨false,0,⟨#[]⟩⟩
def EI (v:AL):Prop:=AP v.n∧v.b.size≤64
def Ba (op:Int):ByteArray:=
 if op=3∨op=4∨op=22 then ⟨#[101]⟩ else if op=5∨op=12 then ⟨#[101,101]⟩ else if op=8∨op=9∨op=10∨op=11 then ⟨#[110,110]⟩
 else if op=13∨op=23 then ⟨#[98,98]⟩ else if op=14∨op=18 then ⟨#[98]⟩ else if op=15 then ⟨#[98,110]⟩ else if op=16 then ⟨#[98,110,110]⟩ else if op=17∨op=20 then ⟨#[110]⟩ else ⟨#[]⟩
def Fd (c:UInt8) (v:AL):Bool:=!((c==110 && v.t)||(c==98 && !v.t))
def EM:List UInt8→List AL→Bool
 |c::cs,v::vs=>Fd c v && EM cs vs
 |_,_=>true
def Av (op:Int) (stk:List AL):Int×List AL×List AL:=
 if stk.length<(Ba op).size then (1,stk,[])
 else if EM (Ba op).data.toList (stk.drop (stk.length - (Ba op).size)) then (0,stk.take (stk.length - (Ba op).size),stk.drop (stk.length - (Ba op).size)) else (2,stk,[])
def Ev (v:AL):Bool:=v.t && decide (64<v.b.size)
def Bc (stk vs:List AL):Int×List AL:=
 if vs.any Ev then (4,stk) else if 16<stk.length+vs.length then (1,stk) else (0,stk++vs)
def DJ (told:List An) (k v:ByteArray):Int×List An:=
 if 16<k.size then (4,told) else if 40≤told.length then (5,told) else (0,told++[⟨k,v⟩])
def Bx (op a b:Int):AL:=if op=8 then C8 (IntKind.i64.wrap (a+b)) else if op=9 then C8 (IntKind.i64.wrap (a - b)) else if op=10 then C8 (IntKind.i64.wrap (a*b)) else C8 (if a<b then 1 else 0)
def PJ (b:Bool):AL:=C8 (if b then 1 else 0)
def Em (a b:AL):Bool:=if a.t then b.t && decide (a.b=b.b) else !b.t && decide (a.n=b.n)
def Eu (s:ByteArray) (i:Int):Int:=if i<0∨(s.size:Int)≤i then -1 else ((s[i.toNat]?.getD 0).toNat:Int)
def Fb (s:ByteArray) (f t:Int):ByteArray:=
 if min (max t 0) (s.size:Int)≤min (max f 0) (s.size:Int) then ⟨#[]⟩ else s.extract (min (max f 0) (s.size:Int)).toNat (min (max t 0) (s.size:Int)).toNat
structure VM where
 pos:Int
 halted:Bool
 stk:List AL
 g:Nat→AL
 told:List An
 vals:List ByteArray
structure A8 where
 dig:Int→ByteArray
 num:ByteArray→Int
def HU (g:Nat→AL) (k:Nat) (v:AL):Nat→AL:=fun j=>if j=k then v else g j
def CU (m:VM) (vs:List AL):VM×Int:=({m with stk:=(Bc m.stk vs).2},(Bc m.stk vs).1)
def GF (m:VM):VM×Int:=
 match m.vals with
 |[]=>CU m [C8 0]
 |v::vs=>CU {m with vals:=vs} [Ep v,C8 1]
def B3 (D:A8) (key:ByteArray) (m:VM) (i:BO) (v:List AL):VM×Int:=
 let v0:=v.getD 0 CC;let v1:=v.getD 1 CC;let v2:=v.getD 2 CC
 if i.op=0 then ({m with halted:=true},0)
 else if i.op=1 then CU m [C8 i.a]
 else if i.op=2 then CU m [Ep i.s]
 else if i.op=3 then CU m [v0,v0]
 else if i.op=5 then CU m [v1,v0]
 else if i.op=6 then CU m [Ep key]
 else if i.op=7 then GF m
 else if i.op=8∨i.op=9∨i.op=10∨i.op=11 then CU m [Bx i.op v0.n v1.n]
 else if i.op=12 then CU m [PJ (Em v0 v1)]
 else if i.op=13 then CU m [Ep (v0.b++v1.b)]
 else if i.op=14 then CU m [C8 v0.b.size]
 else if i.op=15 then CU m [C8 (Eu v0.b v1.n)]
 else if i.op=16 then CU m [Ep (Fb v0.b v1.n v2.n)]
 else if i.op=17 then CU m [Ep (D.dig v0.n)]
 else if i.op=18 then CU m [C8 (D.num v0.b)]
 else if i.op=19 then ({m with pos:=i.a},0)
 else if i.op=20 then (if v0.n≠0 then {m with pos:=i.a} else m,0)
 else if i.op=21 then CU m [m.g i.a.toNat]
 else if i.op=22 then ({m with g:=HU m.g i.a.toNat v0},0)
 else if i.op=23 then ({m with told:=(DJ m.told v0.b v1.b).2},(DJ m.told v0.b v1.b).1)
 else (m,0)
def BA (D:A8) (key:ByteArray) (m:VM) (i:BO):VM×Int:=
 if (Av i.op m.stk).1≠0 then (m,(Av i.op m.stk).1) else B3 D key {m with stk:=(Av i.op m.stk).2.1} i (Av i.op m.stk).2.2
def CE (D:A8) (p:List BO) (key:ByteArray):Nat→VM→VM×Int
 |0,m=>if m.pos<p.length∧m.halted=false then (m,3) else (m,0)
 |n+1,m=>
  if m.pos<p.length∧m.halted=false then
   match p[m.pos.toNat]? with
   |some i=>if (BA D key {m with pos:=m.pos+1} i).2≠0 then BA D key {m with pos:=m.pos+1} i else CE D p key n (BA D key {m with pos:=m.pos+1} i).1
   |none=>(m,0)
  else (m,0)
def Dr (vals:List ByteArray):VM:=⟨0,false,[],fun _=>CC,[],vals⟩
def Bo (D:A8) (p:List BO) (key:ByteArray) (vals:List ByteArray) (fuel:Int):List An×Int:=
 if ¬ Dt p<0∨fuel<0 then ([],2)
 else if (CE D p key (min fuel 2000).toNat (Dr vals)).2≠0 then ([],(CE D p key (min fuel 2000).toNat (Dr vals)).2) else ((CE D p key (min fuel 2000).toNat (Dr vals)).1.told,0)
/-! ### Facts -/
theorem MQ (x:Int):AP (IntKind.i64.wrap x):=by
 unfold AP
 simp only [IntKind.wrap,IntKind.bits,IntKind.signed]
 simp
 omega
theorem We (op a b:Int):EI (Bx op a b):=by
 unfold Bx
 split
 ·exact ⟨MQ _,(by decide:(⟨#[]⟩:ByteArray).size≤64)⟩
 ·split
  ·exact ⟨MQ _,(by decide:(⟨#[]⟩:ByteArray).size≤64)⟩
  ·split
   ·exact ⟨MQ _,(by decide:(⟨#[]⟩:ByteArray).size≤64)⟩
   ·refine ⟨?_,(by decide:(⟨#[]⟩:ByteArray).size≤64)⟩
    show AP (if a<b then 1 else 0)
    split<;>(unfold AP;omega)
def A_ (pv:Value) (key:ByteArray) (vv:Value) (fuel pos steps:Int) (halted:Bool) (sv:Value) (g:Nat→AL) (tv mv:Value):List Value:=
 [pv,.string key,vv,.int .i64 fuel,.int .i64 pos,.int .i64 steps,.bool halted,sv,
  .bool (g 0).t,.int .i64 (g 0).n,.string (g 0).b,.bool (g 1).t,.int .i64 (g 1).n,.string (g 1).b,.bool (g 2).t,.int .i64 (g 2).n,.string (g 2).b,.bool (g 3).t,.int .i64 (g 3).n,.string (g 3).b,
  .bool (g 4).t,.int .i64 (g 4).n,.string (g 4).b,.bool (g 5).t,.int .i64 (g 5).n,.string (g 5).b,.bool (g 6).t,.int .i64 (g 6).n,.string (g 6).b,.bool (g 7).t,.int .i64 (g 7).n,.string (g 7).b,tv,mv]
section
variable {P:Program} {fn:Func} {R:Ending→World→Prop} {n:Nat} {l:Bz} {w w':World} {v:Value} {t:TypeId}
theorem XU {s:Tmp} {sz:Nat} {p:Addr} {cs:List Value} {a:Act} (hr:fn.results=#[.cell s t]) (ha:Cw n l a) (hs:lk l s=some (.pointer (some p))) (ht:Cb P t=some (true,sz)) (hz:cs.length=sz) (hc:∀ j v,cs[j]?=some v→w.cell? (p.add j)=some v):(results fn a.tmps).run P w=.ok (.agg cs.toArray) w:=by
 have hl:=run_loadCells_list (P:=P) w p cs hc
 have hg:=(ha.get s _ hs).1
 simp [results,hr]
 rw [←Array.getD_eq_getD_getElem?,hg]
 simp [asAddr,loadVar,Ka ht,Mq ht,←hz,hl]
theorem Fk {s:Tmp} {sz:Nat} {p:Addr} {cs:List Value} (hr:fn.results=#[.cell s t]) (hs:lk l s=some (.pointer (some p))) (ht:Cb P t=some (true,sz)) (hz:cs.length=sz) (hc:∀ j v,cs[j]?=some v→w.cell? (p.add j)=some v) (h:R (.returned (.agg cs.toArray)) w):WQ (bodyPost P fn R) .ret n l w:=
 fun a ha=>bodyPost_ret (XU hr ha hs ht hz hc) ha.defers h
end
section
variable {P:Program} {n:Nat} {l:Bz} {w w0:World} {F0:AH} {o:Oper} {x y z:Operand} {t:TypeId} {As Rs:List SP}
theorem Xe {tt:TypeId} {s:ByteArray} {k k':IntKind} {i j:Int} {r:ByteArray} (ho:o.op=.slice tt x (some y) (some z) none) (ht:P.underlying tt=some .string) (hx:ev l x=some (.string s)) (hy:ev l y=some (.int k i)) (hz:ev l z=some (.int k' j))
  (h0:0≤i) (h1:i≤j) (h2:j≤(s.size:Int)) (hr:s.extract i.toNat j.toNat=r):Bw P n l w o (.string r) w:=by
 intro a ha
 have hb:(Instr.sliceBounds false s.size s.size (some (.int k i)) (some (.int k' j)) none).run P w=.ok (i.toNat,j.toNat,s.size) w:=by
  have g0:0≤j:=by omega
  simp [Instr.sliceBounds,Instr.sliceBound,asIntOf,h0,h2,g0]
  intro hh
  omega
 simp [execOp,ho,ha.eval hx,ha.eval hy,ha.eval hz,Instr.sliceAt,Instr.slice,hb,run_underlying ht,←hr]
theorem GI {tt e:TypeId} {size len:Nat} {b off:Nat} {k:IntKind} {i:Int} {p:Nat} (ho:o.op=.indexAddr tt x y) (hu:P.underlying tt=some (.array len e)) (hi:(P.info? e).map (·.size)=some size)
  (hx:ev l x=some (.pointer (some ⟨b,off,none⟩))) (hy:ev l y=some (.int k i)) (h0:0≤i) (h1:i<(len:Int)) (hp:off+i.toNat*size=p):Bw P n l w o (.pointer (some ⟨b,p,none⟩)) w:=by
 obtain ⟨inf,h2,h3⟩:=Option.map_eq_some_iff.1 hi
 exact Xi ho hu h2 h3 hx hy h0 h1 hp
theorem Qa {t':TypeId} {u:Value} {b:Bool} (ho:o.op=.binOp .neq t x (.const .nilIface) t') (ht:P.underlying t=some (.interface (P.methodsAt t))) (hx:ev l x=some u) (hu:(u=.nilIface∧b=false)∨(∃ te pe,u=.iface te pe∧b=true)):Bw P n l w o (.bool b) w:=by
 intro a ha
 have hc:a.eval (.const .nilIface)=.nilIface:=rfl
 rcases hu with ⟨rfl,rfl⟩|⟨te,pe,rfl,rfl⟩
 ·have h:=run_equal_nil_nil (P:=P) w t ht
  simp [execOp,ho,ha.eval hx,hc,eqGuard,binOp,h]
 ·have h:=run_equal_held_nil (P:=P) w t te pe ht
  simp [execOp,ho,ha.eval hx,hc,eqGuard,binOp,h]
theorem Qg {src dst e:TypeId} {p:Addr} {v:Value} (ho:o.op=.convert src dst x) (hs:P.underlying src=some (.pointer e)) (hd:P.underlying dst=some .unsafePointer) (hz:(P.info? e).map (fun i=>decide (i.size=0))=some false) (hx:ev l x=some (.pointer (some p))) (hc:w.cell? p=some v):Bw P n l w o (.pointer (some p)) w:=by
 intro a ha
 simp [execOp,ho,ha.eval hx,run_convert_to_unsafe hs hd hz hc]
theorem Wp {α:Type} {d:Kd α} {F:AH} {A:Option Addr} {m c:Nat} {xs:List α} (h:(Y d (.slice A m c) xs).P w F) {i:Nat} (hi:i≤m):(Y d (.slice A i c) (xs.take i)).P w F:=by
 obtain ⟨A',m',c',e,hl,cs,F1,F2,s1,s2,dj,⟨r1,r2,r3,r4⟩,hrep⟩:=h
 simp only [List.cons.injEq,Value.slice.injEq,and_true] at e
 obtain ⟨rfl,rfl,rfl⟩:=e
 refine ⟨A,i,c,rfl,by rw [List.length_take];omega,cs.take (i*d.sz),F1,F2,s1,s2,dj,⟨by omega,r2,?_,?_⟩,hrep.take i⟩
 ·rw [List.length_take,r3]
  exact Nat.min_eq_left (Nat.mul_le_mul_right _ hi)
 ·rcases r4 with h0|⟨b,C,t,e,hb,hh,hs,ht⟩
  ·exact .inl h0
  ·refine .inr ⟨b,C,t,e,hb,hh,hs,?_⟩
   rw [←ht,List.take_take,Nat.min_eq_left (Nat.mul_le_mul_right _ hi)]
theorem Hd.preO {α:Type} {d:Kd α} {A:Option Addr} {m c:Nat} {xs:List α} (H:Hd w0 F0 w (Y d (.slice A m c) xs::As) Rs) (i:Nat) (hi:i≤m):Hd w0 F0 w (Y d (.slice A i c) (xs.take i)::As) Rs:=H.turn fun _ h=>Wp h hi
end
section
variable {w w0:World} {F0:AH} {As Rs:List SP} {α:Type} {enc:α→List Value} {sz:Nat} {hp:0<sz} {hl:∀ x,(enc x).length=sz} {h1:∀ x,∀ c∈enc x,c.oneCell'=true} {xs:List α} {A:Option Addr} {m c:Nat}
theorem Hd.thX (H:Hd w0 F0 w As Rs) (hS:∀ F,(∀ A∈As,A.P w F)→(∀ R∈Rs,R.P w F)→(Ab (flat enc sz hp hl h1) (.slice A m c) xs).P w F) {i:Nat} {x:α} (hx:xs[i]?=some x):ET A:=H.read fun F hA hR=>K8 (hS F hA hR) hx
theorem Hd.elX (H:Hd w0 F0 w As Rs) (hS:∀ F,(∀ A∈As,A.P w F)→(∀ R∈Rs,R.P w F)→(Ab (flat enc sz hp hl h1) (.slice A m c) xs).P w F) {i:Nat} {x:α} (hx:xs[i]?=some x) {q p:Nat} {u:Value} (hu:(enc x)[q]?=some u) (hpj:AQ A+i*sz+q=p):w.cell? ⟨DN A,p,none⟩=some u:=
 H.read fun F hA hR=>K6 (hS F hA hR) hx hu hpj
theorem Hd.elsX (H:Hd w0 F0 w As Rs) (hS:∀ F,(∀ A∈As,A.P w F)→(∀ R∈Rs,R.P w F)→(Ab (flat enc sz hp hl h1) (.slice A m c) xs).P w F) {i:Nat} {x:α} (hx:xs[i]?=some x) {p:Nat} (hpj:AQ A+i*sz=p):∀ q v,(enc x)[q]?=some v→w.cell? ((⟨DN A,p,none⟩:Addr).add q)=some v:=by
 intro q v hq
 rw [D_]
 exact H.elX hS hx hq (by rw [hpj])
end
section
variable {pv:Value} {key:ByteArray} {vv:Value} {fuel pos steps:Int} {halted:Bool} {sv:Value} {g:Nat→AL} {tv mv:Value}
theorem Ph {k:Nat} (h:k<8):k=0∨k=1∨k=2∨k=3∨k=4∨k=5∨k=6∨k=7:=by omega
theorem X1 {k:Nat} (h:k<8):(((A_ pv key vv fuel pos steps halted sv g tv mv).drop (8+k*3)).take 3)=Jh (g k):=by
 rcases Ph h with rfl|rfl|rfl|rfl|rfl|rfl|rfl|rfl<;>rfl
theorem X2 {k:Nat} (h:k<8) (v:AL):Ej (A_ pv key vv fuel pos steps halted sv g tv mv) (8+k*3) (Jh v)=A_ pv key vv fuel pos steps halted sv (HU g k v) tv mv:=by
 rcases Ph h with rfl|rfl|rfl|rfl|rfl|rfl|rfl|rfl<;>rfl
end
theorem YV  :
    Cn Tryz.prog 210 [] [] [] (fun v Bs=>∃ b,v=.pointer (some ⟨b,0,none⟩)∧Bs=[blk b [.int .i64 0,.int .i64 0,.int .i64 0,.int .i64 0,.int .i64 0,.int .i64 0,.int .i64 0,.int .i64 0] 322]):=by
 intro w0 F0 H
 refine enter Tryz.func210 U U (Nat.le_of_ble_eq_true U) (Aa (Ae (Ad U (Ac (Z (Aa (Ae (V U U (CQ (parts:=[]) (vs:=[]) (cs:=[.int .i64 0,.int .i64 0,.int .i64 0,.int .i64 0,.int .i64 0,.int .i64 0,.int .i64 0,.int .i64 0]) U Rz U U) (Cm U U U U H (fun b1 w H=>(Ad U (Ac (Z ?_)))))))))))))
 replace H:Hd _ _ _ [blk b1 [.int .i64 0,.int .i64 0,.int .i64 0,.int .i64 0,.int .i64 0,.int .i64 0,.int .i64 0,.int .i64 0] 322] []:=H
 exact Am (Aq U U (Ak ⟨_,rfl,rfl⟩ H))
theorem YU (t:Nat):
    Cn Tryz.prog 249 [.pointer (some ⟨t,0,none⟩),.int .i64 0] [] [] (fun v Bs=>v=.pointer (some ⟨t,0,none⟩)∧Bs=[]):=by
 intro w0 F0 H
 refine enter Tryz.func249 U U (Nat.le_of_ble_eq_true U) (Aa (Ae (Ad U (Ac (Z (Aa (Aa (Ae (Ad U (V U U (CW U Zg U U) (Ah 2 U (V U U (Bd U U U) (Ah 3 U (V U U (CJ U U U) (Ad U (Ac (Z (B7 U (Ax (Z (Aa (Ae (Ah 2 U (V U U (AF U U) (V U U (Aj U S_ U) (V U U (GI (p:=0) U Zh TO U U (by omega) (by omega) U) (Ad U (Ac (Z (Am (Aq U U ?_)))))))))))))))))))))))))))))))
 replace H:Hd _ _ _ [] []:=H
 exact Ak ⟨rfl,rfl⟩ H
theorem Rg (nb:Nat) (n o:Int) (hn:0≤n∧n≤1099511627776) (ho:0≤o∧o≤1099511627776):
    Cn Tryz.prog 250 [.int .i64 o,.pointer (some ⟨nb,0,none⟩)] [] [blk nb [.int .i64 n] 3] (fun v Bs=>v=.int .i64 (min (o+n) 1099511627776)∧Bs=[]):=by
 intro w0 F0 H
 refine enter Tryz.func250 U U (Nat.le_of_ble_eq_true U) (Aa (Ae (Ad U (Ac (Z (Aa (Ae (Ad U (V U U (Al U AA U (H.cellRI 0 U U)) (V U U (AX (z:=o+n) U U U (AB (by omega) (by omega))) (V U U (G9 (z:=min (o+n) 1099511627776) U U U U) (Ad U (Ac (Z (Am (Aq U U ?_))))))))))))))))
 replace H:Hd _ _ _ [] [blk nb [.int .i64 n] 3]:=H
 exact Ak ⟨rfl,rfl⟩ H
theorem Vg (t:Nat) (c0 c1 c2 c3 c4 c5 c6 c7:Int):
    Cn Tryz.prog 281 [.pointer (some ⟨t,0,none⟩)] [] [blk t [.int .i64 c0,.int .i64 c1,.int .i64 c2,.int .i64 c3,.int .i64 c4,.int .i64 c5,.int .i64 c6,.int .i64 c7] 322] (fun v Bs=>v=.int .i64 c0∧Bs=[]):=by
 intro w0 F0 H
 refine enter Tryz.func281 U U (Nat.le_of_ble_eq_true U) (Aa (Ae (Ad U (Ac (Z (Aa (Ae (Ad U (V U U (AF U U) (V U U (Aj U Oh U) (V U U (J0 SS U U (H.cellRI 0 U U)) (Ad U (Ac (Z (Am (Aq U U ?_))))))))))))))))
 replace H:Hd _ _ _ [] [blk t [.int .i64 c0,.int .i64 c1,.int .i64 c2,.int .i64 c3,.int .i64 c4,.int .i64 c5,.int .i64 c6,.int .i64 c7] 322]:=H
 exact Ak ⟨rfl,rfl⟩ H
theorem RQ (t:Nat) (c0 c1 c2 c3 c4 c5 c6 c7:Int) (n:Int):
    Cn Tryz.prog 282 [.pointer (some ⟨t,0,none⟩),.int .i64 c0,.int .i64 n] [blk t [.int .i64 c0,.int .i64 c1,.int .i64 c2,.int .i64 c3,.int .i64 c4,.int .i64 c5,.int .i64 c6,.int .i64 c7] 322] [] (fun v Bs=>v=.bool true∧Bs=[blk t [.int .i64 n,.int .i64 c1,.int .i64 c2,.int .i64 c3,.int .i64 c4,.int .i64 c5,.int .i64 c6,.int .i64 c7] 322]):=by
 intro w0 F0 H
 refine enter Tryz.func282 U U (Nat.le_of_ble_eq_true U) (Aa (Ae (Ad U (Ac (Z (Aa (Ae (Ad U (V U U (AF U U) (V U U (Aj U Oh U) (Ah 2 U (QD ST U U U U H U (fun w H=>?_)))))))))))))
 replace H:Hd _ _ _ [blk t [.int .i64 n,.int .i64 c1,.int .i64 c2,.int .i64 c3,.int .i64 c4,.int .i64 c5,.int .i64 c6,.int .i64 c7] 322] []:=H
 exact Ad U (Ac (Z (Am (Aq U U (Ak ⟨rfl,rfl⟩ H)))))
theorem RY (t:Nat) (c0 c1 c2 c3 c4 c5 c6 c7:Int) (nb:Nat) (n:Int) (hn:0≤n∧n≤1099511627776) (ho:0≤c0∧c0≤1099511627776):
    Cn Tryz.prog 248 [.pointer (some ⟨t,0,none⟩),.func (.func 250) #[] #[.pointer (some ⟨nb,0,none⟩)]] [blk t [.int .i64 c0,.int .i64 c1,.int .i64 c2,.int .i64 c3,.int .i64 c4,.int .i64 c5,.int .i64 c6,.int .i64 c7] 322] [blk nb [.int .i64 n] 3] (fun v Bs=>v=.int .i64 (min (c0+n) 1099511627776)∧Bs=[blk t [.int .i64 (min (c0+n) 1099511627776),.int .i64 c1,.int .i64 c2,.int .i64 c3,.int .i64 c4,.int .i64 c5,.int .i64 c6,.int .i64 c7] 322]):=by
 intro w0 F0 H
 refine enter Tryz.func248 U U (Nat.le_of_ble_eq_true U) (Aa (Ae (Ad U (Ac (Z (Aa (Aa (Ae (Ad U (V U U (CW U Zi U U) (Ac (Z (B7 U (Ax (Z (AS (BQ (σ:=Unit) (fun u=>[(0,.pointer (some ⟨t,0,none⟩)),(1,.func (.func 250) #[] #[.pointer (some ⟨nb,0,none⟩)])]) (fun u w=>(Hd w0 F0 w [blk t [.int .i64 c0,.int .i64 c1,.int .i64 c2,.int .i64 c3,.int .i64 c4,.int .i64 c5,.int .i64 c6,.int .i64 c7] 322] [blk nb [.int .i64 n] 3])) (fun u=>0) () ⟨rfl,rfl,trivial⟩ H ?_)))))))))))))))))
 rintro u w H
 refine AS (Aa (Ae (Ad U (sc (Vg t c0 c1 c2 c3 c4 c5 c6 c7) H (lA 0 U (fun _ h=>h) l0) U U (Au UO U U) ?_))))
 rintro _ _ w ⟨rfl,rfl⟩ H
 refine Ad U (Ac (Z (Aa (Ae (Ah 2 U (sc (Rg nb n c0 hn ho) H (lR 0 U l0) U U (FP (vs:=[.int .i64 c0]) (fs:=#[]) (cs:=#[.pointer (some ⟨nb,0,none⟩)]) UC U U U) ?_))))))
 rintro _ _ w ⟨rfl,rfl⟩ H
 refine Ad U (Ac (Z (Aa (Ae (Ah 2 U (V U U (AW U U U) (Ad U ?_)))))))
 refine AN (d:=17) U (fun h1=>?_) (fun h1=>?_)
 ·refine Ah 5 U (Ac (Z (Ck U (Aa (Ae (Ah 2 U (Ac (Z (Am (AY (Ay (AY (Aq U U ?_)))))))))))))
  replace H:Hd w0 F0 w [blk t [.int .i64 (min (c0+n) 1099511627776),.int .i64 c1,.int .i64 c2,.int .i64 c3,.int .i64 c4,.int .i64 c5,.int .i64 c6,.int .i64 c7] 322] [blk nb [.int .i64 n] 3]:=by rw [h1];exact H
  exact Ak ⟨rfl,rfl⟩ H
 refine Ah 3 U (sc (RQ t c0 c1 c2 c3 c4 c5 c6 c7 (min (c0+n) 1099511627776)) H l0 U U (Au UP U U) ?_)
 rintro _ _ w ⟨rfl,rfl⟩ H
 refine Ad U (Ac (Z ?_))
 replace H:Hd _ _ _ [blk t [.int .i64 (min (c0+n) 1099511627776),.int .i64 c1,.int .i64 c2,.int .i64 c3,.int .i64 c4,.int .i64 c5,.int .i64 c6,.int .i64 c7] 322] [blk nb [.int .i64 n] 3]:=H
 exact Ck U (Aa (Ae (Ah 2 U (Ac (Z (Am (AY (Ay (AY (Aq U U (Ak ⟨rfl,rfl⟩ H)))))))))))
theorem QO (t:Nat) (c0 c1 c2 c3 c4 c5 c6 c7:Int) (n:Int) (hn:0≤n∧n≤1099511627776) (ho:0≤c0∧c0≤1099511627776):
    Cn Tryz.prog 214 [.pointer (some ⟨t,0,none⟩),.int .i64 0,.int .i64 n] [blk t [.int .i64 c0,.int .i64 c1,.int .i64 c2,.int .i64 c3,.int .i64 c4,.int .i64 c5,.int .i64 c6,.int .i64 c7] 322] [] (fun v Bs=>v=.int .i64 (min (c0+n) 1099511627776)∧Bs=[blk t [.int .i64 (min (c0+n) 1099511627776),.int .i64 c1,.int .i64 c2,.int .i64 c3,.int .i64 c4,.int .i64 c5,.int .i64 c6,.int .i64 c7] 322]):=by
 intro w0 F0 H
 refine enter Tryz.func214 U U (Nat.le_of_ble_eq_true U) (Aa (Ae (Cm U U U U H (fun b1 w H=>(Ad U (Ac (Z ?_)))))))
 replace H:Hd _ _ _ [blk b1 [.int .i64 n] 3,blk t [.int .i64 c0,.int .i64 c1,.int .i64 c2,.int .i64 c3,.int .i64 c4,.int .i64 c5,.int .i64 c6,.int .i64 c7] 322] []:=H
 refine Aa (Aa (Ae (V U U (Al U AA U (H.cellI 0 U U)) (V U U (Bd U U U) (Ad U ?_)))))
 refine AN (d:=9) U (fun h2=>?_) (fun h2=>?_)
 ·exfalso;omega
 refine V U U (Al U AA U (H.cellI 0 U U)) (V U U (CK U U U) (Ad U (Ac (Z ?_))))
 refine Aw U (fun h3=>?_) (fun h3=>?_)
 ·exfalso;omega
 refine Ax (Z (Aa (Ae (Ah 2 U (sc (YU t) H l0 U U (Au UA U U) ?_)))))
 rintro _ _ w ⟨rfl,rfl⟩ H
 refine V U U (G8 (fs:=#[]) (cs:=#[.pointer (some ⟨b1,0,none⟩)]) U U U) ?_
 replace H:=H.p1
 refine sc (RY t c0 c1 c2 c3 c4 c5 c6 c7 b1 n hn ho) H (lA 0 U (fun _ h=>h) l0) U U (Au Uz U U) ?_
 rintro _ _ w ⟨rfl,rfl⟩ H
 replace H:=H.h1 (A:=blk t [.int .i64 (min (c0+n) 1099511627776),.int .i64 c1,.int .i64 c2,.int .i64 c3,.int .i64 c4,.int .i64 c5,.int .i64 c6,.int .i64 c7] 322)
 refine Ad U (Ac (Z (Am (Aq U U ?_))))
 replace H:=H.k1
 exact Ak ⟨rfl,rfl⟩ H
def Ao {α:Type} (d:Kd α):Kd (Value×List α) where
 sz:=1
 O w F x cs:=cs=[x.1]∧(B4 d).O w F x.2 [x.1]
 R w F x cs:=cs=[x.1]∧(B4 d).R w F x.2 [x.1]
 O_loc h hk:=⟨h.1,(B4 d).O_loc h.2 hk⟩
 O_mono h hk:=⟨h.1,(B4 d).O_mono h.2 hk⟩
 R_loc h hk:=⟨h.1,(B4 d).R_loc h.2 hk⟩
 R_mono h hk:=⟨h.1,(B4 d).R_mono h.2 hk⟩
 O_R h:=⟨h.1,(B4 d).O_R h.2⟩
 len h:=by rw [h.1];rfl
 one h:=fun c hc=>(B4 d).one h.2 c (h.1▸hc)
 pos:=Nat.one_pos
section
variable {w w0:World} {F F0:AH} {As Rs:List SP} {α:Type} {d:Kd α} {A:Option Addr} {m c:Nat} {us:List (Value×List α)}
theorem Lw (h:(Ab (Ao d) (.slice A m c) us).P w F) {i:Nat} {x:Value×List α} (hx:us[i]?=some x):
  ET A∧w.cell? ⟨DN A,AQ A+i*1,none⟩=some x.1∧(Ab d x.1 x.2).P w F:=by
 obtain ⟨b,off,cs,e,hl,hc,h1,h2⟩:=IN h hx
 subst h1 e
 exact ⟨rfl,hc 0 x.1 rfl,h2⟩
theorem Iz (h:(Ab (Ao d) (.slice A m c) us).P w F) {i:Nat} {u:Value} {x:List α} (hx:us[i]?=some (u,x)):(Ab d u x).P w F:=(Lw h hx).2.2
theorem Hd.thRd (H:Hd w0 F0 w As Rs) (j:Nat) (hj:Rs[j]?=some (Ab (Ao d) (.slice A m c) us)) {i:Nat} {x:Value×List α} (hx:us[i]?=some x):ET A:=H.factR (List.mem_of_getElem? hj) fun _ h=>(Lw h hx).1
theorem Hd.elRd (H:Hd w0 F0 w As Rs) (j:Nat) (hj:Rs[j]?=some (Ab (Ao d) (.slice A m c) us)) {i:Nat} {u:Value} {x:List α} (hx:us[i]?=some (u,x)) {p:Nat} (hp:AQ A+i*1=p):w.cell? ⟨DN A,p,none⟩=some u:=by
 subst hp
 exact H.factR (List.mem_of_getElem? hj) fun _ h=>(Lw h hx).2.1
theorem Hd.nestR (H:Hd w0 F0 w As Rs) (j:Nat) (hj:Rs[j]?=some (Ab (Ao d) (.slice A m c) us)) {i:Nat} {u:Value} {x:List α} (hx:us[i]?=some (u,x)):∃ A' c',u=.slice A' x.length c'∧x.length≤c'∧c'≤9223372036854775807:=by
 refine H.factR (List.mem_of_getElem? hj) fun _ h=>?_
 obtain ⟨A',c',e,h1,h2,_⟩:=DK (Iz h hx)
 exact ⟨A',c',e,h1,h2⟩
theorem Hd.pickR (is:List Nat) (H:Hd w0 F0 w As Rs):Hd w0 F0 w As (is.filterMap fun i=>Rs[i]?):=H.subR fun R hR=>by
 obtain ⟨i,_,hi⟩:=List.mem_filterMap.1 hR
 exact List.mem_of_getElem? hi
theorem Hd.dropR {R:SP} (H:Hd w0 F0 w As (R::Rs)):Hd w0 F0 w As Rs:=H.subR fun _ hR=>List.mem_cons_of_mem _ hR
theorem Hd.dupR {R:SP} (H:Hd w0 F0 w As Rs) (j:Nat) (hj:Rs[j]?=some R):Hd w0 F0 w As (R::Rs):=H.addR fun _ h=>h _ (List.mem_of_getElem? hj)
theorem Hd.sufR {xs:List α} (H:Hd w0 F0 w As Rs) (j:Nat) (hj:Rs[j]?=some (Ab d (.slice A m c) xs)) {n:Nat} (hn:n≤m):Hd w0 F0 w As (Ab d (.slice (DC A c n d.sz) (m - n) (c - n)) (xs.drop n)::Rs):=
 H.addR fun _ h=>HR (h _ (List.mem_of_getElem? hj)) hn
theorem Qp:∀ {us:List (Value×List α)},(∀ p∈us,(Ab d p.1 p.2).P w F)→AV (Ao d) w F us (us.map (·.1))
 |[],_=>rfl
 |p::us,h=>⟨[p.1],us.map (·.1),rfl,⟨rfl,h p (List.mem_cons_self ..)⟩,Qp fun q hq=>h q (List.mem_cons_of_mem _ hq)⟩
end
section
variable {P:Program} {ops:Array Oper} {Q:Exit→Act→World→Prop} {rest:List Oper} {n:Nat} {l:Bz} {w0 w:World} {F0:AH} {o:Oper} {As Rs:List SP} {x y:Operand} {t:TypeId}
theorem HT {α:Type} {d:Kd α} {e bytes et b:Nat} {z u v':Value} {us:List (Value×List α)} {ys:List α}
  (hg:gd ops l o=some true) (hd:CI n o.dst=true) (ho:o.op=.call { callee:=.builtin .append,args:=#[x,y],argTypes:=#[t,t] }) (hs:C2 P t=some (e,1,bytes)) (hz:CV P e=some z) (hzs:z.cells.size=1) (hb0:0<bytes)
  (hx:ev l x=some u) (hy:ev l y=some (.slice (some ⟨b,0,none⟩) 1 1)) (H:Hd w0 F0 w (Y (Ao d) u us::blk b [v'] et::Y d v' ys::As) Rs) (hb:(us.length+1)*bytes≤140737488355328)
  (h:∀ u' w',Hd w0 F0 w' (Y (Ao d) u' (us++[(v',ys)])::As) Rs→WL P ops Q rest n (Ct l o.dst u') w'):WL P ops Q (o::rest) n l w:=by
 have H1:Hd w0 F0 w ([blk b [v'] et,Y d v' ys]++(Y (Ao d) u us::As)) Rs:=H.perm ((List.Perm.swap _ _ _).trans ((List.Perm.swap _ _ _).cons _))
 have H2:=H1.shut (A:=BU [blk b [v'] et,Y d v' ys]) (fun F hF=>hF)
 have H3:=H2.perm (List.Perm.swap _ _ _)
 refine Yc (d:=Ao d) (ys:=[(v',ys)]) hg hd ho hs hz hzs hb0 hx hy H3 hb U ?_ h
 rintro F ⟨F1,F2,h1,h2,h3,hbk,G1,G2,g1,g2,g3,hos,_⟩
 refine ⟨[v'],⟨trivial,.inr ⟨b,0,_,_,_,rfl,h1 b hbk.1,hbk.2,by simp⟩⟩,?_⟩
 exact ⟨F2,none_,[v'],[],h2,fun _ q=>q.elim,fun _ _ q=>q,rfl,⟨rfl,(B4 d).O_mono hos g1⟩,rfl⟩
end
theorem LR (a b:ByteArray):Bh a b=decide (a.data.toList<b.data.toList):=Proofs.bytesLess_eq _ _
theorem GD (a:ByteArray):Bh a a=false:=by
 rw [LR]
 exact decide_eq_false (List.lt_irrefl _)
theorem Pj {a b c:ByteArray} (h1:Bh a b=true) (h2:Bh b c=true):Bh a c=true:=by
 rw [LR] at *
 exact decide_eq_true (List.lt_trans (of_decide_eq_true h1) (of_decide_eq_true h2))
theorem JP {a b:ByteArray} (h1:Bh a b=true):Bh b a=false:=by
 cases h:Bh b a with
 |false=>rfl
 |true=>have:=Pj h1 h;rw [GD] at this;cases this
theorem LQ {a b:ByteArray} (h1:Bh a b=false) (h2:Bh b a=false):a=b:=by
 rw [LR] at *
 have h1:=of_decide_eq_false h1
 have h2:=of_decide_eq_false h2
 exact toList_inj (List.le_antisymm h2 h1)
theorem FU {a b c:ByteArray} (h1:Bh b a=false) (h2:Bh c b=false):Bh c a=false:=by
 cases h:Bh c a with
 |false=>rfl
 |true=>
  cases h3:Bh a b with
  |true=>have:=Pj h h3;rw [this] at h2;cases h2
  |false=>
   have:=LQ h3 h1
   subst this
   rw [h] at h2
   cases h2
theorem Pi {a b c:ByteArray} (h1:Bh a b=true) (h2:Bh c b=false):Bh a c=true:=by
 cases h:Bh a c with
 |true=>rfl
 |false=>have:=FU h2 h;rw [this] at h1;cases h1
theorem Vd {a b c:ByteArray} (h1:Bh b a=false) (h2:Bh b c=true):Bh a c=true:=by
 cases h:Bh a c with
 |true=>rfl
 |false=>have:=FU h h1;rw [this] at h2;cases h2
def BY (xs ys:List An):Prop:=xs.length=ys.length∧∀ k:ByteArray,xs.filter (fun p=>decide (p.key=k))=ys.filter (fun p=>decide (p.key=k))
theorem BY.refl (xs:List An):BY xs xs:=⟨rfl,fun _=>rfl⟩
theorem BY.trans {xs ys zs:List An} (h1:BY xs ys) (h2:BY ys zs):BY xs zs:=⟨h1.1.trans h2.1,fun k=>(h1.2 k).trans (h2.2 k)⟩
theorem BY.symm {xs ys:List An} (h1:BY xs ys):BY ys xs:=⟨h1.1.symm,fun k=>(h1.2 k).symm⟩
theorem BY.append {a b c d:List An} (h1:BY a b) (h2:BY c d):BY (a++c) (b++d):=
 ⟨by rw [List.length_append,List.length_append,h1.1,h2.1],fun k=>by rw [List.filter_append,List.filter_append,h1.2,h2.2]⟩
theorem BY.mem {xs ys:List An} (h:BY xs ys) {p:An} (hp:p∈xs):p∈ys:=by
 have:p∈xs.filter (fun q=>decide (q.key=p.key)):=List.mem_filter.2 ⟨hp,by simp⟩
 rw [h.2] at this
 exact (List.mem_filter.1 this).1
def CR (xs:List An):Prop:=xs.Pairwise fun p q=>Bh q.key p.key=false
instance (xs:List An):Decidable (CR xs):=by unfold CR;infer_instance
def ins (p:An):List An→List An
 |[]=>[p]
 |q::l=>if Bh q.key p.key=true then q::ins p l else p::q::l
def srt:List An→List An
 |[]=>[]
 |p::l=>ins p (srt l)
theorem OE {p q:An}:∀ {l:List An},q∈ins p l↔q=p∨q∈l
 |[]=>by simp [ins]
 |r::l=>by
  unfold ins
  split
  ·rw [List.mem_cons,OE,List.mem_cons]
   constructor<;>(rintro (h|h|h)<;>simp [h])
  ·simp
theorem OF {p:An}:∀ {l:List An},CR l→CR (ins p l)
 |[],_=>by simp [ins,CR]
 |q::l,h=>by
  have h':=List.pairwise_cons.1 h
  unfold ins
  split
  ·rename_i hlt
   refine List.pairwise_cons.2 ⟨fun r hr=>?_,OF h'.2⟩
   rcases OE.1 hr with rfl|hr
   ·exact JP hlt
   ·exact h'.1 r hr
  ·rename_i hlt
   have hlt:Bh q.key p.key=false:=by simpa using hlt
   refine List.pairwise_cons.2 ⟨fun r hr=>?_,h⟩
   rcases List.mem_cons.1 hr with rfl|hr
   ·exact hlt
   ·exact FU hlt (h'.1 r hr)
theorem OG {p:An}:∀ {l:List An},BY (p::l) (ins p l)
 |[]=>BY.refl _
 |q::l=>by
  unfold ins
  split
  ·rename_i hlt
   have hne:p.key≠q.key:=fun e=>by rw [e,GD] at hlt;cases hlt
   have h1:BY (p::q::l) (q::p::l):=by
    refine ⟨by simp,fun k=>?_⟩
    by_cases hp:p.key=k
    ·have:¬ q.key=k:=fun e=>hne (hp.trans e.symm)
     simp [hp,this]
    ·simp [List.filter_cons,hp]
   exact h1.trans (BY.append (BY.refl [q]) (OG (p:=p) (l:=l)))
  ·exact BY.refl _
theorem IV:∀ l:List An,CR (srt l)
 |[]=>List.Pairwise.nil
 |_::l=>OF (IV l)
theorem F7:∀ l:List An,BY l (srt l)
 |[]=>BY.refl _
 |p::l=>(BY.append (BY.refl [p]) (F7 l)).trans OG
theorem PP:∀ {xs ys:List An},CR xs→CR ys→BY xs ys→xs=ys
 |[],ys,_,_,h=>(List.eq_nil_of_length_eq_zero h.1.symm).symm
 |x::xs,[],_,_,h=>by cases h.1
 |x::xs,y::ys,hx,hy,h=>by
  have hx':=List.pairwise_cons.1 hx
  have hy':=List.pairwise_cons.1 hy
  have hk:x.key=y.key:=by
   refine LQ ?_ ?_
   ·rcases List.mem_cons.1 (h.mem (List.mem_cons_self ..):x∈y::ys) with e|hm
    ·rw [e,GD]
    ·exact hy'.1 x hm
   ·rcases List.mem_cons.1 (h.symm.mem (List.mem_cons_self ..):y∈x::xs) with e|hm
    ·rw [e,GD]
    ·exact hx'.1 y hm
  have he:=h.2 x.key
  rw [List.filter_cons_of_pos (by simp),List.filter_cons_of_pos (by simp [hk])] at he
  obtain ⟨rfl,_⟩:=List.cons.inj he
  rw [PP hx'.2 hy'.2 ⟨by simpa using h.1,fun k=>?_⟩]
  have hk2:=h.2 k
  by_cases hxk:x.key=k
  ·rw [List.filter_cons_of_pos (by simp [hxk]),List.filter_cons_of_pos (by simp [hxk])] at hk2
   exact (List.cons.inj hk2).2
  ·rw [List.filter_cons_of_neg (by simp [hxk]),List.filter_cons_of_neg (by simp [hxk])] at hk2
   exact hk2
theorem IU {xs ys:List An} (h:BY xs ys) (ho:CR ys):ys=srt xs:=PP ho (IV xs) (h.symm.trans (F7 xs))
theorem QK {xs:List An} (ho:CR xs):srt xs=xs:=(IU (BY.refl xs) ho).symm
theorem YG {xs ys:List An} (h:BY xs ys):srt xs=srt ys:=(IU (h.trans (F7 ys)) (IV ys)).symm
theorem F6 (xs:List An):(srt xs).length=xs.length:=(F7 xs).1.symm
def CP (xs ys:List An) (f:Nat→Nat):Prop:=ys.length=xs.length∧∀ t,ys[t]?=xs[f t]?
def EO (a b n t:Nat):Nat:=if a≤t∧t<a+n then t+(b - a) else if b≤t∧t<b+n then t - (b - a) else t
def Bk (a m b t:Nat):Nat:=if a≤t∧t<a+(b - m) then t+(m - a) else if a+(b - m)≤t∧t<b then t - (b - m) else t
theorem Kx (xs:List An) {f:Nat→Nat} (h:∀ t,f t=t):CP xs xs f:=⟨rfl,fun t=>by rw [h]⟩
theorem Zw {xs ys:List An} {a b k:Nat} {x y:An} (hab:a+k<b) (h:CP xs ys (EO a b k)) (hx:ys[a+k]?=some x) (hy:ys[b+k]?=some y):
  CP xs ((ys.set (a+k) y).set (b+k) x) (EO a b (k+1)):=by
 have l1:a+k<ys.length:=(List.getElem?_eq_some_iff.1 hx).1
 have l2:b+k<ys.length:=(List.getElem?_eq_some_iff.1 hy).1
 refine ⟨by simpa using h.1,fun t=>?_⟩
 rw [List.getElem?_set,List.getElem?_set]
 have hx':=h.2 (a+k)
 have hy':=h.2 (b+k)
 rw [hx] at hx'
 rw [hy] at hy'
 by_cases h1:b+k=t
 ·subst h1
  rw [if_pos rfl,if_pos (by simpa using l2),hx']
  congr 1
  unfold EO
  rw [if_neg (by omega),if_neg (by omega),if_neg (by omega),if_pos (by omega)]
  omega
 ·rw [if_neg h1]
  by_cases h2:a+k=t
  ·subst h2
   rw [if_pos rfl,if_pos l1,hy']
   congr 1
   unfold EO
   rw [if_neg (by omega),if_neg (by omega),if_pos (by omega)]
   omega
  ·rw [if_neg h2,h.2]
   congr 1
   unfold EO
   repeat' split
   all_goals omega
theorem XW {xs ys:List An} {m i j:Nat} (him:i≤m) (hj:j<i) (h:CP xs ys (EO (m - i) m j)):∀ t,xs[Bk (m - i) m (m+j) t]?=ys[Bk (m - (i - j)) m (m+j) t]?:=by
 intro t
 rw [h.2]
 congr 1
 unfold Bk EO
 repeat' split
 all_goals omega
theorem XX {xs ys:List An} {m i j:Nat} (him:i≤m) (hj:i<j) (h:CP xs ys (EO (m - i) (m+j - i) i)):∀ t,xs[Bk (m - i) m (m+j) t]?=ys[Bk (m - i) m (m+(j - i)) t]?:=by
 intro t
 rw [h.2]
 congr 1
 unfold Bk EO
 repeat' split
 all_goals omega
theorem XV {m i t:Nat} (him:i≤m):Bk (m - i) m (m+i) t=EO (m - i) m i t:=by
 unfold Bk EO
 repeat' split
 all_goals omega
theorem Zt {xs ys:List An} {a m b:Nat} (h:CP xs ys (Bk a m b)) (h1:a≤m) (h2:m≤b) (h3:b≤xs.length):
  ys=xs.take a++((xs.drop m).take (b - m)++((xs.drop a).take (m - a)++xs.drop b)):=by
 apply List.ext_getElem?
 intro t
 rw [h.2]
 unfold Bk
 by_cases c1:t<a
 ·rw [if_neg (by omega),if_neg (by omega),List.getElem?_append_left (by simp;omega),List.getElem?_take,if_pos c1]
 rw [List.getElem?_append_right (by simp;omega)]
 have e1:(xs.take a).length=a:=by simp;omega
 rw [e1]
 by_cases c2:t<a+(b - m)
 ·rw [if_pos (by omega),List.getElem?_append_left (by simp;omega),List.getElem?_take,if_pos (by omega),List.getElem?_drop]
  congr 1
  omega
 rw [List.getElem?_append_right (by simp;omega),if_neg (by omega)]
 have e2:((xs.drop m).take (b - m)).length=b - m:=by simp;omega
 rw [e2]
 by_cases c3:t<b
 ·rw [if_pos (by omega),List.getElem?_append_left (by simp;omega),List.getElem?_take,if_pos (by omega),List.getElem?_drop]
  congr 1
  omega
 rw [List.getElem?_append_right (by simp;omega),if_neg (by omega)]
 have e3:((xs.drop a).take (m - a)).length=m - a:=by simp;omega
 rw [e3,List.getElem?_drop]
 congr 1
 omega
theorem Sh {xs:List An} {a m b:Nat} (h1:a≤m) (h2:m≤b):xs=xs.take a++((xs.drop a).take (m - a)++((xs.drop m).take (b - m)++xs.drop b)):=by
 have e1:(xs.drop m).take (b - m)++xs.drop b=xs.drop m:=by
  have:=List.take_append_drop (b - m) (xs.drop m)
  rwa [List.drop_drop,show m+(b - m)=b by omega] at this
 have e2:(xs.drop a).take (m - a)++xs.drop m=xs.drop a:=by
  have:=List.take_append_drop (m - a) (xs.drop a)
  rwa [List.drop_drop,show a+(m - a)=m by omega] at this
 rw [e1,e2,List.take_append_drop]
theorem Qv {xs ys:List An} {a m b:Nat} (h:CP xs ys (Bk a m b)) (h1:a≤m) (h2:m≤b) (h3:b≤xs.length)
  (hne:∀ p q x y,a≤p→p<m→m≤q→q<b→xs[p]?=some x→xs[q]?=some y→x.key≠y.key):BY xs ys:=by
 refine ⟨h.1.symm,fun k=>?_⟩
 rw [Zt h h1 h2 h3]
 conv=>lhs;rw [Sh (xs:=xs) h1 h2]
 simp only [List.filter_append]
 congr 1
 rw [←List.append_assoc,←List.append_assoc]
 congr 1
 by_cases hk:∃ x∈(xs.drop a).take (m - a),x.key=k
 ·obtain ⟨x,hx,hxk⟩:=hk
  obtain ⟨p,hp⟩:=List.getElem?_of_mem hx
  have hpl:p<m - a:=by
   have:=(List.getElem?_eq_some_iff.1 hp).1
   simp at this
   omega
  rw [List.getElem?_take,if_pos hpl,List.getElem?_drop] at hp
  have:(((xs.drop m).take (b - m)).filter fun p=>decide (p.key=k))=[]:=by
   rw [List.filter_eq_nil_iff]
   intro y hy
   obtain ⟨q,hq⟩:=List.getElem?_of_mem hy
   have hql:q<b - m:=by
    have:=(List.getElem?_eq_some_iff.1 hq).1
    simp at this
    omega
   rw [List.getElem?_take,if_pos hql,List.getElem?_drop] at hq
   have:=hne (a+p) (m+q) x y (by omega) (by omega) (by omega) (by omega) hp hq
   simp only [decide_eq_true_eq]
   exact fun e=>this (hxk.trans e.symm)
  rw [this,List.append_nil,List.nil_append]
 ·have:(((xs.drop a).take (m - a)).filter fun p=>decide (p.key=k))=[]:=by
   rw [List.filter_eq_nil_iff]
   intro x hx
   simp only [decide_eq_true_eq]
   exact fun e=>hk ⟨x,hx,e⟩
  rw [this,List.append_nil,List.nil_append]
def BP (xs:List An) (a b:Nat):Prop:=∀ p q x y,a≤p→p<q→q<b→xs[p]?=some x→xs[q]?=some y→Bh y.key x.key=false
def DY (xs ys:List An) (a b:Nat):Prop:=ys.length=xs.length∧(∀ t,t<a∨b≤t→ys[t]?=xs[t]?)∧∀ t,a≤t→t<b→∃ u,a≤u∧u<b∧ys[t]?=xs[u]?
theorem DY.refl (xs:List An) (a b:Nat):DY xs xs a b:=⟨rfl,fun _ _=>rfl,fun t h1 h2=>⟨t,h1,h2,rfl⟩⟩
theorem DY.trans {xs ys zs:List An} {a b:Nat} (h1:DY xs ys a b) (h2:DY ys zs a b):DY xs zs a b:=by
 refine ⟨h2.1.trans h1.1,fun t ht=>(h2.2.1 t ht).trans (h1.2.1 t ht),fun t ha hb=>?_⟩
 obtain ⟨u,u1,u2,e⟩:=h2.2.2 t ha hb
 obtain ⟨u',u1',u2',e'⟩:=h1.2.2 u u1 u2
 exact ⟨u',u1',u2',e.trans e'⟩
theorem DY.wider {xs ys:List An} {a b a' b':Nat} (h:DY xs ys a b) (ha:a'≤a) (hb:b≤b'):DY xs ys a' b':=by
 refine ⟨h.1,fun t ht=>h.2.1 t (by omega),fun t h1 h2=>?_⟩
 by_cases c:a≤t∧t<b
 ·obtain ⟨u,u1,u2,e⟩:=h.2.2 t c.1 c.2
  exact ⟨u,by omega,by omega,e⟩
 ·exact ⟨t,h1,h2,h.2.1 t (by omega)⟩
theorem Qu {xs ys:List An} {a m b:Nat} (h:CP xs ys (Bk a m b)) (h1:a≤m) (h2:m≤b):DY xs ys a b:=by
 refine ⟨h.1,fun t ht=>?_,fun t ha hb=>⟨Bk a m b t,?_,?_,h.2 t⟩⟩
 ·rw [h.2,show Bk a m b t=t by unfold Bk;rw [if_neg (by omega),if_neg (by omega)]]
 ·unfold Bk;split<;>(try split)<;>omega
 ·unfold Bk;split<;>(try split)<;>omega
theorem BP.same {xs ys:List An} {a b:Nat} (h:BP xs a b) (he:∀ t,a≤t→t<b→ys[t]?=xs[t]?):BP ys a b:=
 fun p q x y h1 h2 h3 hx hy=>h p q x y h1 h2 h3 ((he p h1 (by omega)).symm.trans hx) ((he q (by omega) h3).symm.trans hy)
theorem BP.sub {xs:List An} {a b a' b':Nat} (h:BP xs a b) (ha:a≤a') (hb:b'≤b):BP xs a' b':=
 fun p q x y h1 h2 h3=>h p q x y (by omega) h2 (by omega)
theorem BP.one (xs:List An) {a b:Nat} (h:b≤a+1):BP xs a b:=fun p q x y h1 h2 h3=>by omega
theorem BP.ord {xs:List An} (h:BP xs 0 xs.length):CR xs:=by
 unfold CR
 rw [List.pairwise_iff_getElem]
 intro i j hi hj hij
 exact h i j _ _ (by omega) hij hj (List.getElem?_eq_getElem hi) (List.getElem?_eq_getElem hj)
structure CO (xs ys:List An) (a b:Nat):Prop where
 stab:BY xs ys
 ins:DY xs ys a b
 srt:BP ys a b
theorem YR {xs:List An} {j:Nat} {x y:An} (hx:xs[j]?=some x) (hy:xs[j+1]?=some y) (hlt:Bh y.key x.key=true):BY xs ((xs.set (j+1) x).set j y)∧DY xs ((xs.set (j+1) x).set j y) j (j+2):=by
 have l1:j+1<xs.length:=(List.getElem?_eq_some_iff.1 hy).1
 have hv:CP xs ((xs.set (j+1) x).set j y) (Bk j (j+1) (j+2)):=by
  refine ⟨by simp,fun t=>?_⟩
  rw [List.getElem?_set,List.getElem?_set]
  unfold Bk
  by_cases c1:j=t
  ·subst c1
   rw [if_pos rfl,if_pos (by simp;omega),if_pos (by omega),show j+(j+1 - j)=j+1 by omega,hy]
  ·rw [if_neg c1]
   by_cases c2:j+1=t
   ·subst c2
    rw [if_pos rfl,if_pos l1,if_neg (by omega),if_pos (by omega),show j+1 - (j+2 - (j+1))=j by omega,hx]
   ·rw [if_neg c2,if_neg (by omega),if_neg (by omega)]
 refine ⟨Qv hv (by omega) (by omega) (by omega) fun p q u v h1 h2 h3 h4 hu hw=>?_,Qu hv (by omega) (by omega)⟩
 obtain rfl:p=j:=by omega
 obtain rfl:q=p+1:=by omega
 rw [hx] at hu
 rw [hy] at hw
 obtain rfl:=Option.some.inj hu
 obtain rfl:=Option.some.inj hw
 intro e
 rw [e,GD] at hlt
 cases hlt
def Gb (xs:List An) (a b j:Nat):Prop:=∀ p q x y,a≤p→p<q→q<b→q≠j→xs[p]?=some x→xs[q]?=some y→Bh y.key x.key=false
theorem RJ {xs:List An} {a i:Nat} (h:BP xs a i):Gb xs a (i+1) i:=fun p q x y h1 h2 h3 h4=>h p q x y h1 h2 (by omega)
theorem RI {xs:List An} {a b:Nat} (h:Gb xs a b a):BP xs a b:=fun p q x y h1 h2 h3=>h p q x y h1 h2 h3 (by omega)
theorem RM {xs:List An} {a b j:Nat} {x y:An} (h:Gb xs a b (j+1)) (ha:a≤j) (hx:xs[j]?=some x) (hy:xs[j+1]?=some y) (hlt:Bh y.key x.key=false):BP xs a b:=by
 intro p q u v h1 h2 h3 hu hv
 by_cases c:q=j+1
 ·subst c
  rw [hy] at hv
  obtain rfl:=Option.some.inj hv
  by_cases c2:p=j
  ·subst c2
   rw [hx] at hu
   obtain rfl:=Option.some.inj hu
   exact hlt
  ·exact FU (h p j u x h1 (by omega) (by omega) (by omega) hu hx) hlt
 ·exact h p q u v h1 h2 h3 c hu hv
theorem RK {xs:List An} {a b j:Nat} {x y:An} (h:Gb xs a b (j+1)) (ha:a≤j) (hx:xs[j]?=some x) (hy:xs[j+1]?=some y) (hlt:Bh y.key x.key=true) (hb:j+1<b):Gb ((xs.set (j+1) x).set j y) a b j:=by
 have l1:j+1<xs.length:=(List.getElem?_eq_some_iff.1 hy).1
 have g:∀ t u,((xs.set (j+1) x).set j y)[t]?=some u→(t=j∧u=y)∨(t=j+1∧u=x)∨(t≠j∧t≠j+1∧xs[t]?=some u):=by
  intro t u ht
  rw [List.getElem?_set,List.getElem?_set] at ht
  by_cases c1:j=t
  ·rw [if_pos c1,if_pos (by simp;omega)] at ht
   exact .inl ⟨c1.symm,(Option.some.inj ht).symm⟩
  ·rw [if_neg c1] at ht
   by_cases c2:j+1=t
   ·rw [if_pos c2,if_pos l1] at ht
    exact .inr (.inl ⟨c2.symm,(Option.some.inj ht).symm⟩)
   ·rw [if_neg c2] at ht
    exact .inr (.inr ⟨Ne.symm c1,Ne.symm c2,ht⟩)
 intro p q u v h1 h2 h3 h4 hu hv
 rcases g q v hv with ⟨rfl,_⟩|⟨rfl,rfl⟩|⟨q1,q2,hq⟩
 ·exact absurd U h4
 ·rcases g p u hu with ⟨rfl,rfl⟩|⟨rfl,_⟩|⟨p1,p2,hp⟩
  ·exact JP hlt
  ·omega
  ·exact h p j u v h1 (by omega) (by omega) (by omega) hp hx
 ·rcases g p u hu with ⟨rfl,rfl⟩|⟨rfl,rfl⟩|⟨p1,p2,hp⟩
  ·exact h (p+1) q u v (by omega) (by omega) h3 q2 hy hq
  ·exact h j q u v (by omega) (by omega) h3 q2 hx hq
  ·exact h p q u v h1 h2 h3 q2 hp hq
theorem BP.le {xs:List An} {a b p q:Nat} {x y:An} (h:BP xs a b) (h1:a≤p) (h2:p≤q) (h3:q<b) (hx:xs[p]?=some x) (hy:xs[q]?=some y):Bh y.key x.key=false:=by
 rcases Nat.lt_or_ge p q with h'|h'
 ·exact h p q x y h1 h' h3 hx hy
 ·obtain rfl:p=q:=by omega
  rw [hx] at hy
  obtain rfl:=Option.some.inj hy
  exact GD _
theorem J9 {xs ys:List An} {a m b s mid e:Nat} (hv:CP xs ys (Bk s m e)) (h1:a≤s) (h2:s≤m) (h3:m≤e) (h4:e≤b) (hmid:mid=s+(e - m)) (hl:BP xs a m) (hr:BP xs m b):
  BP ys a s∧BP ys s mid∧BP ys mid e∧BP ys e b:=by
 subst hmid
 refine ⟨?_,?_,?_,?_⟩
 ·refine (hl.sub (Nat.le_refl _) h2).same fun t ht1 ht2=>?_
  rw [hv.2,show Bk s m e t=t by unfold Bk;rw [if_neg (by omega),if_neg (by omega)]]
 ·intro p q x y p1 p2 p3 hx hy
  rw [hv.2,show Bk s m e p=p+(m - s) by unfold Bk;rw [if_pos (by omega)]] at hx
  rw [hv.2,show Bk s m e q=q+(m - s) by unfold Bk;rw [if_pos (by omega)]] at hy
  exact hr _ _ x y (by omega) (by omega) (by omega) hx hy
 ·intro p q x y p1 p2 p3 hx hy
  rw [hv.2,show Bk s m e p=p - (e - m) by unfold Bk;rw [if_neg (by omega),if_pos (by omega)]] at hx
  rw [hv.2,show Bk s m e q=q - (e - m) by unfold Bk;rw [if_neg (by omega),if_pos (by omega)]] at hy
  exact hl _ _ x y (by omega) (by omega) (by omega) hx hy
 ·refine (hr.sub h3 (Nat.le_refl _)).same fun t ht1 ht2=>?_
  rw [hv.2,show Bk s m e t=t by unfold Bk;rw [if_neg (by omega),if_neg (by omega)]]
theorem CO.refl {xs:List An} {a b:Nat} (h:BP xs a b):CO xs xs a b:=⟨BY.refl _,DY.refl _ _ _,h⟩
theorem GL {xs:List An} {a s mid:Nat} (h1:BP xs a s) (h2:BP xs s mid) (h:¬ (a<s∧s<mid)) (hs:a≤s):BP xs a mid:=by
 rcases Nat.lt_or_ge a s with c|c
 ·exact h1.sub (Nat.le_refl _) (by omega)
 ·exact h2.sub (by omega) (Nat.le_refl _)
theorem GE {xs ys zs ws:List An} {a m b s mid e:Nat} (hv:CP xs ys (Bk s m e)) (h1:a≤s) (h2:s≤m) (h3:m≤e) (h4:e≤b) (hb:b≤xs.length) (hmid:mid=s+(e - m)) (hl:BP xs a m) (hr:BP xs m b)
  (hlow:s=a∨e=b∨∃ u v,xs[s - 1]?=some u∧xs[e]?=some v∧Bh v.key u.key=false)
  (hup:s=m∨e=m∨∃ u v,xs[e - 1]?=some u∧xs[s]?=some v∧Bh u.key v.key=true)
  (hz:CO ys zs a mid) (hw:CO zs ws mid b):CO xs ws a b:=by
 have hkey:∀ p q x y,s≤p→p<m→m≤q→q<e→xs[p]?=some x→xs[q]?=some y→Bh y.key x.key=true:=by
  intro p q x y p1 p2 q1 q2 hx hy
  rcases hup with c|c|⟨u,v,hu,hv',hlt⟩
  ·omega
  ·omega
  ·exact Pi (Vd (hr.le (p:=q) (q:=e - 1) q1 (by omega) (by omega) hy hu) hlt) (hl.le (p:=s) (q:=p) h1 p1 p2 hv' hx)
 have s1:BY xs ys:=Qv hv h2 h3 (by omega) fun p q x y p1 p2 q1 q2 hx hy e=>by
  have:=hkey p q x y p1 p2 q1 q2 hx hy
  rw [e,GD] at this
  cases this
 have i1:DY xs ys a b:=(Qu hv h2 h3).wider h1 h4
 have hm1:s≤mid:=by omega
 have hm2:mid≤e:=by omega
 refine ⟨s1.trans (hz.stab.trans hw.stab),i1.trans ((hz.ins.wider (Nat.le_refl _) (by omega)).trans (hw.ins.wider (by omega) (Nat.le_refl _))),fun p q x y p1 p2 p3 hx hy=>?_⟩
 rcases Nat.lt_or_ge q mid with c|c
 ·rw [hw.ins.2.1 p (by omega)] at hx
  rw [hw.ins.2.1 q (by omega)] at hy
  exact hz.srt p q x y p1 p2 c hx hy
 rcases Nat.lt_or_ge p mid with c'|c'
 ·rw [hw.ins.2.1 p (by omega)] at hx
  obtain ⟨u,u1,u2,hu⟩:=hz.ins.2.2 p p1 c'
  rw [hx] at hu
  obtain ⟨t,t1,t2,ht⟩:=hw.ins.2.2 q c p3
  rw [hy,hz.ins.2.1 t (by omega)] at ht
  -- the pair at u of ys is x, the pair at t of ys is y
  have hxu:=hv.2 u
  have hyt:=hv.2 t
  rw [←hu] at hxu
  rw [←ht] at hyt
  rcases Nat.lt_or_ge u s with cu|cu
  ·rw [show Bk s m e u=u by unfold Bk;rw [if_neg (by omega),if_neg (by omega)]] at hxu
   rcases Nat.lt_or_ge t e with ct|ct
   ·rw [show Bk s m e t=t - (e - m) by unfold Bk;rw [if_neg (by omega),if_pos (by omega)]] at hyt
    exact hl u _ x y u1 (by omega) (by omega) hxu.symm hyt.symm
   ·rw [show Bk s m e t=t by unfold Bk;rw [if_neg (by omega),if_neg (by omega)]] at hyt
    rcases hlow with d|d|⟨u',v',hu',hv',hlt⟩
    ·omega
    ·omega
    ·exact FU (hl.le (p:=u) (q:=s - 1) u1 (by omega) (by omega) hxu.symm hu') (FU hlt (hr.le (p:=e) (q:=t) h3 ct t2 hv' hyt.symm))
  ·rw [show Bk s m e u=u+(m - s) by unfold Bk;rw [if_pos (by omega)]] at hxu
   rcases Nat.lt_or_ge t e with ct|ct
   ·rw [show Bk s m e t=t - (e - m) by unfold Bk;rw [if_neg (by omega),if_pos (by omega)]] at hyt
    exact JP (hkey _ _ y x (by omega) (by omega) (by omega) (by omega) hyt.symm hxu.symm)
   ·rw [show Bk s m e t=t by unfold Bk;rw [if_neg (by omega),if_neg (by omega)]] at hyt
    exact hr _ t x y (by omega) (by omega) t2 hxu.symm hyt.symm
 ·exact hw.srt p q x y c' p2 p3 hx hy
theorem VJ {xs ys:List An} {a b i:Nat} {x:An} (hv:CP xs ys (Bk a (a+1) i)) (h1:a+1≤i) (h2:i≤b) (hb:b≤xs.length) (hr:BP xs (a+1) b) (hx:xs[a]?=some x)
  (hlow:i=a+1∨∃ u,xs[i - 1]?=some u∧Bh u.key x.key=true) (hup:i=b∨∃ u,xs[i]?=some u∧Bh u.key x.key=false):CO xs ys a b:=by
 have hruns:=J9 hv (Nat.le_refl a) (by omega) h1 h2 rfl (BP.one xs (Nat.le_refl _)) hr
 have e1:a+(i - (a+1))=i - 1:=by omega
 rw [e1] at hruns
 -- low: nothing stands below a; up: what stands below i is below x
 have hs:CO ys ys a (i - 1):=CO.refl hruns.2.1
 have hyx:ys[i - 1]?=some x:=by rw [hv.2,show Bk a (a+1) i (i - 1)=a by unfold Bk;rw [if_neg (by omega),if_pos (by omega)];omega,hx]
 have hw:CO ys ys (i - 1) b:=by
  refine CO.refl fun p q u v p1 p2 p3 hu hw=>?_
  rcases Nat.lt_or_ge p i with c|c
  ·obtain rfl:p=i - 1:=by omega
   rw [hyx] at hu
   obtain rfl:=Option.some.inj hu
   rw [hv.2,show Bk a (a+1) i q=q by unfold Bk;rw [if_neg (by omega),if_neg (by omega)]] at hw
   rcases hup with d|⟨u',hu',hlt⟩
   ·omega
   ·exact FU hlt (hr.le (p:=i) (q:=q) h1 (by omega) p3 hu' hw)
  ·exact hruns.2.2.2 p q u v c p2 p3 hu hw
 refine GE hv (Nat.le_refl _) (by omega) h1 h2 hb e1.symm (BP.one xs (Nat.le_refl _)) hr (.inl U) ?_ hs hw
 rcases hlow with d|⟨u,hu,hlt⟩
 ·exact .inr (.inl d)
 ·exact .inr (.inr ⟨u,x,hu,hx,hlt⟩)
theorem VL {xs ys:List An} {a m i:Nat} {x:An} (hv:CP xs ys (Bk i m (m+1))) (h1:a≤i) (h2:i≤m) (hb:m+1≤xs.length) (hl:BP xs a m) (hx:xs[m]?=some x)
  (hlow:i=a∨∃ u,xs[i - 1]?=some u∧Bh x.key u.key=false) (hup:i=m∨∃ u,xs[i]?=some u∧Bh x.key u.key=true):CO xs ys a (m+1):=by
 have hruns:=J9 hv h1 h2 (by omega) (Nat.le_refl _) rfl hl (BP.one xs (by omega))
 have e1:i+(m+1 - m)=i+1:=by omega
 rw [e1] at hruns
 have hyx:ys[i]?=some x:=by rw [hv.2,show Bk i m (m+1) i=m by unfold Bk;rw [if_pos (by omega)];omega,hx]
 have hs:CO ys ys a (i+1):=by
  refine CO.refl fun p q u v p1 p2 p3 hu hw=>?_
  rcases Nat.lt_or_ge q i with c|c
  ·exact hruns.1 p q u v p1 p2 c hu hw
  ·obtain rfl:q=i:=by omega
   rw [hyx] at hw
   obtain rfl:=Option.some.inj hw
   rw [hv.2,show Bk q m (m+1) p=p by unfold Bk;rw [if_neg (by omega),if_neg (by omega)]] at hu
   rcases hlow with d|⟨u',hu',hlt⟩
   ·omega
   ·exact FU (hl.le (p:=p) (q:=q - 1) p1 (by omega) (by omega) hu hu') hlt
 have hw:CO ys ys (i+1) (m+1):=CO.refl hruns.2.2.1
 refine GE hv h1 h2 (by omega) (Nat.le_refl _) hb e1.symm hl (BP.one xs (by omega)) (.inr (.inl U)) ?_ hs hw
 rcases hup with d|⟨u,hu,hlt⟩
 ·exact .inl d
 ·exact .inr (.inr ⟨x,u,by rw [show m+1 - 1=m by omega];exact hx,hu,hlt⟩)
theorem Ip (n:Nat):((n:Nat):Int).fdiv (2^(min (1:Int).toNat IntKind.u64.bits))=((n / 2:Nat):Int):=by
 have:(2:Int)^(min (1:Int).toNat IntKind.u64.bits)=2:=by decide
 rw [this,Int.fdiv_eq_ediv_of_nonneg _ (by omega)]
 omega
def FO (a b:ByteArray):Int:=if Bh a b=true then -1 else if Bh b a=true then 1 else 0
theorem R7 {a b:ByteArray} (h:Bh a b=true):FO a b= -1:=if_pos h
theorem R6 {a b:ByteArray} (h:¬ Bh a b=true) (h2:(!(Bh a b||decide (a=b)))=true):FO a b=1:=by
 unfold FO
 rw [if_neg h,if_pos]
 cases h3:Bh b a with
 |true=>rfl
 |false=>
  have:=LQ (by simpa using h) h3
  subst this
  simp at h2
theorem R5 {a b:ByteArray} (h:¬ Bh a b=true) (h2:(!(Bh a b||decide (a=b)))=false):FO a b=0:=by
 have h':Bh a b=false:=by simpa using h
 have:a=b:=by simpa [h'] using h2
 subst this
 unfold FO
 rw [if_neg h,if_neg h]
theorem Gy {a b:ByteArray}:FO a b<0↔Bh a b=true:=by
 unfold FO
 by_cases h:Bh a b=true
 ·simp [h]
 ·rw [if_neg h]
  by_cases h2:Bh b a=true
  ·rw [if_pos h2];simp [h]
  ·rw [if_neg h2];simp [h]
theorem Ht {a b:ByteArray} (h:¬ FO a b<0):Bh a b=false:=by
 cases h2:Bh a b with
 |false=>rfl
 |true=>exact absurd (Gy.2 h2) h
theorem YS {xs:List An} {j:Nat} {x y:An} (hj:0<j) (hx:xs[j - 1]?=some x) (hy:xs[j]?=some y) (hlt:Bh y.key x.key=true):BY xs ((xs.set j x).set (j - 1) y)∧DY xs ((xs.set j x).set (j - 1) y) (j - 1) (j+1):=by
 obtain ⟨i,rfl⟩:∃ i,j=i+1:=⟨j - 1,by omega⟩
 exact YR hx hy hlt
theorem RN {xs:List An} {a b j:Nat} {x y:An} (h:Gb xs a b j) (hj:a<j) (hx:xs[j - 1]?=some x) (hy:xs[j]?=some y) (hlt:Bh y.key x.key=false):BP xs a b:=by
 obtain ⟨i,rfl⟩:∃ i,j=i+1:=⟨j - 1,by omega⟩
 exact RM h (by omega) hx hy hlt
theorem RL {xs:List An} {a b j:Nat} {x y:An} (h:Gb xs a b j) (hj:a<j) (hx:xs[j - 1]?=some x) (hy:xs[j]?=some y) (hlt:Bh y.key x.key=true) (hb:j<b):Gb ((xs.set j x).set (j - 1) y) a b (j - 1):=by
 obtain ⟨i,rfl⟩:∃ i,j=i+1:=⟨j - 1,by omega⟩
 exact RK h (by omega) hx hy hlt (by omega)
theorem Zx {xs ys:List An} {a k:Nat} {x y:An} (hk:a≤k) (h:CP xs ys (Bk a (a+1) (k+1))) (hx:ys[k]?=some x) (hy:ys[k+1]?=some y):CP xs ((ys.set k y).set (k+1) x) (Bk a (a+1) (k+1+1)):=by
 have l1:k<ys.length:=(List.getElem?_eq_some_iff.1 hx).1
 have l2:k+1<ys.length:=(List.getElem?_eq_some_iff.1 hy).1
 refine ⟨by simpa using h.1,fun t=>?_⟩
 rw [List.getElem?_set,List.getElem?_set]
 have hx':=h.2 k
 have hy':=h.2 (k+1)
 rw [hx] at hx'
 rw [hy] at hy'
 by_cases c1:k+1=t
 ·subst c1
  rw [if_pos rfl,if_pos (by simpa using l2),hx']
  congr 1
  unfold Bk
  repeat' split
  all_goals omega
 ·rw [if_neg c1]
  by_cases c2:k=t
  ·subst c2
   rw [if_pos rfl,if_pos l1,hy']
   congr 1
   unfold Bk
   repeat' split
   all_goals omega
  ·rw [if_neg c2,h.2]
   congr 1
   unfold Bk
   repeat' split
   all_goals omega
theorem Zr {xs ys:List An} {m k:Nat} {x y:An} (hk:k≤m) (h0:0<k) (h:CP xs ys (Bk k m (m+1))) (hx:ys[k]?=some x) (hy:ys[k - 1]?=some y):CP xs ((ys.set k y).set (k - 1) x) (Bk (k - 1) m (m+1)):=by
 have l1:k<ys.length:=(List.getElem?_eq_some_iff.1 hx).1
 have l2:k - 1<ys.length:=(List.getElem?_eq_some_iff.1 hy).1
 refine ⟨by simpa using h.1,fun t=>?_⟩
 rw [List.getElem?_set,List.getElem?_set]
 have hx':=h.2 k
 have hy':=h.2 (k - 1)
 rw [hx] at hx'
 rw [hy] at hy'
 by_cases c1:k - 1=t
 ·subst c1
  rw [if_pos rfl,if_pos (by simpa using l2),hx']
  congr 1
  unfold Bk
  repeat' split
  all_goals omega
 ·rw [if_neg c1]
  by_cases c2:k=t
  ·subst c2
   rw [if_pos rfl,if_pos l1,hy']
   congr 1
   unfold Bk
   repeat' split
   all_goals omega
  ·rw [if_neg c2,h.2]
   congr 1
   unfold Bk
   repeat' split
   all_goals omega
theorem Zu (xs:List An) (a:Nat):CP xs xs (Bk a (a+1) (a+1)):=Kx xs fun t=>by
 unfold Bk
 repeat' split
 all_goals omega
theorem Zv (xs:List An) (m:Nat):CP xs xs (Bk m m (m+1)):=Kx xs fun t=>by
 unfold Bk
 repeat' split
 all_goals omega
theorem Kw (xs:List An) {s m e:Nat} (h:¬ (s<m∧m<e)) (h1:s≤m) (h2:m≤e):CP xs xs (Bk s m e):=Kx xs fun t=>by
 unfold Bk
 repeat' split
 all_goals omega
theorem Zy {xs ys:List An} {a m k:Nat} {x y:An} (hm:m=a+1) (hk:a≤k) (h:CP xs ys (Bk a m (k+1))) (hx:ys[k]?=some x) (hy:ys[k+1]?=some y):CP xs ((ys.set k y).set (k+1) x) (Bk a m (k+1+1)):=by
 subst hm
 exact Zx hk h hx hy
theorem Zs {xs ys:List An} {m b k:Nat} {x y:An} (hb:b=m+1) (hk:k≤m) (h0:0<k) (h:CP xs ys (Bk k m b)) (hx:ys[k]?=some x) (hy:ys[k - 1]?=some y):CP xs ((ys.set k y).set (k - 1) x) (Bk (k - 1) m b):=by
 subst hb
 exact Zr hk h0 h hx hy
theorem VK {xs ys:List An} {a m b i:Nat} {x:An} (hm:m=a+1) (hv:CP xs ys (Bk a m i)) (h1:m≤i) (h2:i≤b) (hb:b≤xs.length) (hr:BP xs m b) (hx:xs[a]?=some x)
  (hlow:i=m∨∃ u,xs[i - 1]?=some u∧Bh u.key x.key=true) (hup:i=b∨∃ u,xs[i]?=some u∧Bh u.key x.key=false):CO xs ys a b:=by
 subst hm
 exact VJ hv h1 h2 hb hr hx hlow hup
theorem VN {xs ys:List An} {a m b i:Nat} {x:An} (hm:b=m+1) (hv:CP xs ys (Bk i m b)) (h1:a≤i) (h2:i≤m) (hb:b≤xs.length) (hl:BP xs a m) (hx:xs[m]?=some x)
  (hlow:i=a∨∃ u,xs[i - 1]?=some u∧Bh x.key u.key=false) (hup:i=m∨∃ u,xs[i]?=some u∧Bh x.key u.key=true):CO xs ys a b:=by
 subst hm
 exact VL hv h1 h2 hb hl hx hlow hup
def DB (xs:List An) (lo hi bs:Nat):Prop:=∀ p q x y,lo≤p→p<q→q<hi→p / bs=q / bs→xs[p]?=some x→xs[q]?=some y→Bh y.key x.key=false
theorem KQ {c bs p:Nat} (h1:c*bs≤p) (h2:p<(c+1)*bs):p / bs=c:=Nat.div_eq_of_lt_le h1 h2
theorem DB.at {xs:List An} {lo hi bs c a b:Nat} (h:DB xs lo hi bs) (ha:a=c*bs) (hlo:lo≤a) (hb:b≤a+bs) (hh:b≤hi):BP xs a b:=by
 intro p q x y p1 p2 p3 hx hy
 refine h p q x y (by omega) p2 (by omega) ?_ hx hy
 have:(c+1)*bs=c*bs+bs:=Nat.succ_mul c bs
 rw [KQ (c:=c) (by omega) (by omega),KQ (c:=c) (by omega) (by omega)]
theorem DB.more {xs ys:List An} {bs c a b:Nat} (h:DB xs 0 a bs) (ha:a=c*bs) (hb:b≤a+bs) (hi:DY xs ys a b) (hs:BP ys a b):DB ys 0 b bs:=by
 intro p q x y p1 p2 p3 hd hx hy
 have e1:(c+1)*bs=c*bs+bs:=Nat.succ_mul c bs
 rcases Nat.lt_or_ge p a with c1|c1
 ·rcases Nat.lt_or_ge q a with c2|c2
  ·rw [hi.2.1 p (by omega)] at hx
   rw [hi.2.1 q (by omega)] at hy
   exact h p q x y p1 p2 c2 hd hx hy
  ·exfalso
   have hq:q / bs=c:=KQ (by omega) (by omega)
   have hbs:0<bs:=by omega
   have:p / bs<c:=(Nat.div_lt_iff_lt_mul hbs).2 (by omega)
   omega
 ·exact hs p q x y c1 p2 p3 hx hy
theorem DB.same {xs ys:List An} {lo hi bs lo':Nat} (h:DB xs lo hi bs) (hl:lo≤lo') (he:∀ t,lo'≤t→ys[t]?=xs[t]?):DB ys lo' hi bs:=by
 intro p q x y p1 p2 p3 hd hx hy
 rw [he p (by omega)] at hx
 rw [he q (by omega)] at hy
 exact h p q x y (by omega) p2 p3 hd hx hy
theorem DB.nil (xs:List An) (bs:Nat):DB xs 0 0 bs:=fun p q x y p1 p2 p3=>by omega
theorem DB.all {xs:List An} {n bs:Nat} (h:DB xs 0 n bs) (hn:n≤bs):BP xs 0 n:=by
 intro p q x y p1 p2 p3 hx hy
 refine h p q x y p1 p2 p3 ?_ hx hy
 rw [Nat.div_eq_of_lt (by omega),Nat.div_eq_of_lt (by omega)]
theorem Jb {zs:List An} {a n bs:Nat} (h:DB zs a n bs) (hc:∃ c,a=c*(2*bs)) (hn:a+bs≤n):BP zs a (a+bs)∧∀ b,b≤a+2*bs→b≤n→BP zs (a+bs) b:=by
 obtain ⟨c,rfl⟩:=hc
 have e:c*(2*bs)=(2*c)*bs:=by rw [←Nat.mul_assoc,Nat.mul_comm c 2]
 have e2:(2*c+1)*bs=(2*c)*bs+bs:=Nat.succ_mul _ _
 refine ⟨h.at (c:=2*c) e (Nat.le_refl _) (Nat.le_refl _) hn,fun b h1 h2=>h.at (c:=2*c+1) (by omega) (by omega) (by omega) h2⟩
theorem RH {zs:List An} {a n bs:Nat} (h:DB zs a n bs) (hc:∃ c,a=c*(2*bs)) (hn:n≤a+bs):BP zs a n:=by
 obtain ⟨c,rfl⟩:=hc
 exact h.at (c:=2*c) (by rw [←Nat.mul_assoc,Nat.mul_comm c 2]) (Nat.le_refl _) hn (Nat.le_refl _)
theorem KJ {zs ws:List An} {a b bs:Nat} (h:DB zs 0 a (2*bs)) (hc:∃ c,a=c*(2*bs)) (hb:b≤a+2*bs) (hs:CO zs ws a b):DB ws 0 b (2*bs):=by
 obtain ⟨c,hc⟩:=hc
 exact h.more hc hb hs.ins hs.srt
theorem VT {a bs:Nat} (hc:∃ c,a=c*(2*bs)):∃ c,a+2*bs=c*(2*bs):=by
 obtain ⟨c,rfl⟩:=hc
 exact ⟨c+1,(Nat.succ_mul c (2*bs)).symm⟩
def Id (xs:List An) (i:Nat):Prop:=∀ t x y,i≤t→xs[t]?=some x→xs[t+1]?=some y→Bh y.key x.key=false
theorem Rj {xs:List An} (h:Id xs 0):CR xs:=by
 refine BP.ord ?_
 have key:∀ d p x y,xs[p]?=some x→xs[p+d+1]?=some y→Bh y.key x.key=false:=by
  intro d
  induction d with
  |zero=>intro p x y hx hy;exact h p x y (Nat.zero_le _) hx hy
  |succ d ih=>
   intro p x y hx hy
   have hl:p+d+1<xs.length:=by have:=(List.getElem?_eq_some_iff.1 hy).1;omega
   have hz:=List.getElem?_eq_getElem hl
   exact FU (ih p x _ hx hz) (h (p+d+1) _ y (Nat.zero_le _) hz hy)
 intro p q x y _ h2 _ hx hy
 exact key (q - p - 1) p x y hx (by rw [show p+(q - p - 1)+1=q by omega];exact hy)
theorem Wo {xs:List An} {j:Nat} {x y:An} (ho:CR xs) (hj:0<j) (hx:xs[j]?=some x) (hy:xs[j - 1]?=some y):Bh x.key y.key=false:=by
 unfold CR at ho
 rw [List.pairwise_iff_getElem] at ho
 have l1:=List.getElem?_eq_some_iff.1 hx
 have l2:=List.getElem?_eq_some_iff.1 hy
 have:=ho (j - 1) j l2.1 l1.1 (by omega)
 rwa [l1.2,l2.2] at this
theorem Ri {xs:List An} {j:Nat} {x y:An} (h:Id xs j) (hj:0<j) (hx:xs[j]?=some x) (hy:xs[j - 1]?=some y) (hlt:Bh x.key y.key=false):Id xs (j - 1):=by
 intro t u v ht hu hv
 rcases Nat.lt_or_ge t j with c|c
 ·obtain rfl:t=j - 1:=by omega
  rw [hy] at hu
  rw [show j - 1+1=j by omega,hx] at hv
  obtain rfl:=Option.some.inj hu
  obtain rfl:=Option.some.inj hv
  exact hlt
 ·exact h t u v c hu hv
theorem Rh (xs:List An):Id xs (xs.length - 1):=fun t x y ht hx hy=>by
 have:=(List.getElem?_eq_some_iff.1 hy).1
 omega
def BN (ps:List An) (k:ByteArray):List ByteArray:=(ps.filter fun p=>decide (p.key=k)).map (·.val)
def Dz (ps:List An):List ByteArray:=Gf (FF (ps.map (·.key)))
theorem YM {xs ys:List An} (h:∀ k:ByteArray,xs.filter (fun p=>decide (p.key=k))=ys.filter (fun p=>decide (p.key=k))):BY xs ys:=by
 refine ⟨List.Perm.length_eq (List.perm_iff_count.2 fun p=>?_),h⟩
 have e:∀ l:List An,l.count p=(l.filter fun q=>decide (q.key=p.key)).count p:=fun l=>(List.count_filter (by simp)).symm
 rw [e xs,e ys,h]
def JC (xs:List An) (n:Int):Bool:=decide (¬ ((xs.length:Int)≤n∧∀ p∈xs,p.key.size≤100∧p.val.size≤100))
theorem Ov {xs:List An} {n:Int} {k:Nat} {x:An} (hx:xs[k]?=some x) (h:100<x.key.size∨100<x.val.size):true=JC xs n:=by
 have h3:¬ ((xs.length:Int)≤n∧∀ p∈xs,p.key.size≤100∧p.val.size≤100):=fun h2=>absurd (h2.2 x (List.mem_of_getElem? hx)) (by omega)
 exact (decide_eq_true h3).symm
theorem Ou {xs:List An} {n:Int} {k:Nat} (hn:∀ y∈xs.take k,y.key.size≤100∧y.val.size≤100) (h:xs.length≤k∨n<(xs.length:Int)):decide (n<(xs.length:Int))=JC xs n:=by
 refine decide_eq_decide.2 ⟨fun h1 h2=>by omega,fun h1=>?_⟩
 apply Classical.byContradiction
 intro h2
 refine h1 ⟨by omega,?_⟩
 rwa [List.take_of_length_le (by omega)] at hn
theorem V_ (ps:List An) (k:ByteArray):(BN ps k).length≤ps.length:=by
 unfold BN
 rw [List.length_map]
 exact List.length_filter_le _ _
theorem Wc {xs:List An} {key:ByteArray} {k:Nat} {x:An} (hx:xs[k]?=some x) (h:x.key=key):BN (xs.take (k+1)) key=BN (xs.take k) key++[x.val]:=by
 unfold BN
 rw [List.take_add_one,hx]
 simp [h]
theorem Wb {xs:List An} {key:ByteArray} {k:Nat} {x:An} (hx:xs[k]?=some x) (h:¬ x.key=key):BN (xs.take (k+1)) key=BN (xs.take k) key:=by
 unfold BN
 rw [List.take_add_one,hx]
 simp [h]
theorem TV {xs:List An} {k:Nat} {x:An} (hx:xs[k]?=some x):(xs.take (k+1)).map (·.key)=(xs.take k).map (·.key)++[x.key]:=by
 rw [List.take_add_one,hx]
 simp
theorem MA (xs:List ByteArray):(FF xs).length=xs.length:=by simp [FF]
theorem Se (xs:List ByteArray):(Gf xs).length≤xs.length:=by
 have:=ND (xs.map Gk)
 simpa [Gf] using this
theorem TW (ps:List An):(Dz ps).length≤ps.length:=by
 unfold Dz
 have:=Se (FF (ps.map (·.key)))
 rw [MA,List.length_map] at this
 exact this
def C5 (p:An):Prop:=p.key.size≤16∧p.val.size≤64
instance (p:An):Decidable (C5 p):=by unfold C5;infer_instance
def G4 (xs:List An):Prop:=∀ p∈xs,C5 p
instance (xs:List An):Decidable (G4 xs):=by unfold G4;infer_instance
theorem VG (xs:List An):(!(xs.any fun p=>!decide (C5 p)))=decide (G4 xs):=by
 rw [Bool.eq_iff_iff,decide_eq_true_iff]
 unfold G4
 simp
theorem Jg {α:Type} {l:List α} {x:α} (h:l[0]?=some x):l=x::l.drop 1:=by
 cases l with
 |nil=>simp at h
 |cons y l=>simp at h;subst h;rfl
theorem VH {al bl:List An} {x y:An} (hx:al[0]?=some x) (hy:bl[0]?=some y) (ha:CR al) (hb:CR bl) (h:¬ Bh y.key x.key=true):srt (al++bl)=x::srt (al.drop 1++bl):=by
 have h':Bh y.key x.key=false:=by simpa using h
 have ea:=Jg hx
 have eb:=Jg hy
 rw [ea] at ha
 rw [eb] at hb
 obtain ⟨ha1,ha2⟩:=List.pairwise_cons.1 ha
 obtain ⟨hb1,hb2⟩:=List.pairwise_cons.1 hb
 refine (IU ?_ ?_).symm
 ·have:BY (x::(al.drop 1++bl)) (x::srt (al.drop 1++bl)):=BY.append (a:=[x]) (b:=[x]) (BY.refl _) (F7 _)
  rwa [←List.cons_append,←ea] at this
 ·refine List.pairwise_cons.2 ⟨fun q hq=>?_,IV _⟩
  have hq':=(F7 (al.drop 1++bl)).symm.mem hq
  rcases List.mem_append.1 hq' with h1|h1
  ·exact ha1 q h1
  ·rw [eb] at h1
   rcases List.mem_cons.1 h1 with rfl|h2
   ·exact h'
   ·exact FU h' (hb1 q h2)
theorem VI {al bl:List An} {x y:An} (hx:al[0]?=some x) (hy:bl[0]?=some y) (ha:CR al) (hb:CR bl) (h:Bh y.key x.key=true):srt (al++bl)=y::srt (al++bl.drop 1):=by
 have ea:=Jg hx
 have eb:=Jg hy
 have ha0:=ha
 rw [ea] at ha0
 rw [eb] at hb
 obtain ⟨ha1,ha2⟩:=List.pairwise_cons.1 ha0
 obtain ⟨hb1,hb2⟩:=List.pairwise_cons.1 hb
 have hal:∀ q∈al,Bh y.key q.key=true:=by
  intro q hq
  rw [ea] at hq
  rcases List.mem_cons.1 hq with rfl|h2
  ·exact h
  ·exact Pi h (ha1 q h2)
 refine (IU ?_ ?_).symm
 ·have h1:BY (al++bl) (y::(al++bl.drop 1)):=by
   refine YM fun k=>?_
   rw [eb,List.drop_succ_cons,List.drop_zero,List.filter_append,List.filter_cons,List.filter_cons,List.filter_append]
   by_cases hk:y.key=k
   ·have:al.filter (fun p=>decide (p.key=k))=[]:=List.filter_eq_nil_iff.2 fun q hq=>by
     have:=hal q hq
     rw [hk] at this
     simp only [decide_eq_true_eq]
     intro e
     rw [e,GD] at this
     cases this
    simp [this,hk]
   ·simp [hk]
  exact h1.trans (BY.append (a:=[y]) (b:=[y]) (BY.refl _) (F7 _))
 ·refine List.pairwise_cons.2 ⟨fun q hq=>?_,IV _⟩
  have hq':=(F7 (al++bl.drop 1)).symm.mem hq
  rcases List.mem_append.1 hq' with h1|h1
  ·exact JP (hal q h1)
  ·exact hb1 q h1
theorem Pt {al bl:List An} (ha:CR al) (hb:CR bl) (h:al.length=0∨bl.length=0):srt (al++bl)=al++bl:=by
 rcases h with h|h
 ·rw [List.eq_nil_of_length_eq_zero h];exact QK hb
 ·rw [List.eq_nil_of_length_eq_zero h,List.append_nil];exact QK ha
theorem PO {al:List An} (ha:CR al) (k:Nat):CR (al.drop k):=List.Pairwise.sublist (List.drop_sublist k al) ha
def CH (us:List (Value×List An)):List An:=us.flatMap (·.2)
theorem N4 {us:List (Value×List An)} {k:Nat} {u:Value} {x:List An} (hx:us[k]?=some (u,x)):CH (us.take (k+1))=CH (us.take k)++x:=by
 unfold CH
 rw [D9 hx,List.flatMap_append]
 simp
theorem N2 (a b:List (Value×List An)):CH (a++b)=CH a++CH b:=by simp [CH]
theorem N3 (us:List (Value×List An)) (k:Nat):(CH (us.take k)).length≤(CH us).length:=by
 have:(CH us).length=(CH (us.take k)).length+(CH (us.drop k)).length:=by rw [←List.length_append,←N2,List.take_append_drop]
 omega
theorem SY (us:List (Value×List An)) (k:Nat):(CH (us.drop k)).length≤(CH us).length:=by
 have:(CH us).length=(CH (us.take k)).length+(CH (us.drop k)).length:=by rw [←List.length_append,←N2,List.take_append_drop]
 omega
theorem YF (a b:List An):srt (srt a++b)=srt (a++b):=YG (BY.append (F7 a).symm (BY.refl b))
theorem Cc {α:Type} {xs:List α} {k:Nat} {x:α} (h:xs[k]?=some x):x∈xs:=List.mem_of_getElem? h
structure Er where
 A:Option Addr
 n:Nat
 c:Nat
def Ii (h:Er):List Value:=[.slice h.A h.n h.c]
def Dn:Kd Er:=flat Ii 1 (by omega) (fun _=>rfl) (fun _ c h=>by simp [Ii] at h;subst h;rfl)
def Fg:Value→Er
 |.slice A n c=>⟨A,n,c⟩
 |_=>⟨none,0,0⟩
section
variable {w w0:World} {F F0:AH} {As Rs:List SP} {α:Type} {d:Kd α}
theorem Ow:∀ {us:List (Value×List α)} {cs:List Value},AV (Ao d) w F us cs→∀ p∈us,(Ab d p.1 p.2).P w F
 |[],_,_,p,hp=>by cases hp
 |q::us,_,⟨c,cs',e,h1,h2⟩,p,hp=>by
  cases hp with
  |head=>exact h1.2
  |tail _ hm=>exact Ow h2 p hm
end
/-! ### Parts -/
def D6 (key:ByteArray):Nat→Int
 |0=>7
 |k+1=>IntKind.u32.wrap (IntKind.u32.wrap (31*D6 key k)+((key[k]?.getD 0).toNat:Int))
theorem Z0 (x:Int):0≤IntKind.u32.wrap x∧IntKind.u32.wrap x<4294967296:=by
 simp only [IntKind.wrap,IntKind.bits,IntKind.signed]
 simp
 omega
theorem LY (key:ByteArray) (k:Nat):0≤D6 key k∧D6 key k<4294967296:=by
 cases k with
 |zero=>exact ⟨by simp [D6],by simp [D6]⟩
 |succ k=>exact Z0 _
def JY (key:ByteArray) (n:Int):Int:=if n<1 then -1 else D6 key key.size%n
def EN (xs:List An) (n p:Int):List An:=xs.filter fun x=>decide (JY x.key n=p)
theorem Wh {xs:List An} {n p:Int} {k:Nat} {x:An} (hx:xs[k]?=some x) (h:JY x.key n=p):EN (xs.take (k+1)) n p=EN (xs.take k) n p++[x]:=by
 unfold EN
 rw [D9 hx,List.filter_append]
 simp [h]
theorem Wf {xs:List An} {n p:Int} {k:Nat} {x:An} (hx:xs[k]?=some x) (h:¬ JY x.key n=p):EN (xs.take (k+1)) n p=EN (xs.take k) n p:=by
 unfold EN
 rw [D9 hx,List.filter_append]
 simp [h]
theorem PL (xs:List An) (n p:Int):(EN xs n p).length≤xs.length:=List.length_filter_le ..
theorem V6 {key:ByteArray} {k:Nat} {b:UInt8} (hb:key[k]?=some b):D6 key (k+1)=IntKind.u32.wrap (IntKind.u32.wrap (31*D6 key k)+(b.toNat:Int)):=by
 rw [D6,hb]
 rfl
theorem Z2 (b:UInt8):IntKind.u32.wrap (b.toNat:Int)=(b.toNat:Int):=by
 have:=UInt8.toNat_lt b
 simp only [IntKind.wrap,IntKind.bits,IntKind.signed]
 simp
 omega
theorem Nl {xs:List BO} (h:xs.length≤40):Dt xs<0↔∀ p∈xs,BB p xs.length:=by
 have e:xs.take 40=xs:=List.take_of_length_le h
 have h2:=KX (Ef xs.length) xs
 unfold Dt
 rw [e]
 constructor
 ·intro hb p hp
  apply Classical.byContradiction
  intro hg
  have h3:xs.any (Ef xs.length)=true:=List.any_eq_true.2 ⟨p,hp,by simp [Ef,hg]⟩
  rw [h3] at h2
  rw [if_pos (of_decide_eq_true h2)] at hb
  have:=of_decide_eq_true h2
  omega
 ·intro hg
  have h3:xs.any (Ef xs.length)=false:=List.any_eq_false.2 (fun p hp=>by simp [Ef,hg p hp])
  rw [h3] at h2
  rw [if_neg (of_decide_eq_false h2),if_neg (by omega)]
  omega
theorem HY {α:Type} {Q:α→Prop} {xs:List α} {k:Nat} {x:α} (hn:∀ y∈xs.take k,Q y) (hx:xs[k]?=some x) (h:Q x):∀ y∈xs.take (k+1),Q y:=by
 intro y hy
 rw [List.take_add_one,hx] at hy
 rcases List.mem_append.1 hy with hy|hy
 ·exact hn y hy
 ·obtain rfl:y=x:=by simpa using hy
  exact h
structure Bp where
 kind:Int
 part:Int
 sp:Int
 att:Int
 why:Int
 sv:Value
 set:List Int
 pv:Value
 pairs:List An
def GY (r:Bp):List Value:=[.int .i64 r.kind,.int .i64 r.part,.int .i64 r.sp,.int .i64 r.att,.int .i64 r.why,r.sv,r.pv]
def BZ:Kd Bp where
 sz:=7
 O w F x cs:=cs=GY x∧∃ F1 F2:AH,(∀ k,F1 k→F k)∧(∀ k,F2 k→F k)∧(∀ k,F1 k→¬ F2 k)∧(B4 (Ai .i64)).O w F1 x.set [x.sv]∧(B4 Ag).O w F2 x.pairs [x.pv]
 R w F x cs:=cs=GY x∧(B4 (Ai .i64)).R w F x.set [x.sv]∧(B4 Ag).R w F x.pairs [x.pv]
 O_loc:=fun ⟨e,F1,F2,s1,s2,dj,h1,h2⟩ hk=>⟨e,F1,F2,s1,s2,dj,(B4 _).O_loc h1 (fun k x=>hk k (s1 k x)),(B4 _).O_loc h2 (fun k x=>hk k (s2 k x))⟩
 O_mono:=fun ⟨e,F1,F2,s1,s2,dj,h1,h2⟩ hk=>⟨e,F1,F2,fun k x=>hk k (s1 k x),fun k x=>hk k (s2 k x),dj,h1,h2⟩
 R_loc:=fun ⟨e,h1,h2⟩ hk=>⟨e,(B4 _).R_loc h1 hk,(B4 _).R_loc h2 hk⟩
 R_mono:=fun ⟨e,h1,h2⟩ hk=>⟨e,(B4 _).R_mono h1 hk,(B4 _).R_mono h2 hk⟩
 O_R:=fun ⟨e,F1,F2,s1,s2,dj,h1,h2⟩=>⟨e,(B4 _).R_mono ((B4 _).O_R h1) s1,(B4 _).R_mono ((B4 _).O_R h2) s2⟩
 len h:=by rw [h.1];rfl
 one:=fun ⟨e,h1,h2⟩ c hc=>by
  have g1:=(B4 _).one h1
  have g2:=(B4 _).one h2
  subst e
  simp only [GY,List.mem_cons,List.not_mem_nil,or_false] at hc
  rcases hc with rfl|rfl|rfl|rfl|rfl|rfl|rfl
  ·rfl
  ·rfl
  ·rfl
  ·rfl
  ·rfl
  ·exact g1 _ (List.mem_cons_self ..)
  ·exact g2 _ (List.mem_cons_self ..)
 pos:=by omega
structure FN where
 kind:Int
 part:Int
 sp:Int
 att:Int
 why:Int
 hs:Er
 hp:Er
def GA (r:FN):List Value:=[.int .i64 r.kind,.int .i64 r.part,.int .i64 r.sp,.int .i64 r.att,.int .i64 r.why,.slice r.hs.A r.hs.n r.hs.c,.slice r.hp.A r.hp.n r.hp.c]
def FR:Kd FN:=flat GA 7 (by omega) (fun _=>rfl) (fun _ c h=>by
 simp only [GA,List.mem_cons,List.not_mem_nil,or_false] at h
 rcases h with rfl|rfl|rfl|rfl|rfl|rfl|rfl<;>rfl)
def F9 (r:Bp):FN:=⟨r.kind,r.part,r.sp,r.att,r.why,Fg r.sv,Fg r.pv⟩
section
variable {w w0:World} {F F0:AH} {As Rs:List SP} {A:Option Addr} {m c:Nat}
theorem J8 {us:List Bp} (h:(Ab BZ (.slice A m c) us).P w F) {i:Nat} {x:Bp} (hx:us[i]?=some x):
  ET A∧(∀ q u,(GY x)[q]?=some u→w.cell? ⟨DN A,AQ A+i*7+q,none⟩=some u)∧(Ab (Ai .i64) x.sv x.set).P w F∧(Ab Ag x.pv x.pairs).P w F:=by
 obtain ⟨b,off,cs,e,hl,hc,h1,h2,h3⟩:=IN h hx
 subst h1 e
 exact ⟨rfl,hc,h2,h3⟩
theorem IM {us:List Bp} (h:(Ab BZ (.slice A m c) us).P w F) {i:Nat} {a1 a2 a3 a4 a5:Int} {sv pv:Value} {set:List Int} {pairs:List An} (hx:us[i]?=some ⟨a1,a2,a3,a4,a5,sv,set,pv,pairs⟩):(Ab (Ai .i64) sv set).P w F:=(J8 h hx).2.2.1
theorem Qm {us:List Bp} (h:(Ab BZ (.slice A m c) us).P w F) {i:Nat} {a1 a2 a3 a4 a5:Int} {sv pv:Value} {set:List Int} {pairs:List An} (hx:us[i]?=some ⟨a1,a2,a3,a4,a5,sv,set,pv,pairs⟩):(Ab Ag pv pairs).P w F:=(J8 h hx).2.2.2
theorem Hd.thRr {us:List Bp} (H:Hd w0 F0 w As Rs) (j:Nat) (hj:Rs[j]?=some (Ab BZ (.slice A m c) us)) {i:Nat} {x:Bp} (hx:us[i]?=some x):ET A:=H.factR (List.mem_of_getElem? hj) fun _ h=>(J8 h hx).1
theorem Hd.nestRr {us:List Bp} (H:Hd w0 F0 w As Rs) (j:Nat) (hj:Rs[j]?=some (Ab BZ (.slice A m c) us)) {i:Nat} {a1 a2 a3 a4 a5:Int} {sv pv:Value} {set:List Int} {pairs:List An} (hx:us[i]?=some ⟨a1,a2,a3,a4,a5,sv,set,pv,pairs⟩):
  ∃ A1 c1 A2 c2,sv=.slice A1 set.length c1∧pv=.slice A2 pairs.length c2∧set.length≤c1∧c1≤9223372036854775807∧pairs.length≤c2∧c2≤9223372036854775807:=by
 refine H.factR (List.mem_of_getElem? hj) fun _ h=>?_
 obtain ⟨A1,c1,e1,g1,g2,_⟩:=DK (IM h hx)
 obtain ⟨A2,c2,e2,g3,g4,_⟩:=DK (Qm h hx)
 exact ⟨A1,c1,A2,c2,e1,e2,g1,g2,g3,g4⟩
theorem Qr:∀ {us:List Bp} {cs:List Value},AV BZ w F us cs→AV FR w F (us.map F9) cs
 |[],_,h=>h
 |x::us,_,⟨c,cs',e,⟨h1,h2,h3⟩,h4⟩=>by
  obtain ⟨A1,c1,e1,_⟩:=DK (d:=Ai .i64) (w:=w) (F:=F) h2
  obtain ⟨A2,c2,e2,_⟩:=DK (d:=Ag) (w:=w) (F:=F) h3
  exact ⟨c,cs',e,show c=GA (F9 x) by rw [h1];simp [GY,GA,F9,Fg,e1,e2],Qr h4⟩
theorem XD {v:Value} {us:List Bp} (h:(Ab BZ v us).P w F):(Ab FR v (us.map F9)).P w F:=by
 obtain ⟨A',n',c',e,h1,h2,h3,cs,h4,h5⟩:=h
 exact ⟨A',n',c',e,by rw [List.length_map,h1],h2,h3,cs,h4,Qr h5⟩
theorem Hd.recs {v:Value} {us:List Bp} (H:Hd w0 F0 w As Rs) (j:Nat) (hj:Rs[j]?=some (Ab BZ v us)):∃ fs:List FN,fs.length=us.length∧Hd w0 F0 w As (Ab FR v fs::Rs):=
 ⟨us.map F9,List.length_map ..,H.addR fun _ h=>XD (h _ (List.mem_of_getElem? hj))⟩
theorem Hd.elsRr {us:List Bp} (H:Hd w0 F0 w As Rs) (j:Nat) (hj:Rs[j]?=some (Ab BZ (.slice A m c) us)) {i:Nat} {x:Bp} (hx:us[i]?=some x) {p:Nat} (hpj:AQ A+i*7=p):∀ q v,(GY x)[q]?=some v→w.cell? ((⟨DN A,p,none⟩:Addr).add q)=some v:=by
 intro q v hq
 rw [D_,←hpj]
 exact H.factR (List.mem_of_getElem? hj) fun F h=>(J8 h hx).2.1 q v hq
end
section
variable {P:Program} {t:TypeId}
end
/-! ### What records say -/
theorem EW {α:Type} {xs:List α} {k:Nat} {x:α} (hx:xs[k]?=some x):xs.drop k=x::xs.drop (k+1):=by
 have hlt:k<xs.length:=by
  rcases Nat.lt_or_ge k xs.length with h|h
  ·exact h
  ·simp [List.getElem?_eq_none h] at hx
 rw [List.drop_eq_getElem_cons hlt]
 rw [List.getElem?_eq_getElem hlt] at hx
 rw [Option.some.inj hx]
theorem GX {s:ByteArray} {i:Nat} {c:UInt8} (h:s[i]?=some c):s.data.toList[i]?=some c:=by
 rw [getElem?_def] at h
 split at h
 ·rename_i hi
  have e:s[i]=c:=Option.some.inj h
  rw [←e,Array.getElem?_toList,Array.getElem?_eq_getElem (show i<s.data.size from hi)]
  rfl
 ·cases h
theorem GZ (c:UInt8) (v:AL):Fd c v=!((decide ((c.toNat:Int)=110) && v.t)||(decide ((c.toNat:Int)=98) && !v.t)):=by
 have h:∀ d:UInt8,(c==d)=decide ((c.toNat:Int)=(d.toNat:Int)):=by
  intro d
  rw [Bool.eq_iff_iff,beq_iff_eq,decide_eq_true_eq]
  constructor
  ·rintro rfl;rfl
  ·intro h
   exact UInt8.toNat_inj.1 (by omega)
 unfold Fd
 rw [h,h]
 rfl
theorem Jl {ks:List UInt8} {xs:List AL} {i:Nat} {c:UInt8} {x:AL} (hk:ks[i]?=some c) (hx:xs[i]?=some x) (hb:Fd c x=true):EM (ks.drop (i+1)) (xs.drop (i+1))=EM (ks.drop i) (xs.drop i):=by
 rw [EW hk,EW hx]
 simp [EM,hb]
theorem K5 {ks:List UInt8} {xs:List AL} {i:Nat} {c:UInt8} {x:AL} (hk:ks[i]?=some c) (hx:xs[i]?=some x) (hb:Fd c x=false):EM (ks.drop i) (xs.drop i)=false:=by
 rw [EW hk,EW hx]
 simp [EM,hb]
theorem SX {ks:List UInt8} {xs:List AL} {i:Nat} (h:xs.length≤i):EM (ks.drop i) (xs.drop i)=true:=by
 rw [List.drop_eq_nil_of_le h]
 cases ks.drop i<;>rfl
theorem LX {op:Int} {stk:List AL} (h:stk.length<(Ba op).size):Av op stk=(1,stk,[]):=if_pos h
theorem Iy {op:Int} {stk:List AL} (h:¬ stk.length<(Ba op).size) (h2:EM (Ba op).data.toList (stk.drop (stk.length - (Ba op).size))=false):Av op stk=(2,stk,[]):=by
 unfold Av
 rw [if_neg h,if_neg (by rw [h2];decide)]
theorem LV {op:Int} {stk:List AL} (h:¬ stk.length<(Ba op).size) (h2:EM (Ba op).data.toList (stk.drop (stk.length - (Ba op).size))=true):Av op stk=(0,stk.take (stk.length - (Ba op).size),stk.drop (stk.length - (Ba op).size)):=by
 unfold Av
 rw [if_neg h,if_pos h2]
theorem LW {op:Int} {stk:List AL} (h:(Av op stk).1=0):(Av op stk).2.2.length=(Ba op).size∧(Av op stk).2.1.length≤stk.length∧(∀ v∈(Av op stk).2.2,v∈stk)∧(∀ v∈(Av op stk).2.1,v∈stk):=by
 by_cases h1:stk.length<(Ba op).size
 ·rw [LX h1] at h;cases h
 ·cases h2:EM (Ba op).data.toList (stk.drop (stk.length - (Ba op).size)) with
  |false=>rw [Iy h1 h2] at h;cases h
  |true=>
   rw [LV h1 h2]
   refine ⟨by simp only [List.length_drop];omega,by simp only [List.length_take];omega,fun v hv=>List.mem_of_mem_drop hv,fun v hv=>List.mem_of_mem_take hv⟩
theorem W4 {stk vs:List AL} {k:Nat} {x:AL} (hx:vs[k]?=some x) (h:Ev x=true):Bc stk vs=(4,stk):=by
 unfold Bc
 rw [if_pos (List.any_eq_true.2 ⟨x,Cc hx,h⟩)]
theorem Nj {vs:List AL} (hn:∀ y∈vs,Ev y=false):¬ vs.any Ev=true:=by
 intro h
 obtain ⟨x,h1,h2⟩:=List.any_eq_true.1 h
 rw [hn x h1] at h2
 cases h2
theorem W6 {stk vs:List AL} (hn:∀ y∈vs,Ev y=false) (h:16<stk.length+vs.length):Bc stk vs=(1,stk):=by
 unfold Bc
 rw [if_neg (Nj hn),if_pos h]
theorem W5 {stk vs:List AL} (hn:∀ y∈vs,Ev y=false) (h:¬ 16<stk.length+vs.length):Bc stk vs=(0,stk++vs):=by
 unfold Bc
 rw [if_neg (Nj hn),if_neg h]
theorem W8 (stk vs:List AL) (h:stk.length≤16):(Bc stk vs).2.length≤16:=by
 unfold Bc
 split
 ·exact h
 ·split
  ·exact h
  ·simp only [List.length_append];omega
theorem RG {v:AL} (h1:v.t=true) (h2:(64:Int)<(v.b.size:Int)):Ev v=true:=by
 unfold Ev
 rw [h1,decide_eq_true (by omega)]
 rfl
theorem Nr {v:AL} (h:v.t=false∨¬ (64:Int)<(v.b.size:Int)):Ev v=false:=by
 unfold Ev
 rcases h with h|h
 ·rw [h];rfl
 ·rw [decide_eq_false (by omega),Bool.and_false]
theorem Sx {told:List An} {k v:ByteArray} (h:(16:Int)<(k.size:Int)):DJ told k v=(4,told):=if_pos (by omega)
theorem SA {told:List An} {k v:ByteArray} (h:¬ (16:Int)<(k.size:Int)) (h2:40≤told.length):DJ told k v=(5,told):=by
 unfold DJ
 rw [if_neg (by omega),if_pos h2]
theorem Sy {told:List An} {k v:ByteArray} (h:¬ (16:Int)<(k.size:Int)) (h2:¬ 40≤told.length):DJ told k v=(0,told++[⟨k,v⟩]):=by
 unfold DJ
 rw [if_neg (by omega),if_neg h2]
def CX {α:Type} (d:Kd α) (v:Value) (xs:List α) (v2:Value) (ys:List α):Prop:=∀ (w:World) (F:AH),(Ab d v xs).P w F→(Ab d v2 ys).P w F
theorem CX.refl {α:Type} (d:Kd α) (v:Value) (xs:List α):CX d v xs v xs:=fun _ _ h=>h
def E0 (stk:List AL):List ByteArray→Int×List AL×List ByteArray
 |[]=>((Bc stk [C8 0]).1,(Bc stk [C8 0]).2,[])
 |v::vs=>((Bc stk [Ep v,C8 1]).1,(Bc stk [Ep v,C8 1]).2,vs)
theorem V1 {stk:List AL} {vals:List ByteArray} {x:ByteArray} (hx:vals[0]?=some x):E0 stk vals=((Bc stk [Ep x,C8 1]).1,(Bc stk [Ep x,C8 1]).2,vals.drop 1):=by
 cases vals with
 |nil=>simp at hx
 |cons y vs=>simp at hx;subst hx;rfl
theorem TX (op:Int):
    Cn Tryz.prog 302 [.int .i64 op] [] [] (fun v Bs=>v=.string (Ba op)∧Bs=[]):=by
 intro w0 F0 H
 refine enter Tryz.func302 U U (Nat.le_of_ble_eq_true U) (Aa (Ae (Ad U (Ac (Z (Aa (Aa (Ae (Ad U (Ac (Z (AS (Aa (Aa (Ae (V U U (AW U U U) (Ad U (Ac (Z ?_)))))))))))))))))))
 refine Aw U (fun h1=>?_) (fun h1=>?_)
 ·refine Ax (Z ?_)
  refine Aw U (fun h2=>?_) (fun h2=>?_)
  ·exact Aa (Ae (Ad U (Ac (Z (Am (AY (Ay (Aq U U (Ak ⟨congrArg Value.string (by unfold Ba;repeat (first |rw [if_pos (by omega)]|rw [if_neg (by omega)])),rfl⟩ H)))))))))
  exact absurd h1 h2
 refine Aa (Ae (V U U (AW U U U) (Ad U (Ac (Z ?_)))))
 refine Aw U (fun h3=>?_) (fun h3=>?_)
 ·refine Ax (Z ?_)
  refine Aw U (fun h4=>?_) (fun h4=>?_)
  ·exact Aa (Ae (Ad U (Ac (Z (Am (AY (Ay (Aq U U (Ak ⟨congrArg Value.string (by unfold Ba;repeat (first |rw [if_pos (by omega)]|rw [if_neg (by omega)])),rfl⟩ H)))))))))
  exact absurd h3 h4
 refine Ae (V U U (AW U U U) (Ad U (Ac (Z ?_))))
 refine Aw U (fun h5=>?_) (fun h5=>?_)
 ·exact Aa (Ae (Ad U (Ac (Z (Am (AY (Ay (Aq U U (Ak ⟨congrArg Value.string (by unfold Ba;repeat (first |rw [if_pos (by omega)]|rw [if_neg (by omega)])),rfl⟩ H)))))))))
 refine Aa (Aa (Ae (V U U (AW U U U) (Ad U (Ac (Z ?_))))))
 refine Aw U (fun h6=>?_) (fun h6=>?_)
 ·refine Ax (Z ?_)
  refine Aw U (fun h7=>?_) (fun h7=>?_)
  ·exact Aa (Ae (Ad U (Ac (Z (Am (AY (Ay (Aq U U (Ak ⟨congrArg Value.string (by unfold Ba;repeat (first |rw [if_pos (by omega)]|rw [if_neg (by omega)])),rfl⟩ H)))))))))
  exact absurd h6 h7
 refine Ae (V U U (AW U U U) (Ad U (Ac (Z ?_))))
 refine Aw U (fun h8=>?_) (fun h8=>?_)
 ·exact Aa (Ae (Ad U (Ac (Z (Am (AY (Ay (Aq U U (Ak ⟨congrArg Value.string (by unfold Ba;repeat (first |rw [if_pos (by omega)]|rw [if_neg (by omega)])),rfl⟩ H)))))))))
 refine Aa (Aa (Ae (V U U (AW U U U) (Ad U (Ac (Z ?_))))))
 refine Aw U (fun h9=>?_) (fun h9=>?_)
 ·refine Ax (Z ?_)
  refine Aw U (fun h10=>?_) (fun h10=>?_)
  ·exact Aa (Ae (Ad U (Ac (Z (Am (AY (Ay (Aq U U (Ak ⟨congrArg Value.string (by unfold Ba;repeat (first |rw [if_pos (by omega)]|rw [if_neg (by omega)])),rfl⟩ H)))))))))
  exact absurd h9 h10
 refine Aa (Ae (V U U (AW U U U) (Ad U (Ac (Z ?_)))))
 refine Aw U (fun h11=>?_) (fun h11=>?_)
 ·refine Ax (Z ?_)
  refine Aw U (fun h12=>?_) (fun h12=>?_)
  ·exact Aa (Ae (Ad U (Ac (Z (Am (AY (Ay (Aq U U (Ak ⟨congrArg Value.string (by unfold Ba;repeat (first |rw [if_pos (by omega)]|rw [if_neg (by omega)])),rfl⟩ H)))))))))
  exact absurd h11 h12
 refine Aa (Ae (V U U (AW U U U) (Ad U (Ac (Z ?_)))))
 refine Aw U (fun h13=>?_) (fun h13=>?_)
 ·refine Ax (Z ?_)
  refine Aw U (fun h14=>?_) (fun h14=>?_)
  ·exact Aa (Ae (Ad U (Ac (Z (Am (AY (Ay (Aq U U (Ak ⟨congrArg Value.string (by unfold Ba;repeat (first |rw [if_pos (by omega)]|rw [if_neg (by omega)])),rfl⟩ H)))))))))
  exact absurd h13 h14
 refine Ae (V U U (AW U U U) (Ad U (Ac (Z ?_))))
 refine Aw U (fun h15=>?_) (fun h15=>?_)
 ·exact Aa (Ae (Ad U (Ac (Z (Am (AY (Ay (Aq U U (Ak ⟨congrArg Value.string (by unfold Ba;repeat (first |rw [if_pos (by omega)]|rw [if_neg (by omega)])),rfl⟩ H)))))))))
 refine Aa (Aa (Ae (V U U (AW U U U) (Ad U (Ac (Z ?_))))))
 refine Aw U (fun h16=>?_) (fun h16=>?_)
 ·refine Ax (Z ?_)
  refine Aw U (fun h17=>?_) (fun h17=>?_)
  ·exact Aa (Ae (Ad U (Ac (Z (Am (AY (Ay (Aq U U (Ak ⟨congrArg Value.string (by unfold Ba;repeat (first |rw [if_pos (by omega)]|rw [if_neg (by omega)])),rfl⟩ H)))))))))
  exact absurd h16 h17
 refine Ae (V U U (AW U U U) (Ad U (Ac (Z ?_))))
 refine Aw U (fun h18=>?_) (fun h18=>?_)
 ·exact Aa (Ae (Ad U (Ac (Z (Am (AY (Ay (Aq U U (Ak ⟨congrArg Value.string (by unfold Ba;repeat (first |rw [if_pos (by omega)]|rw [if_neg (by omega)])),rfl⟩ H)))))))))
 refine Aa (Aa (Ae (V U U (AW U U U) (Ad U (Ac (Z ?_))))))
 refine Aw U (fun h19=>?_) (fun h19=>?_)
 ·refine Ax (Z ?_)
  refine Aw U (fun h20=>?_) (fun h20=>?_)
  ·exact Aa (Ae (Ad U (Ac (Z (Am (AY (Ay (Aq U U (Ak ⟨congrArg Value.string (by unfold Ba;repeat (first |rw [if_pos (by omega)]|rw [if_neg (by omega)])),rfl⟩ H)))))))))
  exact absurd h19 h20
 refine Ae (V U U (AW U U U) (Ad U (Ac (Z ?_))))
 refine Aw U (fun h21=>?_) (fun h21=>?_)
 ·exact Aa (Ae (Ad U (Ac (Z (Am (AY (Ay (Aq U U (Ak ⟨congrArg Value.string (by unfold Ba;repeat (first |rw [if_pos (by omega)]|rw [if_neg (by omega)])),rfl⟩ H)))))))))
 refine Aa (Ae (V U U (AW U U U) (Ad U (Ac (Z ?_)))))
 refine Aw U (fun h22=>?_) (fun h22=>?_)
 ·exact Aa (Ae (Ad U (Ac (Z (Am (AY (Ay (Aq U U (Ak ⟨congrArg Value.string (by unfold Ba;repeat (first |rw [if_pos (by omega)]|rw [if_neg (by omega)])),rfl⟩ H)))))))))
 refine Aa (Ae (V U U (AW U U U) (Ad U (Ac (Z ?_)))))
 refine Aw U (fun h23=>?_) (fun h23=>?_)
 ·exact Aa (Ae (Ad U (Ac (Z (Am (AY (Ay (Aq U U (Ak ⟨congrArg Value.string (by unfold Ba;repeat (first |rw [if_pos (by omega)]|rw [if_neg (by omega)])),rfl⟩ H)))))))))
 refine Aa (Aa (Ae (V U U (AW U U U) (Ad U (Ac (Z ?_))))))
 refine Aw U (fun h24=>?_) (fun h24=>?_)
 ·refine Ax (Z ?_)
  refine Aw U (fun h25=>?_) (fun h25=>?_)
  ·exact Aa (Ae (Ad U (Ac (Z (Am (AY (Ay (Aq U U (Ak ⟨congrArg Value.string (by unfold Ba;repeat (first |rw [if_pos (by omega)]|rw [if_neg (by omega)])),rfl⟩ H)))))))))
  exact absurd h24 h25
 refine Ae (V U U (AW U U U) (Ad U (Ac (Z ?_))))
 refine Aw U (fun h26=>?_) (fun h26=>?_)
 ·exact Aa (Ae (Ad U (Ac (Z (Am (AY (Ay (Aq U U (Ak ⟨congrArg Value.string (by unfold Ba;repeat (first |rw [if_pos (by omega)]|rw [if_neg (by omega)])),rfl⟩ H)))))))))
 exact Ax (AU (Z (Aa (Ae (Ad U (Ac (Z (Am (Aq U U (Ak ⟨congrArg Value.string (by unfold Ba;repeat (first |rw [if_pos (by omega)]|rw [if_neg (by omega)])),rfl⟩ H))))))))))
theorem FI (n:Int):
    Cn Tryz.prog 266 [.int .i64 n] [] [] (fun v Bs=>v=.agg #[.bool false,.int .i64 n,.string ⟨#[]⟩]∧Bs=[]):=by
 intro w0 F0 H
 refine enter Tryz.func266 U U (Nat.le_of_ble_eq_true U) (Aa (Ae (Dk U U U Di H (fun b1 w H=>(Ac (Z ?_))))))
 replace H:Hd _ _ _ [blk b1 [.bool false,.int .i64 0,.string ⟨#[]⟩] 284] []:=H
 refine Aa (Ae (Ad U (V U U (CQ (parts:=[(1,.tmp 3)]) (vs:=[.int .i64 n]) (cs:=[.bool false,.int .i64 n,.string ⟨#[]⟩]) U Np U U) (BD U U U C6 U U H U (Nat.le_of_ble_eq_true U) (fun u hu=>by simp [Value.cells] at hu;rcases hu with rfl|rfl|rfl<;>rfl) (fun w H=>?_)))))
 replace H:=H.h1 (A:=blk b1 [.bool false,.int .i64 n,.string ⟨#[]⟩] 284)
 refine Ac (Z (Am (Fk (cs:=[.bool false,.int .i64 n,.string ⟨#[]⟩]) U U C6 U (H.cellsI 0 U U) ?_)))
 replace H:=H.nil
 exact Ak ⟨rfl,rfl⟩ H
theorem H_ (s:ByteArray):
    Cn Tryz.prog 267 [.string s] [] [] (fun v Bs=>v=.agg #[.bool true,.int .i64 0,.string s]∧Bs=[]):=by
 intro w0 F0 H
 refine enter Tryz.func267 U U (Nat.le_of_ble_eq_true U) (Aa (Ae (Dk U U U Di H (fun b1 w H=>(Ac (Z ?_))))))
 replace H:Hd _ _ _ [blk b1 [.bool false,.int .i64 0,.string ⟨#[]⟩] 284] []:=H
 refine Aa (Ae (Ad U (V U U (CQ (parts:=[(0,.const (.bool true)),(2,.tmp 3)]) (vs:=[.bool true,.string s]) (cs:=[.bool true,.int .i64 0,.string s]) U Np U U) (BD U U U C6 U U H U (Nat.le_of_ble_eq_true U) (fun u hu=>by simp [Value.cells] at hu;rcases hu with rfl|rfl|rfl<;>rfl) (fun w H=>?_)))))
 replace H:=H.h1 (A:=blk b1 [.bool true,.int .i64 0,.string s] 284)
 refine Ac (Z (Am (Fk (cs:=[.bool true,.int .i64 0,.string s]) U U C6 U (H.cellsI 0 U U) ?_)))
 replace H:=H.nil
 exact Ak ⟨rfl,rfl⟩ H
theorem PK (b:Bool):
    Cn Tryz.prog 270 [.bool b] [] [] (fun v Bs=>v=.agg #[.bool false,.int .i64 (if b=true then 1 else 0),.string ⟨#[]⟩]∧Bs=[]):=by
 intro w0 F0 H
 refine enter Tryz.func270 U U (Nat.le_of_ble_eq_true U) (Aa (Ae (Dk U U U Di H (fun b1 w H=>(Ac (Z ?_))))))
 replace H:Hd _ _ _ [blk b1 [.bool false,.int .i64 0,.string ⟨#[]⟩] 284] []:=H
 refine Aa (Aa (Ae (Ad U (Ac (Z ?_)))))
 refine DO (b:=b) U (fun h2=>?_) (fun h2=>?_)
 ·refine Aa (Ae (sc (FI 1) H l0 U U (Au FA U U) ?_))
  rintro _ _ w ⟨rfl,rfl⟩ H
  refine BD U U U C6 U U H U (Nat.le_of_ble_eq_true U) (fun u hu=>by simp [Value.cells] at hu;rcases hu with rfl|rfl|rfl<;>rfl) (fun w H=>?_)
  replace H:=H.h1 (A:=blk b1 [.bool false,.int .i64 1,.string ⟨#[]⟩] 284)
  refine Ac (Z (Am (Ay (Fk (cs:=[.bool false,.int .i64 1,.string ⟨#[]⟩]) U U C6 U (H.cellsI 0 U U) ?_))))
  replace H:=H.nil
  exact Ak ⟨by simp only [h2];rfl,rfl⟩ H
 refine Ax (Z (Aa (Ae (sc (FI 0) H l0 U U (Au FA U U) ?_))))
 rintro _ _ w ⟨rfl,rfl⟩ H
 refine BD U U U C6 U U H U (Nat.le_of_ble_eq_true U) (fun u hu=>by simp [Value.cells] at hu;rcases hu with rfl|rfl|rfl<;>rfl) (fun w H=>(Ac (Z (Am (Fk (cs:=[.bool false,.int .i64 0,.string ⟨#[]⟩]) U U C6 U (H.cellsI 0 U U) ?_)))))
 replace H:=H.nil
 exact Ak ⟨by simp only [h2];rfl,rfl⟩ H
theorem JX (op:Int) (a:Int) (b:Int):
    Cn Tryz.prog 269 [.int .i64 op,.int .i64 a,.int .i64 b] [] [] (fun v Bs=>v=.agg #[.bool ((Bx op a b).t),.int .i64 ((Bx op a b).n),.string ((Bx op a b).b)]∧Bs=[]):=by
 intro w0 F0 H
 refine enter Tryz.func269 U U (Nat.le_of_ble_eq_true U) (Aa (Ae (Dk U U U Di H (fun b1 w H=>(Ac (Z ?_))))))
 replace H:Hd _ _ _ [blk b1 [.bool false,.int .i64 0,.string ⟨#[]⟩] 284] []:=H
 refine Aa (Aa (Ae (Ad U (Ac (Z (AS (Aa (Ae (V U U (AW U U U) (Ad U (Ac (Z ?_))))))))))))
 refine Aw U (fun h2=>?_) (fun h2=>?_)
 ·refine Aa (Ae (Ah 2 U (V U U (AX (z:=IntKind.i64.wrap (a+b)) U U U U) (sc (FI (IntKind.i64.wrap (a+b))) H l0 U U (Au FA U U) ?_))))
  rintro _ _ w ⟨rfl,rfl⟩ H
  refine BD U U U C6 U U H U (Nat.le_of_ble_eq_true U) (fun u hu=>by simp [Value.cells] at hu;rcases hu with rfl|rfl|rfl<;>rfl) (fun w H=>?_)
  replace H:=H.h1 (A:=blk b1 [.bool false,.int .i64 (IntKind.i64.wrap (a+b)),.string ⟨#[]⟩] 284)
  refine Ac (Z (Am (AY (Ay (Fk (cs:=[.bool false,.int .i64 (IntKind.i64.wrap (a+b)),.string ⟨#[]⟩]) U U C6 U (H.cellsI 0 U U) ?_)))))
  have e:Bx op a b=C8 (IntKind.i64.wrap (a+b)):=by unfold Bx;rw [if_pos h2]
  replace H:=H.nil
  exact Ak ⟨by rw [e];rfl,rfl⟩ H
 refine Aa (Ae (V U U (AW U U U) (Ad U (Ac (Z ?_)))))
 refine Aw U (fun h3=>?_) (fun h3=>?_)
 ·refine Aa (Ae (Ah 2 U (V U U (Cz (z:=IntKind.i64.wrap (a - b)) U U U U) (sc (FI (IntKind.i64.wrap (a - b))) H l0 U U (Au FA U U) ?_))))
  rintro _ _ w ⟨rfl,rfl⟩ H
  refine BD U U U C6 U U H U (Nat.le_of_ble_eq_true U) (fun u hu=>by simp [Value.cells] at hu;rcases hu with rfl|rfl|rfl<;>rfl) (fun w H=>?_)
  replace H:=H.h1 (A:=blk b1 [.bool false,.int .i64 (IntKind.i64.wrap (a - b)),.string ⟨#[]⟩] 284)
  refine Ac (Z (Am (AY (Ay (Fk (cs:=[.bool false,.int .i64 (IntKind.i64.wrap (a - b)),.string ⟨#[]⟩]) U U C6 U (H.cellsI 0 U U) ?_)))))
  have e:Bx op a b=C8 (IntKind.i64.wrap (a - b)):=by unfold Bx;rw [if_neg h2,if_pos h3]
  replace H:=H.nil
  exact Ak ⟨by rw [e];rfl,rfl⟩ H
 refine Aa (Ae (V U U (AW U U U) (Ad U (Ac (Z ?_)))))
 refine Aw U (fun h4=>?_) (fun h4=>?_)
 ·refine Aa (Ae (Ah 2 U (V U U (GJ (z:=IntKind.i64.wrap (a*b)) U U U U) (sc (FI (IntKind.i64.wrap (a*b))) H l0 U U (Au FA U U) ?_))))
  rintro _ _ w ⟨rfl,rfl⟩ H
  refine BD U U U C6 U U H U (Nat.le_of_ble_eq_true U) (fun u hu=>by simp [Value.cells] at hu;rcases hu with rfl|rfl|rfl<;>rfl) (fun w H=>?_)
  replace H:=H.h1 (A:=blk b1 [.bool false,.int .i64 (IntKind.i64.wrap (a*b)),.string ⟨#[]⟩] 284)
  refine Ac (Z (Am (AY (Ay (Fk (cs:=[.bool false,.int .i64 (IntKind.i64.wrap (a*b)),.string ⟨#[]⟩]) U U C6 U (H.cellsI 0 U U) ?_)))))
  have e:Bx op a b=C8 (IntKind.i64.wrap (a*b)):=by unfold Bx;rw [if_neg h2,if_neg h3,if_pos h4]
  replace H:=H.nil
  exact Ak ⟨by rw [e];rfl,rfl⟩ H
 refine Ax (AU (Z (Aa (Ae (Ah 2 U (V U U (Bd U U U) (sc (PK (decide (a<b))) H l0 U U (Au OZ U U) ?_)))))))
 rintro _ _ w ⟨rfl,rfl⟩ H
 refine BD U U U C6 U U H U (Nat.le_of_ble_eq_true U) (fun u hu=>by simp [Value.cells] at hu;rcases hu with rfl|rfl|rfl<;>rfl) (fun w H=>?_)
 replace H:=H.h1 (A:=blk b1 [.bool false,.int .i64 (if (decide (a<b))=true then 1 else 0),.string ⟨#[]⟩] 284)
 refine Ac (Z (Am (Fk (cs:=[.bool false,.int .i64 (if (decide (a<b))=true then 1 else 0),.string ⟨#[]⟩]) U U C6 U (H.cellsI 0 U U) ?_)))
 have e:Bx op a b=C8 (if a<b then 1 else 0):=by unfold Bx;rw [if_neg h2,if_neg h3,if_neg h4]
 replace H:=H.nil
 exact Ak ⟨by rw [e];simp [C8],rfl⟩ H
theorem Zq (a:AL) (b:AL):
    Cn Tryz.prog 271 [.agg #[.bool a.t,.int .i64 a.n,.string a.b],.agg #[.bool b.t,.int .i64 b.n,.string b.b]] [] [] (fun v Bs=>v=.bool (Em a b)∧Bs=[]):=by
 intro w0 F0 H
 refine enter Tryz.func271 U U (Nat.le_of_ble_eq_true U) (Aa (Ae (Cm U U U U H (fun b1 w H=>(Cm U U U U H (fun b2 w H=>(Ad U (Ac (Z ?_)))))))))
 replace H:Hd _ _ _ [blk b2 [.bool b.t,.int .i64 b.n,.string b.b] 284,blk b1 [.bool a.t,.int .i64 a.n,.string a.b] 284] []:=H
 refine Aa (Aa (Ae (V U U (Aj U G3 U) (V U U (Al U E5 U (H.cellI 1 U U)) (Ac (Z ?_))))))
 refine DO (b:=a.t) U (fun h3=>?_) (fun h3=>?_)
 ·refine Aa (Ae (V U U (Aj U G3 U) (V U U (Al U E5 U (H.cellI 0 U U)) (Ad U ?_))))
  refine GM (d:=9) (b:=b.t) U (fun h4=>?_) (fun h4=>?_)
  ·refine V U U (Aj U Fx U) (V U U (Al U BR U (H.cellI 1 U U)) (V U U (Aj U Fx U) (V U U (Al U BR U (H.cellI 0 U U)) (V U U (Mg U U U) (Ah 2 U (Ac (Z (Am (Ay (Aq U U ?_))))))))))
   replace H:=H.nil
   exact Ak ⟨congrArg Value.bool (by unfold Em;simp [h3,h4]),rfl⟩ H
  refine Ah 7 U (Ac (Z (Am (Ay (Aq U U ?_)))))
  replace H:=H.nil
  exact Ak ⟨congrArg Value.bool (by unfold Em;simp [h3,h4]),rfl⟩ H
 refine Ax (Z (Aa (Ae (V U U (Aj U G3 U) (V U U (Al U E5 U (H.cellI 0 U U)) (V U U (Fl U U U) (Ad U ?_)))))))
 refine GM (d:=19) (b:=!b.t) U (fun h5=>?_) (fun h5=>?_)
 ·refine V U U (Aj U Ez U) (V U U (Al U DM U (H.cellI 1 U U)) (V U U (Aj U Ez U) (V U U (Al U DM U (H.cellI 0 U U)) (V U U (AW U U U) (Ah 2 U (Ac (Z (Am (Aq U U ?_)))))))))
  replace H:=H.nil
  exact Ak ⟨congrArg Value.bool (by unfold Em;simp [h3,h5]),rfl⟩ H
 refine Ah 7 U (Ac (Z (Am (Aq U U ?_))))
 replace H:=H.nil
 exact Ak ⟨congrArg Value.bool (by unfold Em;simp [h3,h5]),rfl⟩ H
theorem Zo (s:ByteArray) (i:Int):
    Cn Tryz.prog 272 [.string s,.int .i64 i] [] [] (fun v Bs=>v=.int .i64 (Eu s i)∧Bs=[]):=by
 intro w0 F0 H
 refine enter Tryz.func272 U U (Nat.le_of_ble_eq_true U) (Aa (Ae (Ad U (Ac (Z (Aa (Aa (Ae (Ad U (V U U (Bd U U U) (Ad U ?_)))))))))))
 refine AN (d:=7) U (fun h1=>?_) (fun h1=>?_)
 ·exact Ah 5 U (Ac (Z (Ck U (Aa (Ae (Ad U (Ac (Z (Am (Ay (Aq U U (Ak ⟨congrArg (Value.int .i64) (if_pos (by omega)).symm,rfl⟩ H))))))))))))
 refine Ah 2 U (V U U (Dp U CF U) (V U U (CJ U U U) (Ad U (Ac (Z ?_)))))
 refine Aw U (fun h2=>?_) (fun h2=>?_)
 ·exact Aa (Ae (Ad U (Ac (Z (Am (Ay (Aq U U (Ak ⟨congrArg (Value.int .i64) (if_pos (by omega)).symm,rfl⟩ H))))))))
 refine Ax (Z (Aa (Ae (Ah 2 U ?_))))
 obtain ⟨c0,hc0⟩:∃ c0,s[i.toNat]?=some c0:=⟨_,getElem?_pos s i.toNat (by omega)⟩
 exact V U U (II U CF U U (by omega) hc0) (V U U (DV (z:=((c0).toNat:Int)) U U Hj H8 (AB (by omega) (by have:=UInt8.toNat_lt c0;omega))) (Ad U (Ac (Z (Am (Aq U U (Ak ⟨congrArg (Value.int .i64) (by unfold Eu;rw [if_neg (by omega),hc0];rfl),rfl⟩ H)))))))
theorem Zp (s:ByteArray) (f:Int) (t:Int):
    Cn Tryz.prog 273 [.string s,.int .i64 f,.int .i64 t] [] [] (fun v Bs=>v=.string (Fb s f t)∧Bs=[]):=by
 intro w0 F0 H
 refine enter Tryz.func273 U U (Nat.le_of_ble_eq_true U) (Aa (Ae (Ad U (Ac (Z (Aa (Ae (Ad U (V U U (Dp U CF U) (Ad U (Ac (Z (Aa (Ae (Ad U (V U U (Qe (z:=max f 0) U U U U) (Ad U (V U U (G9 (z:=min (max f 0) ((s.size:Nat):Int)) U U U U) (Ad U (V U U (Qe (z:=max t 0) U U U U) (Ad U (V U U (G9 (z:=min (max t 0) ((s.size:Nat):Int)) U U U U) (Ah 2 U (Ac (Z (Aa (Aa (Ae (Ah 2 U (V U U (Cy U U U) (Ac (Z ?_))))))))))))))))))))))))))))))))
 refine Aw U (fun h1=>?_) (fun h1=>?_)
 ·exact Aa (Ae (Ad U (Ac (Z (Am (Ay (Aq U U (Ak ⟨congrArg Value.string (if_pos h1).symm,rfl⟩ H))))))))
 exact Ax (Z (Aa (Ae (Ah 3 U (V U U (Xe (r:=s.extract (min (max f 0) ((s.size:Nat):Int)).toNat (min (max t 0) ((s.size:Nat):Int)).toNat) U CF U U U (by omega) (by omega) (by omega) U) (Ad U (Ac (Z (Am (Aq U U (Ak ⟨congrArg Value.string (if_neg h1).symm,rfl⟩ H)))))))))))
theorem VU (r:Nat) (pv:Value) (key:ByteArray) (vv:Value) (fuel pos steps:Int) (halted:Bool) (sv:Value) (g:Nat→AL) (tv mv:Value) (stk:List AL) (op:Int) (hst:stk.length≤16):
    Cn Tryz.prog 264 [.pointer (some ⟨r,0,none⟩),.int .i64 op] [blk r (A_ pv key vv fuel pos steps halted sv g tv mv) 288,Y AT sv stk] [] (fun v Bs=>∃ u sv2,v=.tuple #[u,.int .i64 (Av op stk).1]∧Bs=[blk r (A_ pv key vv fuel pos steps halted sv2 g tv mv) 288,Y AT sv2 (Av op stk).2.1,Y AT u (Av op stk).2.2]):=by
 intro w0 F0 H
 obtain ⟨A1,c2,rfl,hc3,hm4,hp5⟩:=H.fA 1 rfl
 refine enter Tryz.func264 U U (Nat.le_of_ble_eq_true U) (Aa (Ae (Ah 2 U (Ac (Z ?_)))))
 replace H:Hd _ _ _ [blk r (A_ pv key vv fuel pos steps halted (.slice A1 stk.length c2) g tv mv) 288,Y AT (.slice A1 stk.length c2) stk] []:=H
 refine Aa (Ae (Ad U (sc (TX op) H l0 U U (Au UQ U U) ?_)))
 rintro _ _ w ⟨rfl,rfl⟩ H
 refine Ad U (Ac (Z (Aa (Aa (Ae (Ad U (V U U (Dp U CF U) (Ad U (V U U (AF U U) (V U U (Aj U Gh U) (V U U (Al U Gr U (H.cellI 0 U U)) (V U U (Bf U Hh U) (V U U (CK U U U) (Ac (Z ?_)))))))))))))))
 refine Aw U (fun h6=>?_) (fun h6=>?_)
 ·refine Aa (Ae (Ah 2 U (Ac (Z (Am (Ay (B_ U U U ?_)))))))
  have e:=LX (op:=op) (stk:=stk) (by omega)
  replace H:=H.newnil AT|>.sel 3 [1,2,0] [] rfl (by kernel_rfl)
  replace H:Hd _ _ _ [blk r (A_ pv key vv fuel pos steps halted (.slice A1 stk.length c2) g tv mv) 288,Y AT (.slice A1 stk.length c2) stk,Y AT (.slice none 0 0) []] []:=H
  exact Ak ⟨_,_,by rw [e]<;>rfl,by rw [e]<;>rfl⟩ H
 refine Ax (Z (Aa (Gd mo (by kernel_rfl) H (D4 U (Bu U U (fun w H=>AF U U) (Bu U U (fun w H=>Aj U Gh U) (Bu U U (fun w H=>Al U Gr U (H.cellI 0 U U)) (D4 U (Bu U U (fun w H=>AF U U) (Bu U U (fun w H=>Aj U Gh U) (Bu U U (fun w H=>Al U Gr U (H.cellI 0 U U)) (Bu U U (fun w H=>Bf U Hh U) (D4 U (Bu U U (fun w H=>Dp U CF U) (Bu U U (fun w H=>Cz (z:=((stk.length - ((Ba op).size):Nat):Int)) U U U (by rw [AB (by omega) (by omega)];omega)) (Bu U U (fun w H=>Mf U BT U U (by omega) (by omega) U) (D4 U (Bu U U (fun w H=>AF U U) (Bu U U (fun w H=>Aj U Gh U) (Bu U U (fun w H=>Al U Gr U (H.cellI 0 U U)) ?_))))))))))))))))))))
 refine D4 U (Bu U U (fun w H=>AF U U) (Bu U U (fun w H=>Aj U Gh U) (Bu U U (fun w H=>Al U Gr U (H.cellI 0 U U)) (Bu U U (fun w H=>Bf U Hh U) (D4 U (Bu U U (fun w H=>Dp U CF U) (Bu U U (fun w H=>Cz (z:=((stk.length - ((Ba op).size):Nat):Int)) U U U (by rw [AB (by omega) (by omega)];omega)) (Bu U U (fun w H=>IH U BT U U (by omega) (by omega) U) (I2 2 U (Gs (fun w H=>(Z (Aa (Aa (Ae (Ad U (V U U (Bf U Hh U) (Ad U (Ac (Z (AS (BQ (σ:=Nat) (fun i=>[(0,.pointer (some ⟨r,0,none⟩)),(6,.string (Ba op)),(7,.slice A1 (stk.length - ((Ba op).size)) c2),(8,.slice (DC A1 c2 (stk.length - ((Ba op).size)) 3) (stk.length - (stk.length - ((Ba op).size))) (c2 - (stk.length - ((Ba op).size)))),(48,.slice (DC A1 c2 (stk.length - ((Ba op).size)) 3) (stk.length - (stk.length - ((Ba op).size))) (c2 - (stk.length - ((Ba op).size)))),(49,.int .i64 ((stk.length - (stk.length - ((Ba op).size)):Nat):Int)),(50,.int .i64 ((i:Nat):Int))]) (fun i w=>(Hd w0 F0 w [blk r (A_ pv key vv fuel pos steps halted (.slice A1 stk.length c2) g tv mv) 288,Y AT (.slice A1 stk.length c2) stk] [])∧(i≤(Ba op).size)∧(EM ((Ba op).data.toList.drop i) ((stk.drop (stk.length - (Ba op).size)).drop i)=EM (Ba op).data.toList (stk.drop (stk.length - (Ba op).size)))) (fun i=>(Ba op).size - i) 0 ⟨rfl,rfl,rfl,rfl,rfl,rfl,rfl,trivial⟩ ⟨H,Nat.zero_le _,rfl⟩ ?_))))))))))))))))))))))
 rintro i w ⟨H,hi,hf⟩
 refine Aa (Ae (V U U (Bd U U U) (Ac (Z (Aa ?_)))))
 refine Aw U (fun h7=>?_) (fun h7=>?_)
 ·refine Ax (Z (Aa (AS (Aa (Ae (Ad U ?_))))))
  obtain ⟨x8,hx9⟩:∃ z9,(stk.drop (stk.length - ((Ba op).size)))[i]?=some z9:=⟨_,List.getElem?_eq_getElem (show i<(stk.drop (stk.length - ((Ba op).size))).length by simp only [List.length_take,List.length_drop];omega)⟩
  have th10:=H.thX (fun F hA hR=>HR (BE F (hA _ (List.mem_of_getElem? (i:=1) rfl))) (i:=stk.length - ((Ba op).size)) (by omega)) hx9
  refine V U U (A0 (p:=AQ (DC A1 c2 (stk.length - ((Ba op).size)) 3)+i*3) U BT U U (by omega) (by omega) th10 U) (V U U (Bn (cs:=[.bool x8.t,.int .i64 x8.n,.string x8.b]) U C6 U U (H.elsX (fun F hA hR=>HR (BE F (hA _ (List.mem_of_getElem? (i:=1) U))) (i:=stk.length - ((Ba op).size)) (by omega)) hx9 U)) (Dk U U U Di H (fun b11 w H=>(Ad U (BD U U U C6 U U H U (Nat.le_of_ble_eq_true U) (fun u hu=>by simp [Value.cells] at hu;rcases hu with rfl|rfl|rfl<;>rfl) (fun w H=>?_))))))
  replace H:Hd _ _ _ [blk b11 [.bool x8.t,.int .i64 x8.n,.string x8.b] 284,blk r (A_ pv key vv fuel pos steps halted (.slice A1 stk.length c2) g tv mv) 288,Y AT (.slice A1 stk.length c2) stk] []:=H
  refine Ac (Z (Aa (Ae (Ah 2 U ?_))))
  obtain ⟨c12,hb13⟩:∃ c0,(Ba op)[i]?=some c0:=⟨_,getElem?_pos (Ba op) i (by omega)⟩
  refine V U U (II U CF U U (by omega) hb13) (V U U (AW U U U) (Ad U ?_))
  refine AN (d:=59) U (fun h14=>?_) (fun h14=>?_)
  ·refine V U U (Aj U G3 U) (V U U (Al U E5 U (H.cellI 0 U U)) (Ah 2 U ?_))
   refine GM (d:=63) (b:=x8.t) U (fun h15=>?_) (fun h15=>?_)
   ·refine Ah 10 U (Ac (Z (Ck U (Aa (Ae (Ah 2 U (Ac (Z (Am (AY (Ay (Ay (AY (Ay (B_ U U U ?_)))))))))))))))
    have hfit:Fd c12 x8=false:=by rw [GZ];simp_all
    have e:=Iy (op:=op) (stk:=stk) (by omega) (hf.symm.trans (K5 (GX hb13) hx9 hfit))
    replace H:=H.p2.p2.k2.newnil AT|>.p2|>.p2
    exact Ak ⟨_,_,by rw [e]<;>rfl,by rw [e]<;>rfl⟩ H
   refine Ah 2 U (V U U (II U CF U U (by omega) hb13) (V U U (AW U U U) (Ad U ?_)))
   refine AN (d:=68) U (fun h16=>?_) (fun h16=>?_)
   ·refine V U U (Aj U G3 U) (V U U (Al U E5 U (H.cellI 0 U U)) (V U U (Fl U U U) (Ah 2 U (Ac (Z ?_)))))
    refine DO (b:=!x8.t) U (fun h17=>?_) (fun h17=>?_)
    ·refine Aa (Ae (Ah 2 U (Ac (Z (Am (AY (Ay (Ay (AY (Ay (B_ U U U ?_)))))))))))
     have hfit:Fd c12 x8=false:=by rw [GZ];simp_all
     have e:=Iy (op:=op) (stk:=stk) (by omega) (hf.symm.trans (K5 (GX hb13) hx9 hfit))
     replace H:=H.p2.p2.k2.newnil AT|>.p2|>.p2
     exact Ak ⟨_,_,by rw [e]<;>rfl,by rw [e]<;>rfl⟩ H
    refine Ax (AU (Z (Ae (V U U (AX (z:=((i+1:Nat):Int)) U U U (by rw [AB (by omega) (by omega)];omega)) (Ad U (Ac ?_))))))
    have hfit:Fd c12 x8=true:=by rw [GZ];simp_all
    have hf2:=(Jl (GX hb13) hx9 hfit).trans hf
    replace H:=H.p2.p2.k2
    exact Bj (s:=i) (i+1) ⟨rfl,rfl,rfl,rfl,rfl,rfl,rfl,trivial⟩ ⟨H,by (try dsimp only);omega,hf2⟩ (by (try dsimp only);omega)
   refine Ah 5 U (Ac (Z (B7 U (Ax (AU (Z (Ae (V U U (AX (z:=((i+1:Nat):Int)) U U U (by rw [AB (by omega) (by omega)];omega)) (Ad U (Ac ?_))))))))))
   have hfit:Fd c12 x8=true:=by rw [GZ];simp_all
   have hf2:=(Jl (GX hb13) hx9 hfit).trans hf
   replace H:=H.p2.p2.k2
   exact Bj (s:=i) (i+1) ⟨rfl,rfl,rfl,rfl,rfl,rfl,rfl,trivial⟩ ⟨H,by (try dsimp only);omega,hf2⟩ (by (try dsimp only);omega)
  refine Ah 6 U (V U U (II U CF U U (by omega) hb13) (V U U (AW U U U) (Ad U ?_)))
  refine AN (d:=68) U (fun h18=>?_) (fun h18=>?_)
  ·refine V U U (Aj U G3 U) (V U U (Al U E5 U (H.cellI 0 U U)) (V U U (Fl U U U) (Ah 2 U (Ac (Z ?_)))))
   refine DO (b:=!x8.t) U (fun h19=>?_) (fun h19=>?_)
   ·refine Aa (Ae (Ah 2 U (Ac (Z (Am (AY (Ay (Ay (AY (Ay (B_ U U U ?_)))))))))))
    have hfit:Fd c12 x8=false:=by rw [GZ];simp_all
    have e:=Iy (op:=op) (stk:=stk) (by omega) (hf.symm.trans (K5 (GX hb13) hx9 hfit))
    replace H:=H.p2.p2.k2.newnil AT|>.p2|>.p2
    exact Ak ⟨_,_,by rw [e]<;>rfl,by rw [e]<;>rfl⟩ H
   refine Ax (AU (Z (Ae (V U U (AX (z:=((i+1:Nat):Int)) U U U (by rw [AB (by omega) (by omega)];omega)) (Ad U (Ac ?_))))))
   have hfit:Fd c12 x8=true:=by rw [GZ];simp_all
   have hf2:=(Jl (GX hb13) hx9 hfit).trans hf
   replace H:=H.p2.p2.k2
   exact Bj (s:=i) (i+1) ⟨rfl,rfl,rfl,rfl,rfl,rfl,rfl,trivial⟩ ⟨H,by (try dsimp only);omega,hf2⟩ (by (try dsimp only);omega)
  refine Ah 5 U (Ac (Z (B7 U (Ax (AU (Z (Ae (V U U (AX (z:=((i+1:Nat):Int)) U U U (by rw [AB (by omega) (by omega)];omega)) (Ad U (Ac ?_))))))))))
  have hfit:Fd c12 x8=true:=by rw [GZ];simp_all
  have hf2:=(Jl (GX hb13) hx9 hfit).trans hf
  replace H:=H.p2.p2.k2
  exact Bj (s:=i) (i+1) ⟨rfl,rfl,rfl,rfl,rfl,rfl,rfl,trivial⟩ ⟨H,by (try dsimp only);omega,hf2⟩ (by (try dsimp only);omega)
 refine BH (AR (AR (BI (Z (Aa (Ae (Ad U ?_)))))))
 replace H:=H.newnil AT
 refine CA (xs:=[]) (ys:=stk.drop (stk.length - ((Ba op).size))) U U U BT Di U (by decide) U U H (by simp only [List.length_nil];omega) (fun F hA hR=>HR (BE F (hA _ (List.mem_of_getElem? (i:=1) U))) (i:=stk.length - ((Ba op).size)) (by omega)) (fun v20 w H=>(Ad U (Ac (Z ?_))))
 replace H:Hd _ _ _ [Y AT v20 ([]++(stk.drop (stk.length - ((Ba op).size)))),blk r (A_ pv key vv fuel pos steps halted (.slice A1 stk.length c2) g tv mv) 288,Y AT (.slice A1 stk.length c2) stk] []:=H
 refine Aa (Ae (Ah 2 U (V U U (AF U U) (V U U (Aj U Gh U) ?_))))
 replace H:=H.p1
 refine BD U U U Gr U U H U (Nat.le_of_ble_eq_true U) (fun u hu=>by simp [Value.cells] at hu;subst hu;rfl) (fun w H=>?_)
 replace H:=H.h1 (A:=blk r (A_ pv key vv fuel pos steps halted (.slice A1 (stk.length - ((Ba op).size)) c2) g tv mv) 288)
 refine Ac (Z (Aa ?_))
 replace H:=H.p2.preO (stk.length - (Ba op).size) (by omega)|>.h1 (A:=Y AT (.slice A1 (stk.length - ((Ba op).size)) c2) (stk.take (stk.length - (Ba op).size)))
 refine Ae (Ah 3 U (Ac (Z (Am (B_ U U U ?_)))))
 replace H:=H.p1.h3 (C:=Y AT v20 (stk.drop (stk.length - (Ba op).size)))
 have e:=LV (op:=op) (stk:=stk) (by omega) (hf.symm.trans (SX (by simp only [List.length_drop];omega)))
 exact Ak ⟨_,_,by rw [e]<;>rfl,by rw [e]<;>rfl⟩ H
theorem D3 (r:Nat) (pv:Value) (key:ByteArray) (vv:Value) (fuel pos steps:Int) (halted:Bool) (sv:Value) (g:Nat→AL) (tv mv:Value) (stk:List AL) (vvs:Value) (vs:List AL) (hst:stk.length≤16) (hvs:vs.length≤16):
    Cn Tryz.prog 265 [.pointer (some ⟨r,0,none⟩),vvs] [blk r (A_ pv key vv fuel pos steps halted sv g tv mv) 288,Y AT sv stk] [Ab AT vvs vs] (fun v Bs=>∃ sv2,v=.int .i64 (Bc stk vs).1∧Bs=[blk r (A_ pv key vv fuel pos steps halted sv2 g tv mv) 288,Y AT sv2 (Bc stk vs).2]):=by
 intro w0 F0 H
 obtain ⟨A1,c2,rfl,hc3,hm4,hp5⟩:=H.fR 0 rfl
 refine enter Tryz.func265 U U (Nat.le_of_ble_eq_true U) (Aa (Ae (Ad U (Ac (Z ?_)))))
 replace H:Hd _ _ _ [blk r (A_ pv key vv fuel pos steps halted sv g tv mv) 288,Y AT sv stk] [Ab AT (.slice A1 vs.length c2) vs]:=H
 refine Aa (Aa (Ae (Ad U (V U U (Bf U Hh U) (Ad U (Ac (Z (AS (BQ (σ:=Nat) (fun k=>[(0,.pointer (some ⟨r,0,none⟩)),(1,.slice A1 vs.length c2),(7,.slice A1 vs.length c2),(8,.int .i64 ((vs.length:Nat):Int)),(9,.int .i64 ((k:Nat):Int))]) (fun k w=>(Hd w0 F0 w [blk r (A_ pv key vv fuel pos steps halted sv g tv mv) 288,Y AT sv stk] [Ab AT (.slice A1 vs.length c2) vs])∧(k≤vs.length)∧(∀ y∈vs.take k,Ev y=false)) (fun k=>vs.length - k) 0 ⟨rfl,rfl,rfl,rfl,rfl,trivial⟩ ⟨H,Nat.zero_le _,by (try dsimp only);simp⟩ ?_)))))))))
 rintro k w ⟨H,hk,hn⟩
 refine Aa (Ae (V U U (Bd U U U) (Ac (Z (Aa ?_)))))
 refine Aw U (fun h6=>?_) (fun h6=>?_)
 ·refine Ax (Z (Aa (AS (Aa (Ae ?_)))))
  obtain ⟨x7,hx8⟩:∃ z9,vs[k]?=some z9:=⟨_,List.getElem?_eq_getElem (show k<vs.length by omega)⟩
  have th9:=H.thR 0 rfl hx8
  refine V U U (A0 (p:=AQ A1+k*3) U BT U U (by omega) (by omega) th9 U) (V U U (Bn (cs:=[.bool x7.t,.int .i64 x7.n,.string x7.b]) U C6 U U (H.elsR 0 U hx8 U)) (Dk U U U Di H (fun b10 w H=>(BD U U U C6 U U H U (Nat.le_of_ble_eq_true U) (fun u hu=>by simp [Value.cells] at hu;rcases hu with rfl|rfl|rfl<;>rfl) (fun w H=>?_)))))
  replace H:=H.h1 (A:=blk b10 [.bool x7.t,.int .i64 x7.n,.string x7.b] 284)
  refine Ac (Z (Aa (Ae (V U U (Aj U G3 U) (V U U (Al U E5 U (H.cellI 0 U U)) (Ad U ?_))))))
  refine GM (d:=15) (b:=x7.t) U (fun h11=>?_) (fun h11=>?_)
  ·refine V U U (Aj U Fx U) (V U U (Al U BR U (H.cellI 0 U U)) (V U U (Dp U CF U) (V U U (CK U U U) (Ad U (Ac (Z ?_))))))
   refine Aw U (fun h12=>?_) (fun h12=>?_)
   ·refine Aa (Ae (Ad U (Ac (Z (Am (AY (Ay (Ay (AY (Ay (Aq U U ?_)))))))))))
    have e:=W4 (stk:=stk) hx8 (RG h11 h12)
    replace H:=H.p2.p2.k2
    exact Ak ⟨_,by rw [e]<;>rfl,by rw [e]<;>rfl⟩ H
   refine Ax (AU (Z (Ae (V U U (AX (z:=((k+1:Nat):Int)) U U U (by rw [AB (by omega) (by omega)];omega)) (Ad U (Ac ?_))))))
   replace H:=H.p2.p2.k2
   exact Bj (s:=k) (k+1) ⟨rfl,rfl,rfl,rfl,rfl,trivial⟩ ⟨H,by (try dsimp only);omega,HY hn hx8 (Nr (.inr h12))⟩ (by (try dsimp only);omega)
  refine Ah 5 U (Ac (Z (B7 U (Ax (AU (Z (Ae (V U U (AX (z:=((k+1:Nat):Int)) U U U (by rw [AB (by omega) (by omega)];omega)) (Ad U (Ac ?_))))))))))
  replace H:=H.p2.p2.k2
  exact Bj (s:=k) (k+1) ⟨rfl,rfl,rfl,rfl,rfl,trivial⟩ ⟨H,by (try dsimp only);omega,HY hn hx8 (Nr (.inl h11))⟩ (by (try dsimp only);omega)
 refine BH (AR (AR (BI (Z (Aa (Aa (Ae (Ad U (V U U (AF U U) (V U U (Aj U Gh U) (V U U (Al U Gr U (H.cellI 0 U U)) ?_)))))))))))
 obtain ⟨A13,c14,rfl,hc15,hm16,hp17⟩:=H.fA 1 rfl
 refine V U U (Bf U Hh U) (Ad U (V U U (Bf U Hh U) (V U U (AX (z:=((stk.length+vs.length:Nat):Int)) U U U (by rw [AB (by omega) (by omega)];omega)) (V U U (CK U U U) (Ac (Z ?_))))))
 refine Aw U (fun h18=>?_) (fun h18=>?_)
 ·refine Aa (Ae (Ad U (Ac (Z (Am (Ay (Aq U U ?_)))))))
  have e:=W6 (stk:=stk) (vs:=vs) (by rw [List.take_of_length_le (by omega)] at hn;exact hn) (by omega)
  exact Ak ⟨_,by rw [e]<;>rfl,by rw [e]<;>rfl⟩ H
 refine Ax (Z (Aa (Ae (Ah 2 U (V U U (AF U U) (V U U (Aj U Gh U) (V U U (Al U Gr U (H.cellI 0 U U)) (Ad U ?_))))))))
 replace H:=H.p1
 refine CA (xs:=stk) (ys:=vs) U U U BT Di U (by decide) U U H (by omega) (fun F hA hR=>hR _ (List.mem_of_getElem? (i:=0) U)) (fun v19 w H=>(V U U (AF U U) (V U U (Aj U Gh U) ?_)))
 obtain ⟨A20,c21,rfl,hc22,hm23,hp24⟩:=H.fA 0 rfl
 replace H:=H.p1
 refine BD U U U Gr U U H U (Nat.le_of_ble_eq_true U) (fun u hu=>by simp [Value.cells] at hu;subst hu;rfl) (fun w H=>?_)
 replace H:Hd _ _ _ [blk r (A_ pv key vv fuel pos steps halted (.slice A20 ((stk++vs).length) c21) g tv mv) 288,Y AT (.slice A20 ((stk++vs).length) c21) (stk++vs)] [Ab AT (.slice A1 vs.length c2) vs]:=H
 refine Ac (Z (Aa (Ae (Ad U (Ac (Z (Am (Aq U U ?_))))))))
 have e:=W5 (stk:=stk) (vs:=vs) (by rw [List.take_of_length_le (by omega)] at hn;exact hn) (by omega)
 exact Ak ⟨_,by rw [e]<;>rfl,by rw [e]<;>rfl⟩ H
theorem V2 (r:Nat) (pv:Value) (key:ByteArray) (vv:Value) (fuel pos steps:Int) (halted:Bool) (sv:Value) (g:Nat→AL) (tv mv:Value) (stk:List AL) (vals:List ByteArray) (hst:stk.length≤16):
    Cn Tryz.prog 268 [.pointer (some ⟨r,0,none⟩)] [blk r (A_ pv key vv fuel pos steps halted sv g tv mv) 288,Y AT sv stk] [Ab Be vv vals] (fun v Bs=>∃ sv2 vv2,v=.int .i64 (E0 stk vals).1∧CX Be vv vals vv2 (E0 stk vals).2.2∧Bs=[blk r (A_ pv key vv2 fuel pos steps halted sv2 g tv mv) 288,Y AT sv2 (E0 stk vals).2.1]):=by
 intro w0 F0 H
 obtain ⟨A1,c2,rfl,hc3,hm4,hp5⟩:=H.fR 0 rfl
 refine enter Tryz.func268 U U (Nat.le_of_ble_eq_true U) (Aa (Ae (Ad U (Ac (Z ?_)))))
 replace H:Hd _ _ _ [blk r (A_ pv key (.slice A1 vals.length c2) fuel pos steps halted sv g tv mv) 288,Y AT sv stk] [Ab Be (.slice A1 vals.length c2) vals]:=H
 refine Aa (Aa (Ae (Ad U (V U U (AF U U) (V U U (Aj U Jy U) (V U U (Al U Kt U (H.cellI 0 U U)) (V U U (Bf U QX U) (V U U (AW U U U) (Ac (Z ?_))))))))))
 refine Aw U (fun h6=>?_) (fun h6=>?_)
 ·refine Aa ?_
  have hv0:vals=[]:=List.eq_nil_of_length_eq_zero (by omega)
  refine Ae (Ad U (sc (FI 0) H l0 U U (Au FA U U) ?_))
  rintro _ _ w ⟨rfl,rfl⟩ H
  refine BW (parts:=[(0,.tmp 11)]) (vs:=[.agg #[.bool false,.int .i64 0,.string ⟨#[]⟩]]) (cs:=[.bool false,.int .i64 0,.string ⟨#[]⟩]) U U U BT Di U (by decide) (by decide) U U H (fun b7 w H=>?_)
  replace H:=H.h1 (A:=blk b7 [.bool false,.int .i64 0,.string ⟨#[]⟩] 284)|>.p2|>.p2
  refine sc (D3 r pv key (.slice A1 vals.length c2) fuel pos steps halted sv g tv mv stk (.slice (some ⟨b7,0,none⟩) 1 1) [(⟨false,0,⟨#[]⟩⟩:AL)] (by omega) (Nat.le_of_ble_eq_true U)) H (lA 0 U (fun F h=>Cp h rfl (by decide) (AV.flat_eq.2 U)) l0) U U (Au D0 U U) ?_
  rintro _ _ w ⟨s8,rfl,rfl⟩ H
  replace H:=H.h2 (A:=blk r (A_ pv key (.slice A1 vals.length c2) fuel pos steps halted s8 g tv mv) 288) (B:=Y AT s8 ((Bc stk [(⟨false,0,⟨#[]⟩⟩:AL)]).2))
  refine Ad U (Ac (Z (Am (Ay (Aq U U ?_)))))
  replace H:=H.k2
  have e:E0 stk vals=((Bc stk [C8 0]).1,(Bc stk [C8 0]).2,[]):=by rw [hv0];rfl
  exact Ak ⟨s8,.slice A1 vals.length c2,by rw [e]<;>rfl,by rw [e,hv0]<;>exact CX.refl _ _ _,by rw [e]<;>rfl⟩ H
 refine Ax (Z (Aa (Ae (Ad U (V U U (AF U U) (V U U (Aj U Jy U) (V U U (Al U Kt U (H.cellI 0 U U)) ?_)))))))
 obtain ⟨x9,hx10⟩:∃ z9,vals[0]?=some z9:=⟨_,List.getElem?_eq_getElem (show 0<vals.length by omega)⟩
 have th11:=H.thR 0 rfl hx10
 refine V U U (A0 (p:=AQ A1+0*1) U GO U U (by omega) (by omega) th11 (by omega)) (V U U (Al U BR U (H.elR 0 U hx10 (q:=0) U U)) (Ad U (Ac (Z (Aa (Ae (Ah 2 U (V U U (AF U U) (V U U (Aj U Jy U) (V U U (Al U Kt U (H.cellI 0 U U)) (V U U (IH U GO U U (by omega) (by omega) U) (V U U (AF U U) (V U U (Aj U Jy U) (BD U U U Kt U U H U (Nat.le_of_ble_eq_true U) (fun u hu=>by simp [Value.cells] at hu;subst hu;rfl) (fun w H=>?_)))))))))))))))
 replace H:=H.h1 (A:=blk r (A_ pv key (.slice (DC A1 c2 1 1) (vals.length - 1) (c2 - 1)) fuel pos steps halted sv g tv mv) 288)
 refine Ac (Z (Aa (Ae (Ah 2 U (sc (H_ x9) H l0 U U (Au HG U U) ?_)))))
 rintro _ _ w ⟨rfl,rfl⟩ H
 refine sc (FI 1) H l0 U U (Au FA U U) ?_
 rintro _ _ w ⟨rfl,rfl⟩ H
 refine BW (parts:=[(0,.tmp 30),(1,.tmp 31)]) (vs:=[.agg #[.bool true,.int .i64 0,.string x9],.agg #[.bool false,.int .i64 1,.string ⟨#[]⟩]]) (cs:=[.bool true,.int .i64 0,.string x9,.bool false,.int .i64 1,.string ⟨#[]⟩]) U U U BT Di U (by decide) (by decide) U U H (fun b12 w H=>?_)
 replace H:=H.h1 (A:=blk b12 [.bool true,.int .i64 0,.string x9,.bool false,.int .i64 1,.string ⟨#[]⟩] 284)|>.p2|>.p2
 refine sc (D3 r pv key (.slice (DC A1 c2 1 1) (vals.length - 1) (c2 - 1)) fuel pos steps halted sv g tv mv stk (.slice (some ⟨b12,0,none⟩) 2 2) [(⟨true,0,x9⟩:AL),(⟨false,1,⟨#[]⟩⟩:AL)] (by omega) (Nat.le_of_ble_eq_true U)) H (lA 0 U (fun F h=>Cp h rfl (by decide) (AV.flat_eq.2 U)) l0) U U (Au D0 U U) ?_
 rintro _ _ w ⟨s13,rfl,rfl⟩ H
 replace H:=H.h2 (A:=blk r (A_ pv key (.slice (DC A1 c2 1 1) (vals.length - 1) (c2 - 1)) fuel pos steps halted s13 g tv mv) 288) (B:=Y AT s13 ((Bc stk [(⟨true,0,x9⟩:AL),(⟨false,1,⟨#[]⟩⟩:AL)]).2))
 refine Ad U (Ac (Z (Am (Aq U U ?_))))
 replace H:=H.k2
 have e:=V1 (stk:=stk) hx10
 exact Ak ⟨s13,.slice (DC A1 c2 1 1) (vals.length - 1) (c2 - 1),by rw [e]<;>rfl,by rw [e];exact fun w F h=>HR h (by omega),by rw [e]<;>rfl⟩ H
theorem SB (r:Nat) (pv:Value) (key:ByteArray) (vv:Value) (fuel pos steps:Int) (halted:Bool) (sv:Value) (g:Nat→AL) (tv mv:Value) (told:List An) (ek ew:ByteArray) (hto:told.length≤40):
    Cn Tryz.prog 276 [.pointer (some ⟨r,0,none⟩),.string ek,.string ew] [blk r (A_ pv key vv fuel pos steps halted sv g tv mv) 288,Y Ag tv told] [] (fun v Bs=>∃ tv2,v=.int .i64 (DJ told ek ew).1∧Bs=[blk r (A_ pv key vv fuel pos steps halted sv g tv2 mv) 288,Y Ag tv2 (DJ told ek ew).2]):=by
 intro w0 F0 H
 obtain ⟨A1,c2,rfl,hc3,hm4,hp5⟩:=H.fA 1 rfl
 refine enter Tryz.func276 U U (Nat.le_of_ble_eq_true U) (Aa (Ae (Ad U (Ac (Z ?_)))))
 replace H:Hd _ _ _ [blk r (A_ pv key vv fuel pos steps halted sv g (.slice A1 told.length c2) mv) 288,Y Ag (.slice A1 told.length c2) told] []:=H
 refine Aa (AS (Aa (Ae (Ad U (V U U (Dp U CF U) (V U U (CK U U U) (Ad U (Ac (Z ?_)))))))))
 refine Aw U (fun h6=>?_) (fun h6=>?_)
 ·refine Aa (Ae (Ad U (Ac (Z (Am (AY (Ay (Aq U U ?_))))))))
  have e:=Sx (told:=told) (k:=ek) (v:=ew) h6
  exact Ak ⟨_,by rw [e]<;>rfl,by rw [e]<;>rfl⟩ H
 refine Aa (Ae (Ad U (V U U (AF U U) (V U U (Aj U Jz U) (V U U (Al U EF U (H.cellI 0 U U)) (V U U (Bf U C7 U) (V U U (CJ U U U) (Ad U (Ac (Z ?_))))))))))
 refine Aw U (fun h7=>?_) (fun h7=>?_)
 ·refine Aa (Ae (Ad U (Ac (Z (Am (AY (Ay (Aq U U ?_))))))))
  have e:=SA (told:=told) (k:=ek) (v:=ew) h6 (by omega)
  exact Ak ⟨_,by rw [e]<;>rfl,by rw [e]<;>rfl⟩ H
 refine Ax (AU (Z (Aa (Ae (Ah 2 U (V U U (AF U U) (V U U (Aj U Jz U) (V U U (Al U EF U (H.cellI 0 U U)) (Ah 2 U (V U U (CQ (parts:=[(0,.tmp 23),(1,.tmp 24)]) (vs:=[.string ek,.string ew]) (cs:=[.string ek,.string ew]) U Nn U U) (BW (parts:=[(0,.tmp 25)]) (vs:=[.agg #[.string ek,.string ew]]) (cs:=[.string ek,.string ew]) U U U By C9 U (by decide) (by decide) U U H (fun b8 w H=>?_))))))))))))
 replace H:=H.p2
 refine CA (xs:=told) (ys:=[(⟨ek,ew⟩:An)]) U U U By C9 U (by decide) U U H (by first |omega|(simp only [List.length_cons,List.length_nil];omega)) (fun F hA hR=>Cp (hA _ (List.mem_of_getElem? (i:=0) U)) U (by decide) (AV.flat_eq.2 U)) (fun v9 w H=>(V U U (AF U U) (V U U (Aj U Jz U) ?_)))
 obtain ⟨A10,c11,rfl,hc12,hm13,hp14⟩:=H.fA 0 rfl
 replace H:=H.p2
 refine BD U U U EF U U H U (Nat.le_of_ble_eq_true U) (fun u hu=>by simp [Value.cells] at hu;subst hu;rfl) (fun w H=>?_)
 replace H:Hd _ _ _ [blk r (A_ pv key vv fuel pos steps halted sv g (.slice A10 ((told++[(⟨ek,ew⟩:An)]).length) c11) mv) 288,Y Ag (.slice A10 ((told++[(⟨ek,ew⟩:An)]).length) c11) (told++[(⟨ek,ew⟩:An)]),blk b8 [.string ek,.string ew] 106] []:=H
 refine Ac (Z (Aa (Ae (Ad U (Ac (Z (Am (Aq U U ?_))))))))
 replace H:=H.k2
 have e:=Sy (told:=told) (k:=ek) (v:=ew) h6 (by omega)
 exact Ak ⟨_,by rw [e]<;>rfl,by rw [e]<;>rfl⟩ H
section
variable {D:A8} {key:ByteArray} {m:VM} {i:BO} {v:List AL}
theorem KR (h:(Av i.op m.stk).1≠0):BA D key m i=(m,(Av i.op m.stk).1):=if_pos h
theorem Dg (h:¬ (Av i.op m.stk).1≠0):BA D key m i=B3 D key {m with stk:=(Av i.op m.stk).2.1} i (Av i.op m.stk).2.2:=if_neg h
theorem MX (h:i.op=0):B3 D key m i v=({m with halted:=true},0):=by unfold B3;rw [h];rfl
theorem MY (h:i.op=1):B3 D key m i v=CU m [C8 i.a]:=by unfold B3;rw [h];rfl
theorem M7 (h:i.op=2):B3 D key m i v=CU m [Ep i.s]:=by unfold B3;rw [h];rfl
theorem Nb (h:i.op=3):B3 D key m i v=CU m [v.getD 0 CC,v.getD 0 CC]:=by unfold B3;rw [h];rfl
theorem Nc (h:i.op=4):B3 D key m i v=(m,0):=by unfold B3;rw [h];rfl
theorem Nd (h:i.op=5):B3 D key m i v=CU m [v.getD 1 CC,v.getD 0 CC]:=by unfold B3;rw [h];rfl
theorem Nf (h:i.op=6):B3 D key m i v=CU m [Ep key]:=by unfold B3;rw [h];rfl
theorem Ng (h:i.op=7):B3 D key m i v=GF m:=by unfold B3;rw [h];rfl
theorem If (h:i.op=8∨i.op=9∨i.op=10∨i.op=11):B3 D key m i v=CU m [Bx i.op (v.getD 0 CC).n (v.getD 1 CC).n]:=by
 unfold B3
 rcases h with h|h|h|h<;>(rw [h];rfl)
theorem MZ (h:i.op=12):B3 D key m i v=CU m [PJ (Em (v.getD 0 CC) (v.getD 1 CC))]:=by unfold B3;rw [h];rfl
theorem M0 (h:i.op=13):B3 D key m i v=CU m [Ep ((v.getD 0 CC).b++(v.getD 1 CC).b)]:=by unfold B3;rw [h];rfl
theorem M1 (h:i.op=14):B3 D key m i v=CU m [C8 (v.getD 0 CC).b.size]:=by unfold B3;rw [h];rfl
theorem M2 (h:i.op=15):B3 D key m i v=CU m [C8 (Eu (v.getD 0 CC).b (v.getD 1 CC).n)]:=by unfold B3;rw [h];rfl
theorem M3 (h:i.op=16):B3 D key m i v=CU m [Ep (Fb (v.getD 0 CC).b (v.getD 1 CC).n (v.getD 2 CC).n)]:=by unfold B3;rw [h];rfl
theorem M4 (h:i.op=17):B3 D key m i v=CU m [Ep (D.dig (v.getD 0 CC).n)]:=by unfold B3;rw [h];rfl
theorem M5 (h:i.op=18):B3 D key m i v=CU m [C8 (D.num (v.getD 0 CC).b)]:=by unfold B3;rw [h];rfl
theorem M6 (h:i.op=19):B3 D key m i v=({m with pos:=i.a},0):=by unfold B3;rw [h];rfl
theorem KG (h:i.op=20):B3 D key m i v=(if (v.getD 0 CC).n≠0 then {m with pos:=i.a} else m,0):=by unfold B3;rw [h];rfl
theorem M8 (h:i.op=21):B3 D key m i v=CU m [m.g i.a.toNat]:=by unfold B3;rw [h];rfl
theorem M9 (h:i.op=22):B3 D key m i v=({m with g:=HU m.g i.a.toNat (v.getD 0 CC)},0):=by unfold B3;rw [h];rfl
theorem M_ (h:i.op=23):B3 D key m i v=({m with told:=(DJ m.told (v.getD 0 CC).b (v.getD 1 CC).b).2},(DJ m.told (v.getD 0 CC).b (v.getD 1 CC).b).1):=by unfold B3;rw [h];rfl
theorem VV {op:Int} {stk:List AL} (h:(Av op stk).1≠0):(Av op stk).2.1=stk:=by
 by_cases h1:stk.length<(Ba op).size
 ·rw [LX h1]
 ·cases h2:EM (Ba op).data.toList (stk.drop (stk.length - (Ba op).size)) with
  |false=>rw [Iy h1 h2]
  |true=>rw [LV h1 h2] at h;exact absurd rfl h
theorem C_ {k:Nat} {x:AL} (h:v[k]?=some x):v.getD k CC=x:=by rw [List.getD_eq_getElem?_getD,h];rfl
theorem PB:GF m=({m with stk:=(E0 m.stk m.vals).2.1,vals:=(E0 m.stk m.vals).2.2},(E0 m.stk m.vals).1):=by
 unfold GF
 split
 ·rename_i h
  rw [h]
  cases m
  simp only at h
  subst h
  rfl
 ·rename_i x xs h
  rw [h]
  rfl
end
structure Ed (n:Int) (m:VM):Prop where
 ok:(∀ v∈m.stk,EI v)∧∀ k,EI (m.g k)
 len:m.stk.length≤16
 told:m.told.length≤40
 pos:0≤m.pos∧m.pos≤n
theorem W9 {stk vs:List AL} (h:(Bc stk vs).1=0):(Bc stk vs).2=stk++vs∧∀ v∈vs,Ev v=false:=by
 unfold Bc at h ⊢
 split at h
 ·cases h
 ·rename_i h1
  rw [if_neg h1]
  split at h
  ·cases h
  ·rename_i h2
   rw [if_neg h2]
   refine ⟨rfl,fun v hv=>?_⟩
   cases hb:Ev v with
   |false=>rfl
   |true=>exact absurd (List.any_eq_true.2 ⟨v,hv,hb⟩) h1
theorem RF {v:AL} (h:Ev v=false) (ht:v.t=true):v.b.size≤64:=by
 unfold Ev at h
 rw [ht,Bool.true_and] at h
 have:=of_decide_eq_false h
 omega
theorem Ei {n:Int} {m:VM} {vs:List AL} (hm:Ed n m) (h:(CU m vs).2=0) (hv:∀ v∈vs,AP v.n∧(v.t=false→v.b.size≤64)):Ed n (CU m vs).1:=by
 obtain ⟨h1,h2⟩:=W9 (stk:=m.stk) (vs:=vs) h
 refine ⟨⟨fun v hv'=>?_,hm.ok.2⟩,?_,hm.told,hm.pos⟩
 ·have hv2:v∈(Bc m.stk vs).2:=hv'
  rw [h1] at hv2
  rcases List.mem_append.1 hv2 with h3|h3
  ·exact hm.ok.1 v h3
  ·refine ⟨(hv v h3).1,?_⟩
   cases ht:v.t with
   |false=>exact (hv v h3).2 ht
   |true=>exact RF (h2 v h3) ht
 ·exact W8 _ _ hm.len
theorem PC:(⟨#[]⟩:ByteArray).size≤64:=by decide
theorem Iq:AP 0:=by unfold AP;decide
theorem L2:EI CC:=⟨Iq,PC⟩
theorem G6 {n:Int} (h:AP n):∀ v∈[C8 n],AP v.n∧(v.t=false→v.b.size≤64):=by
 intro v hv
 rw [List.mem_singleton.1 hv]
 exact ⟨h,fun _=>PC⟩
theorem HK (s:ByteArray):∀ v∈[Ep s],AP v.n∧(v.t=false→v.b.size≤64):=by
 intro v hv
 rw [List.mem_singleton.1 hv]
 exact ⟨Iq,fun h=>by cases h⟩
theorem L1 {v:AL} (h:EI v):AP v.n∧(v.t=false→v.b.size≤64):=⟨h.1,fun _=>h.2⟩
theorem L0 {v:List AL} (h:∀ x∈v,EI x) (k:Nat):EI (v.getD k CC):=by
 rw [List.getD_eq_getElem?_getD]
 cases hk:v[k]? with
 |none=>exact L2
 |some x=>exact h x (Cc hk)
theorem Rk (s:ByteArray) (i:Int):AP (Eu s i):=by
 unfold Eu
 split
 ·unfold AP;omega
 ·have:=UInt8.toNat_lt (s[i.toNat]?.getD 0)
  unfold AP
  omega
theorem TK {D:A8} (hD:∀ s:ByteArray,AP (D.num s)) {key:ByteArray} {n:Int} {m:VM} {i:BO} {v:List AL} (hm:Ed n m) (hi:BB i n) (ha:AP i.a) (hv:∀ x∈v,EI x) (h:(B3 D key m i v).2=0):Ed n (B3 D key m i v).1:=by
 have h0:=L0 hv 0
 have h1:=L0 hv 1
 have g1:=hi.1
 have g2:=hi.2.1
 have two:∀ {a b:AL},EI a→EI b→∀ x∈[a,b],AP x.n∧(x.t=false→x.b.size≤64):=by
  intro a b pa pb x hx
  rcases List.mem_cons.1 hx with rfl|hx
  ·exact L1 pa
  ·rw [List.mem_singleton.1 hx];exact L1 pb
 have one:∀ {a:AL},EI a→∀ x∈[a],AP x.n∧(x.t=false→x.b.size≤64):=by
  intro a pa x hx
  rw [List.mem_singleton.1 hx];exact L1 pa
 have bit:∀ b:Bool,AP (if b then 1 else 0):=by intro b;cases b<;>(unfold AP;decide)
 rcases (show i.op=0∨i.op=1∨i.op=2∨i.op=3∨i.op=4∨i.op=5∨i.op=6∨i.op=7∨(i.op=8∨i.op=9∨i.op=10∨i.op=11)∨i.op=12∨i.op=13∨i.op=14∨i.op=15∨i.op=16∨i.op=17∨i.op=18∨i.op=19∨i.op=20∨i.op=21∨i.op=22∨i.op=23 by omega) with
  e|e|e|e|e|e|e|e|e|e|e|e|e|e|e|e|e|e|e|e|e
 ·rw [MX e] at h ⊢;exact ⟨hm.ok,hm.len,hm.told,hm.pos⟩
 ·rw [MY e] at h ⊢;exact Ei hm h (G6 ha)
 ·rw [M7 e] at h ⊢;exact Ei hm h (HK _)
 ·rw [Nb e] at h ⊢;exact Ei hm h (two h0 h0)
 ·rw [Nc e] at h ⊢;exact hm
 ·rw [Nd e] at h ⊢;exact Ei hm h (two h1 h0)
 ·rw [Nf e] at h ⊢;exact Ei hm h (HK _)
 ·rw [Ng e] at h ⊢
  unfold GF at h ⊢
  split at h
  ·exact Ei hm h (G6 (by unfold AP;omega))
  ·rename_i x xs hx
   have hm2:Ed n {m with vals:=xs}:=⟨hm.ok,hm.len,hm.told,hm.pos⟩
   refine Ei hm2 h fun y hy=>?_
   rcases List.mem_cons.1 hy with rfl|hy
   ·exact HK x _ (List.mem_singleton.2 U)
   ·exact G6 (n:=1) (by unfold AP;omega) y hy
 ·rw [If e] at h ⊢;exact Ei hm h (one (We _ _ _))
 ·rw [MZ e] at h ⊢;exact Ei hm h (G6 (bit _))
 ·rw [M0 e] at h ⊢;exact Ei hm h (HK _)
 ·rw [M1 e] at h ⊢;exact Ei hm h (G6 (by have:=h0.2;unfold AP;omega))
 ·rw [M2 e] at h ⊢;exact Ei hm h (G6 (Rk _ _))
 ·rw [M3 e] at h ⊢;exact Ei hm h (HK _)
 ·rw [M4 e] at h ⊢;exact Ei hm h (HK _)
 ·rw [M5 e] at h ⊢;exact Ei hm h (G6 (hD _))
 ·rw [M6 e] at h ⊢
  have:=hi.2.2.2.2.1 (.inl e)
  exact ⟨hm.ok,hm.len,hm.told,⟨this.1,this.2.1⟩⟩
 ·rw [KG e] at h ⊢
  have:=hi.2.2.2.2.1 (.inr e)
  split
  ·exact ⟨hm.ok,hm.len,hm.told,⟨this.1,this.2.1⟩⟩
  ·exact hm
 ·rw [M8 e] at h ⊢;exact Ei hm h (one (hm.ok.2 _))
 ·rw [M9 e] at h ⊢
  refine ⟨⟨hm.ok.1,fun k=>?_⟩,hm.len,hm.told,hm.pos⟩
  show EI (if k=i.a.toNat then v.getD 0 CC else m.g k)
  split
  ·exact h0
  ·exact hm.ok.2 k
 ·rw [M_ e] at h ⊢
  refine ⟨hm.ok,hm.len,?_,hm.pos⟩
  show (DJ m.told (v.getD 0 CC).b (v.getD 1 CC).b).2.length≤40
  have:=hm.told
  unfold DJ
  split
  ·exact this
  ·split
   ·exact this
   ·simp only [List.length_append,List.length_cons,List.length_nil];omega
theorem OH {D:A8} (hD:∀ s:ByteArray,AP (D.num s)) {key:ByteArray} {n:Int} {m:VM} {i:BO} (hm:Ed n m) (hi:BB i n) (ha:AP i.a) (h:(BA D key m i).2=0):Ed n (BA D key m i).1:=by
 by_cases hN:(Av i.op m.stk).1≠0
 ·rw [KR hN] at h;exact absurd h hN
 ·rw [Dg hN] at h ⊢
  obtain ⟨l1,l2,l3,l4⟩:=LW (Classical.not_not.1 hN)
  exact TK hD ⟨⟨fun v hv=>hm.ok.1 v (l4 v hv),hm.ok.2⟩,Nat.le_trans l2 hm.len,hm.told,hm.pos⟩ hi ha (fun x hx=>hm.ok.1 x (l3 x hx)) h
section
variable {D:A8} {p:List BO} {key:ByteArray} {m:VM} {i:BO}
theorem Ma (k:Nat) (h:¬ (m.pos<p.length∧m.halted=false)):CE D p key k m=(m,0):=by
 cases k<;>exact if_neg h
theorem WV (h:m.pos<p.length∧m.halted=false):CE D p key 0 m=(m,3):=if_pos h
theorem PV {k:Nat} (h:m.pos<p.length∧m.halted=false) (hi:p[m.pos.toNat]?=some i) (hw:(BA D key {m with pos:=m.pos+1} i).2≠0):CE D p key (k+1) m=BA D key {m with pos:=m.pos+1} i:=by
 unfold CE
 rw [if_pos h,hi]
 exact if_pos hw
theorem PW {k:Nat} (h:m.pos<p.length∧m.halted=false) (hi:p[m.pos.toNat]?=some i) (hw:¬ (BA D key {m with pos:=m.pos+1} i).2≠0):CE D p key (k+1) m=CE D p key k (BA D key {m with pos:=m.pos+1} i).1:=by
 conv=>lhs;unfold CE
 rw [if_pos h,hi]
 exact if_neg hw
end
theorem TJ (n:Nat) (vals:List ByteArray):Ed n (Dr vals) where
 ok:=⟨fun v hv=>(by cases hv),fun _=>L2⟩
 len:=Nat.zero_le _
 told:=Nat.zero_le _
 pos:=⟨Int.le_refl 0,Int.natCast_nonneg n⟩
theorem VF {xs:List BO} (h:Dt xs<0):∀ x∈xs,BB x xs.length:=by
 by_cases hl:xs.length≤40
 ·exact (Nl hl).1 h
 ·exfalso
  unfold Dt at h
  split at h
  ·omega
  ·rw [if_pos (by omega)] at h
   omega
theorem TM {n:Int} {m:VM} (h:Ed n m) (hp:m.pos<n):Ed n {m with pos:=m.pos+1}:=⟨h.ok,h.len,h.told,⟨by have:=h.pos;show 0≤m.pos+1;omega,by show m.pos+1≤n;omega⟩⟩
def Ls (P:Program) (name:String) (Q:Array Value→Prop):SP where
 P w F:=∃ g,P.globalNamed name=some g∧F g∧∃ cs,w.var? P name=some cs∧Q cs
 loc:=fun ⟨g,h1,h2,cs,h3,h4⟩ hk=>⟨g,h1,h2,cs,by
  unfold World.var? at h3 ⊢
  rw [h1] at h3 ⊢
  simp only [Option.bind_some] at h3 ⊢
  rw [hk g h2]
  exact h3,h4⟩
 mono:=fun ⟨g,h1,h2,h3⟩ hs=>⟨g,h1,hs g h2,h3⟩
def Nv (A B:SP):SP where
 P w F:=A.P w F∧B.P w F
 loc:=fun ⟨a,b⟩ hk=>⟨SP.loc _ a hk,SP.loc _ b hk⟩
 mono:=fun ⟨a,b⟩ hs=>⟨SP.mono _ a hs,SP.mono _ b hs⟩
section
variable {w0 w w':World} {F0:AH} {As Rs:List SP}
theorem Hd.after (H:Hd w0 F0 w As Rs) (ub:B9 none_ w w'):Hd w0 F0 w' As Rs:=by
 have h:Hd w0 F0 w' (BS True::As) Rs:=H.new ub (F':=none_) trivial (fun _ h=>h.elim)
 exact h.drop
theorem MJ (h:Go.RowKit.Below w.heap.size w w'):B9 none_ w w':=⟨h.os,h.tape,h.output,h.size,fun k hk _=>h.block k hk⟩
theorem Zn (w:World) (k:Nat) (os:Array Obj):B9 none_ w (Sort.grow (w.drewN k) os):=⟨rfl,rfl,rfl,by simp [Sort.grow],fun i hi _=>by
 show (w.heap++os)[i]?=_
 rw [Array.getElem?_append_left hi]⟩
end
/-! ### Calls that were put off -/
def KF (P:Program) (f:FuncId) (args:List Value) (As Rs:List SP) (T:Value→List SP→Prop):Prop:=
 ∀ w F u,Hd w F w As Rs→CallsD P f args.toArray u w fun e u' w'=>u'=u∧Hp (fun v w'=>∃ Bs,T v Bs∧Hd w F w' Bs Rs) e w'
theorem NV {P:Program} {n:Nat} {w:World} {f:FuncId} {fn:Func} {c:Code} {args:List Value} {u:FrameMode} {R:Ending→World→Prop} (hf:P.funcs[f]?=some fn) (hb:fn.body=some c) (hn:fn.ntmps=n) (hl:args.length≤n)
  (h:WC P c (bodyPost P fn R) n (Hx 0 args) w):CallsD P f args.toArray u w fun e u' w'=>u'=u∧R e w':=by
 refine callsD_of_wp hf hb (h _ ⟨rfl,?_,?_⟩)
 ·simp only [Array.size_append,List.size_toArray,Array.size_replicate,hn]
  omega
 ·intro s v hs
  obtain ⟨_,h2⟩:=LO args 0 s v hs
  have hlt:s<args.length:=by
   rcases Nat.lt_or_ge s args.length with h'|h'
   ·exact h'
   ·simp [List.getElem?_eq_none h'] at h2
  refine ⟨?_,by omega⟩
  have h3:args[s]?=some v:=by simpa using h2
  simp [Array.getD_eq_getD_getElem?,Array.getElem?_append,hlt]
  simpa [List.getElem?_eq_getElem hlt] using h3
theorem Jc {P:Program} {w0 w:World} {F0:AH} {As Rs Cs Ss:List SP} {f:FuncId} {args:List Value} {u:FrameMode} {T:Value→List SP→Prop} (hc:KF P f args Cs Ss T) (H:Hd w0 F0 w (Cs++As) Rs) (hl:E9 w As Rs Ss):
  CallsD P f args.toArray u w fun e u' w'=>u'=u∧Hp (fun v w'=>∃ Bs,T v Bs∧Hd w0 F0 w' (Bs++As) Rs) e w':=by
 obtain ⟨Fc,h1,h2⟩:=H.frame hl
 refine (hc w Fc u h1).mono ?_
 rintro e u' w' ⟨hu,v,rfl,Bs,hT,hB⟩
 exact ⟨hu,v,rfl,Bs,hT,h2 w' Bs hB⟩
/-! ### Digits that are made once -/
def Hv (n:Int):ByteArray:=⟨(Lib.itoa n).toArray⟩
def Ew (n:Int) (c t:Nat):SP:=ex fun f:Value=>blk c [.int .u32 1,.int .i32 0,.int .u32 0,.int .u32 1,f,.string (Hv n)] t
def Eb (p:Int×Nat):Int×Value:=(p.1,.pointer (some ⟨p.2,0,none⟩))
def DI (t:Nat) (kvs:List (Int×Nat)):SP:=BU (kvs.map fun p=>Ew p.1 p.2 t)
def Jf (t b:Nat):SP:=ex fun kvs:List (Int×Nat)=>BU [DT b (kvs.map Eb),DI t kvs]
section
variable {w0 w w':World} {F0:AH} {As Rs:List SP} {t b:Nat}
theorem Hd.ex_out {α:Sort _} {A:α→SP} (H:Hd w0 F0 w (ex A::As) Rs):∃ a,Hd w0 F0 w (A a::As) Rs:=by
 obtain ⟨F,G,⟨F1,F2,h1,h2,h3,⟨a,ha⟩,s⟩,r,d,f,g,u⟩:=H
 exact ⟨a,F,G,⟨F1,F2,h1,h2,h3,ha,s⟩,r,d,f,g,u⟩
theorem Hd.ex_in {α:Sort _} {A:α→SP} (a:α) (H:Hd w0 F0 w (A a::As) Rs):Hd w0 F0 w (ex A::As) Rs:=H.turn fun _ h=>⟨a,h⟩
theorem Sp (H:Hd w0 F0 w (Jf t b::As) Rs):∃ kvs:List (Int×Nat),Hd w0 F0 w (DT b (kvs.map Eb)::DI t kvs::As) Rs:=by
 obtain ⟨kvs,h⟩:=H.ex_out
 exact ⟨kvs,h.open_ (Bs:=[DT b (kvs.map Eb),DI t kvs]) fun F hF=>hF⟩
theorem KP (kvs:List (Int×Nat)) (H:Hd w0 F0 w (DT b (kvs.map Eb)::DI t kvs::As) Rs):Hd w0 F0 w (Jf t b::As) Rs:=
 (Hd.shut (Bs:=[DT b (kvs.map Eb),DI t kvs]) H fun F hF=>hF).ex_in kvs
theorem RV (H:Hd w0 F0 w As Rs):Hd w0 F0 w (DI t []::As) Rs:=Hd.shut (Bs:=[]) H fun F hF=>hF
theorem So {A:SP} (H:Hd w0 F0 w (A::DT b []::As) Rs):Hd w0 F0 w (A::Jf t b::As) Rs:=by
 have h1:Hd w0 F0 w (DT b []::A::As) Rs:=H.perm (List.Perm.swap _ _ _)
 have h2:=(RV (t:=t) h1).perm (List.Perm.swap _ _ _)
 exact (KP [] h2).perm (List.Perm.swap _ _ _)
theorem YO {A B C:SP} (H:Hd w0 F0 w (A::B::C::As) Rs):Hd w0 F0 w (C::A::B::As) Rs:=H.perm (((List.Perm.swap C B As).cons A).trans (List.Perm.swap C A _))
theorem Nh {n:Int}:∀ {kvs:List (Int×Nat)} {v:Value},Ee n (kvs.map Eb)=some v→∃ c,v=.pointer (some ⟨c,0,none⟩)∧(n,c)∈kvs
 |[],_,h=>by simp [Ee] at h
 |p::kvs,v,h=>by
  simp only [List.map_cons,Ee,Eb] at h
  split at h
  ·rename_i e
   refine ⟨p.2,(Option.some.inj h).symm,?_⟩
   rw [e]
   exact List.mem_cons_self ..
  ·obtain ⟨c,h1,h2⟩:=Nh h
   exact ⟨c,h1,List.mem_cons_of_mem _ h2⟩
theorem Ni {n:Int} {v:Value}:∀ {kvs:List (Int×Value)},Ee n kvs=none→Ee n (kvs++[(n,v)])=some v
 |[],_=>by simp [Ee]
 |p::kvs,h=>by
  simp only [List.cons_append,Ee] at h ⊢
  split at h
  ·cases h
  ·rename_i e
   rw [if_neg e]
   exact Ni h
theorem VB (kvs:List (Int×Nat)) (n:Int) (b:Nat):(kvs++[(n,b)]).map Eb=kvs.map Eb++[(n,.pointer (some ⟨b,0,none⟩))]:=by simp [Eb]
theorem RX {kvs:List (Int×Nat)} {n:Int} {c:Nat} (hm:(n,c)∈kvs) (H:Hd w0 F0 w (DI t kvs::As) Rs):∃ rest:List (Int×Nat),Hd w0 F0 w (Ew n c t::DI t rest::As) Rs∧∀ {w1:World} {F1:AH} {w2:World} {Bs Rs':List SP},Hd w1 F1 w2 (Ew n c t::DI t rest::Bs) Rs'→Hd w1 F1 w2 (DI t kvs::Bs) Rs':=by
 obtain ⟨s,u,rfl⟩:=List.append_of_mem hm
 have hp:((s++(n,c)::u).map fun p=>Ew p.1 p.2 t).Perm (Ew n c t::((s++u).map fun p=>Ew p.1 p.2 t)):=by
  rw [List.map_append,List.map_cons,List.map_append]
  exact List.perm_middle
 refine ⟨s++u,?_,?_⟩
 ·have h1:Hd w0 F0 w (BU (Ew n c t::((s++u).map fun p=>Ew p.1 p.2 t))::As) Rs:=H.turn fun F hF=>Cl.perm hp hF
  refine h1.open_ (Bs:=[Ew n c t,DI t (s++u)]) fun F hF=>?_
  obtain ⟨F1,F2,a1,a2,a3,a,b⟩:=hF
  exact ⟨F1,F2,a1,a2,a3,a,F2,none_,fun _ h=>h,fun _ h=>h.elim,fun _ _ h=>h,b,trivial⟩
 ·intro w1 F1 w2 Bs Rs' H2
  refine Hd.shut (Bs:=[Ew n c t,DI t (s++u)]) H2 fun F hF=>?_
  obtain ⟨F1,F2,a1,a2,a3,a,F3,F4,b1,b2,b3,b,_⟩:=hF
  exact Cl.perm hp.symm ⟨F1,F2,a1,a2,a3,a,Cl.mono b b1⟩
theorem RW {kvs:List (Int×Nat)} {n:Int} {c:Nat} (H:Hd w0 F0 w (Ew n c t::DI t kvs::As) Rs):Hd w0 F0 w (DI t (kvs++[(n,c)])::As) Rs:=by
 have hp:((kvs++[(n,c)]).map fun p=>Ew p.1 p.2 t).Perm (Ew n c t::(kvs.map fun p=>Ew p.1 p.2 t)):=by
  rw [List.map_append,List.map_cons,List.map_nil]
  exact List.perm_append_singleton ..
 refine Hd.shut (Bs:=[Ew n c t,DI t kvs]) H fun F hF=>?_
 obtain ⟨F1,F2,a1,a2,a3,a,F3,F4,b1,b2,b3,b,_⟩:=hF
 exact Cl.perm hp.symm ⟨F1,F2,a1,a2,a3,a,Cl.mono b b1⟩
end
section
variable {P:Program} {n:Nat} {l:Bz} {w w0:World} {F0:AH} {o:Oper} {x y:Operand} {t kt et:TypeId} {As Rs:List SP} {b:Nat} {kvs:List (Int×Value)} {v:Value}
theorem J1 (ho:o.op=.lookup t x y false) (hm:P.underlying t=some (.map kt et)) (hk:P.underlying kt=some (.int .i64)) {z:Value} (hz:CV P et=some z) (hx:ev l x=some (.map (some b))) {k:Int} (hy:ev l y=some (.int .i64 k))
  (H:Hd w0 F0 w As Rs) (j:Nat) (hj:As[j]?=some (DT b kvs)) (hv:(Ee k kvs).getD z=v):Bw P n l w o v w:=hv▸Xj ho hm hk hz hx hy H j hj
end
def gl:SP:=Nv (Ls Tryz.prog "internal/strconv.uint64pow10" (fun cs=>cs=(Lib.pow10Tab.map fun z=>Value.int .u64 z).toArray)) (Nv (Ls Tryz.prog "strconv.ErrSyntax" (fun cs=>∃ tp p,cs=#[.iface tp p])) (Ls Tryz.prog "strconv.ErrRange" (fun cs=>∃ tp p,cs=#[.iface tp p])))
def Gj (s:ByteArray):Int:=match Lib.parseIntB 64 s.data.toList with
 |.ok v=>if Hv v=s then v else 0
 |_=>0
def dg:A8:=⟨Hv,Gj⟩
abbrev BL (b:Nat):SP:=Jf 234 b
theorem HJ (s:ByteArray):AP (dg.num s):=by
 show AP (Gj s)
 unfold Gj
 split
 ·rename_i v h
  have:=Lib.parseIntB_bounds h
  split
  ·unfold AP;omega
  ·exact Iq
 ·exact Iq
theorem Te (n:Int) (hn:AP n):Cn Tryz.prog 326 [.int .i64 n,.int .i64 10] [] [gl] (fun v Bs=>v=.string (dg.dig n)∧Bs=[]):=by
 intro w F H
 have htab:Lib.TabIs Tryz.prog w "internal/strconv.uint64pow10" .u64 Lib.pow10Tab:=H.factR (List.mem_cons_self ..) fun F h=>by
  obtain ⟨⟨g,h1,h2,cs,h3,rfl⟩,_⟩:=h
  exact h3
 refine (Go.Proofs.Tryz.strconv_FormatInt_10 n hn.1 hn.2 w htab).mono ?_
 rintro e w' ⟨rfl,k,os,rfl⟩
 exact ⟨_,rfl,[],⟨rfl,rfl⟩,H.after (Zn w k os)⟩
theorem WJ (s:ByteArray) (hs:s.size≤64) (v:Int) (h:Lib.parseIntB 64 s.data.toList=.ok v):Cn Tryz.prog 305 [.string s,.int .i64 10,.int .i64 64] [] [gl] (fun r Bs=>r=.tuple #[.int .i64 v,.nilIface]∧Bs=[]):=by
 intro w F H
 refine (Go.Proofs.Tryz.strconv_ParseInt_10_at64_ok s (by omega) v h w).mono ?_
 rintro e w' ⟨rfl,hw⟩
 refine ⟨_,rfl,[],⟨rfl,rfl⟩,?_⟩
 rcases hw with rfl|⟨t,rfl⟩
 ·exact H
 ·exact H.after (MJ (Lib.bytesWorld_below ..))
theorem WI (s:ByteArray) (hs:s.size≤64) (h:∀ v,Lib.parseIntB 64 s.data.toList≠.ok v):Cn Tryz.prog 305 [.string s,.int .i64 10,.int .i64 64] [] [gl] (fun r Bs=>∃ x te pe,r=.tuple #[.int .i64 x,.iface te pe]∧Bs=[]):=by
 intro w F H
 obtain ⟨tp,p,hS⟩:∃ tp p,w.var? Tryz.prog "strconv.ErrSyntax" =some #[.iface tp p]:=H.factR (List.mem_cons_self ..) fun F h=>by
  obtain ⟨_,⟨g,h1,h2,cs,h3,tp,p,rfl⟩,_⟩:=h
  exact ⟨tp,p,h3⟩
 obtain ⟨tq,q,hR⟩:∃ tp p,w.var? Tryz.prog "strconv.ErrRange" =some #[.iface tp p]:=H.factR (List.mem_cons_self ..) fun F h=>by
  obtain ⟨_,_,⟨g,h1,h2,cs,h3,tp,p,rfl⟩⟩:=h
  exact ⟨tp,p,h3⟩
 rcases hh:Lib.parseIntB 64 s.data.toList with v|_|_
 ·exact absurd hh (h v)
 ·refine (Go.Proofs.Tryz.strconv_ParseInt_10_at64_syntax_var s (by omega) (fun e he=>by rw [hh] at he;subst he;exact ⟨fun v=>nofun,nofun⟩) tp p w hS).mono ?_
  rintro e w' ⟨N,rfl,_,_,hb⟩
  exact ⟨_,rfl,[],⟨_,_,_,rfl,rfl⟩,H.after (MJ hb)⟩
 ·refine (Go.Proofs.Tryz.strconv_ParseInt_10_at64_range_var s (by omega) hh tq q w hR).mono ?_
  rintro e w' ⟨N,rfl,_,_,hb⟩
  exact ⟨_,rfl,[],⟨_,_,_,rfl,rfl⟩,H.after (MJ hb)⟩
theorem NL (n:Int) (hn:AP n):
    Cn Tryz.prog 304 [.int .i64 n] [] [gl] (fun v Bs=>v=.string (dg.dig n)∧Bs=[]):=by
 intro w0 F0 H
 refine enter Tryz.func304 U U (Nat.le_of_ble_eq_true U) (Aa (Ae (Ad U (Ac (Z (Aa (Ae (Ad U (sc (Te n (by assumption)) H (lR 0 U l0) U U (Au UT U U) ?_)))))))))
 rintro _ _ w ⟨rfl,rfl⟩ H
 exact Ad U (Ac (Z (Am (Aq U U (Ak ⟨rfl,rfl⟩ H)))))
theorem V7 {s:ByteArray} (h:∀ v,Lib.parseIntB 64 s.data.toList≠.ok v):dg.num s=0:=by
 show Gj s=0
 unfold Gj
 split
 ·rename_i v hh
  exact absurd hh (h v)
 ·rfl
theorem V8 (s:ByteArray) (hs:s.size≤64):
    Cn Tryz.prog 275 [.string s] [] [gl] (fun v Bs=>v=.int .i64 (dg.num s)∧Bs=[]):=by
 intro w0 F0 H
 refine enter Tryz.func275 U U (Nat.le_of_ble_eq_true U) (Aa (Ae (Ad U (Ac (Z (Aa ?_))))))
 by_cases hok:∃ v,Lib.parseIntB 64 s.data.toList=.ok v
 ·refine Ae (Ad U ?_)
  obtain ⟨x0,hx0⟩:=hok
  have hxb:=Lib.parseIntB_bounds hx0
  have hx64:AP x0:=by unfold AP;omega
  refine sc (WJ s hs x0 hx0) H (lR 0 U l0) U U (Au O3 U U) ?_
  rintro _ _ w ⟨rfl,rfl⟩ H
  refine Ah 5 U (Ac (Z (Aa (Aa (Ae (Ad U (V U U (Qa U QT U (.inl ⟨rfl,rfl⟩)) (Ah 2 U (sc (NL x0 (by assumption)) H (lR 0 U l0) U U (Au O2 U U) ?_)))))))))
  rintro _ _ w ⟨rfl,rfl⟩ H
  refine Ad U (V U U (Mh U U U) (Ad U (Ac (Z ?_))))
  refine Aw U (fun h1=>?_) (fun h1=>?_)
  ·refine Aa (Ae (Ad U (Ac (Z (Am (Ay (Aq U U ?_)))))))
   have e:dg.num s=0:=by show Gj s=_;unfold Gj;rw [hx0];exact if_neg h1
   exact Ak ⟨by rw [e]<;>rfl,rfl⟩ H
  refine Ax (Z (Aa (Ae (Ah 2 U (Ac (Z (Am (Aq U U ?_))))))))
  have e:dg.num s=x0:=by show Gj s=_;unfold Gj;rw [hx0];exact if_pos (Classical.not_not.1 h1)
  exact Ak ⟨by rw [e]<;>rfl,rfl⟩ H
 refine Ae (Ad U (sc (WI s hs (fun v h=>hok ⟨v,h⟩)) H (lR 0 U l0) U U (Au O3 U U) ?_))
 rintro _ _ w ⟨x0,te,pe,rfl,rfl⟩ H
 refine Ah 5 U (Ac (Z (Aa (Aa (Ae (Ad U (V U U (Qa U QT U (.inr ⟨_,_,rfl,rfl⟩)) (Ah 6 U (Ac (Z (Ck U (Aa (Ae (Ad U (Ac (Z (Am (Ay (Aq U U ?_)))))))))))))))))))
 have e:dg.num s=0:=V7 (fun v h=>hok ⟨v,h⟩)
 exact Ak ⟨by rw [e]<;>rfl,rfl⟩ H
theorem KH (b:Bool):
    Cn Tryz.prog 187 [.bool b] [] [] (fun v Bs=>v=.int .u32 (if b=true then 1 else 0)∧Bs=[]):=by
 intro w0 F0 H
 refine enter Tryz.func187 U U (Nat.le_of_ble_eq_true U) (Aa (Ae (Ad U (Ac (Z (Aa (Aa (Ae (Ad U (Ac (Z ?_)))))))))))
 refine DO (b:=b) U (fun h1=>?_) (fun h1=>?_)
 ·exact Aa (Ae (Ad U (Ac (Z (Am (Ay (Aq U U (Ak ⟨by simp [h1],rfl⟩ H))))))))
 exact Ax (Z (Aa (Ae (Ad U (Ac (Z (Am (Aq U U (Ak ⟨by simp [h1],rfl⟩ H)))))))))
theorem MB (c:Nat) (d m:Int) (sm:Value) (md:Int) (fv:Value) (tx:ByteArray):
    Cn Tryz.prog 142 [.pointer (some ⟨c,3,none⟩),.bool true] [blk c [.int .u32 d,.int .i32 m,sm,.int .u32 md,fv,.string tx] 234] [] (fun v Bs=>v=.tuple #[]∧Bs=[blk c [.int .u32 d,.int .i32 m,sm,.int .u32 1,fv,.string tx] 234]):=by
 intro w0 F0 H
 refine enter Tryz.func142 U U (Nat.le_of_ble_eq_true U) (B1 (.e 0 (.e 1 (.e 2 (.e 3 (.m 4 (.m 5 .z)))))) (fun w=>∃ Ar,Hd w0 F0 w (Ar) []) mo (by kernel_rfl) (fun w H=>⟨_,H⟩) H (fun w H=>(At U (Ap U U U (fun w ⟨Ar,H⟩=>AF U U) (Ap U U U (fun w ⟨Ar,H⟩=>Aj U HA U) (At U (AO U (sc (KH true) H l0 U U (Au LG U U) ?_))))))))
 rintro _ _ w ⟨rfl,rfl⟩ H
 refine AJ ⟨_,H⟩ (AO U (Mr KU U U U U H U (fun w H=>?_)))
 replace H:Hd _ _ _ [blk c [.int .u32 d,.int .i32 m,sm,.int .u32 1,fv,.string tx] 234] []:=H
 exact AJ ⟨_,H⟩ (BK (Dx U (Ak ⟨rfl,rfl⟩ H)))
theorem QM (c:Nat) (d m:Int) (sm:Value) (md:Int) (fv:Value) (tx:ByteArray):
    KF Tryz.prog 142 [.pointer (some ⟨c,0,none⟩),.bool true] [blk c [.int .u32 d,.int .i32 m,sm,.int .u32 md,fv,.string tx] 234] [] (fun v Bs=>v=.tuple #[]∧Bs=[blk c [.int .u32 1,.int .i32 m,sm,.int .u32 md,fv,.string tx] 234]):=by
 intro w0 F0 ufm H
 refine NV Tryz.func142 U U (Nat.le_of_ble_eq_true U) (B1 (.e 0 (.e 1 (.e 2 (.e 3 (.m 4 (.m 5 .z)))))) (fun w=>∃ Ar,Hd w0 F0 w (Ar) []) mo (by kernel_rfl) (fun w H=>⟨_,H⟩) H (fun w H=>(At U (Ap U U U (fun w ⟨Ar,H⟩=>AF U U) (Ap U U U (fun w ⟨Ar,H⟩=>Aj U HA U) (At U (AO U (sc (KH true) H l0 U U (Au LG U U) ?_))))))))
 rintro _ _ w ⟨rfl,rfl⟩ H
 refine AJ ⟨_,H⟩ (AO U (Mr KU U U U U H U (fun w H=>?_)))
 replace H:Hd _ _ _ [blk c [.int .u32 1,.int .i32 m,sm,.int .u32 md,fv,.string tx] 234] []:=H
 exact AJ ⟨_,H⟩ (BK (Dx U (Ak ⟨rfl,rfl⟩ H)))
theorem JM (c:Nat) (m:Int) (sm:Value) (md:Int) (fv:Value) (tx:ByteArray):
    Cn Tryz.prog 144 [.pointer (some ⟨c,0,none⟩)] [] [blk c [.int .u32 0,.int .i32 m,sm,.int .u32 md,fv,.string tx] 234] (fun v Bs=>v=.bool false∧Bs=[]):=by
 intro w0 F0 H
 refine enter Tryz.func144 U U (Nat.le_of_ble_eq_true U) (Aa (Ae (Ad U (Ac (Z (Aa (Ae (Ad U (V U U (AF U U) (V U U (Aj U HA U) (V U U (J0 KV U U (H.cellRI 0 U U)) (V U U (Dq U U U) (Ad U (Ac (Z (Am (Aq U U ?_)))))))))))))))))
 replace H:Hd _ _ _ [] [blk c [.int .u32 0,.int .i32 m,sm,.int .u32 md,fv,.string tx] 234]:=H
 exact Ak ⟨rfl,rfl⟩ H
theorem Vh (c:Nat) (m:Int) (sm:Value) (md:Int) (fv:Value) (tx:ByteArray):
    Cn Tryz.prog 144 [.pointer (some ⟨c,0,none⟩)] [] [blk c [.int .u32 1,.int .i32 m,sm,.int .u32 md,fv,.string tx] 234] (fun v Bs=>v=.bool true∧Bs=[]):=by
 intro w0 F0 H
 refine enter Tryz.func144 U U (Nat.le_of_ble_eq_true U) (Aa (Ae (Ad U (Ac (Z (Aa (Ae (Ad U (V U U (AF U U) (V U U (Aj U HA U) (V U U (J0 KV U U (H.cellRI 0 U U)) (V U U (Dq U U U) (Ad U (Ac (Z (Am (Aq U U ?_)))))))))))))))))
 replace H:Hd _ _ _ [] [blk c [.int .u32 1,.int .i32 m,sm,.int .u32 md,fv,.string tx] 234]:=H
 exact Ak ⟨rfl,rfl⟩ H
theorem TF (c:Nat) (d:Int) (sm:Value) (md:Int) (fv:Value) (tx:ByteArray):
    Cn Tryz.prog 262 [.pointer (some ⟨c,1,none⟩)] [blk c [.int .u32 d,.int .i32 0,sm,.int .u32 md,fv,.string tx] 234] [] (fun v Bs=>v=.tuple #[]∧Bs=[blk c [.int .u32 d,.int .i32 1,sm,.int .u32 md,fv,.string tx] 234]):=by
 intro w0 F0 H
 refine enter Tryz.func262 U U (Nat.le_of_ble_eq_true U) (Aa (Ae (V U U (J3 NZ U U) (Ac (Z (Aa (Aa (Ae (Ad U (V U U (AF U U) (V U U (Aj U Lf U) (QD SN U U U U H U (fun w H=>?_)))))))))))))
 replace H:Hd _ _ _ [blk c [.int .u32 d,.int .i32 1,sm,.int .u32 md,fv,.string tx] 234] []:=H
 exact Ac (Z (Ck U (Aa (Ck U (Aa (Ae (V U U (J3 N0 U U) (Ac (Z (Ae (Ad U (V U U (Qg U QZ Q1 PG U (H.cellI 0 U U)) (V U U (Qd SO U U) (Ac (Z (Am (Ay (IG U (Ak ⟨rfl,rfl⟩ H)))))))))))))))))))
theorem Pf (c:Nat) (d:Int) (sm:Value) (md:Int) (fv:Value) (tx:ByteArray):
    Cn Tryz.prog 241 [.pointer (some ⟨c,1,none⟩)] [blk c [.int .u32 d,.int .i32 0,sm,.int .u32 md,fv,.string tx] 234] [] (fun v Bs=>v=.tuple #[]∧Bs=[blk c [.int .u32 d,.int .i32 1,sm,.int .u32 md,fv,.string tx] 234]):=by
 intro w0 F0 H
 refine enter Tryz.func241 U U (Nat.le_of_ble_eq_true U) (Ae (Ad U (V U U (AF U U) (V U U (Aj U Ob U) (sc (TF c d sm md fv tx) H l0 U U (Au UE U U) ?_)))))
 rintro _ _ w ⟨rfl,rfl⟩ H
 refine Ac (Dx U ?_)
 replace H:Hd _ _ _ [blk c [.int .u32 d,.int .i32 1,sm,.int .u32 md,fv,.string tx] 234] []:=H
 exact Ak ⟨rfl,rfl⟩ H
theorem TQ (c:Nat) (d:Int) (sm:Value) (md:Int) (fv:Value) (tx:ByteArray):
    Cn Tryz.prog 263 [.pointer (some ⟨c,1,none⟩)] [blk c [.int .u32 d,.int .i32 1,sm,.int .u32 md,fv,.string tx] 234] [] (fun v Bs=>v=.tuple #[]∧Bs=[blk c [.int .u32 d,.int .i32 0,sm,.int .u32 md,fv,.string tx] 234]):=by
 intro w0 F0 H
 refine enter Tryz.func263 U U (Nat.le_of_ble_eq_true U) (Aa (Ck U (Aa (Ae (Ad U (V U U (AF U U) (V U U (Aj U Lf U) (V U U (Al U Za U (H.cellI 0 U U)) (Ac (Z (Aa (Ae (Ad U (V U U (Qg U QZ Q1 PG U (H.cellI 0 U U)) (V U U (Qd SQ U U) (Ac (Z (Ae (V U U (J3 NZ U U) (Ac (Z (Aa (Ae (Ad U (V U U (AF U U) (V U U (Aj U Lf U) (Yb SR U U U U H U U (fun w H=>?_))))))))))))))))))))))))))))
 replace H:Hd _ _ _ [blk c [.int .u32 d,.int .i32 0,sm,.int .u32 md,fv,.string tx] 234] []:=H
 exact Ad U (Ac (Z (Aa (Aa (Ae (Ad U (V U U (Dq U U U) (Ac (Z (B7 U (Ax (Z (Ae (V U U (J3 N0 U U) (Ac (Dx U (Ak ⟨rfl,rfl⟩ H)))))))))))))))))
theorem Q0 (c:Nat) (d:Int) (sm:Value) (md:Int) (fv:Value) (tx:ByteArray):
    KF Tryz.prog 242 [.pointer (some ⟨c,1,none⟩)] [blk c [.int .u32 d,.int .i32 1,sm,.int .u32 md,fv,.string tx] 234] [] (fun v Bs=>v=.tuple #[]∧Bs=[blk c [.int .u32 d,.int .i32 0,sm,.int .u32 md,fv,.string tx] 234]):=by
 intro w0 F0 ufm H
 refine NV Tryz.func242 U U (Nat.le_of_ble_eq_true U) (Ae (Ad U (V U U (AF U U) (V U U (Aj U Ob U) (sc (TQ c d sm md fv tx) H l0 U U (Au UF U U) ?_)))))
 rintro _ _ w ⟨rfl,rfl⟩ H
 refine Ac (Dx U ?_)
 replace H:Hd _ _ _ [blk c [.int .u32 d,.int .i32 0,sm,.int .u32 md,fv,.string tx] 234] []:=H
 exact Ak ⟨rfl,rfl⟩ H
set_option maxRecDepth 100000 in
theorem Su (c pl:Nat) (sm:Value) (md:Int) (fv:Value) (tx tx2:ByteArray) (Rs:List SP)
  (hcl:Cn Tryz.prog 170 [.pointer (some ⟨pl,0,none⟩)] [blk c [.int .u32 0,.int .i32 1,sm,.int .u32 md,fv,.string tx] 234] Rs (fun v Bs=>v=.tuple #[]∧Bs=[blk c [.int .u32 0,.int .i32 1,sm,.int .u32 md,fv,.string tx2] 234])):
  Cn Tryz.prog 205 [.pointer (some ⟨c,0,none⟩),.func (.func 170) #[] #[.pointer (some ⟨pl,0,none⟩)]] [blk c [.int .u32 0,.int .i32 0,sm,.int .u32 md,fv,.string tx] 234] Rs (fun v Bs=>v=.tuple #[]∧Bs=[blk c [.int .u32 1,.int .i32 0,sm,.int .u32 md,fv,.string tx2] 234]):=by
 intro w F H
 have hnot:∀ (x:Bool) (w:World),(Op.unary .not (.bool x)).run Tryz.prog w=.ok (.bool (!x)) w:=fun _ _=>rfl
 go_enter_defers Tryz.func205,Tryz.ntmps205
 go_wp2_with (first
  |(go_at_call 241;refine (Ge (As:=[]) (Pf c 0 sm md fv tx) H l0).mono ?_;rintro e w1 ⟨v,rfl,Bs,⟨rfl,rfl⟩,H1⟩)
  |(go_at_call 144;refine (Ge (Cs:=[]) (JM c 1 sm md fv tx) H1 (lA 0 rfl (fun _ h=>h) l0)).mono ?_;rintro e w2 ⟨v,rfl,Bs,⟨rfl,rfl⟩,H2⟩)
  |(go_at_call 170;refine (Ge (As:=[]) hcl H2 LN).mono ?_;rintro e w3 ⟨v,rfl,Bs,⟨rfl,rfl⟩,H3⟩))
 refine leaves_cons (f:=142) (args:=#[.pointer (some ⟨c,0,none⟩),.bool true]) (by simp) (by simp [go_sem]) ?_
 refine (Jc (As:=[]) (QM c 0 1 sm md fv tx2) H3 l0).mono ?_
 rintro e u' w4 ⟨rfl,v,rfl,Bs,⟨rfl,rfl⟩,H4⟩
 refine leaves_cons (f:=242) (args:=#[.pointer (some ⟨c,1,none⟩)]) (by simp [settle]) (by simp [go_sem]) ?_
 refine (Jc (As:=[]) (Q0 c 1 sm md fv tx2) H4 l0).mono ?_
 rintro e u' w5 ⟨rfl,v,rfl,Bs,⟨rfl,rfl⟩,H5⟩
 exact ⟨.tuple #[],by simp [results,Tryz.results205],.tuple #[],rfl,_,⟨rfl,rfl⟩,H5⟩
theorem Y0 (nb:Nat) (n:Int) (hn:AP n):
    Cn Tryz.prog 303 [.pointer (some ⟨nb,0,none⟩)] [] [blk nb [.int .i64 n] 2,gl] (fun v Bs=>v=.string (dg.dig n)∧Bs=[]):=by
 intro w0 F0 H
 refine enter Tryz.func303 U U (Nat.le_of_ble_eq_true U) (Aa (Ae (Ad U (Ac (Z (Aa (Ae (V U U (Al U DM U (H.cellRI 0 U U)) (sc (NL n (by assumption)) H (lR 1 U l0) U U (Au O2 U U) ?_)))))))))
 rintro _ _ w ⟨rfl,rfl⟩ H
 refine Ad U (Ac (Z (Am (Aq U U ?_))))
 replace H:Hd _ _ _ [] [blk nb [.int .i64 n] 2,gl]:=H
 exact Ak ⟨rfl,rfl⟩ H
theorem Tj (c pl nb:Nat) (n:Int) (hn:AP n) (sm:Value) (md:Int) (tx:ByteArray):
    Cn Tryz.prog 170 [.pointer (some ⟨pl,0,none⟩)] [blk c [.int .u32 0,.int .i32 1,sm,.int .u32 md,.func (.func 303) #[] #[.pointer (some ⟨nb,0,none⟩)],.string tx] 234] [blk pl [.pointer (some ⟨c,0,none⟩)] 161,blk nb [.int .i64 n] 2,gl] (fun v Bs=>v=.tuple #[]∧Bs=[blk c [.int .u32 0,.int .i32 1,sm,.int .u32 md,.func (.func 303) #[] #[.pointer (some ⟨nb,0,none⟩)],.string (dg.dig n)] 234]):=by
 intro w0 F0 H
 refine enter Tryz.func170 U U (Nat.le_of_ble_eq_true U) (Aa (Ae (V U U (Al U DG U (H.cellRI 0 U U)) (V U U (AF U U) (V U U (Aj U Js U) (V U U (Al U Ks U (H.cellI 0 U U)) (V U U (P_ U QU U U) (Ac (Z (Ck U (B1 (.e 0 (.e 1 (.e 2 (.e 3 (.m 4 (.m 5 (.e 6 (.e 7 (.m 8 .z))))))))) (fun w=>∃ Ar,Hd w0 F0 w (Ar) [blk pl [.pointer (some ⟨c,0,none⟩)] 161,blk nb [.int .i64 n] 2,gl]) mo (by kernel_rfl) (fun w H=>⟨_,H⟩) H (fun w H=>(Ap U U U (fun w ⟨Ar,H⟩=>Al U DG U (H.cellRI 0 U U)) (Ap U U U (fun w ⟨Ar,H⟩=>Al U DG U (H.cellRI 0 U U)) (Ap U U U (fun w ⟨Ar,H⟩=>AF U U) (Ap U U U (fun w ⟨Ar,H⟩=>Aj U Js U) (AO U (V U U (Al U Ks U (H.cellI 0 U U)) ?_))))))))))))))))))
 refine AJ ⟨_,H⟩ (AO U (sc (Y0 nb n hn) H (lR 1 U (lR 2 U l0)) U U (FP (vs:=[]) (fs:=#[]) (cs:=#[.pointer (some ⟨nb,0,none⟩)]) UR U U U) ?_))
 rintro _ _ w ⟨rfl,rfl⟩ H
 refine AJ ⟨_,H⟩ (Ap U U U (fun w ⟨Ar,H⟩=>AF U U) (Ap U U U (fun w ⟨Ar,H⟩=>Aj U Im U) (AO U (BD U U U BR U U H U (Nat.le_of_ble_eq_true U) (fun u hu=>by simp [Value.cells] at hu;subst hu;rfl) (fun w H=>?_)))))
 replace H:Hd _ _ _ [blk c [.int .u32 0,.int .i32 1,sm,.int .u32 md,.func (.func 303) #[] #[.pointer (some ⟨nb,0,none⟩)],.string (dg.dig n)] 234] [blk pl [.pointer (some ⟨c,0,none⟩)] 161,blk nb [.int .i64 n] 2,gl]:=H
 exact AJ ⟨_,H⟩ (BK (Dx U (Ak ⟨rfl,rfl⟩ H)))
theorem Sq (c pl nb:Nat) (n:Int) (hn:AP n) (sm:Value) (md:Int) (tx:ByteArray):
    Cn Tryz.prog 169 [.pointer (some ⟨c,0,none⟩),.func (.func 170) #[] #[.pointer (some ⟨pl,0,none⟩)]] [blk c [.int .u32 0,.int .i32 0,sm,.int .u32 md,.func (.func 303) #[] #[.pointer (some ⟨nb,0,none⟩)],.string tx] 234] [blk pl [.pointer (some ⟨c,0,none⟩)] 161,blk nb [.int .i64 n] 2,gl] (fun v Bs=>v=.tuple #[]∧Bs=[blk c [.int .u32 1,.int .i32 0,sm,.int .u32 md,.func (.func 303) #[] #[.pointer (some ⟨nb,0,none⟩)],.string (dg.dig n)] 234]):=by
 intro w0 F0 H
 refine enter Tryz.func169 U U (Nat.le_of_ble_eq_true U) (Aa (Ae (Ad U (V U U (AF U U) (V U U (Aj U Lg U) (sc (JM c 0 sm md (.func (.func 303) #[] #[.pointer (some ⟨nb,0,none⟩)]) tx) H (lA 0 U (fun _ h=>h) l0) U U (Au JH U U) ?_))))))
 rintro _ _ w ⟨rfl,rfl⟩ H
 refine V U U (Fl U U U) (Ac (Z (Ck U (Ae (Ah 2 U (sc (Su c pl sm md (.func (.func 303) #[] #[.pointer (some ⟨nb,0,none⟩)]) tx (dg.dig n) [blk pl [.pointer (some ⟨c,0,none⟩)] 161,blk nb [.int .i64 n] 2,gl] (Tj c pl nb n hn sm md tx)) H (lR 0 U (lR 1 U (lR 2 U l0))) U U (Au OU U U) ?_))))))
 rintro _ _ w ⟨rfl,rfl⟩ H
 refine Ac (Dx U ?_)
 replace H:Hd _ _ _ [blk c [.int .u32 1,.int .i32 0,sm,.int .u32 md,.func (.func 303) #[] #[.pointer (some ⟨nb,0,none⟩)],.string (dg.dig n)] 234] [blk pl [.pointer (some ⟨c,0,none⟩)] 161,blk nb [.int .i64 n] 2,gl]:=H
 exact Ak ⟨rfl,rfl⟩ H
theorem Sr (c pl:Nat) (m:Int) (sm:Value) (md:Int) (fv:Value) (tx:ByteArray):
    Cn Tryz.prog 169 [.pointer (some ⟨c,0,none⟩),.func (.func 170) #[] #[.pointer (some ⟨pl,0,none⟩)]] [] [blk c [.int .u32 1,.int .i32 m,sm,.int .u32 md,fv,.string tx] 234] (fun v Bs=>v=.tuple #[]∧Bs=[]):=by
 intro w0 F0 H
 refine enter Tryz.func169 U U (Nat.le_of_ble_eq_true U) (Aa (Ae (Ad U (V U U (AF U U) (V U U (Aj U Lg U) (sc (Vh c m sm md fv tx) H (lR 0 U l0) U U (Au JH U U) ?_))))))
 rintro _ _ w ⟨rfl,rfl⟩ H
 refine V U U (Fl U U U) (Ac (Z (B7 U (Ax (Dx U ?_)))))
 replace H:Hd _ _ _ [] [blk c [.int .u32 1,.int .i32 m,sm,.int .u32 md,fv,.string tx] 234]:=H
 exact Ak ⟨rfl,rfl⟩ H
theorem Ti (c nb:Nat) (n:Int) (hn:AP n):
    Cn Tryz.prog 109 [.pointer (some ⟨c,0,none⟩)] [blk c [.int .u32 0,.int .i32 0,.int .u32 0,.int .u32 0,.func (.func 303) #[] #[.pointer (some ⟨nb,0,none⟩)],.string ⟨#[]⟩] 234] [blk nb [.int .i64 n] 2,gl] (fun v Bs=>v=.string (dg.dig n)∧Bs=[blk c [.int .u32 1,.int .i32 0,.int .u32 0,.int .u32 1,.func (.func 303) #[] #[.pointer (some ⟨nb,0,none⟩)],.string (dg.dig n)] 234]):=by
 intro w0 F0 H
 refine enter Tryz.func109 U U (Nat.le_of_ble_eq_true U) (Aa (Ae (Cm U U U U H (fun b1 w H=>(Ad U (Ac (Z ?_)))))))
 replace H:Hd _ _ _ [blk b1 [.pointer (some ⟨c,0,none⟩)] 161,blk c [.int .u32 0,.int .i32 0,.int .u32 0,.int .u32 0,.func (.func 303) #[] #[.pointer (some ⟨nb,0,none⟩)],.string ⟨#[]⟩] 234] [blk nb [.int .i64 n] 2,gl]:=H
 refine Aa (Aa (Ae (V U U (Al U DG U (H.cellI 0 U U)) (V U U (CW U I3 U U) (Ac (Z (B7 U (Ax (Z (Aa (Ae (V U U (Al U DG U (H.cellI 0 U U)) (V U U (AF U U) (V U U (Aj U Li U) ?_))))))))))))))
 replace H:=H.p1
 refine sc (MB c 0 0 (.int .u32 0) 0 (.func (.func 303) #[] #[.pointer (some ⟨nb,0,none⟩)]) (⟨#[]⟩:ByteArray)) H l0 U U (Au JG U U) ?_
 rintro _ _ w ⟨rfl,rfl⟩ H
 replace H:=H.h1 (A:=blk c [.int .u32 0,.int .i32 0,.int .u32 0,.int .u32 1,.func (.func 303) #[] #[.pointer (some ⟨nb,0,none⟩)],.string ⟨#[]⟩] 234)
 refine Ac (Z (Aa (Ae (V U U (Al U DG U (H.cellI 1 U U)) (V U U (AF U U) (V U U (Aj U Lh U) (V U U (G8 (fs:=#[]) (cs:=#[.pointer (some ⟨b1,0,none⟩)]) U U U) (sc (Sq c b1 nb n hn (.int .u32 0) 1 ⟨#[]⟩) H (lA 0 U (fun _ h=>h) (lR 0 U (lR 1 U l0))) U U (Au LE U U) ?_))))))))
 rintro _ _ w ⟨rfl,rfl⟩ H
 replace H:=H.h1 (A:=blk c [.int .u32 1,.int .i32 0,.int .u32 0,.int .u32 1,.func (.func 303) #[] #[.pointer (some ⟨nb,0,none⟩)],.string (dg.dig n)] 234)
 refine Ac (Z (Aa (Ae (V U U (Al U DG U (H.cellI 1 U U)) (V U U (AF U U) (V U U (Aj U Im U) (V U U (Al U BR U (H.cellI 0 U U)) (Ad U (Ac (Z (Am (Aq U U ?_))))))))))))
 replace H:=H.k1
 exact Ak ⟨rfl,rfl⟩ H
theorem Lr (c:Nat) (fv:Value) (tx:ByteArray):
    Cn Tryz.prog 109 [.pointer (some ⟨c,0,none⟩)] [blk c [.int .u32 1,.int .i32 0,.int .u32 0,.int .u32 1,fv,.string tx] 234] [] (fun v Bs=>v=.string tx∧Bs=[blk c [.int .u32 1,.int .i32 0,.int .u32 0,.int .u32 1,fv,.string tx] 234]):=by
 intro w0 F0 H
 refine enter Tryz.func109 U U (Nat.le_of_ble_eq_true U) (Aa (Ae (Cm U U U U H (fun b1 w H=>(Ad U (Ac (Z ?_)))))))
 replace H:Hd _ _ _ [blk b1 [.pointer (some ⟨c,0,none⟩)] 161,blk c [.int .u32 1,.int .i32 0,.int .u32 0,.int .u32 1,fv,.string tx] 234] []:=H
 refine Aa (Aa (Ae (V U U (Al U DG U (H.cellI 0 U U)) (V U U (CW U I3 U U) (Ac (Z (B7 U (Ax (Z (Aa (Ae (V U U (Al U DG U (H.cellI 0 U U)) (V U U (AF U U) (V U U (Aj U Li U) ?_))))))))))))))
 replace H:=H.p1
 refine sc (MB c 1 0 (.int .u32 0) 1 fv tx) H l0 U U (Au JG U U) ?_
 rintro _ _ w ⟨rfl,rfl⟩ H
 refine Ac (Z (Aa (Ae (V U U (Al U DG U (H.cellI 1 U U)) (V U U (AF U U) (V U U (Aj U Lh U) (V U U (G8 (fs:=#[]) (cs:=#[.pointer (some ⟨b1,0,none⟩)]) U U U) (sc (Sr c b1 0 (.int .u32 0) 1 fv tx) H (lA 0 U (fun _ h=>h) l0) U U (Au LE U U) ?_))))))))
 rintro _ _ w ⟨rfl,rfl⟩ H
 refine Ac (Z (Aa (Ae (V U U (Al U DG U (H.cellI 1 U U)) (V U U (AF U U) (V U U (Aj U Im U) (V U U (Al U BR U (H.cellI 0 U U)) (Ad U (Ac (Z (Am (Aq U U ?_))))))))))))
 replace H:=H.k1
 exact Ak ⟨rfl,rfl⟩ H
theorem Va (nb:Nat):
    Cn Tryz.prog 95 [.func (.func 303) #[] #[.pointer (some ⟨nb,0,none⟩)]] [] [] (fun v Bs=>∃ b,v=.pointer (some ⟨b,0,none⟩)∧Bs=[blk b [.int .u32 0,.int .i32 0,.int .u32 0,.int .u32 0,.func (.func 303) #[] #[.pointer (some ⟨nb,0,none⟩)],.string ⟨#[]⟩] 234]):=by
 intro w0 F0 H
 refine enter Tryz.func95 U U (Nat.le_of_ble_eq_true U) (Aa (Ae (Ad U (Ac (Z (Aa (Ae (Ad U (V U U (CQ (parts:=[(2,.tmp 3)]) (vs:=[.func (.func 303) #[] #[.pointer (some ⟨nb,0,none⟩)]]) (cs:=[.int .u32 0,.int .i32 0,.int .u32 0,.int .u32 0,.func (.func 303) #[] #[.pointer (some ⟨nb,0,none⟩)],.string ⟨#[]⟩]) U No U U) (Cm U U U U H (fun b1 w H=>(Ad U (Ac (Z ?_))))))))))))))
 replace H:Hd _ _ _ [blk b1 [.int .u32 0,.int .i32 0,.int .u32 0,.int .u32 0,.func (.func 303) #[] #[.pointer (some ⟨nb,0,none⟩)],.string ⟨#[]⟩] 234] []:=H
 exact Am (Aq U U (Ak ⟨_,rfl,rfl⟩ H))
theorem Y1 (r:Nat) (pv:Value) (key:ByteArray) (vv:Value) (fuel pos steps:Int) (halted:Bool) (sv:Value) (g:Nat→AL) (tv:Value) (mb:Nat) (n:Int) (hn:AP n):
    Cn Tryz.prog 274 [.pointer (some ⟨r,0,none⟩),.int .i64 n] [BL mb] [blk r (A_ pv key vv fuel pos steps halted sv g tv (.map (some mb))) 288,gl] (fun v Bs=>v=.string (dg.dig n)∧Bs=[BL mb]):=by
 intro w0 F0 H
 obtain ⟨kvs,H⟩:=Sp H
 refine enter Tryz.func274 U U (Nat.le_of_ble_eq_true U) (Aa (Ae (Cm U U U U H (fun b1 w H=>(Ad U (Ac (Z ?_)))))))
 replace H:Hd _ _ _ [blk b1 [.int .i64 n] 2,DT mb (kvs.map Eb),DI 234 kvs] [blk r (A_ pv key vv fuel pos steps halted sv g tv (.map (some mb))) 288,gl]:=H
 refine Aa (Aa ?_)
 by_cases hno:Ee n (kvs.map Eb)=none
 ·refine Gd mo (by kernel_rfl) H (D4 U (Bu U U (fun w H=>AF U U) (Bu U U (fun w H=>Aj U Io U) (Bu U U (fun w H=>Al U I1 U (H.cellRI 0 U U)) (Bu U U (fun w H=>Al U DM U (H.cellI 0 U U)) (Bu U U (fun w H=>J1 U I5 H8 Ky U U H 1 U (by rw [hno]<;>rfl)) (Bu U U (fun w H=>CW U I3 U U) (Gs (fun w H=>(Z (Ck U ?_)))))))))))
  replace H:=H.sel 3 [0,2,1] [] rfl (by kernel_rfl)
  replace H:Hd _ _ _ [blk b1 [.int .i64 n] 2,DI 234 kvs,DT mb (kvs.map Eb)] [blk r (A_ pv key vv fuel pos steps halted sv g tv (.map (some mb))) 288,gl]:=H
  refine B1 (.e 0 (.e 1 (.e 2 (.e 3 (.e 4 (.e 5 (.m 6 (.m 7 .z)))))))) (fun w=>∃ Ar,Hd w0 F0 w (blk b1 [.int .i64 n] 2::DI 234 kvs::Ar) [blk r (A_ pv key vv fuel pos steps halted sv g tv (.map (some mb))) 288,gl]) mo (by kernel_rfl) (fun w H=>⟨_,H⟩) H (fun w H=>(At U (Ap U U U (fun w ⟨Ar,H⟩=>AF U U) (Ap U U U (fun w ⟨Ar,H⟩=>Aj U Io U) (Ap U U U (fun w ⟨Ar,H⟩=>Al U I1 U (H.cellRI 0 U U)) (Ap U U U (fun w ⟨Ar,H⟩=>Al U DM U (H.cellI 0 U U)) (Ap U U U (fun w ⟨Ar,H⟩=>G8 (fs:=#[]) (cs:=#[.pointer (some ⟨b1,0,none⟩)]) U U U) (AO U (sc (Va b1) H l0 U U (Au Pa U U) ?_)))))))))
  rintro _ _ w ⟨b2,rfl,rfl⟩ H
  replace H:=H.h1 (A:=blk b2 [.int .u32 0,.int .i32 0,.int .u32 0,.int .u32 0,.func (.func 303) #[] #[.pointer (some ⟨b1,0,none⟩)],.string ⟨#[]⟩] 234)|>.p2|>.p2
  refine AJ ⟨_,H⟩ (AO U ?_)
  replace H:=H.p3
  refine Yj U U U I5 H8 U U U hno H (fun w H=>?_)
  replace H:=H.h1 (A:=DT mb (kvs.map Eb++[(n,.pointer (some ⟨b2,0,none⟩))]))|>.p2|>.p2
  refine AJ ⟨_,H⟩ (BK (Z (Aa (B1 (.e 0 (.e 1 (.e 2 (.e 3 (.e 4 (.e 5 (.m 6 (.e 7 .z)))))))) (fun w=>∃ Ar,Hd w0 F0 w (blk b1 [.int .i64 n] 2::DI 234 kvs::DT mb (kvs.map Eb++[(n,.pointer (some ⟨b2,0,none⟩))])::Ar) [blk r (A_ pv key vv fuel pos steps halted sv g tv (.map (some mb))) 288,gl]) mo (by kernel_rfl) (fun w H=>⟨_,H⟩) H (fun w H=>(At U (Ap U U U (fun w ⟨Ar,H⟩=>AF U U) (Ap U U U (fun w ⟨Ar,H⟩=>Aj U Io U) (Ap U U U (fun w ⟨Ar,H⟩=>Al U I1 U (H.cellRI 0 U U)) (Ap U U U (fun w ⟨Ar,H⟩=>Al U DM U (H.cellI 0 U U)) (Ap U U U (fun w ⟨Ar,H⟩=>J1 U I5 H8 Ky U U H 2 U (by rw [Ni hno]<;>rfl)) (AO U ?_))))))))))))
  replace H:=H.p3
  refine sc (Ti b2 b1 n hn) H (lA 0 U (fun _ h=>h) (lR 1 U l0)) U U (Au It U U) ?_
  rintro _ _ w ⟨rfl,rfl⟩ H
  replace H:=H.h1 (A:=blk b2 [.int .u32 1,.int .i32 0,.int .u32 0,.int .u32 1,.func (.func 303) #[] #[.pointer (some ⟨b1,0,none⟩)],.string (dg.dig n)] 234)|>.p3|>.p3|>.p3
  refine AJ ⟨_,H⟩ (At U (BK (Z (Am (Aq U U ?_)))))
  replace H:=H.p2.p2.p3.k3
  replace H:=RW (n:=n) (H.ex_in (A:=fun f:Value=>blk b2 [.int .u32 1,.int .i32 0,.int .u32 0,.int .u32 1,f,.string (Hv n)] 234) (.func (.func 303) #[] #[.pointer (some ⟨b1,0,none⟩)]))
  replace H:=H.perm (List.Perm.swap _ _ _)
  rw [←VB] at H
  replace H:=KP _ H
  replace H:Hd _ _ _ [BL mb] [blk r (A_ pv key vv fuel pos steps halted sv g tv (.map (some mb))) 288,gl]:=H
  exact Ak ⟨rfl,rfl⟩ H
 refine Gd mo (by kernel_rfl) H (D4 U (Bu U U (fun w H=>AF U U) (Bu U U (fun w H=>Aj U Io U) (Bu U U (fun w H=>Al U I1 U (H.cellRI 0 U U)) (Bu U U (fun w H=>Al U DM U (H.cellI 0 U U)) ?_)))))
 obtain ⟨v0,hv0⟩:=Option.ne_none_iff_exists'.1 hno
 obtain ⟨c,rfl,hmem⟩:=Nh hv0
 refine Bu U U (fun w H=>J1 U I5 H8 Ky U U H 1 U (by rw [hv0]<;>rfl)) (Bu U U (fun w H=>CW U I3 U U) (Gs (fun w H=>(Z (B7 U (Ax (Z (Aa (B1 (.e 0 (.e 1 (.e 2 (.e 3 (.e 4 (.e 5 (.m 6 (.e 7 .z)))))))) (fun w=>∃ Ar,Hd w0 F0 w (blk b1 [.int .i64 n] 2::DT mb (kvs.map Eb)::DI 234 kvs::Ar) [blk r (A_ pv key vv fuel pos steps halted sv g tv (.map (some mb))) 288,gl]) mo (by kernel_rfl) (fun w H=>⟨_,H⟩) H (fun w H=>(At U (Ap U U U (fun w ⟨Ar,H⟩=>AF U U) (Ap U U U (fun w ⟨Ar,H⟩=>Aj U Io U) (Ap U U U (fun w ⟨Ar,H⟩=>Al U I1 U (H.cellRI 0 U U)) (Ap U U U (fun w ⟨Ar,H⟩=>Al U DM U (H.cellI 0 U U)) (Ap U U U (fun w ⟨Ar,H⟩=>J1 U I5 H8 Ky U U H 1 U (by rw [hv0]<;>rfl)) ?_))))))))))))))))
 refine AO U ?_
 replace H:=H.p2
 replace H:Hd _ _ _ [DI 234 kvs,blk b1 [.int .i64 n] 2,DT mb (kvs.map Eb)] [blk r (A_ pv key vv fuel pos steps halted sv g tv (.map (some mb))) 288,gl]:=H
 obtain ⟨rest,H,hback⟩:=RX hmem H
 obtain ⟨f0,H⟩:=H.ex_out
 refine sc (Lr c f0 (Hv n)) H l0 U U (Au It U U) ?_
 rintro _ _ w ⟨rfl,rfl⟩ H
 replace H:=hback (H.ex_in (A:=fun f:Value=>blk c [.int .u32 1,.int .i32 0,.int .u32 0,.int .u32 1,f,.string (Hv n)] 234) f0)
 replace H:=H.p2.p2
 refine AJ ⟨_,H⟩ (At U (BK (Z (Am (Aq U U ?_)))))
 replace H:=H.p2.p2.k2
 replace H:=KP _ H
 replace H:=H.h1 (A:=BL mb)
 exact Ak ⟨rfl,rfl⟩ H
end Go.Proofs.YthgehekecfpikaaGreatDoor.X
