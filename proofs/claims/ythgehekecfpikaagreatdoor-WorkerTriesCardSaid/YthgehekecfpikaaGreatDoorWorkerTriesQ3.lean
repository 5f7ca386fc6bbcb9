/- WorkerTries: texts O2, V5, P1, V6, V7, P2, joined by a program of ours; what nothing names is left out. -/
import Derived.Test.YthgehekecfpikaaGreatDoorWorkerTriesQ2
import Derived.Tactics2
import Derived.Laws.Pointers
import Derived.RegionTactic
import Derived.RegionCalls
import Derived.ChangeAlike
import Derived.Test.YthgehekecfpikaaGreatDoorShelf
set_option linter.unusedVariables false
set_option linter.unusedSimpArgs false
set_option maxHeartbeats 8000000
namespace Go.Proofs.YthgehekecfpikaaGreatDoor.X
open Go
set_option maxRecDepth 100000 in
theorem Tf (c pl:Nat) (sm:Value) (md:Int) (fv:Value) (tx tx2:ByteArray) (Rs:List SP)
  (hcl:Cn Tryz.prog 170 [.pointer (some ⟨pl,0,none⟩)] [blk c [.int .u32 0,.int .i32 1,sm,.int .u32 md,fv,.string tx] 234] Rs (fun v Bs=>v=.tuple #[]∧Bs=[blk c [.int .u32 0,.int .i32 1,sm,.int .u32 md,fv,.string tx2] 234])):
  Cn Tryz.prog 205 [.pointer (some ⟨c,0,none⟩),.func (.func 170) #[] #[.pointer (some ⟨pl,0,none⟩)]] [blk c [.int .u32 0,.int .i32 0,sm,.int .u32 md,fv,.string tx] 234] Rs (fun v Bs=>v=.tuple #[]∧Bs=[blk c [.int .u32 1,.int .i32 0,sm,.int .u32 md,fv,.string tx2] 234]):=by
 intro w F H
 have hnot:∀ (x:Bool) (w:World),(Op.unary .not (.bool x)).run Tryz.prog w=.ok (.bool (!x)) w:=fun _ _=>rfl
 go_enter_defers Tryz.func205,Tryz.ntmps205
 go_wp2_with (first
  |(go_at_call 241;refine (Gq (As:=[]) (PH c 0 sm md fv tx) H l0).mono ?_;rintro e w1 ⟨v,rfl,Bs,⟨rfl,rfl⟩,H1⟩)
  |(go_at_call 144;refine (Gq (Cs:=[]) (Ke c 1 sm md fv tx) H1 (lA 0 rfl (fun _ h=>h) l0)).mono ?_;rintro e w2 ⟨v,rfl,Bs,⟨rfl,rfl⟩,H2⟩)
  |(go_at_call 170;refine (Gq (As:=[]) hcl H2 L7).mono ?_;rintro e w3 ⟨v,rfl,Bs,⟨rfl,rfl⟩,H3⟩))
 refine leaves_cons (f:=142) (args:=#[.pointer (some ⟨c,0,none⟩),.bool true]) (by simp) (by simp [go_sem]) ?_
 refine (JE (As:=[]) (Rl c 0 1 sm md fv tx2) H3 l0).mono ?_
 rintro e u' w4 ⟨rfl,v,rfl,Bs,⟨rfl,rfl⟩,H4⟩
 refine leaves_cons (f:=242) (args:=#[.pointer (some ⟨c,1,none⟩)]) (by simp [settle]) (by simp [go_sem]) ?_
 refine (JE (As:=[]) (RI c 1 sm md fv tx2) H4 l0).mono ?_
 rintro e u' w5 ⟨rfl,v,rfl,Bs,⟨rfl,rfl⟩,H5⟩
 exact ⟨.tuple #[],by simp [results,Tryz.results205],.tuple #[],rfl,_,⟨rfl,rfl⟩,H5⟩
theorem ZG (nb:Nat) (n:Int) (hn:AA n):
    Cn Tryz.prog 303 [.pointer (some ⟨nb,0,none⟩)] [] [blk nb [.int .i64 n] 2,gl] (fun v Bs=>v=.string (dg.dig n)∧Bs=[]):=by
 intro w0 F0 H
 refine enter Tryz.func303 U U (Nat.le_of_ble_eq_true U) (Ab (Ae (Ad U (Ac (Aa (Ab (Ae (V U U (Ak U D1 U (H.cellRI 0 U U)) (sc (N6 n (by assumption)) H (lR 1 U l0) U U (At Pv U U) ?_)))))))))
 rintro _ _ w ⟨rfl,rfl⟩ H
 refine Ad U (Ac (Aa (An (Aq U U ?_))))
 replace H:Hd _ _ _ [] [blk nb [.int .i64 n] 2,gl]:=H
 exact Al ⟨rfl,rfl⟩ H
theorem T4 (c pl nb:Nat) (n:Int) (hn:AA n) (sm:Value) (md:Int) (tx:ByteArray):
    Cn Tryz.prog 170 [.pointer (some ⟨pl,0,none⟩)] [blk c [.int .u32 0,.int .i32 1,sm,.int .u32 md,.func (.func 303) #[] #[.pointer (some ⟨nb,0,none⟩)],.string tx] 234] [blk pl [.pointer (some ⟨c,0,none⟩)] 161,blk nb [.int .i64 n] 2,gl] (fun v Bs=>v=.tuple #[]∧Bs=[blk c [.int .u32 0,.int .i32 1,sm,.int .u32 md,.func (.func 303) #[] #[.pointer (some ⟨nb,0,none⟩)],.string (dg.dig n)] 234]):=by
 intro w0 F0 H
 refine enter Tryz.func170 U U (Nat.le_of_ble_eq_true U) (Ab (Ae (V U U (Ak U DT U (H.cellRI 0 U U)) (V U U (AH U U) (V U U (Aj U JW U) (V U U (Ak U KT U (H.cellI 0 U U)) (V U U (QF U RA U U) (Ac (Aa (Cw U (BY (.e 0 (.e 1 (.e 2 (.e 3 (.m 4 (.m 5 (.e 6 (.e 7 (.m 8 .z))))))))) (fun w=>∃ Ar,Hd w0 F0 w (Ar) [blk pl [.pointer (some ⟨c,0,none⟩)] 161,blk nb [.int .i64 n] 2,gl]) mo (by kernel_rfl) (fun w H=>⟨_,H⟩) H (fun w H=>(Ao U U U (fun w ⟨Ar,H⟩=>Ak U DT U (H.cellRI 0 U U)) (Ao U U U (fun w ⟨Ar,H⟩=>Ak U DT U (H.cellRI 0 U U)) (Ao U U U (fun w ⟨Ar,H⟩=>AH U U) (Ao U U U (fun w ⟨Ar,H⟩=>Aj U JW U) (AO U (V U U (Ak U KT U (H.cellI 0 U U)) ?_))))))))))))))))))
 refine AE ⟨_,H⟩ (AO U (sc (ZG nb n hn) H (lR 1 U (lR 2 U l0)) U U (F_ (vs:=[]) (fs:=#[]) (cs:=#[.pointer (some ⟨nb,0,none⟩)]) VC U U U) ?_))
 rintro _ _ w ⟨rfl,rfl⟩ H
 refine AE ⟨_,H⟩ (Ao U U U (fun w ⟨Ar,H⟩=>AH U U) (Ao U U U (fun w ⟨Ar,H⟩=>Aj U IM U) (AO U (BE U U U BV U U H U (Nat.le_of_ble_eq_true U) (fun u hu=>by simp [Value.cells] at hu;subst hu;rfl) (fun w H=>?_)))))
 replace H:Hd _ _ _ [blk c [.int .u32 0,.int .i32 1,sm,.int .u32 md,.func (.func 303) #[] #[.pointer (some ⟨nb,0,none⟩)],.string (dg.dig n)] 234] [blk pl [.pointer (some ⟨c,0,none⟩)] 161,blk nb [.int .i64 n] 2,gl]:=H
 exact AE ⟨_,H⟩ (BP (DC U (Al ⟨rfl,rfl⟩ H)))
theorem Tc (c pl nb:Nat) (n:Int) (hn:AA n) (sm:Value) (md:Int) (tx:ByteArray):
    Cn Tryz.prog 169 [.pointer (some ⟨c,0,none⟩),.func (.func 170) #[] #[.pointer (some ⟨pl,0,none⟩)]] [blk c [.int .u32 0,.int .i32 0,sm,.int .u32 md,.func (.func 303) #[] #[.pointer (some ⟨nb,0,none⟩)],.string tx] 234] [blk pl [.pointer (some ⟨c,0,none⟩)] 161,blk nb [.int .i64 n] 2,gl] (fun v Bs=>v=.tuple #[]∧Bs=[blk c [.int .u32 1,.int .i32 0,sm,.int .u32 md,.func (.func 303) #[] #[.pointer (some ⟨nb,0,none⟩)],.string (dg.dig n)] 234]):=by
 intro w0 F0 H
 refine enter Tryz.func169 U U (Nat.le_of_ble_eq_true U) (Ab (Ae (Ad U (V U U (AH U U) (V U U (Aj U LE U) (sc (Ke c 0 sm md (.func (.func 303) #[] #[.pointer (some ⟨nb,0,none⟩)]) tx) H (lA 0 U (fun _ h=>h) l0) U U (At J5 U U) ?_))))))
 rintro _ _ w ⟨rfl,rfl⟩ H
 refine V U U (FW U U U) (Ac (Aa (Cw U (Ae (Ah 2 U (sc (Tf c pl sm md (.func (.func 303) #[] #[.pointer (some ⟨nb,0,none⟩)]) tx (dg.dig n) [blk pl [.pointer (some ⟨c,0,none⟩)] 161,blk nb [.int .i64 n] 2,gl] (T4 c pl nb n hn sm md tx)) H (lR 0 U (lR 1 U (lR 2 U l0))) U U (At Po U U) ?_))))))
 rintro _ _ w ⟨rfl,rfl⟩ H
 refine Ac (DC U ?_)
 replace H:Hd _ _ _ [blk c [.int .u32 1,.int .i32 0,sm,.int .u32 md,.func (.func 303) #[] #[.pointer (some ⟨nb,0,none⟩)],.string (dg.dig n)] 234] [blk pl [.pointer (some ⟨c,0,none⟩)] 161,blk nb [.int .i64 n] 2,gl]:=H
 exact Al ⟨rfl,rfl⟩ H
theorem Td (c pl:Nat) (m:Int) (sm:Value) (md:Int) (fv:Value) (tx:ByteArray):
    Cn Tryz.prog 169 [.pointer (some ⟨c,0,none⟩),.func (.func 170) #[] #[.pointer (some ⟨pl,0,none⟩)]] [] [blk c [.int .u32 1,.int .i32 m,sm,.int .u32 md,fv,.string tx] 234] (fun v Bs=>v=.tuple #[]∧Bs=[]):=by
 intro w0 F0 H
 refine enter Tryz.func169 U U (Nat.le_of_ble_eq_true U) (Ab (Ae (Ad U (V U U (AH U U) (V U U (Aj U LE U) (sc (VZ c m sm md fv tx) H (lR 0 U l0) U U (At J5 U U) ?_))))))
 rintro _ _ w ⟨rfl,rfl⟩ H
 refine V U U (FW U U U) (Ac (Aa (B7 U (Av (DC U ?_)))))
 replace H:Hd _ _ _ [] [blk c [.int .u32 1,.int .i32 m,sm,.int .u32 md,fv,.string tx] 234]:=H
 exact Al ⟨rfl,rfl⟩ H
theorem T3 (c nb:Nat) (n:Int) (hn:AA n):
    Cn Tryz.prog 109 [.pointer (some ⟨c,0,none⟩)] [blk c [.int .u32 0,.int .i32 0,.int .u32 0,.int .u32 0,.func (.func 303) #[] #[.pointer (some ⟨nb,0,none⟩)],.string ⟨#[]⟩] 234] [blk nb [.int .i64 n] 2,gl] (fun v Bs=>v=.string (dg.dig n)∧Bs=[blk c [.int .u32 1,.int .i32 0,.int .u32 0,.int .u32 1,.func (.func 303) #[] #[.pointer (some ⟨nb,0,none⟩)],.string (dg.dig n)] 234]):=by
 intro w0 F0 H
 refine enter Tryz.func109 U U (Nat.le_of_ble_eq_true U) (Ab (Ae (CA U U U U H (fun b1 w H=>(Ad U (Ac (Aa ?_)))))))
 replace H:Hd _ _ _ [blk b1 [.pointer (some ⟨c,0,none⟩)] 161,blk c [.int .u32 0,.int .i32 0,.int .u32 0,.int .u32 0,.func (.func 303) #[] #[.pointer (some ⟨nb,0,none⟩)],.string ⟨#[]⟩] 234] [blk nb [.int .i64 n] 2,gl]:=H
 refine Ab (Ab (Ae (V U U (Ak U DT U (H.cellI 0 U U)) (V U U (Dn U Ju U U) (Ac (Aa (B7 U (Av (Aa (Ab (Ae (V U U (Ak U DT U (H.cellI 0 U U)) (V U U (AH U U) (V U U (Aj U LG U) ?_))))))))))))))
 replace H:=H.p1
 refine sc (MV c 0 0 (.int .u32 0) 0 (.func (.func 303) #[] #[.pointer (some ⟨nb,0,none⟩)]) (⟨#[]⟩:ByteArray)) H l0 U U (At J4 U U) ?_
 rintro _ _ w ⟨rfl,rfl⟩ H
 replace H:=H.h1 (A:=blk c [.int .u32 0,.int .i32 0,.int .u32 0,.int .u32 1,.func (.func 303) #[] #[.pointer (some ⟨nb,0,none⟩)],.string ⟨#[]⟩] 234)
 refine Ac (Aa (Ab (Ae (V U U (Ak U DT U (H.cellI 1 U U)) (V U U (AH U U) (V U U (Aj U LF U) (V U U (Hq (fs:=#[]) (cs:=#[.pointer (some ⟨b1,0,none⟩)]) U U U) (sc (Tc c b1 nb n hn (.int .u32 0) 1 ⟨#[]⟩) H (lA 0 U (fun _ h=>h) (lR 0 U (lR 1 U l0))) U U (At LY U U) ?_))))))))
 rintro _ _ w ⟨rfl,rfl⟩ H
 replace H:=H.h1 (A:=blk c [.int .u32 1,.int .i32 0,.int .u32 0,.int .u32 1,.func (.func 303) #[] #[.pointer (some ⟨nb,0,none⟩)],.string (dg.dig n)] 234)
 refine Ac (Aa (Ab (Ae (V U U (Ak U DT U (H.cellI 1 U U)) (V U U (AH U U) (V U U (Aj U IM U) (V U U (Ak U BV U (H.cellI 0 U U)) (Ad U (Ac (Aa (An (Aq U U ?_))))))))))))
 replace H:=H.k1
 exact Al ⟨rfl,rfl⟩ H
theorem LM (c:Nat) (fv:Value) (tx:ByteArray):
    Cn Tryz.prog 109 [.pointer (some ⟨c,0,none⟩)] [blk c [.int .u32 1,.int .i32 0,.int .u32 0,.int .u32 1,fv,.string tx] 234] [] (fun v Bs=>v=.string tx∧Bs=[blk c [.int .u32 1,.int .i32 0,.int .u32 0,.int .u32 1,fv,.string tx] 234]):=by
 intro w0 F0 H
 refine enter Tryz.func109 U U (Nat.le_of_ble_eq_true U) (Ab (Ae (CA U U U U H (fun b1 w H=>(Ad U (Ac (Aa ?_)))))))
 replace H:Hd _ _ _ [blk b1 [.pointer (some ⟨c,0,none⟩)] 161,blk c [.int .u32 1,.int .i32 0,.int .u32 0,.int .u32 1,fv,.string tx] 234] []:=H
 refine Ab (Ab (Ae (V U U (Ak U DT U (H.cellI 0 U U)) (V U U (Dn U Ju U U) (Ac (Aa (B7 U (Av (Aa (Ab (Ae (V U U (Ak U DT U (H.cellI 0 U U)) (V U U (AH U U) (V U U (Aj U LG U) ?_))))))))))))))
 replace H:=H.p1
 refine sc (MV c 1 0 (.int .u32 0) 1 fv tx) H l0 U U (At J4 U U) ?_
 rintro _ _ w ⟨rfl,rfl⟩ H
 refine Ac (Aa (Ab (Ae (V U U (Ak U DT U (H.cellI 1 U U)) (V U U (AH U U) (V U U (Aj U LF U) (V U U (Hq (fs:=#[]) (cs:=#[.pointer (some ⟨b1,0,none⟩)]) U U U) (sc (Td c b1 0 (.int .u32 0) 1 fv tx) H (lA 0 U (fun _ h=>h) l0) U U (At LY U U) ?_))))))))
 rintro _ _ w ⟨rfl,rfl⟩ H
 refine Ac (Aa (Ab (Ae (V U U (Ak U DT U (H.cellI 1 U U)) (V U U (AH U U) (V U U (Aj U IM U) (V U U (Ak U BV U (H.cellI 0 U U)) (Ad U (Ac (Aa (An (Aq U U ?_))))))))))))
 replace H:=H.k1
 exact Al ⟨rfl,rfl⟩ H
theorem VS (nb:Nat):
    Cn Tryz.prog 95 [.func (.func 303) #[] #[.pointer (some ⟨nb,0,none⟩)]] [] [] (fun v Bs=>∃ b,v=.pointer (some ⟨b,0,none⟩)∧Bs=[blk b [.int .u32 0,.int .i32 0,.int .u32 0,.int .u32 0,.func (.func 303) #[] #[.pointer (some ⟨nb,0,none⟩)],.string ⟨#[]⟩] 234]):=by
 intro w0 F0 H
 refine enter Tryz.func95 U U (Nat.le_of_ble_eq_true U) (Ab (Ae (Ad U (Ac (Aa (Ab (Ae (Ad U (V U U (Co (parts:=[(2,.tmp 3)]) (vs:=[.func (.func 303) #[] #[.pointer (some ⟨nb,0,none⟩)]]) (cs:=[.int .u32 0,.int .i32 0,.int .u32 0,.int .u32 0,.func (.func 303) #[] #[.pointer (some ⟨nb,0,none⟩)],.string ⟨#[]⟩]) U NK U U) (CA U U U U H (fun b1 w H=>(Ad U (Ac (Aa ?_))))))))))))))
 replace H:Hd _ _ _ [blk b1 [.int .u32 0,.int .i32 0,.int .u32 0,.int .u32 0,.func (.func 303) #[] #[.pointer (some ⟨nb,0,none⟩)],.string ⟨#[]⟩] 234] []:=H
 exact An (Aq U U (Al ⟨_,rfl,rfl⟩ H))
theorem ZH (r:Nat) (pv:Value) (key:ByteArray) (vv:Value) (fuel pos steps:Int) (halted:Bool) (sv:Value) (g:Nat→AQ) (tv:Value) (mb:Nat) (n:Int) (hn:AA n):
    Cn Tryz.prog 274 [.pointer (some ⟨r,0,none⟩),.int .i64 n] [BS mb] [blk r (Bc pv key vv fuel pos steps halted sv g tv (.map (some mb))) 288,gl] (fun v Bs=>v=.string (dg.dig n)∧Bs=[BS mb]):=by
 intro w0 F0 H
 obtain ⟨kvs,H⟩:=Tb H
 refine enter Tryz.func274 U U (Nat.le_of_ble_eq_true U) (Ab (Ae (CA U U U U H (fun b1 w H=>(Ad U (Ac (Aa ?_)))))))
 replace H:Hd _ _ _ [blk b1 [.int .i64 n] 2,D8 mb (kvs.map Er),DX 234 kvs] [blk r (Bc pv key vv fuel pos steps halted sv g tv (.map (some mb))) 288,gl]:=H
 refine Ab (Ab ?_)
 by_cases hno:Ev n (kvs.map Er)=none
 ·refine Gp mo (by kernel_rfl) H (Ei U (By U U (fun w H=>AH U U) (By U U (fun w H=>Aj U IN U) (By U U (fun w H=>Ak U Js U (H.cellRI 0 U U)) (By U U (fun w H=>Ak U D1 U (H.cellI 0 U U)) (By U U (fun w H=>Kv U Jw Iw K0 U U H 1 U (by rw [hno]<;>rfl)) (By U U (fun w H=>Dn U Ju U U) (GF (fun w H=>(Aa (Cw U ?_)))))))))))
  replace H:=H.sel 3 [0,2,1] [] rfl (by kernel_rfl)
  replace H:Hd _ _ _ [blk b1 [.int .i64 n] 2,DX 234 kvs,D8 mb (kvs.map Er)] [blk r (Bc pv key vv fuel pos steps halted sv g tv (.map (some mb))) 288,gl]:=H
  refine BY (.e 0 (.e 1 (.e 2 (.e 3 (.e 4 (.e 5 (.m 6 (.m 7 .z)))))))) (fun w=>∃ Ar,Hd w0 F0 w (blk b1 [.int .i64 n] 2::DX 234 kvs::Ar) [blk r (Bc pv key vv fuel pos steps halted sv g tv (.map (some mb))) 288,gl]) mo (by kernel_rfl) (fun w H=>⟨_,H⟩) H (fun w H=>(Au U (Ao U U U (fun w ⟨Ar,H⟩=>AH U U) (Ao U U U (fun w ⟨Ar,H⟩=>Aj U IN U) (Ao U U U (fun w ⟨Ar,H⟩=>Ak U Js U (H.cellRI 0 U U)) (Ao U U U (fun w ⟨Ar,H⟩=>Ak U D1 U (H.cellI 0 U U)) (Ao U U U (fun w ⟨Ar,H⟩=>Hq (fs:=#[]) (cs:=#[.pointer (some ⟨b1,0,none⟩)]) U U U) (AO U (sc (VS b1) H l0 U U (At PD U U) ?_)))))))))
  rintro _ _ w ⟨b2,rfl,rfl⟩ H
  replace H:=H.h1 (A:=blk b2 [.int .u32 0,.int .i32 0,.int .u32 0,.int .u32 0,.func (.func 303) #[] #[.pointer (some ⟨b1,0,none⟩)],.string ⟨#[]⟩] 234)|>.p2|>.p2
  refine AE ⟨_,H⟩ (AO U ?_)
  replace H:=H.p3
  refine YZ U U U Jw Iw U U U hno H (fun w H=>?_)
  replace H:=H.h1 (A:=D8 mb (kvs.map Er++[(n,.pointer (some ⟨b2,0,none⟩))]))|>.p2|>.p2
  refine AE ⟨_,H⟩ (BP (Aa (Ab (BY (.e 0 (.e 1 (.e 2 (.e 3 (.e 4 (.e 5 (.m 6 (.e 7 .z)))))))) (fun w=>∃ Ar,Hd w0 F0 w (blk b1 [.int .i64 n] 2::DX 234 kvs::D8 mb (kvs.map Er++[(n,.pointer (some ⟨b2,0,none⟩))])::Ar) [blk r (Bc pv key vv fuel pos steps halted sv g tv (.map (some mb))) 288,gl]) mo (by kernel_rfl) (fun w H=>⟨_,H⟩) H (fun w H=>(Au U (Ao U U U (fun w ⟨Ar,H⟩=>AH U U) (Ao U U U (fun w ⟨Ar,H⟩=>Aj U IN U) (Ao U U U (fun w ⟨Ar,H⟩=>Ak U Js U (H.cellRI 0 U U)) (Ao U U U (fun w ⟨Ar,H⟩=>Ak U D1 U (H.cellI 0 U U)) (Ao U U U (fun w ⟨Ar,H⟩=>Kv U Jw Iw K0 U U H 2 U (by rw [NF hno]<;>rfl)) (AO U ?_))))))))))))
  replace H:=H.p3
  refine sc (T3 b2 b1 n hn) H (lA 0 U (fun _ h=>h) (lR 1 U l0)) U U (At IT U U) ?_
  rintro _ _ w ⟨rfl,rfl⟩ H
  replace H:=H.h1 (A:=blk b2 [.int .u32 1,.int .i32 0,.int .u32 0,.int .u32 1,.func (.func 303) #[] #[.pointer (some ⟨b1,0,none⟩)],.string (dg.dig n)] 234)|>.p3|>.p3|>.p3
  refine AE ⟨_,H⟩ (Au U (BP (Aa (An (Aq U U ?_)))))
  replace H:=H.p2.p2.p3.k3
  replace H:=SH (n:=n) (H.ex_in (A:=fun f:Value=>blk b2 [.int .u32 1,.int .i32 0,.int .u32 0,.int .u32 1,f,.string (HJ n)] 234) (.func (.func 303) #[] #[.pointer (some ⟨b1,0,none⟩)]))
  replace H:=H.perm (List.Perm.swap _ _ _)
  rw [←Wh] at H
  replace H:=Lj _ H
  replace H:Hd _ _ _ [BS mb] [blk r (Bc pv key vv fuel pos steps halted sv g tv (.map (some mb))) 288,gl]:=H
  exact Al ⟨rfl,rfl⟩ H
 refine Gp mo (by kernel_rfl) H (Ei U (By U U (fun w H=>AH U U) (By U U (fun w H=>Aj U IN U) (By U U (fun w H=>Ak U Js U (H.cellRI 0 U U)) (By U U (fun w H=>Ak U D1 U (H.cellI 0 U U)) ?_)))))
 obtain ⟨v0,hv0⟩:=Option.ne_none_iff_exists'.1 hno
 obtain ⟨c,rfl,hmem⟩:=NE hv0
 refine By U U (fun w H=>Kv U Jw Iw K0 U U H 1 U (by rw [hv0]<;>rfl)) (By U U (fun w H=>Dn U Ju U U) (GF (fun w H=>(Aa (B7 U (Av (Aa (Ab (BY (.e 0 (.e 1 (.e 2 (.e 3 (.e 4 (.e 5 (.m 6 (.e 7 .z)))))))) (fun w=>∃ Ar,Hd w0 F0 w (blk b1 [.int .i64 n] 2::D8 mb (kvs.map Er)::DX 234 kvs::Ar) [blk r (Bc pv key vv fuel pos steps halted sv g tv (.map (some mb))) 288,gl]) mo (by kernel_rfl) (fun w H=>⟨_,H⟩) H (fun w H=>(Au U (Ao U U U (fun w ⟨Ar,H⟩=>AH U U) (Ao U U U (fun w ⟨Ar,H⟩=>Aj U IN U) (Ao U U U (fun w ⟨Ar,H⟩=>Ak U Js U (H.cellRI 0 U U)) (Ao U U U (fun w ⟨Ar,H⟩=>Ak U D1 U (H.cellI 0 U U)) (Ao U U U (fun w ⟨Ar,H⟩=>Kv U Jw Iw K0 U U H 1 U (by rw [hv0]<;>rfl)) ?_))))))))))))))))
 refine AO U ?_
 replace H:=H.p2
 replace H:Hd _ _ _ [DX 234 kvs,blk b1 [.int .i64 n] 2,D8 mb (kvs.map Er)] [blk r (Bc pv key vv fuel pos steps halted sv g tv (.map (some mb))) 288,gl]:=H
 obtain ⟨rest,H,hback⟩:=SI hmem H
 obtain ⟨f0,H⟩:=H.ex_out
 refine sc (LM c f0 (HJ n)) H l0 U U (At IT U U) ?_
 rintro _ _ w ⟨rfl,rfl⟩ H
 replace H:=hback (H.ex_in (A:=fun f:Value=>blk c [.int .u32 1,.int .i32 0,.int .u32 0,.int .u32 1,f,.string (HJ n)] 234) f0)
 replace H:=H.p2.p2
 refine AE ⟨_,H⟩ (Au U (BP (Aa (An (Aq U U ?_)))))
 replace H:=H.p2.p2.k2
 replace H:=Lj _ H
 replace H:=H.h1 (A:=BS mb)
 exact Al ⟨rfl,rfl⟩ H
theorem Tg (r:Nat) (pv:Value) (key:ByteArray) (vv:Value) (fuel pos steps:Int) (halted:Bool) (sv:Value) (g:Nat→AQ) (tv:Value) (mb:Nat) (stk:List AQ) (told:List Ap) (vals:List ByteArray) (i:BG) (n:Int) (hst:stk.length≤16) (hto:told.length≤40) (hok:(∀ v∈stk,EV v)∧∀ k,EV (g k)) (hi:BL i n):
    Cn Tryz.prog 243 [.pointer (some ⟨r,0,none⟩),.agg #[.int .i64 i.op,.int .i64 i.a,.string i.s]] [blk r (Bc pv key vv fuel pos steps halted sv g tv (.map (some mb))) 288,Y AX sv stk,Y Ag tv told,BS mb] [Z Bk vv vals,gl] (fun v Bs=>∃ sv2 tv2 vv2,v=.int .i64 (BK dg key ⟨pos,halted,stk,g,told,vals⟩ i).2∧C6 Bk vv vals vv2 (BK dg key ⟨pos,halted,stk,g,told,vals⟩ i).1.vals∧Bs=[blk r (Bc pv key vv2 fuel (BK dg key ⟨pos,halted,stk,g,told,vals⟩ i).1.pos steps (BK dg key ⟨pos,halted,stk,g,told,vals⟩ i).1.halted sv2 (BK dg key ⟨pos,halted,stk,g,told,vals⟩ i).1.g tv2 (.map (some mb))) 288,Y AX sv2 (BK dg key ⟨pos,halted,stk,g,told,vals⟩ i).1.stk,Y Ag tv2 (BK dg key ⟨pos,halted,stk,g,told,vals⟩ i).1.told,BS mb]):=by
 intro w0 F0 H
 refine enter Tryz.func243 U U (Nat.le_of_ble_eq_true U) (Ab (Ae (CA U U U U H (fun b1 w H=>(Ad U (Ac (Aa ?_)))))))
 replace H:Hd _ _ _ [blk b1 [.int .i64 i.op,.int .i64 i.a,.string i.s] 223,blk r (Bc pv key vv fuel pos steps halted sv g tv (.map (some mb))) 288,Y AX sv stk,Y Ag tv told,BS mb] [Z Bk vv vals,gl]:=H
 refine Ab (Ae (Ad U (V U U (Aj U C9 U) (V U U (Ak U AB U (H.cellI 0 U U)) ?_))))
 replace H:=H.p2.p2
 refine sc (Wx r pv key vv fuel pos steps halted sv g tv (.map (some mb)) stk i.op (by first |omega|exact Nat.le_trans hN.2.1 hst)) H l0 U U (At Vr U U) ?_
 rintro _ _ w ⟨u2,s3,rfl,rfl⟩ H
 replace H:=H.h3 (A:=blk r (Bc pv key vv fuel pos steps halted s3 g tv (.map (some mb))) 288) (B:=Y AX s3 ((Aw i.op stk).2.1)) (C:=Y AX u2 ((Aw i.op stk).2.2))
 refine Ah 5 U (Ac (Aa (Ab (Ab (Ae (Ad U (V U U (CX U U U) (Ac (Aa ?_)))))))))
 refine Ax U (fun h4=>?_) (fun h4=>?_)
 ·refine Ab (Ae (Ah 2 U (Ac (Aa (An (Az (Aq U U ?_)))))))
  replace H:=H.p5.p5.p3.p3.k4
  have e:BK dg key (⟨pos,halted,stk,g,told,vals⟩:VM) i=((⟨pos,halted,stk,g,told,vals⟩:VM),(Aw i.op stk).1):=Ll (m:=(⟨pos,halted,stk,g,told,vals⟩:VM)) h4
  have e2:=Wy h4
  rw [e2] at H
  replace H:Hd _ _ _ [blk r (Bc pv key vv fuel pos steps halted s3 g tv (.map (some mb))) 288,Y AX s3 stk,Y Ag tv told,BS mb] [Z Bk vv vals,gl]:=H
  exact Al ⟨s3,tv,vv,by rw [e]<;>rfl,by rw [e]<;>exact C6.refl _ _ _,by rw [e]<;>rfl⟩ H
 refine Av (Aa (Ab (Ab ?_)))
 have hN0:=Classical.not_not.1 h4
 have hN:=Mi hN0
 refine Ae (V U U (Aj U C9 U) (V U U (Ak U AB U (H.cellI 3 U U)) (Ac (Aa (AS (Ab (Ae (V U U (Bb U U U) (Ad U (Ac (Aa ?_)))))))))))
 refine Ax U (fun h5=>?_) (fun h5=>?_)
 ·have hks:(Be i.op).size=0:=by rw [h5];rfl
  refine Ae (Ad U (V U U (AH U U) (V U U (Aj U OC U) (BE U U U EU U U H U (Nat.le_of_ble_eq_true U) (fun u hu=>by simp [Value.cells] at hu;subst hu;rfl) (fun w H=>?_)))))
  replace H:=H.h1 (A:=blk r (Bc pv key vv fuel pos steps true s3 g tv (.map (some mb))) 288)
  refine Ac (AU (Aa (Ab (Ae (Ad U (Ac (Aa (An (Aq U U ?_)))))))))
  replace H:=H.p5.p5.p3.p3.k4
  have e:BK dg key (⟨pos,halted,stk,g,told,vals⟩:VM) i=((⟨pos,true,(Aw i.op stk).2.1,g,told,vals⟩:VM),0):=by
    rw [Dl (m:=(⟨pos,halted,stk,g,told,vals⟩:VM)) h4,Nl h5]
    all_goals rfl
  replace H:Hd _ _ _ [blk r (Bc pv key vv fuel pos steps true s3 g tv (.map (some mb))) 288,Y AX s3 ((Aw i.op stk).2.1),Y Ag tv told,BS mb] [Z Bk vv vals,gl]:=H
  exact Al ⟨s3,tv,vv,by rw [e]<;>rfl,by rw [e]<;>exact C6.refl _ _ _,by rw [e]<;>rfl⟩ H
 refine Ab (Ae (V U U (Bb U U U) (Ad U (Ac (Aa ?_)))))
 refine Ax U (fun h6=>?_) (fun h6=>?_)
 ·have hks:(Be i.op).size=0:=by rw [h6];rfl
  refine Ab (Ae (Ad U (V U U (Aj U Dm U) (V U U (Ak U AB U (H.cellI 3 U U)) (sc (F5 i.a) H l0 U U (At FQ U U) ?_)))))
  rintro _ _ w ⟨rfl,rfl⟩ H
  refine BX (parts:=[(0,.tmp 29)]) (vs:=[.agg #[.bool false,.int .i64 i.a,.string ⟨#[]⟩]]) (cs:=[.bool false,.int .i64 i.a,.string ⟨#[]⟩]) U U U B4 Do U (by decide) (by decide) U U H (fun b7 w H=>?_)
  replace H:=H.h1 (A:=blk b7 [.bool false,.int .i64 i.a,.string ⟨#[]⟩] 284)|>.p2|>.p2
  refine sc (Eg r pv key vv fuel pos steps halted s3 g tv (.map (some mb)) ((Aw i.op stk).2.1) (.slice (some ⟨b7,0,none⟩) 1 1) [(⟨false,i.a,⟨#[]⟩⟩:AQ)] (by first |omega|exact Nat.le_trans hN.2.1 hst) (Nat.le_of_ble_eq_true U)) H (lA 0 U (fun F h=>Cm h rfl (by decide) (AW.flat_eq.2 U)) l0) U U (At Ed U U) ?_
  rintro _ _ w ⟨s8,rfl,rfl⟩ H
  replace H:=H.h2 (A:=blk r (Bc pv key vv fuel pos steps halted s8 g tv (.map (some mb))) 288) (B:=Y AX s8 ((Bh ((Aw i.op stk).2.1) [(⟨false,i.a,⟨#[]⟩⟩:AQ)]).2))
  refine Ad U (Ac (Aa (An (A0 (Az (Aq U U ?_))))))
  replace H:=H.p6.p6.p3.p3.k4
  have e:BK dg key (⟨pos,halted,stk,g,told,vals⟩:VM) i=((⟨pos,halted,(Bh ((Aw i.op stk).2.1) [(⟨false,i.a,⟨#[]⟩⟩:AQ)]).2,g,told,vals⟩:VM),(Bh ((Aw i.op stk).2.1) [(⟨false,i.a,⟨#[]⟩⟩:AQ)]).1):=by
    rw [Dl (m:=(⟨pos,halted,stk,g,told,vals⟩:VM)) h4,Nm h6]
    all_goals rfl
  replace H:Hd _ _ _ [blk r (Bc pv key vv fuel pos steps halted s8 g tv (.map (some mb))) 288,Y AX s8 ((Bh ((Aw i.op stk).2.1) [(⟨false,i.a,⟨#[]⟩⟩:AQ)]).2),Y Ag tv told,BS mb] [Z Bk vv vals,gl]:=H
  exact Al ⟨s8,tv,vv,by rw [e]<;>rfl,by rw [e]<;>exact C6.refl _ _ _,by rw [e]<;>rfl⟩ H
 refine Ab (Ae (V U U (Bb U U U) (Ad U (Ac (Aa ?_)))))
 refine Ax U (fun h9=>?_) (fun h9=>?_)
 ·have hks:(Be i.op).size=0:=by rw [h9];rfl
  refine Ab (Ae (Ad U (V U U (Aj U EZ U) (V U U (Ak U BV U (H.cellI 3 U U)) (sc (Ix i.s) H l0 U U (At H7 U U) ?_)))))
  rintro _ _ w ⟨rfl,rfl⟩ H
  refine BX (parts:=[(0,.tmp 37)]) (vs:=[.agg #[.bool true,.int .i64 0,.string i.s]]) (cs:=[.bool true,.int .i64 0,.string i.s]) U U U B4 Do U (by decide) (by decide) U U H (fun b10 w H=>?_)
  replace H:=H.h1 (A:=blk b10 [.bool true,.int .i64 0,.string i.s] 284)|>.p2|>.p2
  refine sc (Eg r pv key vv fuel pos steps halted s3 g tv (.map (some mb)) ((Aw i.op stk).2.1) (.slice (some ⟨b10,0,none⟩) 1 1) [(⟨true,0,i.s⟩:AQ)] (by first |omega|exact Nat.le_trans hN.2.1 hst) (Nat.le_of_ble_eq_true U)) H (lA 0 U (fun F h=>Cm h rfl (by decide) (AW.flat_eq.2 U)) l0) U U (At Ed U U) ?_
  rintro _ _ w ⟨s11,rfl,rfl⟩ H
  replace H:=H.h2 (A:=blk r (Bc pv key vv fuel pos steps halted s11 g tv (.map (some mb))) 288) (B:=Y AX s11 ((Bh ((Aw i.op stk).2.1) [(⟨true,0,i.s⟩:AQ)]).2))
  refine Ad U (Ac (Aa (An (A0 (Az (Aq U U ?_))))))
  replace H:=H.p6.p6.p3.p3.k4
  have e:BK dg key (⟨pos,halted,stk,g,told,vals⟩:VM) i=((⟨pos,halted,(Bh ((Aw i.op stk).2.1) [(⟨true,0,i.s⟩:AQ)]).2,g,told,vals⟩:VM),(Bh ((Aw i.op stk).2.1) [(⟨true,0,i.s⟩:AQ)]).1):=by
    rw [Dl (m:=(⟨pos,halted,stk,g,told,vals⟩:VM)) h4,Nv h9]
    all_goals rfl
  replace H:Hd _ _ _ [blk r (Bc pv key vv fuel pos steps halted s11 g tv (.map (some mb))) 288,Y AX s11 ((Bh ((Aw i.op stk).2.1) [(⟨true,0,i.s⟩:AQ)]).2),Y Ag tv told,BS mb] [Z Bk vv vals,gl]:=H
  exact Al ⟨s11,tv,vv,by rw [e]<;>rfl,by rw [e]<;>exact C6.refl _ _ _,by rw [e]<;>rfl⟩ H
 refine Ab (Ae (V U U (Bb U U U) (Ad U (Ac (Aa ?_)))))
 refine Ax U (fun h12=>?_) (fun h12=>?_)
 ·have hks:(Be i.op).size=1:=by rw [h12];rfl
  refine Ab ?_
  obtain ⟨A13,c14,rfl,hc15,hm16,hp17⟩:=H.fA 2 rfl
  obtain ⟨x18,hx19⟩:∃ z9,((Aw i.op stk).2.2)[0]?=some z9:=⟨_,List.getElem?_eq_getElem (show 0<((Aw i.op stk).2.2).length by omega)⟩
  have okx18:=hok.1 _ (hN.2.2.1 _ (Ce hx19))
  have szx18:=okx18.2
  have inx18:=okx18.1
  replace H:=H.p5.p5.p5.p5
  refine BY (.e 0 (.e 1 (.e 2 (.e 3 (.e 4 (.e 5 (.e 6 (.m 7 (.m 8 (.e 9 .z)))))))))) (fun w=>∃ Ar,Hd w0 F0 w (Y AX (.slice A13 (((Aw i.op stk).2.2).length) c14) ((Aw i.op stk).2.2)::blk b1 [.int .i64 i.op,.int .i64 i.a,.string i.s] 223::Y Ag tv told::BS mb::Ar) [Z Bk vv vals,gl]) mo (by kernel_rfl) (fun w H=>⟨_,H⟩) H (fun w H=>(Au U (Au U ?_)))
  have th20:=H.thA 0 rfl hx19
  refine Ao U U U (fun w ⟨Ar,H⟩=>AZ (p:=AP A13+0*3) U B4 U U (by omega) (by omega) th20 (by omega)) (Ao U U U (fun w ⟨Ar,H⟩=>Bq (cs:=[.bool x18.t,.int .i64 x18.n,.string x18.b]) U Da U U (H.elsA 0 U hx19 U)) (Au U ?_))
  have th21:=H.thA 0 rfl hx19
  refine Ao U U U (fun w ⟨Ar,H⟩=>AZ (p:=AP A13+0*3) U B4 U U (by omega) (by omega) th21 (by omega)) (Ao U U U (fun w ⟨Ar,H⟩=>Bq (cs:=[.bool x18.t,.int .i64 x18.n,.string x18.b]) U Da U U (H.elsA 0 U hx19 U)) (AO U (BX (parts:=[(0,.tmp 45),(1,.tmp 48)]) (vs:=[.agg #[.bool x18.t,.int .i64 x18.n,.string x18.b],.agg #[.bool x18.t,.int .i64 x18.n,.string x18.b]]) (cs:=[.bool x18.t,.int .i64 x18.n,.string x18.b,.bool x18.t,.int .i64 x18.n,.string x18.b]) U U U B4 Do U (by decide) (by decide) U U H (fun b22 w H=>?_))))
  replace H:=H.h1 (A:=blk b22 [.bool x18.t,.int .i64 x18.n,.string x18.b,.bool x18.t,.int .i64 x18.n,.string x18.b] 284)|>.p4|>.p4|>.p4|>.p4
  refine AE ⟨_,H⟩ (AO U ?_)
  replace H:=H.p6.p6
  refine sc (Eg r pv key vv fuel pos steps halted s3 g tv (.map (some mb)) ((Aw i.op stk).2.1) (.slice (some ⟨b22,0,none⟩) 2 2) [x18,x18] (by first |omega|exact Nat.le_trans hN.2.1 hst) (Nat.le_of_ble_eq_true U)) H (lA 4 U (fun F h=>Cm h rfl (by decide) (AW.flat_eq.2 U)) l0) U U (At Ed U U) ?_
  rintro _ _ w ⟨s23,rfl,rfl⟩ H
  replace H:=H.h2 (A:=blk r (Bc pv key vv fuel pos steps halted s23 g tv (.map (some mb))) 288) (B:=Y AX s23 ((Bh ((Aw i.op stk).2.1) [x18,x18]).2))|>.p5|>.p5|>.p5|>.p5
  refine AE ⟨_,H⟩ (Au U (BP (Aa (An (A0 (Az (Aq U U ?_)))))))
  replace H:=H.p3.p3.p5.p5.k4
  have e:BK dg key (⟨pos,halted,stk,g,told,vals⟩:VM) i=((⟨pos,halted,(Bh ((Aw i.op stk).2.1) [x18,x18]).2,g,told,vals⟩:VM),(Bh ((Aw i.op stk).2.1) [x18,x18]).1):=by
    rw [Dl (m:=(⟨pos,halted,stk,g,told,vals⟩:VM)) h4,Nz h12]
    rw [De hx19]<;>rfl
  replace H:Hd _ _ _ [blk r (Bc pv key vv fuel pos steps halted s23 g tv (.map (some mb))) 288,Y AX s23 ((Bh ((Aw i.op stk).2.1) [x18,x18]).2),Y Ag tv told,BS mb] [Z Bk vv vals,gl]:=H
  exact Al ⟨s23,tv,vv,by rw [e]<;>rfl,by rw [e]<;>exact C6.refl _ _ _,by rw [e]<;>rfl⟩ H
 refine Ab (Ae (V U U (Bb U U U) (Ad U (Ac (Aa ?_)))))
 refine Ax U (fun h24=>?_) (fun h24=>?_)
 ·have hks:(Be i.op).size=2:=by rw [h24];rfl
  refine Ab ?_
  obtain ⟨A25,c26,rfl,hc27,hm28,hp29⟩:=H.fA 2 rfl
  obtain ⟨x30,hx31⟩:∃ z9,((Aw i.op stk).2.2)[0]?=some z9:=⟨_,List.getElem?_eq_getElem (show 0<((Aw i.op stk).2.2).length by omega)⟩
  have okx30:=hok.1 _ (hN.2.2.1 _ (Ce hx31))
  have szx30:=okx30.2
  have inx30:=okx30.1
  obtain ⟨x32,hx33⟩:∃ z9,((Aw i.op stk).2.2)[1]?=some z9:=⟨_,List.getElem?_eq_getElem (show 1<((Aw i.op stk).2.2).length by omega)⟩
  have okx32:=hok.1 _ (hN.2.2.1 _ (Ce hx33))
  have szx32:=okx32.2
  have inx32:=okx32.1
  replace H:=H.p5.p5.p5.p5
  refine BY (.e 0 (.e 1 (.e 2 (.e 3 (.e 4 (.e 5 (.e 6 (.m 7 (.m 8 (.e 9 .z)))))))))) (fun w=>∃ Ar,Hd w0 F0 w (Y AX (.slice A25 (((Aw i.op stk).2.2).length) c26) ((Aw i.op stk).2.2)::blk b1 [.int .i64 i.op,.int .i64 i.a,.string i.s] 223::Y Ag tv told::BS mb::Ar) [Z Bk vv vals,gl]) mo (by kernel_rfl) (fun w H=>⟨_,H⟩) H (fun w H=>(Au U (Au U ?_)))
  have th34:=H.thA 0 rfl hx33
  refine Ao U U U (fun w ⟨Ar,H⟩=>AZ (p:=AP A25+1*3) U B4 U U (by omega) (by omega) th34 (by omega)) (Ao U U U (fun w ⟨Ar,H⟩=>Bq (cs:=[.bool x32.t,.int .i64 x32.n,.string x32.b]) U Da U U (H.elsA 0 U hx33 U)) (Au U ?_))
  have th35:=H.thA 0 rfl hx31
  refine Ao U U U (fun w ⟨Ar,H⟩=>AZ (p:=AP A25+0*3) U B4 U U (by omega) (by omega) th35 (by omega)) (Ao U U U (fun w ⟨Ar,H⟩=>Bq (cs:=[.bool x30.t,.int .i64 x30.n,.string x30.b]) U Da U U (H.elsA 0 U hx31 U)) (AO U (BX (parts:=[(0,.tmp 56),(1,.tmp 59)]) (vs:=[.agg #[.bool x32.t,.int .i64 x32.n,.string x32.b],.agg #[.bool x30.t,.int .i64 x30.n,.string x30.b]]) (cs:=[.bool x32.t,.int .i64 x32.n,.string x32.b,.bool x30.t,.int .i64 x30.n,.string x30.b]) U U U B4 Do U (by decide) (by decide) U U H (fun b36 w H=>?_))))
  replace H:=H.h1 (A:=blk b36 [.bool x32.t,.int .i64 x32.n,.string x32.b,.bool x30.t,.int .i64 x30.n,.string x30.b] 284)|>.p4|>.p4|>.p4|>.p4
  refine AE ⟨_,H⟩ (AO U ?_)
  replace H:=H.p6.p6
  refine sc (Eg r pv key vv fuel pos steps halted s3 g tv (.map (some mb)) ((Aw i.op stk).2.1) (.slice (some ⟨b36,0,none⟩) 2 2) [x32,x30] (by first |omega|exact Nat.le_trans hN.2.1 hst) (Nat.le_of_ble_eq_true U)) H (lA 4 U (fun F h=>Cm h rfl (by decide) (AW.flat_eq.2 U)) l0) U U (At Ed U U) ?_
  rintro _ _ w ⟨s37,rfl,rfl⟩ H
  replace H:=H.h2 (A:=blk r (Bc pv key vv fuel pos steps halted s37 g tv (.map (some mb))) 288) (B:=Y AX s37 ((Bh ((Aw i.op stk).2.1) [x32,x30]).2))|>.p5|>.p5|>.p5|>.p5
  refine AE ⟨_,H⟩ (Au U (BP (Aa (An (A0 (Az (Aq U U ?_)))))))
  replace H:=H.p3.p3.p5.p5.k4
  have e:BK dg key (⟨pos,halted,stk,g,told,vals⟩:VM) i=((⟨pos,halted,(Bh ((Aw i.op stk).2.1) [x32,x30]).2,g,told,vals⟩:VM),(Bh ((Aw i.op stk).2.1) [x32,x30]).1):=by
    rw [Dl (m:=(⟨pos,halted,stk,g,told,vals⟩:VM)) h4,NB h24]
    rw [De hx31,De hx33]<;>rfl
  replace H:Hd _ _ _ [blk r (Bc pv key vv fuel pos steps halted s37 g tv (.map (some mb))) 288,Y AX s37 ((Bh ((Aw i.op stk).2.1) [x32,x30]).2),Y Ag tv told,BS mb] [Z Bk vv vals,gl]:=H
  exact Al ⟨s37,tv,vv,by rw [e]<;>rfl,by rw [e]<;>exact C6.refl _ _ _,by rw [e]<;>rfl⟩ H
 refine Ab (Ae (V U U (Bb U U U) (Ad U (Ac (Aa ?_)))))
 refine Ax U (fun h38=>?_) (fun h38=>?_)
 ·have hks:(Be i.op).size=0:=by rw [h38];rfl
  refine Ab (Ae (Ah 2 U (V U U (AH U U) (V U U (Aj U TQ U) (V U U (Ak U BV U (H.cellI 0 U U)) (sc (Ix key) H l0 U U (At H7 U U) ?_))))))
  rintro _ _ w ⟨rfl,rfl⟩ H
  refine BX (parts:=[(0,.tmp 69)]) (vs:=[.agg #[.bool true,.int .i64 0,.string key]]) (cs:=[.bool true,.int .i64 0,.string key]) U U U B4 Do U (by decide) (by decide) U U H (fun b39 w H=>?_)
  replace H:=H.h1 (A:=blk b39 [.bool true,.int .i64 0,.string key] 284)|>.p2|>.p2
  refine sc (Eg r pv key vv fuel pos steps halted s3 g tv (.map (some mb)) ((Aw i.op stk).2.1) (.slice (some ⟨b39,0,none⟩) 1 1) [(⟨true,0,key⟩:AQ)] (by first |omega|exact Nat.le_trans hN.2.1 hst) (Nat.le_of_ble_eq_true U)) H (lA 0 U (fun F h=>Cm h rfl (by decide) (AW.flat_eq.2 U)) l0) U U (At Ed U U) ?_
  rintro _ _ w ⟨s40,rfl,rfl⟩ H
  replace H:=H.h2 (A:=blk r (Bc pv key vv fuel pos steps halted s40 g tv (.map (some mb))) 288) (B:=Y AX s40 ((Bh ((Aw i.op stk).2.1) [(⟨true,0,key⟩:AQ)]).2))
  refine Ad U (Ac (Aa (An (A0 (Az (Aq U U ?_))))))
  replace H:=H.p6.p6.p3.p3.k4
  have e:BK dg key (⟨pos,halted,stk,g,told,vals⟩:VM) i=((⟨pos,halted,(Bh ((Aw i.op stk).2.1) [(⟨true,0,key⟩:AQ)]).2,g,told,vals⟩:VM),(Bh ((Aw i.op stk).2.1) [(⟨true,0,key⟩:AQ)]).1):=by
    rw [Dl (m:=(⟨pos,halted,stk,g,told,vals⟩:VM)) h4,NC h38]
    all_goals rfl
  replace H:Hd _ _ _ [blk r (Bc pv key vv fuel pos steps halted s40 g tv (.map (some mb))) 288,Y AX s40 ((Bh ((Aw i.op stk).2.1) [(⟨true,0,key⟩:AQ)]).2),Y Ag tv told,BS mb] [Z Bk vv vals,gl]:=H
  exact Al ⟨s40,tv,vv,by rw [e]<;>rfl,by rw [e]<;>exact C6.refl _ _ _,by rw [e]<;>rfl⟩ H
 refine Ab (Ae (V U U (Bb U U U) (Ad U (Ac (Aa ?_)))))
 refine Ax U (fun h41=>?_) (fun h41=>?_)
 ·have hks:(Be i.op).size=0:=by rw [h41];rfl
  refine Ab (Ae (Ad U (sc (WK r pv key vv fuel pos steps halted s3 g tv (.map (some mb)) ((Aw i.op stk).2.1) vals (by first |omega|exact Nat.le_trans hN.2.1 hst)) H (lR 0 U l0) U U (At Vs U U) ?_)))
  rintro _ _ w ⟨s42,vv43,rfl,hsuf44,rfl⟩ H
  replace H:=H.h2 (A:=blk r (Bc pv key vv43 fuel pos steps halted s42 g tv (.map (some mb))) 288) (B:=Y AX s42 ((Fk ((Aw i.op stk).2.1) vals).2.1))
  refine Ad U (Ac (Aa (An (A0 (Az (Aq U U ?_))))))
  replace H:=H.p5.p5.p3.p3.k4
  have e:BK dg key (⟨pos,halted,stk,g,told,vals⟩:VM) i=((⟨pos,halted,(Fk ((Aw i.op stk).2.1) vals).2.1,g,told,(Fk (Aw i.op stk).2.1 vals).2.2⟩:VM),(Fk ((Aw i.op stk).2.1) vals).1):=by
    rw [Dl (m:=(⟨pos,halted,stk,g,told,vals⟩:VM)) h4,ND h41]
    rw [P6]
  replace H:Hd _ _ _ [blk r (Bc pv key vv43 fuel pos steps halted s42 g tv (.map (some mb))) 288,Y AX s42 ((Fk ((Aw i.op stk).2.1) vals).2.1),Y Ag tv told,BS mb] [Z Bk vv vals,gl]:=H
  exact Al ⟨s42,tv,vv43,by rw [e]<;>rfl,by rw [e]<;>exact hsuf44,by rw [e]<;>rfl⟩ H
 refine Ab (Ab (Ae (V U U (Bb U U U) (Ad U (Ac (Aa ?_))))))
 refine Ax U (fun h45=>?_) (fun h45=>?_)
 ·have hks:(Be i.op).size=2:=by rw [h45];rfl
  refine Av (Aa ?_)
  refine Ax U (fun h46=>?_) (fun h46=>?_)
  ·have hks:(Be i.op).size=2:=by rw [h46];rfl
   refine Ab ?_
   obtain ⟨A47,c48,rfl,hc49,hm50,hp51⟩:=H.fA 2 rfl
   obtain ⟨x52,hx53⟩:∃ z9,((Aw i.op stk).2.2)[0]?=some z9:=⟨_,List.getElem?_eq_getElem (show 0<((Aw i.op stk).2.2).length by omega)⟩
   have okx52:=hok.1 _ (hN.2.2.1 _ (Ce hx53))
   have szx52:=okx52.2
   have inx52:=okx52.1
   obtain ⟨x54,hx55⟩:∃ z9,((Aw i.op stk).2.2)[1]?=some z9:=⟨_,List.getElem?_eq_getElem (show 1<((Aw i.op stk).2.2).length by omega)⟩
   have okx54:=hok.1 _ (hN.2.2.1 _ (Ce hx55))
   have szx54:=okx54.2
   have inx54:=okx54.1
   replace H:=H.p5.p5.p5.p5
   refine BY (.e 0 (.e 1 (.e 2 (.e 3 (.e 4 (.e 5 (.e 6 (.e 7 (.e 8 (.e 9 (.e 10 (.m 11 (.m 12 (.m 13 (.e 14 .z))))))))))))))) (fun w=>∃ Ar,Hd w0 F0 w (Y AX (.slice A47 (((Aw i.op stk).2.2).length) c48) ((Aw i.op stk).2.2)::blk b1 [.int .i64 i.op,.int .i64 i.a,.string i.s] 223::Y Ag tv told::BS mb::Ar) [Z Bk vv vals,gl]) mo (by kernel_rfl) (fun w H=>⟨_,H⟩) H (fun w H=>(Au U (Ao U U U (fun w ⟨Ar,H⟩=>Aj U C9 U) (Ao U U U (fun w ⟨Ar,H⟩=>Ak U AB U (H.cellI 1 U U)) (Au U ?_)))))
   have th56:=H.thA 0 rfl hx53
   refine Ao U U U (fun w ⟨Ar,H⟩=>AZ (p:=AP A47+0*3) U B4 U U (by omega) (by omega) th56 (by omega)) (Ao U U U (fun w ⟨Ar,H⟩=>Aj U EM U) (Ao U U U (fun w ⟨Ar,H⟩=>Ak U D1 U (H.elA 0 U hx53 (q:=1) U U)) (Au U ?_)))
   have th57:=H.thA 0 rfl hx55
   refine Ao U U U (fun w ⟨Ar,H⟩=>AZ (p:=AP A47+1*3) U B4 U U (by omega) (by omega) th57 (by omega)) (Ao U U U (fun w ⟨Ar,H⟩=>Aj U EM U) (Ao U U U (fun w ⟨Ar,H⟩=>Ak U D1 U (H.elA 0 U hx55 (q:=1) U U)) (AO U (sc (Ko i.op x52.n x54.n) H l0 U U (At J8 U U) ?_))))
   rintro _ _ w ⟨rfl,rfl⟩ H
   refine AE ⟨_,H⟩ (AO U (BX (parts:=[(0,.tmp 92)]) (vs:=[.agg #[.bool ((BA i.op x52.n x54.n).t),.int .i64 ((BA i.op x52.n x54.n).n),.string ((BA i.op x52.n x54.n).b)]]) (cs:=[.bool ((BA i.op x52.n x54.n).t),.int .i64 ((BA i.op x52.n x54.n).n),.string ((BA i.op x52.n x54.n).b)]) U U U B4 Do U (by decide) (by decide) U U H (fun b58 w H=>?_)))
   replace H:=H.h1 (A:=blk b58 [.bool ((BA i.op x52.n x54.n).t),.int .i64 ((BA i.op x52.n x54.n).n),.string ((BA i.op x52.n x54.n).b)] 284)|>.p4|>.p4|>.p4|>.p4
   refine AE ⟨_,H⟩ (AO U ?_)
   replace H:=H.p6.p6
   refine sc (Eg r pv key vv fuel pos steps halted s3 g tv (.map (some mb)) ((Aw i.op stk).2.1) (.slice (some ⟨b58,0,none⟩) 1 1) [(BA i.op x52.n x54.n)] (by first |omega|exact Nat.le_trans hN.2.1 hst) (Nat.le_of_ble_eq_true U)) H (lA 4 U (fun F h=>Cm h rfl (by decide) (AW.flat_eq.2 U)) l0) U U (At Ed U U) ?_
   rintro _ _ w ⟨s59,rfl,rfl⟩ H
   replace H:=H.h2 (A:=blk r (Bc pv key vv fuel pos steps halted s59 g tv (.map (some mb))) 288) (B:=Y AX s59 ((Bh ((Aw i.op stk).2.1) [(BA i.op x52.n x54.n)]).2))|>.p5|>.p5|>.p5|>.p5
   refine AE ⟨_,H⟩ (Au U (BP (Aa (An (A0 (Az (Aq U U ?_)))))))
   replace H:=H.p3.p3.p5.p5.k4
   have e:BK dg key (⟨pos,halted,stk,g,told,vals⟩:VM) i=((⟨pos,halted,(Bh ((Aw i.op stk).2.1) [(BA i.op x52.n x54.n)]).2,g,told,vals⟩:VM),(Bh ((Aw i.op stk).2.1) [(BA i.op x52.n x54.n)]).1):=by
     rw [Dl (m:=(⟨pos,halted,stk,g,told,vals⟩:VM)) h4,IE (by omega)]
     rw [De hx53,De hx55]<;>rfl
   replace H:Hd _ _ _ [blk r (Bc pv key vv fuel pos steps halted s59 g tv (.map (some mb))) 288,Y AX s59 ((Bh ((Aw i.op stk).2.1) [(BA i.op x52.n x54.n)]).2),Y Ag tv told,BS mb] [Z Bk vv vals,gl]:=H
   exact Al ⟨s59,tv,vv,by rw [e]<;>rfl,by rw [e]<;>exact C6.refl _ _ _,by rw [e]<;>rfl⟩ H
  exact absurd h45 h46
 refine Ab (Ae (V U U (Bb U U U) (Ad U (Ac (Aa ?_)))))
 refine Ax U (fun h60=>?_) (fun h60=>?_)
 ·have hks:(Be i.op).size=2:=by rw [h60];rfl
  refine Av (Aa ?_)
  refine Ax U (fun h61=>?_) (fun h61=>?_)
  ·have hks:(Be i.op).size=2:=by rw [h61];rfl
   refine Ab ?_
   obtain ⟨A62,c63,rfl,hc64,hm65,hp66⟩:=H.fA 2 rfl
   obtain ⟨x67,hx68⟩:∃ z9,((Aw i.op stk).2.2)[0]?=some z9:=⟨_,List.getElem?_eq_getElem (show 0<((Aw i.op stk).2.2).length by omega)⟩
   have okx67:=hok.1 _ (hN.2.2.1 _ (Ce hx68))
   have szx67:=okx67.2
   have inx67:=okx67.1
   obtain ⟨x69,hx70⟩:∃ z9,((Aw i.op stk).2.2)[1]?=some z9:=⟨_,List.getElem?_eq_getElem (show 1<((Aw i.op stk).2.2).length by omega)⟩
   have okx69:=hok.1 _ (hN.2.2.1 _ (Ce hx70))
   have szx69:=okx69.2
   have inx69:=okx69.1
   replace H:=H.p5.p5.p5.p5
   refine BY (.e 0 (.e 1 (.e 2 (.e 3 (.e 4 (.e 5 (.e 6 (.e 7 (.e 8 (.e 9 (.e 10 (.m 11 (.m 12 (.m 13 (.e 14 .z))))))))))))))) (fun w=>∃ Ar,Hd w0 F0 w (Y AX (.slice A62 (((Aw i.op stk).2.2).length) c63) ((Aw i.op stk).2.2)::blk b1 [.int .i64 i.op,.int .i64 i.a,.string i.s] 223::Y Ag tv told::BS mb::Ar) [Z Bk vv vals,gl]) mo (by kernel_rfl) (fun w H=>⟨_,H⟩) H (fun w H=>(Au U (Ao U U U (fun w ⟨Ar,H⟩=>Aj U C9 U) (Ao U U U (fun w ⟨Ar,H⟩=>Ak U AB U (H.cellI 1 U U)) (Au U ?_)))))
   have th71:=H.thA 0 rfl hx68
   refine Ao U U U (fun w ⟨Ar,H⟩=>AZ (p:=AP A62+0*3) U B4 U U (by omega) (by omega) th71 (by omega)) (Ao U U U (fun w ⟨Ar,H⟩=>Aj U EM U) (Ao U U U (fun w ⟨Ar,H⟩=>Ak U D1 U (H.elA 0 U hx68 (q:=1) U U)) (Au U ?_)))
   have th72:=H.thA 0 rfl hx70
   refine Ao U U U (fun w ⟨Ar,H⟩=>AZ (p:=AP A62+1*3) U B4 U U (by omega) (by omega) th72 (by omega)) (Ao U U U (fun w ⟨Ar,H⟩=>Aj U EM U) (Ao U U U (fun w ⟨Ar,H⟩=>Ak U D1 U (H.elA 0 U hx70 (q:=1) U U)) (AO U (sc (Ko i.op x67.n x69.n) H l0 U U (At J8 U U) ?_))))
   rintro _ _ w ⟨rfl,rfl⟩ H
   refine AE ⟨_,H⟩ (AO U (BX (parts:=[(0,.tmp 92)]) (vs:=[.agg #[.bool ((BA i.op x67.n x69.n).t),.int .i64 ((BA i.op x67.n x69.n).n),.string ((BA i.op x67.n x69.n).b)]]) (cs:=[.bool ((BA i.op x67.n x69.n).t),.int .i64 ((BA i.op x67.n x69.n).n),.string ((BA i.op x67.n x69.n).b)]) U U U B4 Do U (by decide) (by decide) U U H (fun b73 w H=>?_)))
   replace H:=H.h1 (A:=blk b73 [.bool ((BA i.op x67.n x69.n).t),.int .i64 ((BA i.op x67.n x69.n).n),.string ((BA i.op x67.n x69.n).b)] 284)|>.p4|>.p4|>.p4|>.p4
   refine AE ⟨_,H⟩ (AO U ?_)
   replace H:=H.p6.p6
   refine sc (Eg r pv key vv fuel pos steps halted s3 g tv (.map (some mb)) ((Aw i.op stk).2.1) (.slice (some ⟨b73,0,none⟩) 1 1) [(BA i.op x67.n x69.n)] (by first |omega|exact Nat.le_trans hN.2.1 hst) (Nat.le_of_ble_eq_true U)) H (lA 4 U (fun F h=>Cm h rfl (by decide) (AW.flat_eq.2 U)) l0) U U (At Ed U U) ?_
   rintro _ _ w ⟨s74,rfl,rfl⟩ H
   replace H:=H.h2 (A:=blk r (Bc pv key vv fuel pos steps halted s74 g tv (.map (some mb))) 288) (B:=Y AX s74 ((Bh ((Aw i.op stk).2.1) [(BA i.op x67.n x69.n)]).2))|>.p5|>.p5|>.p5|>.p5
   refine AE ⟨_,H⟩ (Au U (BP (Aa (An (A0 (Az (Aq U U ?_)))))))
   replace H:=H.p3.p3.p5.p5.k4
   have e:BK dg key (⟨pos,halted,stk,g,told,vals⟩:VM) i=((⟨pos,halted,(Bh ((Aw i.op stk).2.1) [(BA i.op x67.n x69.n)]).2,g,told,vals⟩:VM),(Bh ((Aw i.op stk).2.1) [(BA i.op x67.n x69.n)]).1):=by
     rw [Dl (m:=(⟨pos,halted,stk,g,told,vals⟩:VM)) h4,IE (by omega)]
     rw [De hx68,De hx70]<;>rfl
   replace H:Hd _ _ _ [blk r (Bc pv key vv fuel pos steps halted s74 g tv (.map (some mb))) 288,Y AX s74 ((Bh ((Aw i.op stk).2.1) [(BA i.op x67.n x69.n)]).2),Y Ag tv told,BS mb] [Z Bk vv vals,gl]:=H
   exact Al ⟨s74,tv,vv,by rw [e]<;>rfl,by rw [e]<;>exact C6.refl _ _ _,by rw [e]<;>rfl⟩ H
  exact absurd h60 h61
 refine Ab (Ae (V U U (Bb U U U) (Ad U (Ac (Aa ?_)))))
 refine Ax U (fun h75=>?_) (fun h75=>?_)
 ·have hks:(Be i.op).size=2:=by rw [h75];rfl
  refine Av (Aa ?_)
  refine Ax U (fun h76=>?_) (fun h76=>?_)
  ·have hks:(Be i.op).size=2:=by rw [h76];rfl
   refine Ab ?_
   obtain ⟨A77,c78,rfl,hc79,hm80,hp81⟩:=H.fA 2 rfl
   obtain ⟨x82,hx83⟩:∃ z9,((Aw i.op stk).2.2)[0]?=some z9:=⟨_,List.getElem?_eq_getElem (show 0<((Aw i.op stk).2.2).length by omega)⟩
   have okx82:=hok.1 _ (hN.2.2.1 _ (Ce hx83))
   have szx82:=okx82.2
   have inx82:=okx82.1
   obtain ⟨x84,hx85⟩:∃ z9,((Aw i.op stk).2.2)[1]?=some z9:=⟨_,List.getElem?_eq_getElem (show 1<((Aw i.op stk).2.2).length by omega)⟩
   have okx84:=hok.1 _ (hN.2.2.1 _ (Ce hx85))
   have szx84:=okx84.2
   have inx84:=okx84.1
   replace H:=H.p5.p5.p5.p5
   refine BY (.e 0 (.e 1 (.e 2 (.e 3 (.e 4 (.e 5 (.e 6 (.e 7 (.e 8 (.e 9 (.e 10 (.m 11 (.m 12 (.m 13 (.e 14 .z))))))))))))))) (fun w=>∃ Ar,Hd w0 F0 w (Y AX (.slice A77 (((Aw i.op stk).2.2).length) c78) ((Aw i.op stk).2.2)::blk b1 [.int .i64 i.op,.int .i64 i.a,.string i.s] 223::Y Ag tv told::BS mb::Ar) [Z Bk vv vals,gl]) mo (by kernel_rfl) (fun w H=>⟨_,H⟩) H (fun w H=>(Au U (Ao U U U (fun w ⟨Ar,H⟩=>Aj U C9 U) (Ao U U U (fun w ⟨Ar,H⟩=>Ak U AB U (H.cellI 1 U U)) (Au U ?_)))))
   have th86:=H.thA 0 rfl hx83
   refine Ao U U U (fun w ⟨Ar,H⟩=>AZ (p:=AP A77+0*3) U B4 U U (by omega) (by omega) th86 (by omega)) (Ao U U U (fun w ⟨Ar,H⟩=>Aj U EM U) (Ao U U U (fun w ⟨Ar,H⟩=>Ak U D1 U (H.elA 0 U hx83 (q:=1) U U)) (Au U ?_)))
   have th87:=H.thA 0 rfl hx85
   refine Ao U U U (fun w ⟨Ar,H⟩=>AZ (p:=AP A77+1*3) U B4 U U (by omega) (by omega) th87 (by omega)) (Ao U U U (fun w ⟨Ar,H⟩=>Aj U EM U) (Ao U U U (fun w ⟨Ar,H⟩=>Ak U D1 U (H.elA 0 U hx85 (q:=1) U U)) (AO U (sc (Ko i.op x82.n x84.n) H l0 U U (At J8 U U) ?_))))
   rintro _ _ w ⟨rfl,rfl⟩ H
   refine AE ⟨_,H⟩ (AO U (BX (parts:=[(0,.tmp 92)]) (vs:=[.agg #[.bool ((BA i.op x82.n x84.n).t),.int .i64 ((BA i.op x82.n x84.n).n),.string ((BA i.op x82.n x84.n).b)]]) (cs:=[.bool ((BA i.op x82.n x84.n).t),.int .i64 ((BA i.op x82.n x84.n).n),.string ((BA i.op x82.n x84.n).b)]) U U U B4 Do U (by decide) (by decide) U U H (fun b88 w H=>?_)))
   replace H:=H.h1 (A:=blk b88 [.bool ((BA i.op x82.n x84.n).t),.int .i64 ((BA i.op x82.n x84.n).n),.string ((BA i.op x82.n x84.n).b)] 284)|>.p4|>.p4|>.p4|>.p4
   refine AE ⟨_,H⟩ (AO U ?_)
   replace H:=H.p6.p6
   refine sc (Eg r pv key vv fuel pos steps halted s3 g tv (.map (some mb)) ((Aw i.op stk).2.1) (.slice (some ⟨b88,0,none⟩) 1 1) [(BA i.op x82.n x84.n)] (by first |omega|exact Nat.le_trans hN.2.1 hst) (Nat.le_of_ble_eq_true U)) H (lA 4 U (fun F h=>Cm h rfl (by decide) (AW.flat_eq.2 U)) l0) U U (At Ed U U) ?_
   rintro _ _ w ⟨s89,rfl,rfl⟩ H
   replace H:=H.h2 (A:=blk r (Bc pv key vv fuel pos steps halted s89 g tv (.map (some mb))) 288) (B:=Y AX s89 ((Bh ((Aw i.op stk).2.1) [(BA i.op x82.n x84.n)]).2))|>.p5|>.p5|>.p5|>.p5
   refine AE ⟨_,H⟩ (Au U (BP (Aa (An (A0 (Az (Aq U U ?_)))))))
   replace H:=H.p3.p3.p5.p5.k4
   have e:BK dg key (⟨pos,halted,stk,g,told,vals⟩:VM) i=((⟨pos,halted,(Bh ((Aw i.op stk).2.1) [(BA i.op x82.n x84.n)]).2,g,told,vals⟩:VM),(Bh ((Aw i.op stk).2.1) [(BA i.op x82.n x84.n)]).1):=by
     rw [Dl (m:=(⟨pos,halted,stk,g,told,vals⟩:VM)) h4,IE (by omega)]
     rw [De hx83,De hx85]<;>rfl
   replace H:Hd _ _ _ [blk r (Bc pv key vv fuel pos steps halted s89 g tv (.map (some mb))) 288,Y AX s89 ((Bh ((Aw i.op stk).2.1) [(BA i.op x82.n x84.n)]).2),Y Ag tv told,BS mb] [Z Bk vv vals,gl]:=H
   exact Al ⟨s89,tv,vv,by rw [e]<;>rfl,by rw [e]<;>exact C6.refl _ _ _,by rw [e]<;>rfl⟩ H
  exact absurd h75 h76
 refine Ae (V U U (Bb U U U) (Ad U (Ac (Aa ?_))))
 refine Ax U (fun h90=>?_) (fun h90=>?_)
 ·have hks:(Be i.op).size=2:=by rw [h90];rfl
  refine Ab ?_
  obtain ⟨A91,c92,rfl,hc93,hm94,hp95⟩:=H.fA 2 rfl
  obtain ⟨x96,hx97⟩:∃ z9,((Aw i.op stk).2.2)[0]?=some z9:=⟨_,List.getElem?_eq_getElem (show 0<((Aw i.op stk).2.2).length by omega)⟩
  have okx96:=hok.1 _ (hN.2.2.1 _ (Ce hx97))
  have szx96:=okx96.2
  have inx96:=okx96.1
  obtain ⟨x98,hx99⟩:∃ z9,((Aw i.op stk).2.2)[1]?=some z9:=⟨_,List.getElem?_eq_getElem (show 1<((Aw i.op stk).2.2).length by omega)⟩
  have okx98:=hok.1 _ (hN.2.2.1 _ (Ce hx99))
  have szx98:=okx98.2
  have inx98:=okx98.1
  replace H:=H.p5.p5.p5.p5
  refine BY (.e 0 (.e 1 (.e 2 (.e 3 (.e 4 (.e 5 (.e 6 (.e 7 (.e 8 (.e 9 (.e 10 (.m 11 (.m 12 (.m 13 (.e 14 .z))))))))))))))) (fun w=>∃ Ar,Hd w0 F0 w (Y AX (.slice A91 (((Aw i.op stk).2.2).length) c92) ((Aw i.op stk).2.2)::blk b1 [.int .i64 i.op,.int .i64 i.a,.string i.s] 223::Y Ag tv told::BS mb::Ar) [Z Bk vv vals,gl]) mo (by kernel_rfl) (fun w H=>⟨_,H⟩) H (fun w H=>(Au U (Ao U U U (fun w ⟨Ar,H⟩=>Aj U C9 U) (Ao U U U (fun w ⟨Ar,H⟩=>Ak U AB U (H.cellI 1 U U)) (Au U ?_)))))
  have th100:=H.thA 0 rfl hx97
  refine Ao U U U (fun w ⟨Ar,H⟩=>AZ (p:=AP A91+0*3) U B4 U U (by omega) (by omega) th100 (by omega)) (Ao U U U (fun w ⟨Ar,H⟩=>Aj U EM U) (Ao U U U (fun w ⟨Ar,H⟩=>Ak U D1 U (H.elA 0 U hx97 (q:=1) U U)) (Au U ?_)))
  have th101:=H.thA 0 rfl hx99
  refine Ao U U U (fun w ⟨Ar,H⟩=>AZ (p:=AP A91+1*3) U B4 U U (by omega) (by omega) th101 (by omega)) (Ao U U U (fun w ⟨Ar,H⟩=>Aj U EM U) (Ao U U U (fun w ⟨Ar,H⟩=>Ak U D1 U (H.elA 0 U hx99 (q:=1) U U)) (AO U (sc (Ko i.op x96.n x98.n) H l0 U U (At J8 U U) ?_))))
  rintro _ _ w ⟨rfl,rfl⟩ H
  refine AE ⟨_,H⟩ (AO U (BX (parts:=[(0,.tmp 92)]) (vs:=[.agg #[.bool ((BA i.op x96.n x98.n).t),.int .i64 ((BA i.op x96.n x98.n).n),.string ((BA i.op x96.n x98.n).b)]]) (cs:=[.bool ((BA i.op x96.n x98.n).t),.int .i64 ((BA i.op x96.n x98.n).n),.string ((BA i.op x96.n x98.n).b)]) U U U B4 Do U (by decide) (by decide) U U H (fun b102 w H=>?_)))
  replace H:=H.h1 (A:=blk b102 [.bool ((BA i.op x96.n x98.n).t),.int .i64 ((BA i.op x96.n x98.n).n),.string ((BA i.op x96.n x98.n).b)] 284)|>.p4|>.p4|>.p4|>.p4
  refine AE ⟨_,H⟩ (AO U ?_)
  replace H:=H.p6.p6
  refine sc (Eg r pv key vv fuel pos steps halted s3 g tv (.map (some mb)) ((Aw i.op stk).2.1) (.slice (some ⟨b102,0,none⟩) 1 1) [(BA i.op x96.n x98.n)] (by first |omega|exact Nat.le_trans hN.2.1 hst) (Nat.le_of_ble_eq_true U)) H (lA 4 U (fun F h=>Cm h rfl (by decide) (AW.flat_eq.2 U)) l0) U U (At Ed U U) ?_
  rintro _ _ w ⟨s103,rfl,rfl⟩ H
  replace H:=H.h2 (A:=blk r (Bc pv key vv fuel pos steps halted s103 g tv (.map (some mb))) 288) (B:=Y AX s103 ((Bh ((Aw i.op stk).2.1) [(BA i.op x96.n x98.n)]).2))|>.p5|>.p5|>.p5|>.p5
  refine AE ⟨_,H⟩ (Au U (BP (Aa (An (A0 (Az (Aq U U ?_)))))))
  replace H:=H.p3.p3.p5.p5.k4
  have e:BK dg key (⟨pos,halted,stk,g,told,vals⟩:VM) i=((⟨pos,halted,(Bh ((Aw i.op stk).2.1) [(BA i.op x96.n x98.n)]).2,g,told,vals⟩:VM),(Bh ((Aw i.op stk).2.1) [(BA i.op x96.n x98.n)]).1):=by
    rw [Dl (m:=(⟨pos,halted,stk,g,told,vals⟩:VM)) h4,IE (by omega)]
    rw [De hx97,De hx99]<;>rfl
  replace H:Hd _ _ _ [blk r (Bc pv key vv fuel pos steps halted s103 g tv (.map (some mb))) 288,Y AX s103 ((Bh ((Aw i.op stk).2.1) [(BA i.op x96.n x98.n)]).2),Y Ag tv told,BS mb] [Z Bk vv vals,gl]:=H
  exact Al ⟨s103,tv,vv,by rw [e]<;>rfl,by rw [e]<;>exact C6.refl _ _ _,by rw [e]<;>rfl⟩ H
 refine Ab (Ae (V U U (Bb U U U) (Ad U (Ac (Aa ?_)))))
 refine Ax U (fun h104=>?_) (fun h104=>?_)
 ·have hks:(Be i.op).size=2:=by rw [h104];rfl
  refine Ab ?_
  obtain ⟨A105,c106,rfl,hc107,hm108,hp109⟩:=H.fA 2 rfl
  obtain ⟨x110,hx111⟩:∃ z9,((Aw i.op stk).2.2)[0]?=some z9:=⟨_,List.getElem?_eq_getElem (show 0<((Aw i.op stk).2.2).length by omega)⟩
  have okx110:=hok.1 _ (hN.2.2.1 _ (Ce hx111))
  have szx110:=okx110.2
  have inx110:=okx110.1
  obtain ⟨x112,hx113⟩:∃ z9,((Aw i.op stk).2.2)[1]?=some z9:=⟨_,List.getElem?_eq_getElem (show 1<((Aw i.op stk).2.2).length by omega)⟩
  have okx112:=hok.1 _ (hN.2.2.1 _ (Ce hx113))
  have szx112:=okx112.2
  have inx112:=okx112.1
  replace H:=H.p5.p5.p5.p5
  refine BY (.e 0 (.e 1 (.e 2 (.e 3 (.e 4 (.e 5 (.e 6 (.m 7 (.m 8 (.m 9 (.m 10 (.e 11 .z)))))))))))) (fun w=>∃ Ar,Hd w0 F0 w (Y AX (.slice A105 (((Aw i.op stk).2.2).length) c106) ((Aw i.op stk).2.2)::blk b1 [.int .i64 i.op,.int .i64 i.a,.string i.s] 223::Y Ag tv told::BS mb::Ar) [Z Bk vv vals,gl]) mo (by kernel_rfl) (fun w H=>⟨_,H⟩) H (fun w H=>(Au U (Au U ?_)))
  have th114:=H.thA 0 rfl hx111
  refine Ao U U U (fun w ⟨Ar,H⟩=>AZ (p:=AP A105+0*3) U B4 U U (by omega) (by omega) th114 (by omega)) (Ao U U U (fun w ⟨Ar,H⟩=>Bq (cs:=[.bool x110.t,.int .i64 x110.n,.string x110.b]) U Da U U (H.elsA 0 U hx111 U)) (Au U ?_))
  have th115:=H.thA 0 rfl hx113
  refine Ao U U U (fun w ⟨Ar,H⟩=>AZ (p:=AP A105+1*3) U B4 U U (by omega) (by omega) th115 (by omega)) (Ao U U U (fun w ⟨Ar,H⟩=>Bq (cs:=[.bool x112.t,.int .i64 x112.n,.string x112.b]) U Da U U (H.elsA 0 U hx113 U)) (AO U (sc (Z6 x110 x112) H l0 U U (At Vt U U) ?_)))
  rintro _ _ w ⟨rfl,rfl⟩ H
  refine AE ⟨_,H⟩ (AO U (sc (Qe (EB x110 x112)) H l0 U U (At Ps U U) ?_))
  rintro _ _ w ⟨rfl,rfl⟩ H
  refine AE ⟨_,H⟩ (AO U (BX (parts:=[(0,.tmp 105)]) (vs:=[.agg #[.bool false,.int .i64 (if (EB x110 x112)=true then 1 else 0),.string ⟨#[]⟩]]) (cs:=[.bool false,.int .i64 (if (EB x110 x112)=true then 1 else 0),.string ⟨#[]⟩]) U U U B4 Do U (by decide) (by decide) U U H (fun b116 w H=>?_)))
  replace H:=H.h1 (A:=blk b116 [.bool false,.int .i64 (if (EB x110 x112)=true then 1 else 0),.string ⟨#[]⟩] 284)|>.p4|>.p4|>.p4|>.p4
  refine AE ⟨_,H⟩ (AO U ?_)
  replace H:=H.p6.p6
  refine sc (Eg r pv key vv fuel pos steps halted s3 g tv (.map (some mb)) ((Aw i.op stk).2.1) (.slice (some ⟨b116,0,none⟩) 1 1) [(⟨false,if (EB x110 x112)=true then 1 else 0,⟨#[]⟩⟩:AQ)] (by first |omega|exact Nat.le_trans hN.2.1 hst) (Nat.le_of_ble_eq_true U)) H (lA 4 U (fun F h=>Cm h rfl (by decide) (AW.flat_eq.2 U)) l0) U U (At Ed U U) ?_
  rintro _ _ w ⟨s117,rfl,rfl⟩ H
  replace H:=H.h2 (A:=blk r (Bc pv key vv fuel pos steps halted s117 g tv (.map (some mb))) 288) (B:=Y AX s117 ((Bh ((Aw i.op stk).2.1) [(⟨false,if (EB x110 x112)=true then 1 else 0,⟨#[]⟩⟩:AQ)]).2))|>.p5|>.p5|>.p5|>.p5
  refine AE ⟨_,H⟩ (Au U (BP (Aa (An (A0 (Az (Aq U U ?_)))))))
  replace H:=H.p3.p3.p5.p5.k4
  have e:BK dg key (⟨pos,halted,stk,g,told,vals⟩:VM) i=((⟨pos,halted,(Bh ((Aw i.op stk).2.1) [(⟨false,if (EB x110 x112)=true then 1 else 0,⟨#[]⟩⟩:AQ)]).2,g,told,vals⟩:VM),(Bh ((Aw i.op stk).2.1) [(⟨false,if (EB x110 x112)=true then 1 else 0,⟨#[]⟩⟩:AQ)]).1):=by
    rw [Dl (m:=(⟨pos,halted,stk,g,told,vals⟩:VM)) h4,Nn h104]
    rw [De hx111,De hx113]<;>rfl
  replace H:Hd _ _ _ [blk r (Bc pv key vv fuel pos steps halted s117 g tv (.map (some mb))) 288,Y AX s117 ((Bh ((Aw i.op stk).2.1) [(⟨false,if (EB x110 x112)=true then 1 else 0,⟨#[]⟩⟩:AQ)]).2),Y Ag tv told,BS mb] [Z Bk vv vals,gl]:=H
  exact Al ⟨s117,tv,vv,by rw [e]<;>rfl,by rw [e]<;>exact C6.refl _ _ _,by rw [e]<;>rfl⟩ H
 refine Ab (Ae (V U U (Bb U U U) (Ad U (Ac (Aa ?_)))))
 refine Ax U (fun h118=>?_) (fun h118=>?_)
 ·have hks:(Be i.op).size=2:=by rw [h118];rfl
  refine Ab ?_
  obtain ⟨A119,c120,rfl,hc121,hm122,hp123⟩:=H.fA 2 rfl
  obtain ⟨x124,hx125⟩:∃ z9,((Aw i.op stk).2.2)[0]?=some z9:=⟨_,List.getElem?_eq_getElem (show 0<((Aw i.op stk).2.2).length by omega)⟩
  have okx124:=hok.1 _ (hN.2.2.1 _ (Ce hx125))
  have szx124:=okx124.2
  have inx124:=okx124.1
  obtain ⟨x126,hx127⟩:∃ z9,((Aw i.op stk).2.2)[1]?=some z9:=⟨_,List.getElem?_eq_getElem (show 1<((Aw i.op stk).2.2).length by omega)⟩
  have okx126:=hok.1 _ (hN.2.2.1 _ (Ce hx127))
  have szx126:=okx126.2
  have inx126:=okx126.1
  replace H:=H.p5.p5.p5.p5
  refine BY (.e 0 (.e 1 (.e 2 (.e 3 (.e 4 (.e 5 (.e 6 (.e 7 (.e 8 (.e 9 (.m 10 (.m 11 (.m 12 (.e 13 .z)))))))))))))) (fun w=>∃ Ar,Hd w0 F0 w (Y AX (.slice A119 (((Aw i.op stk).2.2).length) c120) ((Aw i.op stk).2.2)::blk b1 [.int .i64 i.op,.int .i64 i.a,.string i.s] 223::Y Ag tv told::BS mb::Ar) [Z Bk vv vals,gl]) mo (by kernel_rfl) (fun w H=>⟨_,H⟩) H (fun w H=>(Au U (Au U ?_)))
  have th128:=H.thA 0 rfl hx125
  refine Ao U U U (fun w ⟨Ar,H⟩=>AZ (p:=AP A119+0*3) U B4 U U (by omega) (by omega) th128 (by omega)) (Ao U U U (fun w ⟨Ar,H⟩=>Aj U FP U) (Ao U U U (fun w ⟨Ar,H⟩=>Ak U BV U (H.elA 0 U hx125 (q:=2) U U)) (Au U ?_)))
  have th129:=H.thA 0 rfl hx127
  refine Ao U U U (fun w ⟨Ar,H⟩=>AZ (p:=AP A119+1*3) U B4 U U (by omega) (by omega) th129 (by omega)) (Ao U U U (fun w ⟨Ar,H⟩=>Aj U FP U) (Ao U U U (fun w ⟨Ar,H⟩=>Ak U BV U (H.elA 0 U hx127 (q:=2) U U)) (Ao U U U (fun w ⟨Ar,H⟩=>XO U U U (by omega)) (AO U (sc (Ix (x124.b++x126.b)) H l0 U U (At H7 U U) ?_)))))
  rintro _ _ w ⟨rfl,rfl⟩ H
  refine AE ⟨_,H⟩ (AO U (BX (parts:=[(0,.tmp 120)]) (vs:=[.agg #[.bool true,.int .i64 0,.string (x124.b++x126.b)]]) (cs:=[.bool true,.int .i64 0,.string (x124.b++x126.b)]) U U U B4 Do U (by decide) (by decide) U U H (fun b130 w H=>?_)))
  replace H:=H.h1 (A:=blk b130 [.bool true,.int .i64 0,.string (x124.b++x126.b)] 284)|>.p4|>.p4|>.p4|>.p4
  refine AE ⟨_,H⟩ (AO U ?_)
  replace H:=H.p6.p6
  refine sc (Eg r pv key vv fuel pos steps halted s3 g tv (.map (some mb)) ((Aw i.op stk).2.1) (.slice (some ⟨b130,0,none⟩) 1 1) [(⟨true,0,(x124.b++x126.b)⟩:AQ)] (by first |omega|exact Nat.le_trans hN.2.1 hst) (Nat.le_of_ble_eq_true U)) H (lA 4 U (fun F h=>Cm h rfl (by decide) (AW.flat_eq.2 U)) l0) U U (At Ed U U) ?_
  rintro _ _ w ⟨s131,rfl,rfl⟩ H
  replace H:=H.h2 (A:=blk r (Bc pv key vv fuel pos steps halted s131 g tv (.map (some mb))) 288) (B:=Y AX s131 ((Bh ((Aw i.op stk).2.1) [(⟨true,0,(x124.b++x126.b)⟩:AQ)]).2))|>.p5|>.p5|>.p5|>.p5
  refine AE ⟨_,H⟩ (Au U (BP (Aa (An (A0 (Az (Aq U U ?_)))))))
  replace H:=H.p3.p3.p5.p5.k4
  have e:BK dg key (⟨pos,halted,stk,g,told,vals⟩:VM) i=((⟨pos,halted,(Bh ((Aw i.op stk).2.1) [(⟨true,0,(x124.b++x126.b)⟩:AQ)]).2,g,told,vals⟩:VM),(Bh ((Aw i.op stk).2.1) [(⟨true,0,(x124.b++x126.b)⟩:AQ)]).1):=by
    rw [Dl (m:=(⟨pos,halted,stk,g,told,vals⟩:VM)) h4,No h118]
    rw [De hx125,De hx127]<;>rfl
  replace H:Hd _ _ _ [blk r (Bc pv key vv fuel pos steps halted s131 g tv (.map (some mb))) 288,Y AX s131 ((Bh ((Aw i.op stk).2.1) [(⟨true,0,(x124.b++x126.b)⟩:AQ)]).2),Y Ag tv told,BS mb] [Z Bk vv vals,gl]:=H
  exact Al ⟨s131,tv,vv,by rw [e]<;>rfl,by rw [e]<;>exact C6.refl _ _ _,by rw [e]<;>rfl⟩ H
 refine Ab (Ae (V U U (Bb U U U) (Ad U (Ac (Aa ?_)))))
 refine Ax U (fun h132=>?_) (fun h132=>?_)
 ·have hks:(Be i.op).size=1:=by rw [h132];rfl
  refine Ab ?_
  obtain ⟨A133,c134,rfl,hc135,hm136,hp137⟩:=H.fA 2 rfl
  obtain ⟨x138,hx139⟩:∃ z9,((Aw i.op stk).2.2)[0]?=some z9:=⟨_,List.getElem?_eq_getElem (show 0<((Aw i.op stk).2.2).length by omega)⟩
  have okx138:=hok.1 _ (hN.2.2.1 _ (Ce hx139))
  have szx138:=okx138.2
  have inx138:=okx138.1
  refine Ae (Ah 2 U ?_)
  have th140:=H.thA 2 rfl hx139
  refine V U U (AZ (p:=AP A133+0*3) U B4 U U (by omega) (by omega) th140 (by omega)) (V U U (Aj U FP U) (V U U (Ak U BV U (H.elA 2 U hx139 (q:=2) U U)) (V U U (Dp U CF U) (sc (F5 ((x138.b.size:Nat):Int)) H l0 U U (At FQ U U) ?_))))
  rintro _ _ w ⟨rfl,rfl⟩ H
  refine BX (parts:=[(0,.tmp 131)]) (vs:=[.agg #[.bool false,.int .i64 ((x138.b.size:Nat):Int),.string ⟨#[]⟩]]) (cs:=[.bool false,.int .i64 ((x138.b.size:Nat):Int),.string ⟨#[]⟩]) U U U B4 Do U (by decide) (by decide) U U H (fun b141 w H=>?_)
  replace H:=H.p2.p2
  replace H:Hd _ _ _ [blk r (Bc pv key vv fuel pos steps halted s3 g tv (.map (some mb))) 288,Y AX s3 ((Aw i.op stk).2.1),blk b141 [.bool false,.int .i64 ((x138.b.size:Nat):Int),.string ⟨#[]⟩] 284,Y AX (.slice A133 (((Aw i.op stk).2.2).length) c134) ((Aw i.op stk).2.2),blk b1 [.int .i64 i.op,.int .i64 i.a,.string i.s] 223,Y Ag tv told,BS mb] [Z Bk vv vals,gl]:=H
  refine sc (Eg r pv key vv fuel pos steps halted s3 g tv (.map (some mb)) ((Aw i.op stk).2.1) (.slice (some ⟨b141,0,none⟩) 1 1) [(⟨false,((x138.b.size:Nat):Int),⟨#[]⟩⟩:AQ)] (by first |omega|exact Nat.le_trans hN.2.1 hst) (Nat.le_of_ble_eq_true U)) H (lA 0 U (fun F h=>Cm h rfl (by decide) (AW.flat_eq.2 U)) l0) U U (At Ed U U) ?_
  rintro _ _ w ⟨s142,rfl,rfl⟩ H
  replace H:=H.h2 (A:=blk r (Bc pv key vv fuel pos steps halted s142 g tv (.map (some mb))) 288) (B:=Y AX s142 ((Bh ((Aw i.op stk).2.1) [(⟨false,((x138.b.size:Nat):Int),⟨#[]⟩⟩:AQ)]).2))
  refine Ad U (Ac (Aa (An (A0 (Az (Aq U U ?_))))))
  replace H:=H.p6.p6.p3.p3.k4
  have e:BK dg key (⟨pos,halted,stk,g,told,vals⟩:VM) i=((⟨pos,halted,(Bh ((Aw i.op stk).2.1) [(⟨false,((x138.b.size:Nat):Int),⟨#[]⟩⟩:AQ)]).2,g,told,vals⟩:VM),(Bh ((Aw i.op stk).2.1) [(⟨false,((x138.b.size:Nat):Int),⟨#[]⟩⟩:AQ)]).1):=by
    rw [Dl (m:=(⟨pos,halted,stk,g,told,vals⟩:VM)) h4,Np h132]
    rw [De hx139]<;>rfl
  replace H:Hd _ _ _ [blk r (Bc pv key vv fuel pos steps halted s142 g tv (.map (some mb))) 288,Y AX s142 ((Bh ((Aw i.op stk).2.1) [(⟨false,((x138.b.size:Nat):Int),⟨#[]⟩⟩:AQ)]).2),Y Ag tv told,BS mb] [Z Bk vv vals,gl]:=H
  exact Al ⟨s142,tv,vv,by rw [e]<;>rfl,by rw [e]<;>exact C6.refl _ _ _,by rw [e]<;>rfl⟩ H
 refine Ab (Ae (V U U (Bb U U U) (Ad U (Ac (Aa ?_)))))
 refine Ax U (fun h143=>?_) (fun h143=>?_)
 ·have hks:(Be i.op).size=2:=by rw [h143];rfl
  refine Ab ?_
  obtain ⟨A144,c145,rfl,hc146,hm147,hp148⟩:=H.fA 2 rfl
  obtain ⟨x149,hx150⟩:∃ z9,((Aw i.op stk).2.2)[0]?=some z9:=⟨_,List.getElem?_eq_getElem (show 0<((Aw i.op stk).2.2).length by omega)⟩
  have okx149:=hok.1 _ (hN.2.2.1 _ (Ce hx150))
  have szx149:=okx149.2
  have inx149:=okx149.1
  obtain ⟨x151,hx152⟩:∃ z9,((Aw i.op stk).2.2)[1]?=some z9:=⟨_,List.getElem?_eq_getElem (show 1<((Aw i.op stk).2.2).length by omega)⟩
  have okx151:=hok.1 _ (hN.2.2.1 _ (Ce hx152))
  have szx151:=okx151.2
  have inx151:=okx151.1
  replace H:=H.p5.p5.p5.p5
  refine BY (.e 0 (.e 1 (.e 2 (.e 3 (.e 4 (.e 5 (.e 6 (.e 7 (.e 8 (.m 9 (.m 10 (.m 11 (.m 12 (.e 13 .z)))))))))))))) (fun w=>∃ Ar,Hd w0 F0 w (Y AX (.slice A144 (((Aw i.op stk).2.2).length) c145) ((Aw i.op stk).2.2)::blk b1 [.int .i64 i.op,.int .i64 i.a,.string i.s] 223::Y Ag tv told::BS mb::Ar) [Z Bk vv vals,gl]) mo (by kernel_rfl) (fun w H=>⟨_,H⟩) H (fun w H=>(Au U (Au U ?_)))
  have th153:=H.thA 0 rfl hx150
  refine Ao U U U (fun w ⟨Ar,H⟩=>AZ (p:=AP A144+0*3) U B4 U U (by omega) (by omega) th153 (by omega)) (Ao U U U (fun w ⟨Ar,H⟩=>Aj U FP U) (Ao U U U (fun w ⟨Ar,H⟩=>Ak U BV U (H.elA 0 U hx150 (q:=2) U U)) (Au U ?_)))
  have th154:=H.thA 0 rfl hx152
  refine Ao U U U (fun w ⟨Ar,H⟩=>AZ (p:=AP A144+1*3) U B4 U U (by omega) (by omega) th154 (by omega)) (Ao U U U (fun w ⟨Ar,H⟩=>Aj U EM U) (Ao U U U (fun w ⟨Ar,H⟩=>Ak U D1 U (H.elA 0 U hx152 (q:=1) U U)) (AO U (sc (Z4 x149.b x151.n) H l0 U U (At Vu U U) ?_))))
  rintro _ _ w ⟨rfl,rfl⟩ H
  refine AE ⟨_,H⟩ (AO U (sc (F5 (EH x149.b x151.n)) H l0 U U (At FQ U U) ?_))
  rintro _ _ w ⟨rfl,rfl⟩ H
  refine AE ⟨_,H⟩ (AO U (BX (parts:=[(0,.tmp 146)]) (vs:=[.agg #[.bool false,.int .i64 (EH x149.b x151.n),.string ⟨#[]⟩]]) (cs:=[.bool false,.int .i64 (EH x149.b x151.n),.string ⟨#[]⟩]) U U U B4 Do U (by decide) (by decide) U U H (fun b155 w H=>?_)))
  replace H:=H.h1 (A:=blk b155 [.bool false,.int .i64 (EH x149.b x151.n),.string ⟨#[]⟩] 284)|>.p4|>.p4|>.p4|>.p4
  refine AE ⟨_,H⟩ (AO U ?_)
  replace H:=H.p6.p6
  refine sc (Eg r pv key vv fuel pos steps halted s3 g tv (.map (some mb)) ((Aw i.op stk).2.1) (.slice (some ⟨b155,0,none⟩) 1 1) [(⟨false,EH x149.b x151.n,⟨#[]⟩⟩:AQ)] (by first |omega|exact Nat.le_trans hN.2.1 hst) (Nat.le_of_ble_eq_true U)) H (lA 4 U (fun F h=>Cm h rfl (by decide) (AW.flat_eq.2 U)) l0) U U (At Ed U U) ?_
  rintro _ _ w ⟨s156,rfl,rfl⟩ H
  replace H:=H.h2 (A:=blk r (Bc pv key vv fuel pos steps halted s156 g tv (.map (some mb))) 288) (B:=Y AX s156 ((Bh ((Aw i.op stk).2.1) [(⟨false,EH x149.b x151.n,⟨#[]⟩⟩:AQ)]).2))|>.p5|>.p5|>.p5|>.p5
  refine AE ⟨_,H⟩ (Au U (BP (Aa (An (A0 (Az (Aq U U ?_)))))))
  replace H:=H.p3.p3.p5.p5.k4
  have e:BK dg key (⟨pos,halted,stk,g,told,vals⟩:VM) i=((⟨pos,halted,(Bh ((Aw i.op stk).2.1) [(⟨false,EH x149.b x151.n,⟨#[]⟩⟩:AQ)]).2,g,told,vals⟩:VM),(Bh ((Aw i.op stk).2.1) [(⟨false,EH x149.b x151.n,⟨#[]⟩⟩:AQ)]).1):=by
    rw [Dl (m:=(⟨pos,halted,stk,g,told,vals⟩:VM)) h4,Nq h143]
    rw [De hx150,De hx152]<;>rfl
  replace H:Hd _ _ _ [blk r (Bc pv key vv fuel pos steps halted s156 g tv (.map (some mb))) 288,Y AX s156 ((Bh ((Aw i.op stk).2.1) [(⟨false,EH x149.b x151.n,⟨#[]⟩⟩:AQ)]).2),Y Ag tv told,BS mb] [Z Bk vv vals,gl]:=H
  exact Al ⟨s156,tv,vv,by rw [e]<;>rfl,by rw [e]<;>exact C6.refl _ _ _,by rw [e]<;>rfl⟩ H
 refine Ab (Ae (V U U (Bb U U U) (Ad U (Ac (Aa ?_)))))
 refine Ax U (fun h157=>?_) (fun h157=>?_)
 ·have hks:(Be i.op).size=3:=by rw [h157];rfl
  refine Ab ?_
  obtain ⟨A158,c159,rfl,hc160,hm161,hp162⟩:=H.fA 2 rfl
  obtain ⟨x163,hx164⟩:∃ z9,((Aw i.op stk).2.2)[0]?=some z9:=⟨_,List.getElem?_eq_getElem (show 0<((Aw i.op stk).2.2).length by omega)⟩
  have okx163:=hok.1 _ (hN.2.2.1 _ (Ce hx164))
  have szx163:=okx163.2
  have inx163:=okx163.1
  obtain ⟨x165,hx166⟩:∃ z9,((Aw i.op stk).2.2)[1]?=some z9:=⟨_,List.getElem?_eq_getElem (show 1<((Aw i.op stk).2.2).length by omega)⟩
  have okx165:=hok.1 _ (hN.2.2.1 _ (Ce hx166))
  have szx165:=okx165.2
  have inx165:=okx165.1
  obtain ⟨x167,hx168⟩:∃ z9,((Aw i.op stk).2.2)[2]?=some z9:=⟨_,List.getElem?_eq_getElem (show 2<((Aw i.op stk).2.2).length by omega)⟩
  have okx167:=hok.1 _ (hN.2.2.1 _ (Ce hx168))
  have szx167:=okx167.2
  have inx167:=okx167.1
  replace H:=H.p5.p5.p5.p5
  refine BY (.e 0 (.e 1 (.e 2 (.e 3 (.e 4 (.e 5 (.e 6 (.e 7 (.e 8 (.e 9 (.e 10 (.e 11 (.e 12 (.m 13 (.m 14 (.m 15 (.m 16 (.e 17 .z)))))))))))))))))) (fun w=>∃ Ar,Hd w0 F0 w (Y AX (.slice A158 (((Aw i.op stk).2.2).length) c159) ((Aw i.op stk).2.2)::blk b1 [.int .i64 i.op,.int .i64 i.a,.string i.s] 223::Y Ag tv told::BS mb::Ar) [Z Bk vv vals,gl]) mo (by kernel_rfl) (fun w H=>⟨_,H⟩) H (fun w H=>(Au U (Au U ?_)))
  have th169:=H.thA 0 rfl hx164
  refine Ao U U U (fun w ⟨Ar,H⟩=>AZ (p:=AP A158+0*3) U B4 U U (by omega) (by omega) th169 (by omega)) (Ao U U U (fun w ⟨Ar,H⟩=>Aj U FP U) (Ao U U U (fun w ⟨Ar,H⟩=>Ak U BV U (H.elA 0 U hx164 (q:=2) U U)) (Au U ?_)))
  have th170:=H.thA 0 rfl hx166
  refine Ao U U U (fun w ⟨Ar,H⟩=>AZ (p:=AP A158+1*3) U B4 U U (by omega) (by omega) th170 (by omega)) (Ao U U U (fun w ⟨Ar,H⟩=>Aj U EM U) (Ao U U U (fun w ⟨Ar,H⟩=>Ak U D1 U (H.elA 0 U hx166 (q:=1) U U)) (Au U ?_)))
  have th171:=H.thA 0 rfl hx168
  refine Ao U U U (fun w ⟨Ar,H⟩=>AZ (p:=AP A158+2*3) U B4 U U (by omega) (by omega) th171 (by omega)) (Ao U U U (fun w ⟨Ar,H⟩=>Aj U EM U) (Ao U U U (fun w ⟨Ar,H⟩=>Ak U D1 U (H.elA 0 U hx168 (q:=1) U U)) (AO U (sc (Z5 x163.b x165.n x167.n) H l0 U U (At Vv U U) ?_))))
  rintro _ _ w ⟨rfl,rfl⟩ H
  refine AE ⟨_,H⟩ (AO U (sc (Ix (Fx x163.b x165.n x167.n)) H l0 U U (At H7 U U) ?_))
  rintro _ _ w ⟨rfl,rfl⟩ H
  refine AE ⟨_,H⟩ (AO U (BX (parts:=[(0,.tmp 165)]) (vs:=[.agg #[.bool true,.int .i64 0,.string (Fx x163.b x165.n x167.n)]]) (cs:=[.bool true,.int .i64 0,.string (Fx x163.b x165.n x167.n)]) U U U B4 Do U (by decide) (by decide) U U H (fun b172 w H=>?_)))
  replace H:=H.h1 (A:=blk b172 [.bool true,.int .i64 0,.string (Fx x163.b x165.n x167.n)] 284)|>.p4|>.p4|>.p4|>.p4
  refine AE ⟨_,H⟩ (AO U ?_)
  replace H:=H.p6.p6
  refine sc (Eg r pv key vv fuel pos steps halted s3 g tv (.map (some mb)) ((Aw i.op stk).2.1) (.slice (some ⟨b172,0,none⟩) 1 1) [(⟨true,0,(Fx x163.b x165.n x167.n)⟩:AQ)] (by first |omega|exact Nat.le_trans hN.2.1 hst) (Nat.le_of_ble_eq_true U)) H (lA 4 U (fun F h=>Cm h rfl (by decide) (AW.flat_eq.2 U)) l0) U U (At Ed U U) ?_
  rintro _ _ w ⟨s173,rfl,rfl⟩ H
  replace H:=H.h2 (A:=blk r (Bc pv key vv fuel pos steps halted s173 g tv (.map (some mb))) 288) (B:=Y AX s173 ((Bh ((Aw i.op stk).2.1) [(⟨true,0,(Fx x163.b x165.n x167.n)⟩:AQ)]).2))|>.p5|>.p5|>.p5|>.p5
  refine AE ⟨_,H⟩ (Au U (BP (Aa (An (A0 (Az (Aq U U ?_)))))))
  replace H:=H.p3.p3.p5.p5.k4
  have e:BK dg key (⟨pos,halted,stk,g,told,vals⟩:VM) i=((⟨pos,halted,(Bh ((Aw i.op stk).2.1) [(⟨true,0,(Fx x163.b x165.n x167.n)⟩:AQ)]).2,g,told,vals⟩:VM),(Bh ((Aw i.op stk).2.1) [(⟨true,0,(Fx x163.b x165.n x167.n)⟩:AQ)]).1):=by
    rw [Dl (m:=(⟨pos,halted,stk,g,told,vals⟩:VM)) h4,Nr h157]
    rw [De hx164,De hx166,De hx168]<;>rfl
  replace H:Hd _ _ _ [blk r (Bc pv key vv fuel pos steps halted s173 g tv (.map (some mb))) 288,Y AX s173 ((Bh ((Aw i.op stk).2.1) [(⟨true,0,(Fx x163.b x165.n x167.n)⟩:AQ)]).2),Y Ag tv told,BS mb] [Z Bk vv vals,gl]:=H
  exact Al ⟨s173,tv,vv,by rw [e]<;>rfl,by rw [e]<;>exact C6.refl _ _ _,by rw [e]<;>rfl⟩ H
 refine Ab (Ae (V U U (Bb U U U) (Ad U (Ac (Aa ?_)))))
 refine Ax U (fun h174=>?_) (fun h174=>?_)
 ·have hks:(Be i.op).size=1:=by rw [h174];rfl
  refine Ab ?_
  obtain ⟨A175,c176,rfl,hc177,hm178,hp179⟩:=H.fA 2 rfl
  obtain ⟨x180,hx181⟩:∃ z9,((Aw i.op stk).2.2)[0]?=some z9:=⟨_,List.getElem?_eq_getElem (show 0<((Aw i.op stk).2.2).length by omega)⟩
  have okx180:=hok.1 _ (hN.2.2.1 _ (Ce hx181))
  have szx180:=okx180.2
  have inx180:=okx180.1
  refine Ae (Ah 3 U ?_)
  have th182:=H.thA 2 rfl hx181
  refine V U U (AZ (p:=AP A175+0*3) U B4 U U (by omega) (by omega) th182 (by omega)) (V U U (Aj U EM U) (V U U (Ak U D1 U (H.elA 2 U hx181 (q:=1) U U)) ?_))
  replace H:=H.p5
  refine sc (ZH r pv key vv fuel pos steps halted s3 g tv mb x180.n (by assumption)) H (lA 0 U (fun _ h=>h) (lR 1 U l0)) U U (At Vw U U) ?_
  rintro _ _ w ⟨rfl,rfl⟩ H
  refine sc (Ix (dg.dig x180.n)) H l0 U U (At H7 U U) ?_
  rintro _ _ w ⟨rfl,rfl⟩ H
  refine BX (parts:=[(0,.tmp 177)]) (vs:=[.agg #[.bool true,.int .i64 0,.string (dg.dig x180.n)]]) (cs:=[.bool true,.int .i64 0,.string (dg.dig x180.n)]) U U U B4 Do U (by decide) (by decide) U U H (fun b183 w H=>?_)
  replace H:=H.h1 (A:=blk b183 [.bool true,.int .i64 0,.string (dg.dig x180.n)] 284)|>.p3|>.p3
  refine sc (Eg r pv key vv fuel pos steps halted s3 g tv (.map (some mb)) ((Aw i.op stk).2.1) (.slice (some ⟨b183,0,none⟩) 1 1) [(⟨true,0,(dg.dig x180.n)⟩:AQ)] (by first |omega|exact Nat.le_trans hN.2.1 hst) (Nat.le_of_ble_eq_true U)) H (lA 0 U (fun F h=>Cm h rfl (by decide) (AW.flat_eq.2 U)) l0) U U (At Ed U U) ?_
  rintro _ _ w ⟨s184,rfl,rfl⟩ H
  replace H:=H.h2 (A:=blk r (Bc pv key vv fuel pos steps halted s184 g tv (.map (some mb))) 288) (B:=Y AX s184 ((Bh ((Aw i.op stk).2.1) [(⟨true,0,(dg.dig x180.n)⟩:AQ)]).2))
  refine Ad U (Ac (Aa (An (A0 (Az (Aq U U ?_))))))
  replace H:=H.p3.p6.p3.p3.k4
  have e:BK dg key (⟨pos,halted,stk,g,told,vals⟩:VM) i=((⟨pos,halted,(Bh ((Aw i.op stk).2.1) [(⟨true,0,(dg.dig x180.n)⟩:AQ)]).2,g,told,vals⟩:VM),(Bh ((Aw i.op stk).2.1) [(⟨true,0,(dg.dig x180.n)⟩:AQ)]).1):=by
    rw [Dl (m:=(⟨pos,halted,stk,g,told,vals⟩:VM)) h4,Ns h174]
    rw [De hx181]<;>rfl
  replace H:Hd _ _ _ [blk r (Bc pv key vv fuel pos steps halted s184 g tv (.map (some mb))) 288,Y AX s184 ((Bh ((Aw i.op stk).2.1) [(⟨true,0,(dg.dig x180.n)⟩:AQ)]).2),Y Ag tv told,BS mb] [Z Bk vv vals,gl]:=H
  exact Al ⟨s184,tv,vv,by rw [e]<;>rfl,by rw [e]<;>exact C6.refl _ _ _,by rw [e]<;>rfl⟩ H
 refine Ab (Ae (V U U (Bb U U U) (Ad U (Ac (Aa ?_)))))
 refine Ax U (fun h185=>?_) (fun h185=>?_)
 ·have hks:(Be i.op).size=1:=by rw [h185];rfl
  refine Ab ?_
  obtain ⟨A186,c187,rfl,hc188,hm189,hp190⟩:=H.fA 2 rfl
  obtain ⟨x191,hx192⟩:∃ z9,((Aw i.op stk).2.2)[0]?=some z9:=⟨_,List.getElem?_eq_getElem (show 0<((Aw i.op stk).2.2).length by omega)⟩
  have okx191:=hok.1 _ (hN.2.2.1 _ (Ce hx192))
  have szx191:=okx191.2
  have inx191:=okx191.1
  refine Ae (Ah 2 U ?_)
  have th193:=H.thA 2 rfl hx192
  refine V U U (AZ (p:=AP A186+0*3) U B4 U U (by omega) (by omega) th193 (by omega)) (V U U (Aj U FP U) (V U U (Ak U BV U (H.elA 2 U hx192 (q:=2) U U)) (sc (WS x191.b (by omega)) H (lR 1 U l0) U U (At Vx U U) ?_)))
  rintro _ _ w ⟨rfl,rfl⟩ H
  refine sc (F5 (dg.num x191.b)) H l0 U U (At FQ U U) ?_
  rintro _ _ w ⟨rfl,rfl⟩ H
  refine BX (parts:=[(0,.tmp 188)]) (vs:=[.agg #[.bool false,.int .i64 (dg.num x191.b),.string ⟨#[]⟩]]) (cs:=[.bool false,.int .i64 (dg.num x191.b),.string ⟨#[]⟩]) U U U B4 Do U (by decide) (by decide) U U H (fun b194 w H=>?_)
  replace H:=H.p2.p2
  replace H:Hd _ _ _ [blk r (Bc pv key vv fuel pos steps halted s3 g tv (.map (some mb))) 288,Y AX s3 ((Aw i.op stk).2.1),blk b194 [.bool false,.int .i64 (dg.num x191.b),.string ⟨#[]⟩] 284,Y AX (.slice A186 (((Aw i.op stk).2.2).length) c187) ((Aw i.op stk).2.2),blk b1 [.int .i64 i.op,.int .i64 i.a,.string i.s] 223,Y Ag tv told,BS mb] [Z Bk vv vals,gl]:=H
  refine sc (Eg r pv key vv fuel pos steps halted s3 g tv (.map (some mb)) ((Aw i.op stk).2.1) (.slice (some ⟨b194,0,none⟩) 1 1) [(⟨false,dg.num x191.b,⟨#[]⟩⟩:AQ)] (by first |omega|exact Nat.le_trans hN.2.1 hst) (Nat.le_of_ble_eq_true U)) H (lA 0 U (fun F h=>Cm h rfl (by decide) (AW.flat_eq.2 U)) l0) U U (At Ed U U) ?_
  rintro _ _ w ⟨s195,rfl,rfl⟩ H
  replace H:=H.h2 (A:=blk r (Bc pv key vv fuel pos steps halted s195 g tv (.map (some mb))) 288) (B:=Y AX s195 ((Bh ((Aw i.op stk).2.1) [(⟨false,dg.num x191.b,⟨#[]⟩⟩:AQ)]).2))
  refine Ad U (Ac (Aa (An (A0 (Az (Aq U U ?_))))))
  replace H:=H.p6.p6.p3.p3.k4
  have e:BK dg key (⟨pos,halted,stk,g,told,vals⟩:VM) i=((⟨pos,halted,(Bh ((Aw i.op stk).2.1) [(⟨false,dg.num x191.b,⟨#[]⟩⟩:AQ)]).2,g,told,vals⟩:VM),(Bh ((Aw i.op stk).2.1) [(⟨false,dg.num x191.b,⟨#[]⟩⟩:AQ)]).1):=by
    rw [Dl (m:=(⟨pos,halted,stk,g,told,vals⟩:VM)) h4,Nt h185]
    rw [De hx192]<;>rfl
  replace H:Hd _ _ _ [blk r (Bc pv key vv fuel pos steps halted s195 g tv (.map (some mb))) 288,Y AX s195 ((Bh ((Aw i.op stk).2.1) [(⟨false,dg.num x191.b,⟨#[]⟩⟩:AQ)]).2),Y Ag tv told,BS mb] [Z Bk vv vals,gl]:=H
  exact Al ⟨s195,tv,vv,by rw [e]<;>rfl,by rw [e]<;>exact C6.refl _ _ _,by rw [e]<;>rfl⟩ H
 refine Ab (Ae (V U U (Bb U U U) (Ad U (Ac (Aa ?_)))))
 refine Ax U (fun h196=>?_) (fun h196=>?_)
 ·have hks:(Be i.op).size=0:=by rw [h196];rfl
  refine Ae (Ad U (V U U (Aj U Dm U) (V U U (Ak U AB U (H.cellI 3 U U)) (V U U (AH U U) (V U U (Aj U HV U) (BE U U U AB U U H U (Nat.le_of_ble_eq_true U) (fun u hu=>by simp [Value.cells] at hu;subst hu;rfl) (fun w H=>?_)))))))
  replace H:=H.h1 (A:=blk r (Bc pv key vv fuel i.a steps halted s3 g tv (.map (some mb))) 288)
  refine Ac (AU (Aa (Ab (Ae (Ad U (Ac (Aa (An (Aq U U ?_)))))))))
  replace H:=H.p5.p5.p3.p3.k4
  have e:BK dg key (⟨pos,halted,stk,g,told,vals⟩:VM) i=((⟨i.a,halted,(Aw i.op stk).2.1,g,told,vals⟩:VM),0):=by
    rw [Dl (m:=(⟨pos,halted,stk,g,told,vals⟩:VM)) h4,Nu h196]
    all_goals rfl
  replace H:Hd _ _ _ [blk r (Bc pv key vv fuel i.a steps halted s3 g tv (.map (some mb))) 288,Y AX s3 ((Aw i.op stk).2.1),Y Ag tv told,BS mb] [Z Bk vv vals,gl]:=H
  exact Al ⟨s3,tv,vv,by rw [e]<;>rfl,by rw [e]<;>exact C6.refl _ _ _,by rw [e]<;>rfl⟩ H
 refine Ab (Ae (V U U (Bb U U U) (Ad U (Ac (Aa ?_)))))
 refine Ax U (fun h197=>?_) (fun h197=>?_)
 ·have hks:(Be i.op).size=1:=by rw [h197];rfl
  refine Ab ?_
  obtain ⟨A198,c199,rfl,hc200,hm201,hp202⟩:=H.fA 2 rfl
  obtain ⟨x203,hx204⟩:∃ z9,((Aw i.op stk).2.2)[0]?=some z9:=⟨_,List.getElem?_eq_getElem (show 0<((Aw i.op stk).2.2).length by omega)⟩
  have okx203:=hok.1 _ (hN.2.2.1 _ (Ce hx204))
  have szx203:=okx203.2
  have inx203:=okx203.1
  refine Ae (Ad U ?_)
  have th205:=H.thA 2 rfl hx204
  refine V U U (AZ (p:=AP A198+0*3) U B4 U U (by omega) (by omega) th205 (by omega)) (V U U (Aj U EM U) (V U U (Ak U D1 U (H.elA 2 U hx204 (q:=1) U U)) (V U U (CX U U U) (Ac (Aa ?_)))))
  refine Ax U (fun h206=>?_) (fun h206=>?_)
  ·refine Ae (Ad U (V U U (Aj U Dm U) (V U U (Ak U AB U (H.cellI 3 U U)) (V U U (AH U U) (V U U (Aj U HV U) (BE U U U AB U U H U (Nat.le_of_ble_eq_true U) (fun u hu=>by simp [Value.cells] at hu;subst hu;rfl) (fun w H=>?_)))))))
   replace H:=H.h1 (A:=blk r (Bc pv key vv fuel i.a steps halted s3 g tv (.map (some mb))) 288)
   refine Ac (AU (Aa (Ab (Ae (Ad U (Ac (Aa (An (Aq U U ?_)))))))))
   replace H:=H.p5.p5.p3.p3.k4
   have e:BK dg key (⟨pos,halted,stk,g,told,vals⟩:VM) i=((⟨i.a,halted,(Aw i.op stk).2.1,g,told,vals⟩:VM),0):=by
     rw [Dl (m:=(⟨pos,halted,stk,g,told,vals⟩:VM)) h4,La h197]
     rw [De hx204,if_pos h206]
   replace H:Hd _ _ _ [blk r (Bc pv key vv fuel i.a steps halted s3 g tv (.map (some mb))) 288,Y AX s3 ((Aw i.op stk).2.1),Y Ag tv told,BS mb] [Z Bk vv vals,gl]:=H
   exact Al ⟨s3,tv,vv,by rw [e]<;>rfl,by rw [e]<;>exact C6.refl _ _ _,by rw [e]<;>rfl⟩ H
  refine Av (AU (Aa (Ab (Ae (Ad U (Ac (Aa (An (Aq U U ?_)))))))))
  replace H:=H.p5.p5.p3.p3.k4
  have e:BK dg key (⟨pos,halted,stk,g,told,vals⟩:VM) i=((⟨pos,halted,(Aw i.op stk).2.1,g,told,vals⟩:VM),0):=by
    rw [Dl (m:=(⟨pos,halted,stk,g,told,vals⟩:VM)) h4,La h197]
    rw [De hx204,if_neg h206]
  replace H:Hd _ _ _ [blk r (Bc pv key vv fuel pos steps halted s3 g tv (.map (some mb))) 288,Y AX s3 ((Aw i.op stk).2.1),Y Ag tv told,BS mb] [Z Bk vv vals,gl]:=H
  exact Al ⟨s3,tv,vv,by rw [e]<;>rfl,by rw [e]<;>exact C6.refl _ _ _,by rw [e]<;>rfl⟩ H
 refine Ab (Ae (V U U (Bb U U U) (Ad U (Ac (Aa ?_)))))
 refine Ax U (fun h207=>?_) (fun h207=>?_)
 ·have hks:(Be i.op).size=0:=by rw [h207];rfl
  refine Ab ?_
  have hia:=hi.2.2.2.2.2.1 (by omega)
  obtain ⟨gk,hgk⟩:∃ z,z=g (i.a).toNat:=⟨_,rfl⟩
  replace H:=H.p5.p5.p5.p5
  refine BY (.e 0 (.e 1 (.e 2 (.e 3 (.e 4 (.e 5 (.e 6 (.m 7 (.m 8 (.m 9 (.e 10 .z))))))))))) (fun w=>∃ Ar,Hd w0 F0 w (Y AX u2 ((Aw i.op stk).2.2)::blk b1 [.int .i64 i.op,.int .i64 i.a,.string i.s] 223::Y Ag tv told::BS mb::Ar) [Z Bk vv vals,gl]) mo (by kernel_rfl) (fun w H=>⟨_,H⟩) H (fun w H=>(Au U (Au U (Ao U U U (fun w ⟨Ar,H⟩=>Aj U Dm U) (Ao U U U (fun w ⟨Ar,H⟩=>Ak U AB U (H.cellI 1 U U)) (Ao U U U (fun w ⟨Ar,H⟩=>AH U U) (Ao U U U (fun w ⟨Ar,H⟩=>Aj U OD U) (Ao U U U (fun w ⟨Ar,H⟩=>FE (p:=8+(i.a).toNat*3) U RE Pb U U (by omega) (by omega) (by omega)) (AO U (V U U (Bq (cs:=[.bool gk.t,.int .i64 gk.n,.string gk.b]) U Da U U (H.cellsI 4 U (by rw [hgk];exact YC (by omega)))) ?_))))))))))
  refine AE ⟨_,H⟩ (AO U (BX (parts:=[(0,.tmp 219)]) (vs:=[.agg #[.bool gk.t,.int .i64 gk.n,.string gk.b]]) (cs:=[.bool gk.t,.int .i64 gk.n,.string gk.b]) U U U B4 Do U (by decide) (by decide) U U H (fun b208 w H=>?_)))
  replace H:=H.h1 (A:=blk b208 [.bool gk.t,.int .i64 gk.n,.string gk.b] 284)|>.p4|>.p4|>.p4|>.p4
  refine AE ⟨_,H⟩ (AO U ?_)
  replace H:=H.p6.p6
  refine sc (Eg r pv key vv fuel pos steps halted s3 g tv (.map (some mb)) ((Aw i.op stk).2.1) (.slice (some ⟨b208,0,none⟩) 1 1) [gk] (by first |omega|exact Nat.le_trans hN.2.1 hst) (Nat.le_of_ble_eq_true U)) H (lA 4 U (fun F h=>Cm h rfl (by decide) (AW.flat_eq.2 U)) l0) U U (At Ed U U) ?_
  rintro _ _ w ⟨s209,rfl,rfl⟩ H
  replace H:=H.h2 (A:=blk r (Bc pv key vv fuel pos steps halted s209 g tv (.map (some mb))) 288) (B:=Y AX s209 ((Bh ((Aw i.op stk).2.1) [gk]).2))|>.p5|>.p5|>.p5|>.p5
  refine AE ⟨_,H⟩ (Au U (BP (Aa (An (A0 (Az (Aq U U ?_)))))))
  replace H:=H.p3.p3.p5.p5.k4
  have e:BK dg key (⟨pos,halted,stk,g,told,vals⟩:VM) i=((⟨pos,halted,(Bh ((Aw i.op stk).2.1) [gk]).2,g,told,vals⟩:VM),(Bh ((Aw i.op stk).2.1) [gk]).1):=by
    rw [Dl (m:=(⟨pos,halted,stk,g,told,vals⟩:VM)) h4,Nw h207]
    rw [show gk=g i.a.toNat from hgk]<;>rfl
  replace H:Hd _ _ _ [blk r (Bc pv key vv fuel pos steps halted s209 g tv (.map (some mb))) 288,Y AX s209 ((Bh ((Aw i.op stk).2.1) [gk]).2),Y Ag tv told,BS mb] [Z Bk vv vals,gl]:=H
  exact Al ⟨s209,tv,vv,by rw [e]<;>rfl,by rw [e]<;>exact C6.refl _ _ _,by rw [e]<;>rfl⟩ H
 refine Ab (Ae (V U U (Bb U U U) (Ad U (Ac (Aa ?_)))))
 refine Ax U (fun h210=>?_) (fun h210=>?_)
 ·have hks:(Be i.op).size=1:=by rw [h210];rfl
  have hia:=hi.2.2.2.2.2.1 (by omega)
  obtain ⟨A211,c212,rfl,hc213,hm214,hp215⟩:=H.fA 2 rfl
  obtain ⟨x216,hx217⟩:∃ z9,((Aw i.op stk).2.2)[0]?=some z9:=⟨_,List.getElem?_eq_getElem (show 0<((Aw i.op stk).2.2).length by omega)⟩
  have okx216:=hok.1 _ (hN.2.2.1 _ (Ce hx217))
  have szx216:=okx216.2
  have inx216:=okx216.1
  replace H:=H.p5.p5.p5.p5.p5
  refine BY (.e 0 (.e 1 (.e 2 (.e 3 (.e 4 (.e 5 (.e 6 (.e 7 (.e 8 (.m 9 .z)))))))))) (fun w=>∃ Ar,Hd w0 F0 w (Y AX s3 ((Aw i.op stk).2.1)::Y AX (.slice A211 (((Aw i.op stk).2.2).length) c212) ((Aw i.op stk).2.2)::blk b1 [.int .i64 i.op,.int .i64 i.a,.string i.s] 223::Y Ag tv told::BS mb::Ar) [Z Bk vv vals,gl]) mo (by kernel_rfl) (fun w H=>⟨_,H⟩) H (fun w H=>(Au U (Ao U U U (fun w ⟨Ar,H⟩=>Aj U Dm U) (Ao U U U (fun w ⟨Ar,H⟩=>Ak U AB U (H.cellI 2 U U)) (Au U ?_)))))
  have th218:=H.thA 1 rfl hx217
  refine Ao U U U (fun w ⟨Ar,H⟩=>AZ (p:=AP A211+0*3) U B4 U U (by omega) (by omega) th218 (by omega)) (Ao U U U (fun w ⟨Ar,H⟩=>Bq (cs:=[.bool x216.t,.int .i64 x216.n,.string x216.b]) U Da U U (H.elsA 1 U hx217 U)) (Ao U U U (fun w ⟨Ar,H⟩=>AH U U) (Ao U U U (fun w ⟨Ar,H⟩=>Aj U OD U) (Ao U U U (fun w ⟨Ar,H⟩=>FE (p:=8+(i.a).toNat*3) U RE Pb U U (by omega) (by omega) (by omega)) (AO U ?_)))))
  replace H:=H.p5
  refine BE U U U Da U U H U (by show 8+(i.a).toNat*3+3≤34;omega) (fun u hu=>by simp [Value.cells] at hu;rcases hu with rfl|rfl|rfl<;>rfl) (fun w H=>?_)
  replace H:Hd w0 F0 w [blk r (Bc pv key vv fuel pos steps halted s3 (Iq g i.a.toNat x216) tv (.map (some mb))) 288,Y AX s3 ((Aw i.op stk).2.1),Y AX (.slice A211 (((Aw i.op stk).2.2).length) c212) ((Aw i.op stk).2.2),blk b1 [.int .i64 i.op,.int .i64 i.a,.string i.s] 223,Y Ag tv told,BS mb] [Z Bk vv vals,gl]:=by rw [←YD (show i.a.toNat<8 by omega) x216];exact H
  replace H:=H.p5.p5.p5.p5.p5
  refine AE ⟨_,H⟩ (BP (AU (Aa (Ab (Ae (Ad U (Ac (Aa (An (Aq U U ?_))))))))))
  replace H:=H.p4.p4.p2.p5.k4
  have e:BK dg key (⟨pos,halted,stk,g,told,vals⟩:VM) i=((⟨pos,halted,(Aw i.op stk).2.1,Iq g i.a.toNat x216,told,vals⟩:VM),0):=by
    rw [Dl (m:=(⟨pos,halted,stk,g,told,vals⟩:VM)) h4,Nx h210]
    rw [De hx217]<;>rfl
  replace H:Hd _ _ _ [blk r (Bc pv key vv fuel pos steps halted s3 (Iq g i.a.toNat x216) tv (.map (some mb))) 288,Y AX s3 ((Aw i.op stk).2.1),Y Ag tv told,BS mb] [Z Bk vv vals,gl]:=H
  exact Al ⟨s3,tv,vv,by rw [e]<;>rfl,by rw [e]<;>exact C6.refl _ _ _,by rw [e]<;>rfl⟩ H
 refine Ab (Ae (V U U (Bb U U U) (Ad U (Ac (Aa ?_)))))
 refine Ax U (fun h219=>?_) (fun h219=>?_)
 ·have hks:(Be i.op).size=2:=by rw [h219];rfl
  refine Ab ?_
  obtain ⟨A220,c221,rfl,hc222,hm223,hp224⟩:=H.fA 2 rfl
  obtain ⟨x225,hx226⟩:∃ z9,((Aw i.op stk).2.2)[0]?=some z9:=⟨_,List.getElem?_eq_getElem (show 0<((Aw i.op stk).2.2).length by omega)⟩
  have okx225:=hok.1 _ (hN.2.2.1 _ (Ce hx226))
  have szx225:=okx225.2
  have inx225:=okx225.1
  obtain ⟨x227,hx228⟩:∃ z9,((Aw i.op stk).2.2)[1]?=some z9:=⟨_,List.getElem?_eq_getElem (show 1<((Aw i.op stk).2.2).length by omega)⟩
  have okx227:=hok.1 _ (hN.2.2.1 _ (Ce hx228))
  have szx227:=okx227.2
  have inx227:=okx227.1
  replace H:=H.p5.p4.p4.p4
  refine BY (.e 0 (.e 1 (.e 2 (.e 3 (.e 4 (.e 5 (.e 6 (.e 7 (.e 8 (.m 9 (.e 10 .z))))))))))) (fun w=>∃ Ar,Hd w0 F0 w (Y AX s3 ((Aw i.op stk).2.1)::Y AX (.slice A220 (((Aw i.op stk).2.2).length) c221) ((Aw i.op stk).2.2)::blk b1 [.int .i64 i.op,.int .i64 i.a,.string i.s] 223::BS mb::Ar) [Z Bk vv vals,gl]) mo (by kernel_rfl) (fun w H=>⟨_,H⟩) H (fun w H=>(Au U (Au U ?_)))
  have th229:=H.thA 1 rfl hx226
  refine Ao U U U (fun w ⟨Ar,H⟩=>AZ (p:=AP A220+0*3) U B4 U U (by omega) (by omega) th229 (by omega)) (Ao U U U (fun w ⟨Ar,H⟩=>Aj U FP U) (Ao U U U (fun w ⟨Ar,H⟩=>Ak U BV U (H.elA 1 U hx226 (q:=2) U U)) (Au U ?_)))
  have th230:=H.thA 1 rfl hx228
  refine Ao U U U (fun w ⟨Ar,H⟩=>AZ (p:=AP A220+1*3) U B4 U U (by omega) (by omega) th230 (by omega)) (Ao U U U (fun w ⟨Ar,H⟩=>Aj U FP U) (Ao U U U (fun w ⟨Ar,H⟩=>Ak U BV U (H.elA 1 U hx228 (q:=2) U U)) (AO U ?_)))
  replace H:=H.p5.p5
  refine sc (Tm r pv key vv fuel pos steps halted s3 g tv (.map (some mb)) told x225.b x227.b (by omega)) H l0 U U (At Vy U U) ?_
  rintro _ _ w ⟨t231,rfl,rfl⟩ H
  replace H:=H.h2 (A:=blk r (Bc pv key vv fuel pos steps halted s3 g t231 (.map (some mb))) 288) (B:=Y Ag t231 ((DY told x225.b x227.b).2))|>.p5|>.p5|>.p5|>.p5
  refine AE ⟨_,H⟩ (Au U (BP (Aa (An (A0 (Az (Aq U U ?_)))))))
  replace H:=H.p3.p5.p2.p5.k4
  have e:BK dg key (⟨pos,halted,stk,g,told,vals⟩:VM) i=((⟨pos,halted,(Aw i.op stk).2.1,g,(DY told x225.b x227.b).2,vals⟩:VM),(DY told x225.b x227.b).1):=by
    rw [Dl (m:=(⟨pos,halted,stk,g,told,vals⟩:VM)) h4,Ny h219]
    rw [De hx226,De hx228]<;>rfl
  replace H:Hd _ _ _ [blk r (Bc pv key vv fuel pos steps halted s3 g t231 (.map (some mb))) 288,Y AX s3 ((Aw i.op stk).2.1),Y Ag t231 ((DY told x225.b x227.b).2),BS mb] [Z Bk vv vals,gl]:=H
  exact Al ⟨s3,t231,vv,by rw [e]<;>rfl,by rw [e]<;>exact C6.refl _ _ _,by rw [e]<;>rfl⟩ H
 refine Av (AU (Aa (Ab (Ae (Ad U (Ac (Aa (An (Aq U U ?_)))))))))
 replace H:=H.p5.p5.p3.p3.k4
 have hop:i.op=4:=by have:=hi.1;have:=hi.2.1;omega
 have e:BK dg key (⟨pos,halted,stk,g,told,vals⟩:VM) i=((⟨pos,halted,(Aw i.op stk).2.1,g,told,vals⟩:VM),0):=by
   rw [Dl (m:=(⟨pos,halted,stk,g,told,vals⟩:VM)) h4,NA hop]
   all_goals rfl
 replace H:Hd _ _ _ [blk r (Bc pv key vv fuel pos steps halted s3 g tv (.map (some mb))) 288,Y AX s3 ((Aw i.op stk).2.1),Y Ag tv told,BS mb] [Z Bk vv vals,gl]:=H
 exact Al ⟨s3,tv,vv,by rw [e]<;>rfl,by rw [e]<;>exact C6.refl _ _ _,by rw [e]<;>rfl⟩ H
theorem XC (p:BG) (n:Int):
    Cn Tryz.prog 224 [.agg #[.int .i64 p.op,.int .i64 p.a,.string p.s],.int .i64 n] [] [] (fun v Bs=>v=.bool (decide (BL p n))∧Bs=[]):=by
 intro w0 F0 H
 refine enter Tryz.func224 U U (Nat.le_of_ble_eq_true U) (Ab (Ae (CA U U U U H (fun b1 w H=>(Ad U (Ac (Aa ?_)))))))
 replace H:Hd _ _ _ [blk b1 [.int .i64 p.op,.int .i64 p.a,.string p.s] 223] []:=H
 refine Ab (Ae (Ah 3 U (Ac (Aa (Ab (Ab (Ae (V U U (Aj U C9 U) (V U U (Ak U AB U (H.cellI 0 U U)) (Ac (Aa (AS (Ab (Ae (V U U (Bb U U U) (Ad U (Ac (Aa ?_))))))))))))))))))
 refine Ax U (fun h2=>?_) (fun h2=>?_)
 ·refine Ab (Ae (V U U (Aj U EZ U) (V U U (Ak U BV U (H.cellI 0 U U)) (V U U (MC U U U) (Ad U (Ac (Aa (An (A0 (Az (Aq U U ?_)))))))))))
  replace H:=H.nil
  exact Al ⟨congrArg Value.bool (decide_eq_decide.2 (by rw [WN];unfold BL;omega)),rfl⟩ H
 refine Ab (Ae (V U U (Bb U U U) (Ad U (Ac (Aa ?_)))))
 refine Ax U (fun h3=>?_) (fun h3=>?_)
 ·refine Ae (Ad U (Ac (AU (Aa (Ab (Ae (V U U (Aj U C9 U) (V U U (Ak U AB U (H.cellI 0 U U)) (V U U (CR U U U) (Ad U ?_))))))))))
  refine AK (d:=27) U (fun h4=>?_) (fun h4=>?_)
  ·refine V U U (Aj U C9 U) (V U U (Ak U AB U (H.cellI 0 U U)) (V U U (Cz U U U) (Ah 2 U ?_)))
   refine AK (d:=32) U (fun h5=>?_) (fun h5=>?_)
   ·refine V U U (Aj U Dm U) (V U U (Ak U AB U (H.cellI 0 U U)) (Ad U (V U U (CR U U U) (Ah 2 U ?_))))
    refine AK (d:=38) U (fun h6=>?_) (fun h6=>?_)
    ·refine V U U (Aj U Dm U) (V U U (Ak U AB U (H.cellI 0 U U)) (Ad U (V U U (Cz U U U) (Ah 2 U ?_))))
     refine AK (d:=44) U (fun h7=>?_) (fun h7=>?_)
     ·refine V U U (Aj U EZ U) (V U U (Ak U BV U (H.cellI 0 U U)) (V U U (Dp U CF U) (Ad U (V U U (Cz U U U) (Ah 2 U (Ac (Aa (An (Aq U U ?_)))))))))
      replace H:=H.nil
      exact Al ⟨congrArg Value.bool (decide_eq_decide.2 (by unfold BL;omega)),rfl⟩ H
     refine Ah 7 U (Ac (Aa (An (Aq U U ?_))))
     replace H:=H.nil
     exact Al ⟨congrArg Value.bool (decide_eq_false (by unfold BL;omega)).symm,rfl⟩ H
    refine Ah 12 U (Ad U (Ac (Aa (An (Aq U U ?_)))))
    replace H:=H.nil
    exact Al ⟨congrArg Value.bool (decide_eq_false (by unfold BL;omega)).symm,rfl⟩ H
   refine Ah 12 U (Ah 7 U (Ac (Aa (An (Aq U U ?_)))))
   replace H:=H.nil
   exact Al ⟨congrArg Value.bool (decide_eq_false (by unfold BL;omega)).symm,rfl⟩ H
  refine Ah 12 U (Ah 12 U (Ac (Aa (An (Aq U U ?_)))))
  replace H:=H.nil
  exact Al ⟨congrArg Value.bool (decide_eq_false (by unfold BL;omega)).symm,rfl⟩ H
 refine Ab (Ab (Ae (V U U (Bb U U U) (Ad U (Ac (Aa ?_))))))
 refine Ax U (fun h8=>?_) (fun h8=>?_)
 ·refine Av (Aa ?_)
  refine Ax U (fun h9=>?_) (fun h9=>?_)
  ·refine Ae (Ah 2 U (Ac (AU (Aa (Ab (Ae (V U U (Aj U C9 U) (V U U (Ak U AB U (H.cellI 0 U U)) (V U U (CR U U U) (Ad U ?_))))))))))
   refine AK (d:=27) U (fun h10=>?_) (fun h10=>?_)
   ·refine V U U (Aj U C9 U) (V U U (Ak U AB U (H.cellI 0 U U)) (V U U (Cz U U U) (Ah 2 U ?_)))
    refine AK (d:=32) U (fun h11=>?_) (fun h11=>?_)
    ·refine V U U (Aj U Dm U) (V U U (Ak U AB U (H.cellI 0 U U)) (Ad U (V U U (CR U U U) (Ah 2 U ?_))))
     refine AK (d:=38) U (fun h12=>?_) (fun h12=>?_)
     ·refine V U U (Aj U Dm U) (V U U (Ak U AB U (H.cellI 0 U U)) (Ad U (V U U (Cz U U U) (Ah 2 U ?_))))
      refine AK (d:=44) U (fun h13=>?_) (fun h13=>?_)
      ·refine V U U (Aj U EZ U) (V U U (Ak U BV U (H.cellI 0 U U)) (V U U (Dp U CF U) (Ad U (V U U (Cz U U U) (Ah 2 U (Ac (Aa (An (Aq U U ?_)))))))))
       replace H:=H.nil
       exact Al ⟨congrArg Value.bool (decide_eq_decide.2 (by unfold BL;omega)),rfl⟩ H
      refine Ah 7 U (Ac (Aa (An (Aq U U ?_))))
      replace H:=H.nil
      exact Al ⟨congrArg Value.bool (decide_eq_false (by unfold BL;omega)).symm,rfl⟩ H
     refine Ah 12 U (Ad U (Ac (Aa (An (Aq U U ?_)))))
     replace H:=H.nil
     exact Al ⟨congrArg Value.bool (decide_eq_false (by unfold BL;omega)).symm,rfl⟩ H
    refine Ah 12 U (Ah 7 U (Ac (Aa (An (Aq U U ?_)))))
    replace H:=H.nil
    exact Al ⟨congrArg Value.bool (decide_eq_false (by unfold BL;omega)).symm,rfl⟩ H
   refine Ah 12 U (Ah 12 U (Ac (Aa (An (Aq U U ?_)))))
   replace H:=H.nil
   exact Al ⟨congrArg Value.bool (decide_eq_false (by unfold BL;omega)).symm,rfl⟩ H
  refine Ab (Ab (Ae (V U U (Bb U U U) (Ad U (Ac (Aa ?_))))))
  refine Ax U (fun h14=>?_) (fun h14=>?_)
  ·refine Av (Aa ?_)
   refine Ax U (fun h15=>?_) (fun h15=>?_)
   ·refine Ae (Ad U (Ac (AU (Aa (Ab (Ae (V U U (Aj U C9 U) (V U U (Ak U AB U (H.cellI 0 U U)) (V U U (CR U U U) (Ad U ?_))))))))))
    refine AK (d:=27) U (fun h16=>?_) (fun h16=>?_)
    ·refine V U U (Aj U C9 U) (V U U (Ak U AB U (H.cellI 0 U U)) (V U U (Cz U U U) (Ah 2 U ?_)))
     refine AK (d:=32) U (fun h17=>?_) (fun h17=>?_)
     ·refine V U U (Aj U Dm U) (V U U (Ak U AB U (H.cellI 0 U U)) (Ad U (V U U (CR U U U) (Ah 2 U ?_))))
      refine AK (d:=38) U (fun h18=>?_) (fun h18=>?_)
      ·refine V U U (Aj U Dm U) (V U U (Ak U AB U (H.cellI 0 U U)) (Ad U (V U U (Cz U U U) (Ah 2 U ?_))))
       refine AK (d:=44) U (fun h19=>?_) (fun h19=>?_)
       ·refine V U U (Aj U EZ U) (V U U (Ak U BV U (H.cellI 0 U U)) (V U U (Dp U CF U) (Ad U (V U U (Cz U U U) (Ah 2 U (Ac (Aa (An (Aq U U ?_)))))))))
        replace H:=H.nil
        exact Al ⟨congrArg Value.bool (decide_eq_decide.2 (by unfold BL;omega)),rfl⟩ H
       refine Ah 7 U (Ac (Aa (An (Aq U U ?_))))
       replace H:=H.nil
       exact Al ⟨congrArg Value.bool (decide_eq_false (by unfold BL;omega)).symm,rfl⟩ H
      refine Ah 12 U (Ad U (Ac (Aa (An (Aq U U ?_)))))
      replace H:=H.nil
      exact Al ⟨congrArg Value.bool (decide_eq_false (by unfold BL;omega)).symm,rfl⟩ H
     refine Ah 12 U (Ah 7 U (Ac (Aa (An (Aq U U ?_)))))
     replace H:=H.nil
     exact Al ⟨congrArg Value.bool (decide_eq_false (by unfold BL;omega)).symm,rfl⟩ H
    refine Ah 12 U (Ah 12 U (Ac (Aa (An (Aq U U ?_)))))
    replace H:=H.nil
    exact Al ⟨congrArg Value.bool (decide_eq_false (by unfold BL;omega)).symm,rfl⟩ H
   refine Av (AU (Aa (Ab (Ae (V U U (Aj U C9 U) (V U U (Ak U AB U (H.cellI 0 U U)) (V U U (CR U U U) (Ad U ?_))))))))
   refine AK (d:=27) U (fun h20=>?_) (fun h20=>?_)
   ·refine V U U (Aj U C9 U) (V U U (Ak U AB U (H.cellI 0 U U)) (V U U (Cz U U U) (Ah 2 U ?_)))
    refine AK (d:=32) U (fun h21=>?_) (fun h21=>?_)
    ·refine V U U (Aj U Dm U) (V U U (Ak U AB U (H.cellI 0 U U)) (Ad U (V U U (CR U U U) (Ah 2 U ?_))))
     refine AK (d:=38) U (fun h22=>?_) (fun h22=>?_)
     ·refine V U U (Aj U Dm U) (V U U (Ak U AB U (H.cellI 0 U U)) (Ad U (V U U (Cz U U U) (Ah 2 U ?_))))
      refine AK (d:=44) U (fun h23=>?_) (fun h23=>?_)
      ·refine V U U (Aj U EZ U) (V U U (Ak U BV U (H.cellI 0 U U)) (V U U (Dp U CF U) (Ad U (V U U (Cz U U U) (Ah 2 U (Ac (Aa (An (Aq U U ?_)))))))))
       replace H:=H.nil
       exact Al ⟨congrArg Value.bool (decide_eq_decide.2 (by unfold BL;omega)),rfl⟩ H
      refine Ah 7 U (Ac (Aa (An (Aq U U ?_))))
      replace H:=H.nil
      exact Al ⟨congrArg Value.bool (decide_eq_false (by unfold BL;omega)).symm,rfl⟩ H
     refine Ah 12 U (Ad U (Ac (Aa (An (Aq U U ?_)))))
     replace H:=H.nil
     exact Al ⟨congrArg Value.bool (decide_eq_false (by unfold BL;omega)).symm,rfl⟩ H
    refine Ah 12 U (Ah 7 U (Ac (Aa (An (Aq U U ?_)))))
    replace H:=H.nil
    exact Al ⟨congrArg Value.bool (decide_eq_false (by unfold BL;omega)).symm,rfl⟩ H
   refine Ah 12 U (Ah 12 U (Ac (Aa (An (Aq U U ?_)))))
   replace H:=H.nil
   exact Al ⟨congrArg Value.bool (decide_eq_false (by unfold BL;omega)).symm,rfl⟩ H
  refine Ae (V U U (Bb U U U) (Ad U (Ac (Aa ?_))))
  refine Ax U (fun h24=>?_) (fun h24=>?_)
  ·refine Ae (Ad U (Ac (AU (Aa (Ab (Ae (V U U (Aj U C9 U) (V U U (Ak U AB U (H.cellI 0 U U)) (V U U (CR U U U) (Ad U ?_))))))))))
   refine AK (d:=27) U (fun h25=>?_) (fun h25=>?_)
   ·refine V U U (Aj U C9 U) (V U U (Ak U AB U (H.cellI 0 U U)) (V U U (Cz U U U) (Ah 2 U ?_)))
    refine AK (d:=32) U (fun h26=>?_) (fun h26=>?_)
    ·refine V U U (Aj U Dm U) (V U U (Ak U AB U (H.cellI 0 U U)) (Ad U (V U U (CR U U U) (Ah 2 U ?_))))
     refine AK (d:=38) U (fun h27=>?_) (fun h27=>?_)
     ·refine V U U (Aj U Dm U) (V U U (Ak U AB U (H.cellI 0 U U)) (Ad U (V U U (Cz U U U) (Ah 2 U ?_))))
      refine AK (d:=44) U (fun h28=>?_) (fun h28=>?_)
      ·refine V U U (Aj U EZ U) (V U U (Ak U BV U (H.cellI 0 U U)) (V U U (Dp U CF U) (Ad U (V U U (Cz U U U) (Ah 2 U (Ac (Aa (An (Aq U U ?_)))))))))
       replace H:=H.nil
       exact Al ⟨congrArg Value.bool (decide_eq_decide.2 (by unfold BL;omega)),rfl⟩ H
      refine Ah 7 U (Ac (Aa (An (Aq U U ?_))))
      replace H:=H.nil
      exact Al ⟨congrArg Value.bool (decide_eq_false (by unfold BL;omega)).symm,rfl⟩ H
     refine Ah 12 U (Ad U (Ac (Aa (An (Aq U U ?_)))))
     replace H:=H.nil
     exact Al ⟨congrArg Value.bool (decide_eq_false (by unfold BL;omega)).symm,rfl⟩ H
    refine Ah 12 U (Ah 7 U (Ac (Aa (An (Aq U U ?_)))))
    replace H:=H.nil
    exact Al ⟨congrArg Value.bool (decide_eq_false (by unfold BL;omega)).symm,rfl⟩ H
   refine Ah 12 U (Ah 12 U (Ac (Aa (An (Aq U U ?_)))))
   replace H:=H.nil
   exact Al ⟨congrArg Value.bool (decide_eq_false (by unfold BL;omega)).symm,rfl⟩ H
  refine Av (AU (Aa (Ab (Ae (V U U (Aj U C9 U) (V U U (Ak U AB U (H.cellI 0 U U)) (V U U (CR U U U) (Ad U ?_))))))))
  refine AK (d:=27) U (fun h29=>?_) (fun h29=>?_)
  ·refine V U U (Aj U C9 U) (V U U (Ak U AB U (H.cellI 0 U U)) (V U U (Cz U U U) (Ah 2 U ?_)))
   refine AK (d:=32) U (fun h30=>?_) (fun h30=>?_)
   ·refine V U U (Aj U Dm U) (V U U (Ak U AB U (H.cellI 0 U U)) (Ad U (V U U (CR U U U) (Ah 2 U ?_))))
    refine AK (d:=38) U (fun h31=>?_) (fun h31=>?_)
    ·refine V U U (Aj U Dm U) (V U U (Ak U AB U (H.cellI 0 U U)) (Ad U (V U U (Cz U U U) (Ah 2 U ?_))))
     refine AK (d:=44) U (fun h32=>?_) (fun h32=>?_)
     ·refine V U U (Aj U EZ U) (V U U (Ak U BV U (H.cellI 0 U U)) (V U U (Dp U CF U) (Ad U (V U U (Cz U U U) (Ah 2 U (Ac (Aa (An (Aq U U ?_)))))))))
      replace H:=H.nil
      exact Al ⟨congrArg Value.bool (decide_eq_decide.2 (by unfold BL;omega)),rfl⟩ H
     refine Ah 7 U (Ac (Aa (An (Aq U U ?_))))
     replace H:=H.nil
     exact Al ⟨congrArg Value.bool (decide_eq_false (by unfold BL;omega)).symm,rfl⟩ H
    refine Ah 12 U (Ad U (Ac (Aa (An (Aq U U ?_)))))
    replace H:=H.nil
    exact Al ⟨congrArg Value.bool (decide_eq_false (by unfold BL;omega)).symm,rfl⟩ H
   refine Ah 12 U (Ah 7 U (Ac (Aa (An (Aq U U ?_)))))
   replace H:=H.nil
   exact Al ⟨congrArg Value.bool (decide_eq_false (by unfold BL;omega)).symm,rfl⟩ H
  refine Ah 12 U (Ah 12 U (Ac (Aa (An (Aq U U ?_)))))
  replace H:=H.nil
  exact Al ⟨congrArg Value.bool (decide_eq_false (by unfold BL;omega)).symm,rfl⟩ H
 refine Ae (V U U (Bb U U U) (Ad U (Ac (Aa ?_))))
 refine Ax U (fun h33=>?_) (fun h33=>?_)
 ·refine Ae (Ah 2 U (Ac (AU (Aa (Ab (Ae (V U U (Aj U C9 U) (V U U (Ak U AB U (H.cellI 0 U U)) (V U U (CR U U U) (Ad U ?_))))))))))
  refine AK (d:=27) U (fun h34=>?_) (fun h34=>?_)
  ·refine V U U (Aj U C9 U) (V U U (Ak U AB U (H.cellI 0 U U)) (V U U (Cz U U U) (Ah 2 U ?_)))
   refine AK (d:=32) U (fun h35=>?_) (fun h35=>?_)
   ·refine V U U (Aj U Dm U) (V U U (Ak U AB U (H.cellI 0 U U)) (Ad U (V U U (CR U U U) (Ah 2 U ?_))))
    refine AK (d:=38) U (fun h36=>?_) (fun h36=>?_)
    ·refine V U U (Aj U Dm U) (V U U (Ak U AB U (H.cellI 0 U U)) (Ad U (V U U (Cz U U U) (Ah 2 U ?_))))
     refine AK (d:=44) U (fun h37=>?_) (fun h37=>?_)
     ·refine V U U (Aj U EZ U) (V U U (Ak U BV U (H.cellI 0 U U)) (V U U (Dp U CF U) (Ad U (V U U (Cz U U U) (Ah 2 U (Ac (Aa (An (Aq U U ?_)))))))))
      replace H:=H.nil
      exact Al ⟨congrArg Value.bool (decide_eq_decide.2 (by unfold BL;omega)),rfl⟩ H
     refine Ah 7 U (Ac (Aa (An (Aq U U ?_))))
     replace H:=H.nil
     exact Al ⟨congrArg Value.bool (decide_eq_false (by unfold BL;omega)).symm,rfl⟩ H
    refine Ah 12 U (Ad U (Ac (Aa (An (Aq U U ?_)))))
    replace H:=H.nil
    exact Al ⟨congrArg Value.bool (decide_eq_false (by unfold BL;omega)).symm,rfl⟩ H
   refine Ah 12 U (Ah 7 U (Ac (Aa (An (Aq U U ?_)))))
   replace H:=H.nil
   exact Al ⟨congrArg Value.bool (decide_eq_false (by unfold BL;omega)).symm,rfl⟩ H
  refine Ah 12 U (Ah 12 U (Ac (Aa (An (Aq U U ?_)))))
  replace H:=H.nil
  exact Al ⟨congrArg Value.bool (decide_eq_false (by unfold BL;omega)).symm,rfl⟩ H
 refine Ab (Ab (Ae (V U U (Bb U U U) (Ad U (Ac (Aa ?_))))))
 refine Ax U (fun h38=>?_) (fun h38=>?_)
 ·refine Av (Aa ?_)
  refine Ax U (fun h39=>?_) (fun h39=>?_)
  ·refine Ae (Ad U (Ac (AU (Aa (Ab (Ae (V U U (Aj U C9 U) (V U U (Ak U AB U (H.cellI 0 U U)) (V U U (CR U U U) (Ad U ?_))))))))))
   refine AK (d:=27) U (fun h40=>?_) (fun h40=>?_)
   ·refine V U U (Aj U C9 U) (V U U (Ak U AB U (H.cellI 0 U U)) (V U U (Cz U U U) (Ah 2 U ?_)))
    refine AK (d:=32) U (fun h41=>?_) (fun h41=>?_)
    ·refine V U U (Aj U Dm U) (V U U (Ak U AB U (H.cellI 0 U U)) (Ad U (V U U (CR U U U) (Ah 2 U ?_))))
     refine AK (d:=38) U (fun h42=>?_) (fun h42=>?_)
     ·refine V U U (Aj U Dm U) (V U U (Ak U AB U (H.cellI 0 U U)) (Ad U (V U U (Cz U U U) (Ah 2 U ?_))))
      refine AK (d:=44) U (fun h43=>?_) (fun h43=>?_)
      ·refine V U U (Aj U EZ U) (V U U (Ak U BV U (H.cellI 0 U U)) (V U U (Dp U CF U) (Ad U (V U U (Cz U U U) (Ah 2 U (Ac (Aa (An (Aq U U ?_)))))))))
       replace H:=H.nil
       exact Al ⟨congrArg Value.bool (decide_eq_decide.2 (by unfold BL;omega)),rfl⟩ H
      refine Ah 7 U (Ac (Aa (An (Aq U U ?_))))
      replace H:=H.nil
      exact Al ⟨congrArg Value.bool (decide_eq_false (by unfold BL;omega)).symm,rfl⟩ H
     refine Ah 12 U (Ad U (Ac (Aa (An (Aq U U ?_)))))
     replace H:=H.nil
     exact Al ⟨congrArg Value.bool (decide_eq_false (by unfold BL;omega)).symm,rfl⟩ H
    refine Ah 12 U (Ah 7 U (Ac (Aa (An (Aq U U ?_)))))
    replace H:=H.nil
    exact Al ⟨congrArg Value.bool (decide_eq_false (by unfold BL;omega)).symm,rfl⟩ H
   refine Ah 12 U (Ah 12 U (Ac (Aa (An (Aq U U ?_)))))
   replace H:=H.nil
   exact Al ⟨congrArg Value.bool (decide_eq_false (by unfold BL;omega)).symm,rfl⟩ H
  refine Av (AU (Aa (Ab (Ae (V U U (Aj U C9 U) (V U U (Ak U AB U (H.cellI 0 U U)) (V U U (CR U U U) (Ad U ?_))))))))
  refine AK (d:=27) U (fun h44=>?_) (fun h44=>?_)
  ·refine V U U (Aj U C9 U) (V U U (Ak U AB U (H.cellI 0 U U)) (V U U (Cz U U U) (Ah 2 U ?_)))
   refine AK (d:=32) U (fun h45=>?_) (fun h45=>?_)
   ·refine V U U (Aj U Dm U) (V U U (Ak U AB U (H.cellI 0 U U)) (Ad U (V U U (CR U U U) (Ah 2 U ?_))))
    refine AK (d:=38) U (fun h46=>?_) (fun h46=>?_)
    ·refine V U U (Aj U Dm U) (V U U (Ak U AB U (H.cellI 0 U U)) (Ad U (V U U (Cz U U U) (Ah 2 U ?_))))
     refine AK (d:=44) U (fun h47=>?_) (fun h47=>?_)
     ·refine V U U (Aj U EZ U) (V U U (Ak U BV U (H.cellI 0 U U)) (V U U (Dp U CF U) (Ad U (V U U (Cz U U U) (Ah 2 U (Ac (Aa (An (Aq U U ?_)))))))))
      replace H:=H.nil
      exact Al ⟨congrArg Value.bool (decide_eq_decide.2 (by unfold BL;omega)),rfl⟩ H
     refine Ah 7 U (Ac (Aa (An (Aq U U ?_))))
     replace H:=H.nil
     exact Al ⟨congrArg Value.bool (decide_eq_false (by unfold BL;omega)).symm,rfl⟩ H
    refine Ah 12 U (Ad U (Ac (Aa (An (Aq U U ?_)))))
    replace H:=H.nil
    exact Al ⟨congrArg Value.bool (decide_eq_false (by unfold BL;omega)).symm,rfl⟩ H
   refine Ah 12 U (Ah 7 U (Ac (Aa (An (Aq U U ?_)))))
   replace H:=H.nil
   exact Al ⟨congrArg Value.bool (decide_eq_false (by unfold BL;omega)).symm,rfl⟩ H
  refine Ah 12 U (Ah 12 U (Ac (Aa (An (Aq U U ?_)))))
  replace H:=H.nil
  exact Al ⟨congrArg Value.bool (decide_eq_false (by unfold BL;omega)).symm,rfl⟩ H
 refine Ae (V U U (Bb U U U) (Ad U (Ac (Aa ?_))))
 refine Ax U (fun h48=>?_) (fun h48=>?_)
 ·refine Ae (Ad U (Ac (AU (Aa (Ab (Ae (V U U (Aj U C9 U) (V U U (Ak U AB U (H.cellI 0 U U)) (V U U (CR U U U) (Ad U ?_))))))))))
  refine AK (d:=27) U (fun h49=>?_) (fun h49=>?_)
  ·refine V U U (Aj U C9 U) (V U U (Ak U AB U (H.cellI 0 U U)) (V U U (Cz U U U) (Ah 2 U ?_)))
   refine AK (d:=32) U (fun h50=>?_) (fun h50=>?_)
   ·refine V U U (Aj U Dm U) (V U U (Ak U AB U (H.cellI 0 U U)) (Ad U (V U U (CR U U U) (Ah 2 U ?_))))
    refine AK (d:=38) U (fun h51=>?_) (fun h51=>?_)
    ·refine V U U (Aj U Dm U) (V U U (Ak U AB U (H.cellI 0 U U)) (Ad U (V U U (Cz U U U) (Ah 2 U ?_))))
     refine AK (d:=44) U (fun h52=>?_) (fun h52=>?_)
     ·refine V U U (Aj U EZ U) (V U U (Ak U BV U (H.cellI 0 U U)) (V U U (Dp U CF U) (Ad U (V U U (Cz U U U) (Ah 2 U (Ac (Aa (An (Aq U U ?_)))))))))
      replace H:=H.nil
      exact Al ⟨congrArg Value.bool (decide_eq_decide.2 (by unfold BL;omega)),rfl⟩ H
     refine Ah 7 U (Ac (Aa (An (Aq U U ?_))))
     replace H:=H.nil
     exact Al ⟨congrArg Value.bool (decide_eq_false (by unfold BL;omega)).symm,rfl⟩ H
    refine Ah 12 U (Ad U (Ac (Aa (An (Aq U U ?_)))))
    replace H:=H.nil
    exact Al ⟨congrArg Value.bool (decide_eq_false (by unfold BL;omega)).symm,rfl⟩ H
   refine Ah 12 U (Ah 7 U (Ac (Aa (An (Aq U U ?_)))))
   replace H:=H.nil
   exact Al ⟨congrArg Value.bool (decide_eq_false (by unfold BL;omega)).symm,rfl⟩ H
  refine Ah 12 U (Ah 12 U (Ac (Aa (An (Aq U U ?_)))))
  replace H:=H.nil
  exact Al ⟨congrArg Value.bool (decide_eq_false (by unfold BL;omega)).symm,rfl⟩ H
 refine Av (AU (Aa (Ab (Ae (V U U (Aj U C9 U) (V U U (Ak U AB U (H.cellI 0 U U)) (V U U (CR U U U) (Ad U ?_))))))))
 refine AK (d:=27) U (fun h53=>?_) (fun h53=>?_)
 ·refine V U U (Aj U C9 U) (V U U (Ak U AB U (H.cellI 0 U U)) (V U U (Cz U U U) (Ah 2 U ?_)))
  refine AK (d:=32) U (fun h54=>?_) (fun h54=>?_)
  ·refine V U U (Aj U Dm U) (V U U (Ak U AB U (H.cellI 0 U U)) (Ad U (V U U (CR U U U) (Ah 2 U ?_))))
   refine AK (d:=38) U (fun h55=>?_) (fun h55=>?_)
   ·refine V U U (Aj U Dm U) (V U U (Ak U AB U (H.cellI 0 U U)) (Ad U (V U U (Cz U U U) (Ah 2 U ?_))))
    refine AK (d:=44) U (fun h56=>?_) (fun h56=>?_)
    ·refine V U U (Aj U EZ U) (V U U (Ak U BV U (H.cellI 0 U U)) (V U U (Dp U CF U) (Ad U (V U U (Cz U U U) (Ah 2 U (Ac (Aa (An (Aq U U ?_)))))))))
     replace H:=H.nil
     exact Al ⟨congrArg Value.bool (decide_eq_decide.2 (by unfold BL;omega)),rfl⟩ H
    refine Ah 7 U (Ac (Aa (An (Aq U U ?_))))
    replace H:=H.nil
    exact Al ⟨congrArg Value.bool (decide_eq_false (by unfold BL;omega)).symm,rfl⟩ H
   refine Ah 12 U (Ad U (Ac (Aa (An (Aq U U ?_)))))
   replace H:=H.nil
   exact Al ⟨congrArg Value.bool (decide_eq_false (by unfold BL;omega)).symm,rfl⟩ H
  refine Ah 12 U (Ah 7 U (Ac (Aa (An (Aq U U ?_)))))
  replace H:=H.nil
  exact Al ⟨congrArg Value.bool (decide_eq_false (by unfold BL;omega)).symm,rfl⟩ H
 refine Ah 12 U (Ah 12 U (Ac (Aa (An (Aq U U ?_)))))
 replace H:=H.nil
 exact Al ⟨congrArg Value.bool (decide_eq_false (by unfold BL;omega)).symm,rfl⟩ H
theorem Xy (vxs:Value) (xs:List BG):
    Cn Tryz.prog 195 [vxs] [] [Z Af vxs xs] (fun v Bs=>v=.int .i64 (Dz xs)∧Bs=[]):=by
 intro w0 F0 H
 obtain ⟨A1,c2,rfl,hc3,hm4,hp5⟩:=H.fR 0 rfl
 refine enter Tryz.func195 U U (Nat.le_of_ble_eq_true U) (Ab (Ae (Ad U (Ac (Aa ?_)))))
 replace H:Hd _ _ _ [] [Z Af (.slice A1 xs.length c2) xs]:=H
 refine Ab (Ab (Ae (Ah 2 U (V U U (A8 U FK U) (V U U (Hr (z:=min ((xs.length:Nat):Int) 40) U U U U) (V U U (Ku U G3 U U (by omega) (by omega) U) (V U U (A8 U FK U) (Ad U (Ac (Aa (AS (BQ (σ:=Nat) (fun k=>[(0,.slice A1 xs.length c2),(9,.slice A1 ((min ((xs.length:Nat):Int) 40).toNat) c2),(10,.int .i64 (((min ((xs.length:Nat):Int) 40).toNat:Nat):Int)),(11,.int .i64 ((k:Nat):Int))]) (fun k w=>(Hd w0 F0 w [] [Z Af (.slice A1 xs.length c2) xs])∧(k≤xs.length∧k≤40)∧(∀ y∈xs.take k,Ew xs.length y=false)) (fun k=>xs.length - k) 0 ⟨rfl,rfl,rfl,rfl,trivial⟩ ⟨H,by omega,by simp⟩ ?_))))))))))))
 rintro k w ⟨H,hk,hn⟩
 refine Ab (Ae (V U U (Bd U U U) (Ac (Aa (Ab ?_)))))
 refine Ax U (fun h6=>?_) (fun h6=>?_)
 ·refine Av (Aa (Ab (AS (Ab (Ae (Ad U ?_))))))
  obtain ⟨x7,hx8⟩:∃ z9,xs[k]?=some z9:=⟨_,List.getElem?_eq_getElem (show k<xs.length by omega)⟩
  have th9:=H.thR 0 rfl hx8
  refine V U U (AZ (p:=AP A1+k*3) U G3 U U (by omega) (by omega) th9 U) (V U U (Bq (cs:=[.int .i64 x7.op,.int .i64 x7.a,.string x7.s]) U Iv U U (H.elsR 0 U hx8 U)) (Dg U U U K7 H (fun b10 w H=>(Ad U (BE U U U Iv U U H U (Nat.le_of_ble_eq_true U) (fun u hu=>by simp [Value.cells] at hu;rcases hu with rfl|rfl|rfl<;>rfl) (fun w H=>?_))))))
  replace H:=H.h1 (A:=blk b10 [.int .i64 x7.op,.int .i64 x7.a,.string x7.s] 223)
  refine Ac (Aa (Ab (Ae (V U U (Bq (cs:=[.int .i64 x7.op,.int .i64 x7.a,.string x7.s]) U Iv U U (H.cellsI 0 U U)) (Ad U (V U U (A8 U FK U) (sc (XC x7 ((xs.length:Nat):Int)) H l0 U U (At Vd U U) ?_)))))))
  rintro _ _ w ⟨rfl,rfl⟩ H
  refine V U U (D_ U U) (Ac (Aa ?_))
  refine Ax U (fun h11=>?_) (fun h11=>?_)
  ·refine Ab (Ae (Ah 2 U (Ac (Aa (An (A0 (Az (Az (A0 (Az (Aq U U ?_)))))))))))
   replace H:=H.nil
   exact Al ⟨by rw [R8 (by omega) hn hx8 (by simpa using h11)]<;>rfl,rfl⟩ H
  refine Av (AU (Aa (Ae (V U U (AT (z:=((k+1:Nat):Int)) U U U (by rw [AC (by omega) (by omega)];omega)) (Ad U (Ac ?_))))))
  replace H:=H.nil
  exact Bi (s:=k) (k+1) ⟨rfl,rfl,rfl,rfl,trivial⟩ ⟨H,by omega,R9 hn hx8 (by simpa using h11)⟩ (by (try dsimp only);omega)
 refine BC (AM (AM (BD (Aa (Ab (Ab (Ae (Ad U (V U U (A8 U FK U) (V U U (Cp U U U) (Ac (Aa ?_))))))))))))
 refine Ax U (fun h12=>?_) (fun h12=>?_)
 ·exact Ab (Ae (Ad U (Ac (Aa (An (Az (Aq U U (Al ⟨by rw [NI (k:=k) (by omega) hn,if_pos (by omega)]<;>rfl,rfl⟩ H))))))))
 exact Av (Aa (Ab (Ae (Ad U (Ac (Aa (An (Aq U U (Al ⟨by rw [NI (k:=k) (by omega) hn,if_neg (by omega)]<;>rfl,rfl⟩ H)))))))))
theorem Ms (vxs:Value) (xs:List BG):
    Cn Tryz.prog 154 [vxs] [] [Z Af vxs xs] (fun v Bs=>v=.bool (decide (Dz xs<0))∧Bs=[]):=by
 intro w0 F0 H
 obtain ⟨A1,c2,rfl,hc3,hm4,hp5⟩:=H.fR 0 rfl
 refine enter Tryz.func154 U U (Nat.le_of_ble_eq_true U) (Ab (Ae (Ad U (Ac (Aa ?_)))))
 replace H:Hd _ _ _ [] [Z Af (.slice A1 xs.length c2) xs]:=H
 refine Ab (Ae (Ad U (sc (Xy (.slice A1 xs.length c2) xs) H (lR 0 U l0) U U (At U6 U U) ?_)))
 rintro _ _ w ⟨rfl,rfl⟩ H
 exact V U U (Bd U U U) (Ad U (Ac (Aa (An (Aq U U (Al ⟨rfl,rfl⟩ H))))))
theorem Qr (vp:Value) (p:List BG) (key:ByteArray) (vv:Value) (vals:List ByteArray) (fuel:Int) (hpa:∀ i∈p,AA i.a) (hfu:AA fuel):
    Cn Tryz.prog 207 [vp,.string key,vv,.int .i64 fuel] [] [Z Af vp p,Z Bk vv vals,gl] (fun v Bs=>((¬ Dz p<0∨fuel<0)∧v=.tuple #[.pointer none,.int .i64 2]∧Bs=[])∨(¬ (¬ Dz p<0∨fuel<0)∧∃ r mb sv tv vv2 k,v=.tuple #[.pointer (some ⟨r,0,none⟩),.int .i64 (CO dg p key (min fuel 2000).toNat (Dy vals)).2]∧Bs=[blk r (Bc vp key vv2 (min fuel 2000) (CO dg p key (min fuel 2000).toNat (Dy vals)).1.pos k (CO dg p key (min fuel 2000).toNat (Dy vals)).1.halted sv (CO dg p key (min fuel 2000).toNat (Dy vals)).1.g tv (.map (some mb))) 288,Y AX sv (CO dg p key (min fuel 2000).toNat (Dy vals)).1.stk,Y Ag tv (CO dg p key (min fuel 2000).toNat (Dy vals)).1.told,BS mb])):=by
 intro w0 F0 H
 unfold AA at hfu
 have hnum:=Ie
 obtain ⟨A1,c2,rfl,hc3,hm4,hp5⟩:=H.fR 0 rfl
 obtain ⟨A6,c7,rfl,hc8,hm9,hp10⟩:=H.fR 1 rfl
 refine enter Tryz.func207 U U (Nat.le_of_ble_eq_true U) (Ab (Ae (Ah 2 U (Ac (Aa ?_)))))
 replace H:Hd _ _ _ [] [Z Af (.slice A1 p.length c2) p,Z Bk (.slice A6 vals.length c7) vals,gl]:=H
 refine Ab (Ab (Ae (Ad U (sc (Ms (.slice A1 p.length c2) p) H (lR 0 U l0) U U (At LW U U) ?_))))
 rintro _ _ w ⟨rfl,rfl⟩ H
 refine V U U (D_ U U) (Ad U ?_)
 refine AK (d:=16) U (fun h11=>?_) (fun h11=>?_)
 ·refine Ah 3 U (Ac (Aa (Cw U (Ab (Ae (Ah 2 U (Ac (Aa (An (Az (Cl U U U ?_)))))))))))
  replace H:Hd _ _ _ [] [Z Af (.slice A1 p.length c2) p,Z Bk (.slice A6 vals.length c7) vals,gl]:=H
  exact Al (.inl ⟨.inl h11,rfl,rfl⟩) H
 refine Ad U (V U U (Bd U U U) (Ad U (Ac (Aa ?_))))
 refine Ax U (fun h12=>?_) (fun h12=>?_)
 ·refine Ab (Ae (Ah 2 U (Ac (Aa (An (Az (Cl U U U ?_)))))))
  replace H:Hd _ _ _ [] [Z Af (.slice A1 p.length c2) p,Z Bk (.slice A6 vals.length c7) vals,gl]:=H
  exact Al (.inl ⟨.inr h12,rfl,rfl⟩) H
 refine Av (Aa (Ab ?_))
 have hbad:=h11
 have hgood:=Wl (Classical.not_not.1 hbad)
 refine Ae (Ah 4 U (V U U (Hr (z:=min fuel 2000) U U U U) (YY U U U H (fun b13 w H=>(V U U (Co (parts:=[(0,.tmp 20),(1,.tmp 21),(2,.tmp 22),(3,.tmp 24),(10,.tmp 25)]) (vs:=[.slice A1 p.length c2,.string key,.slice A6 vals.length c7,.int .i64 (min fuel 2000),.map (some b13)]) (cs:=[.slice A1 p.length c2,.string key,.slice A6 vals.length c7,.int .i64 (min fuel 2000),.int .i64 0,.int .i64 0,.bool false,.slice none 0 0,.bool false,.int .i64 0,.string ⟨#[]⟩,.bool false,.int .i64 0,.string ⟨#[]⟩,.bool false,.int .i64 0,.string ⟨#[]⟩,.bool false,.int .i64 0,.string ⟨#[]⟩,.bool false,.int .i64 0,.string ⟨#[]⟩,.bool false,.int .i64 0,.string ⟨#[]⟩,.bool false,.int .i64 0,.string ⟨#[]⟩,.bool false,.int .i64 0,.string ⟨#[]⟩,.slice none 0 0,.map (some b13)]) U Sh U U) (CA U U U U H (fun b14 w H=>?_)))))))
 refine Ad U (Ac (Aa ?_))
 replace H:Hd _ _ _ [blk b14 [.slice A1 p.length c2,.string key,.slice A6 vals.length c7,.int .i64 (min fuel 2000),.int .i64 0,.int .i64 0,.bool false,.slice none 0 0,.bool false,.int .i64 0,.string ⟨#[]⟩,.bool false,.int .i64 0,.string ⟨#[]⟩,.bool false,.int .i64 0,.string ⟨#[]⟩,.bool false,.int .i64 0,.string ⟨#[]⟩,.bool false,.int .i64 0,.string ⟨#[]⟩,.bool false,.int .i64 0,.string ⟨#[]⟩,.bool false,.int .i64 0,.string ⟨#[]⟩,.bool false,.int .i64 0,.string ⟨#[]⟩,.slice none 0 0,.map (some b13)] 288,D8 b13 []] [Z Af (.slice A1 p.length c2) p,Z Bk (.slice A6 vals.length c7) vals,gl]:=H
 refine Ab (AS ?_)
 replace H:=Ta (t:=234) H
 replace H:=(H.newnil Ag).newnil AX
 replace H:Hd w0 F0 w [blk b14 (Bc (.slice A1 p.length c2) key (.slice A6 vals.length c7) (min fuel 2000) 0 0 false (.slice none 0 0) (fun _=>CM) (.slice none 0 0) (.map (some b13))) 288,Y AX (.slice none 0 0) [],Y Ag (.slice none 0 0) [],BS b13] [Z Af (.slice A1 p.length c2) p,Z Bk (.slice A6 vals.length c7) vals,gl]:=Zr H
 replace H:=H.dupR 1 rfl
 refine BQ (σ:=Nat×VM×Value×Value×Value) (fun (k,m,sv,tv,vv2)=>[(0,.slice A1 p.length c2),(10,.pointer (some ⟨b14,0,none⟩))]) (fun (k,m,sv,tv,vv2) w=>(Hd w0 F0 w [blk b14 (Bc (.slice A1 p.length c2) key vv2 (min fuel 2000) m.pos ((k:Nat):Int) m.halted sv m.g tv (.map (some b13))) 288,Y AX sv m.stk,Y Ag tv m.told,BS b13] [Z Bk vv2 m.vals,Z Af (.slice A1 p.length c2) p,Z Bk (.slice A6 vals.length c7) vals,gl])∧((k:Int)≤min fuel 2000)∧(Eu p.length m)∧(CO dg p key ((min fuel 2000).toNat - k) m=CO dg p key (min fuel 2000).toNat (Dy vals))) (fun (k,m,sv,tv,vv2)=>(min fuel 2000).toNat - k) (0,Dy vals,.slice none 0 0,.slice none 0 0,.slice A6 vals.length c7) ⟨rfl,rfl,trivial⟩ ⟨H,by (try dsimp only);omega,Uw _ _,rfl⟩ ?_
 rintro ⟨k,m,sv,tv,vv2⟩ w ⟨H,hk,hinv,hpl⟩
 have hps:=hinv.pos
 refine Ab (Ab (Ae (Ad U (V U U (AH U U) (V U U (Aj U HV U) (V U U (Ak U AB U (H.cellI 0 U U)) (Ad U (V U U (A8 U FK U) (V U U (Bd U U U) (Ad U ?_))))))))))
 refine AK (d:=35) U (fun h15=>?_) (fun h15=>?_)
 ·refine Ad U (V U U (AH U U) (V U U (Aj U OC U) (V U U (Ak U EU U (H.cellI 0 U U)) (V U U (FW U U U) (Ad U (Ac (Aa ?_)))))))
  refine DN (b:=!m.halted) U (fun h16=>?_) (fun h16=>?_)
  ·refine Av (Aa (AS (Ab (Ab ?_))))
   have hrun:m.pos<(p.length:Int)∧m.halted=false:=⟨h15,by simpa using h16⟩
   refine Gp mo (by kernel_rfl) H (Ei U (By U U (fun w H=>AH U U) (By U U (fun w H=>Aj U LH U) (By U U (fun w H=>Ak U AB U (H.cellI 0 U U)) (Ei U (By U U (fun w H=>AH U U) (By U U (fun w H=>Aj U TR U) (By U U (fun w H=>Ak U AB U (H.cellI 0 U U)) (By U U (fun w H=>CR U U U) (GF (fun w H=>(Aa ?_))))))))))))
   refine Ax U (fun h17=>?_) (fun h17=>?_)
   ·refine Ab (Ae (Ah 3 U (Ac (Aa (An (Az (A0 (Az (A0 (Az (Cl U U U ?_)))))))))))
    have e:CO dg p key (min fuel 2000).toNat (Dy vals)=(m,3):=by rw [←hpl,show (min fuel 2000).toNat - k=0 by omega];exact XB hrun
    replace H:=H.dropR
    replace H:Hd _ _ _ [blk b14 (Bc (.slice A1 p.length c2) key vv2 (min fuel 2000) m.pos ((k:Nat):Int) m.halted sv m.g tv (.map (some b13))) 288,Y AX sv m.stk,Y Ag tv m.told,BS b13] [Z Af (.slice A1 p.length c2) p,Z Bk (.slice A6 vals.length c7) vals,gl]:=H
    exact Al (.inr ⟨fun h=>h.elim hbad (fun h=>absurd h (by omega)),b14,b13,sv,tv,vv2,((k:Nat):Int),by rw [e]<;>rfl,by rw [e]<;>rfl⟩) H
   refine Av (Aa (Ab (Ae (Ad U (V U U (AH U U) (V U U (Aj U LH U) (V U U (Ak U AB U (H.cellI 0 U U)) (V U U (AT (z:=((k+1:Nat):Int)) U U U (by rw [AC (by omega) (by omega)];omega)) (V U U (AH U U) (V U U (Aj U LH U) (BE U U U AB U U H U (Nat.le_of_ble_eq_true U) (fun u hu=>by simp [Value.cells] at hu;subst hu;rfl) (fun w H=>?_))))))))))))
   replace H:Hd _ _ _ [blk b14 (Bc (.slice A1 p.length c2) key vv2 (min fuel 2000) m.pos ((k+1:Nat):Int) m.halted sv m.g tv (.map (some b13))) 288,Y AX sv m.stk,Y Ag tv m.told,BS b13] [Z Bk vv2 m.vals,Z Af (.slice A1 p.length c2) p,Z Bk (.slice A6 vals.length c7) vals,gl]:=H
   refine Ac (Aa (Ab (Ae (Ah 2 U (V U U (AH U U) (V U U (Aj U HV U) (V U U (Ak U AB U (H.cellI 0 U U)) ?_)))))))
   obtain ⟨x18,hx19⟩:∃ z9,p[(m.pos).toNat]?=some z9:=⟨_,List.getElem?_eq_getElem (show (m.pos).toNat<p.length by omega)⟩
   have th20:=H.thR 1 rfl hx19
   refine V U U (AZ (p:=AP A1+((m.pos).toNat)*3) U G3 U U (by omega) (by omega) th20 (by omega)) (V U U (Bq (cs:=[.int .i64 x18.op,.int .i64 x18.a,.string x18.s]) U Iv U U (H.elsR 1 U hx19 U)) (Dg U U U K7 H (fun b21 w H=>(BE U U U Iv U U H U (Nat.le_of_ble_eq_true U) (fun u hu=>by simp [Value.cells] at hu;rcases hu with rfl|rfl|rfl<;>rfl) (fun w H=>?_)))))
   replace H:=H.h1 (A:=blk b21 [.int .i64 x18.op,.int .i64 x18.a,.string x18.s] 223)
   refine Ac (Aa (Ab (Ae (Ad U (V U U (AH U U) (V U U (Aj U HV U) (V U U (Ak U AB U (H.cellI 1 U U)) (V U U (AT (z:=m.pos+1) U U U (AC (by omega) (by omega))) (V U U (AH U U) (V U U (Aj U HV U) ?_))))))))))
   replace H:=H.p1
   refine BE U U U AB U U H U (Nat.le_of_ble_eq_true U) (fun u hu=>by simp [Value.cells] at hu;subst hu;rfl) (fun w H=>?_)
   replace H:=H.h1 (A:=blk b14 (Bc (.slice A1 p.length c2) key vv2 (min fuel 2000) (m.pos+1) ((k+1:Nat):Int) m.halted sv m.g tv (.map (some b13))) 288)
   refine Ac (Aa (Ab (Ae (Ad U (V U U (Bq (cs:=[.int .i64 x18.op,.int .i64 x18.a,.string x18.s]) U Iv U U (H.cellsI 1 U U)) ?_)))))
   replace H:=H.p4.p4.p4.p3
   refine sc (Tg b14 (.slice A1 p.length c2) key vv2 (min fuel 2000) (m.pos+1) ((k+1:Nat):Int) m.halted sv m.g tv b13 m.stk m.told m.vals x18 p.length hinv.len hinv.told hinv.ok (hgood _ (Ce hx19))) H (lR 0 U (lR 3 U l0)) U U (At Vf U U) ?_
   rintro _ _ w ⟨s22,t23,vv24,rfl,hsuf25,rfl⟩ H
   replace H:=H.h3 (A:=blk b14 (Bc (.slice A1 p.length c2) key vv24 (min fuel 2000) ((BK dg key {m with pos:=m.pos+1} x18).1.pos) ((k+1:Nat):Int) ((BK dg key {m with pos:=m.pos+1} x18).1.halted) s22 ((BK dg key {m with pos:=m.pos+1} x18).1.g) t23 (.map (some b13))) 288) (B:=Y AX s22 ((BK dg key {m with pos:=m.pos+1} x18).1.stk)) (C:=Y Ag t23 ((BK dg key {m with pos:=m.pos+1} x18).1.told))
   refine Ad U (Ac (Aa (Ab (Ae (Ad U (V U U (CX U U U) (Ac (Aa ?_))))))))
   refine Ax U (fun h26=>?_) (fun h26=>?_)
   ·refine Ab (Ae (Ah 4 U (Ac (Aa (An (A0 (Az (A0 (Az (Cl U U U ?_))))))))))
    replace H:=H.k4
    have e:CO dg p key (min fuel 2000).toNat (Dy vals)=BK dg key {m with pos:=m.pos+1} x18:=by rw [←hpl,show (min fuel 2000).toNat - k=((min fuel 2000).toNat - (k+1))+1 by omega];exact Qp hrun hx19 h26
    replace H:=H.dropR
    replace H:Hd _ _ _ [blk b14 (Bc (.slice A1 p.length c2) key vv24 (min fuel 2000) ((BK dg key {m with pos:=m.pos+1} x18).1.pos) ((k+1:Nat):Int) ((BK dg key {m with pos:=m.pos+1} x18).1.halted) s22 ((BK dg key {m with pos:=m.pos+1} x18).1.g) t23 (.map (some b13))) 288,Y AX s22 ((BK dg key {m with pos:=m.pos+1} x18).1.stk),Y Ag t23 ((BK dg key {m with pos:=m.pos+1} x18).1.told),BS b13] [Z Af (.slice A1 p.length c2) p,Z Bk (.slice A6 vals.length c7) vals,gl]:=H
    exact Al (.inr ⟨fun h=>h.elim hbad (fun h=>absurd h (by omega)),b14,b13,s22,t23,vv24,((k+1:Nat):Int),by rw [e]<;>rfl,by rw [e]<;>rfl⟩) H
   refine Av (AU ?_)
   replace H:=H.k4.addR (fun G h=>hsuf25 _ _ (h _ (List.mem_of_getElem? (i:=0) rfl)))
   replace H:Hd w0 F0 w [blk b14 (Bc (.slice A1 p.length c2) key vv24 (min fuel 2000) ((BK dg key {m with pos:=m.pos+1} x18).1.pos) ((k+1:Nat):Int) ((BK dg key {m with pos:=m.pos+1} x18).1.halted) s22 ((BK dg key {m with pos:=m.pos+1} x18).1.g) t23 (.map (some b13))) 288,Y AX s22 ((BK dg key {m with pos:=m.pos+1} x18).1.stk),Y Ag t23 ((BK dg key {m with pos:=m.pos+1} x18).1.told),BS b13] [Z Bk vv24 ((BK dg key {m with pos:=m.pos+1} x18).1.vals),Z Af (.slice A1 p.length c2) p,Z Bk (.slice A6 vals.length c7) vals,gl]:=H.pickR [0,2,3,4]
   have hj:(min fuel 2000).toNat - k=((min fuel 2000).toNat - (k+1))+1:=by omega
   have hpl2:CO dg p key ((min fuel 2000).toNat - (k+1)) (BK dg key {m with pos:=m.pos+1} x18).1=CO dg p key (min fuel 2000).toNat (Dy vals):=by rw [←hpl,hj];exact (Qq (m:=m) hrun hx19 h26).symm
   have hinv2:Eu p.length (BK dg key {m with pos:=m.pos+1} x18).1:=O_ hnum (Uy hinv hrun.1) (hgood _ (Ce hx19)) (hpa _ (Ce hx19)) (Classical.not_not.1 h26)
   exact Bi (s:=(k,m,undef,undef,undef)) (k+1,(BK dg key {m with pos:=m.pos+1} x18).1,s22,t23,vv24) ⟨rfl,rfl,trivial⟩ ⟨H,by (try dsimp only);omega,hinv2,hpl2⟩ (by (try dsimp only);omega)
  refine BC (AM (AM (BD (Aa (Ab (Ae (Ah 3 U (Ac (Aa (An (Cl U U U ?_)))))))))))
  have e:CO dg p key (min fuel 2000).toNat (Dy vals)=(m,0):=by rw [←hpl];exact Mx _ (fun h=>by have h2:=h.2;rw [h2] at h16;simp at h16)
  replace H:=H.dropR
  replace H:Hd _ _ _ [blk b14 (Bc (.slice A1 p.length c2) key vv2 (min fuel 2000) m.pos ((k:Nat):Int) m.halted sv m.g tv (.map (some b13))) 288,Y AX sv m.stk,Y Ag tv m.told,BS b13] [Z Af (.slice A1 p.length c2) p,Z Bk (.slice A6 vals.length c7) vals,gl]:=H
  exact Al (.inr ⟨fun h=>h.elim hbad (fun h=>absurd h (by omega)),b14,b13,sv,tv,vv2,((k:Nat):Int),by rw [e]<;>rfl,by rw [e]<;>rfl⟩) H
 refine Ah 6 U (Ac (Aa (B7 U (BC (AM (AM (BD (Aa (Ab (Ae (Ah 3 U (Ac (Aa (An (Cl U U U ?_)))))))))))))))
 have e:CO dg p key (min fuel 2000).toNat (Dy vals)=(m,0):=by rw [←hpl];exact Mx _ (fun h=>absurd h.1 h15)
 replace H:=H.dropR
 replace H:Hd _ _ _ [blk b14 (Bc (.slice A1 p.length c2) key vv2 (min fuel 2000) m.pos ((k:Nat):Int) m.halted sv m.g tv (.map (some b13))) 288,Y AX sv m.stk,Y Ag tv m.told,BS b13] [Z Af (.slice A1 p.length c2) p,Z Bk (.slice A6 vals.length c7) vals,gl]:=H
 exact Al (.inr ⟨fun h=>h.elim hbad (fun h=>absurd h (by omega)),b14,b13,sv,tv,vv2,((k:Nat):Int),by rw [e]<;>rfl,by rw [e]<;>rfl⟩) H
theorem RL (vp:Value) (p:List BG) (key:ByteArray) (vv:Value) (vals:List ByteArray) (fuel:Int) (hpa:∀ i∈p,AA i.a) (hfu:AA fuel):
    Cn Tryz.prog 175 [vp,.string key,vv,.int .i64 fuel] [] [Z Af vp p,Z Bk vv vals,gl] (fun v Bs=>∃ u,v=.tuple #[u,.int .i64 (Bv dg p key vals fuel).2]∧Bs=[Y Ag u (Bv dg p key vals fuel).1]):=by
 intro w0 F0 H
 refine enter Tryz.func175 U U (Nat.le_of_ble_eq_true U) (Ab (Ae (Ah 2 U (Ac (Aa (Ab ?_))))))
 by_cases hb:¬ Dz p<0∨fuel<0
 ·refine Ae (Ah 4 U (sc (Qr vp p key vv vals fuel hpa hfu) H (lR 0 U (lR 1 U (lR 2 U l0))) U U (At Pp U U) ?_))
  rintro _ _ w ht H
  obtain ⟨_,rfl,rfl⟩:=ht.resolve_right (fun h=>h.1 hb)
  refine Ah 5 U (Ac (Aa ?_))
  replace H:Hd _ _ _ [] [Z Af vp p,Z Bk vv vals,gl]:=H
  refine Ab (Ab (Ae (Ad U (V U U (CX U U U) (Ac (Aa (Cw U (Ab (Ae (Ah 3 U (Ac (Aa (An (Az (Cl U U U ?_)))))))))))))))
  have e:Bv dg p key vals fuel=([],2):=if_pos hb
  replace H:=H.newnil Ag
  exact Al ⟨_,by rw [e]<;>rfl,by rw [e]<;>rfl⟩ H
 refine Ae (Ah 4 U (sc (Qr vp p key vv vals fuel hpa hfu) H (lR 0 U (lR 1 U (lR 2 U l0))) U U (At Pp U U) ?_))
 rintro _ _ w ht H
 obtain ⟨_,r,mb,sv,tv,vv2,k,rfl,rfl⟩:=ht.resolve_left (fun h=>hb h.1)
 refine Ah 5 U (Ac (Aa ?_))
 replace H:Hd _ _ _ [blk r (Bc vp key vv2 (min fuel 2000) ((CO dg p key (min fuel 2000).toNat (Dy vals)).1.pos) k ((CO dg p key (min fuel 2000).toNat (Dy vals)).1.halted) sv ((CO dg p key (min fuel 2000).toNat (Dy vals)).1.g) tv (.map (some mb))) 288,Y AX sv ((CO dg p key (min fuel 2000).toNat (Dy vals)).1.stk),Y Ag tv ((CO dg p key (min fuel 2000).toNat (Dy vals)).1.told),BS mb] [Z Af vp p,Z Bk vv vals,gl]:=H
 refine Ab (Ab (Ae (Ad U (V U U (CX U U U) (Ac (Aa ?_))))))
 refine Ax U (fun h1=>?_) (fun h1=>?_)
 ·refine Ab (Ae (Ah 3 U (Ac (Aa (An (Az (Cl U U U ?_)))))))
  have e:Bv dg p key vals fuel=([],(CO dg p key (min fuel 2000).toNat (Dy vals)).2):=by unfold Bv;rw [if_neg hb,if_pos h1]
  replace H:=H.nil|>.newnil Ag
  exact Al ⟨_,by rw [e]<;>rfl,by rw [e]<;>rfl⟩ H
 refine Av (Aa (Ab (Ae (Ad U (V U U (AH U U) (V U U (Aj U JZ U) (V U U (Ak U ET U (H.cellI 0 U U)) (Ah 2 U (Ac (Aa (An (Cl U U U ?_))))))))))))
 have e:Bv dg p key vals fuel=((CO dg p key (min fuel 2000).toNat (Dy vals)).1.told,0):=by unfold Bv;rw [if_neg hb,if_neg h1]
 replace H:=H.p2.k1
 exact Al ⟨_,by rw [e]<;>rfl,by rw [e]<;>rfl⟩ H
theorem P2 (s:ByteArray):
    Cn Tryz.prog 279 [.string s] [] [] (fun v Bs=>v=.bool false∧Bs=[]):=by
 intro w0 F0 H
 exact enter Tryz.func279 U U (Nat.le_of_ble_eq_true U) (Ab (Ae (Ad U (Ac (Aa (Ab (Ae (Ah 2 U (V U U (MD U U U) (Ad U (Ac (Aa (An (Aq U U (Al ⟨congrArg Value.bool (decide_eq_false (fun h=>h rfl)),rfl⟩ H)))))))))))))))
theorem SS (a:ByteArray) (b:ByteArray):
    Cn Tryz.prog 245 [.string a,.string b] [] [] (fun v Bs=>v=.int .i64 (F9 a b)∧Bs=[]):=by
 intro w0 F0 H
 refine enter Tryz.func245 U U (Nat.le_of_ble_eq_true U) (Ab (Ae (Ad U (Ac (Aa (Ab (Ae (Ad U (sc (P2 a) H l0 U U (At Pu U U) ?_)))))))))
 rintro _ _ w ⟨rfl,rfl⟩ H
 refine Ad U (Ac (Aa (Ab (Ae (Ad U (sc (P2 b) H l0 U U (At Pu U U) ?_))))))
 rintro _ _ w ⟨rfl,rfl⟩ H
 refine Ad U (Ac (Aa (Ab (Ab (Ae (Ad U (Ac (Aa (B7 U (Av (Aa (Ab (Ab (Ae (Ad U (Ac (Aa (B7 U (Av (Aa (Ab (Ab (Ae (Ah 2 U (V U U (QI U U U) (Ac (Aa ?_)))))))))))))))))))))))))))
 refine Ax U (fun h1=>?_) (fun h1=>?_)
 ·exact Ab (Ae (Ad U (Ac (Aa (An (Az (Aq U U (Al ⟨by rw [SR h1]<;>rfl,rfl⟩ H))))))))
 refine Av (Aa (Ab (Ab (Ae (Ah 2 U (V U U (XT U U U) (Ac (Aa ?_))))))))
 refine DN (b:=!(Bl a b||decide (a=b))) U (fun h2=>?_) (fun h2=>?_)
 ·exact Ab (Ae (Ad U (Ac (Aa (An (Az (Aq U U (Al ⟨by rw [SQ h1 h2]<;>rfl,rfl⟩ H))))))))
 exact Av (Aa (Ab (Ae (Ad U (Ac (Aa (An (Aq U U (Al ⟨by rw [SO h1 h2]<;>rfl,rfl⟩ H)))))))))
theorem Ih (p q:Ap):
    Cn Tryz.prog 209 [.agg #[.string p.key,.string p.val],.agg #[.string q.key,.string q.val]] [] [] (fun v Bs=>v=.int .i64 (F9 p.key q.key)∧Bs=[]):=by
 intro w0 F0 H
 refine enter Tryz.func209 U U (Nat.le_of_ble_eq_true U) (Ab (Ae (CA U U U U H (fun b1 w H=>(CA U U U U H (fun b2 w H=>(Ad U (Ac (Aa ?_)))))))))
 replace H:Hd _ _ _ [blk b2 [.string q.key,.string q.val] 106,blk b1 [.string p.key,.string p.val] 106] []:=H
 refine Ab (Ae (V U U (Aj U Fg U) (V U U (Ak U BV U (H.cellI 1 U U)) (V U U (Aj U Fg U) (V U U (Ak U BV U (H.cellI 0 U U)) (sc (SS p.key q.key) H l0 U U (At Vh U U) ?_))))))
 rintro _ _ w ⟨rfl,rfl⟩ H
 refine Ad U (Ac (Aa (An (Aq U U ?_))))
 replace H:=H.nil
 exact Al ⟨rfl,rfl⟩ H
theorem MW (v:Value) (xs:List Ap) (a:Nat) (b:Nat) (n:Nat) (h1:a+n≤b) (h2:b+n≤xs.length) (hb:xs.length≤1000000):
    Cn Tryz.prog 329 [v,.int .i64 ((a:Nat):Int),.int .i64 ((b:Nat):Int),.int .i64 ((n:Nat):Int),.func (.func 209) #[] #[]] [Y Ag v xs] [] (fun _ Bs=>∃ ys,Bs=[Y Ag v ys]∧CV xs ys (E4 a b n)):=by
 intro w0 F0 H
 obtain ⟨A1,c2,rfl,hc3,hm4,hp5⟩:=H.fA 0 rfl
 refine enter Tryz.func329 U U (Nat.le_of_ble_eq_true U) (Ab (Ae (Ad U (Ac (Aa ?_)))))
 replace H:Hd _ _ _ [Y Ag (.slice A1 xs.length c2) xs] []:=H
 refine AS (BQ (σ:=Nat×List Ap) (fun (k,ys)=>[(0,.slice A1 xs.length c2),(1,.int .i64 ((a:Nat):Int)),(2,.int .i64 ((b:Nat):Int)),(3,.int .i64 ((n:Nat):Int)),(10,.int .i64 ((k:Nat):Int))]) (fun (k,ys) w=>(Hd w0 F0 w [Y Ag (.slice A1 xs.length c2) ys] [])∧(k≤n)∧(CV xs ys (E4 a b k))) (fun (k,ys)=>n - k) (0,xs) ⟨rfl,rfl,rfl,rfl,rfl,trivial⟩ ⟨H,by omega,KX xs (fun t=>by unfold E4;rw [if_neg (by omega),if_neg (by omega)])⟩ ?_)
 rintro ⟨k,ys⟩ w ⟨H,hk,hv⟩
 have hl:=hv.1
 refine Ab (Ab (Ae (Ah 2 U (V U U (Bd U U U) (Ac (Aa ?_))))))
 refine Ax U (fun h6=>?_) (fun h6=>?_)
 ·refine Av (Aa (Ab (AS (BY (.e 0 (.e 1 (.e 2 (.e 3 (.e 4 (.e 5 (.e 6 (.e 7 (.e 8 (.e 9 (.e 10 (.e 11 (.e 12 (.e 14 (.e 15 (.e 16 (.e 17 (.e 18 (.p 13 19 (.e 20 (.m 21 (.e 22 (.m 23 .z))))))))))))))))))))))) (fun w=>∃ Ar,Hd w0 F0 w (Ar) []) mo (by kernel_rfl) (fun w H=>⟨_,H⟩) H (fun w H=>(Au U (Au U (Au U (Ao U U U (fun w ⟨Ar,H⟩=>AT (z:=((a+k:Nat):Int)) U U U (by rw [AC (by omega) (by omega)];omega)) (Au U (Au U (Au U (Ao U U U (fun w ⟨Ar,H⟩=>AT (z:=((b+k:Nat):Int)) U U U (by rw [AC (by omega) (by omega)];omega)) (Au U (Au U (Au U (Ao U U U (fun w ⟨Ar,H⟩=>AT (z:=((b+k:Nat):Int)) U U U (by rw [AC (by omega) (by omega)];omega)) ?_)))))))))))))))))
  obtain ⟨x7,hx8⟩:∃ z9,ys[b+k]?=some z9:=⟨_,List.getElem?_eq_getElem (show b+k<ys.length by omega)⟩
  have th9:=H.thA 0 rfl hx8
  refine Ao U U U (fun w ⟨Ar,H⟩=>AZ (p:=AP A1+(b+k)*2) U BB U U (by omega) (by omega) th9 U) (Au U (Au U (Au U (Ao U U U (fun w ⟨Ar,H⟩=>AT (z:=((a+k:Nat):Int)) U U U (by rw [AC (by omega) (by omega)];omega)) ?_))))
  obtain ⟨x10,hx11⟩:∃ z9,ys[a+k]?=some z9:=⟨_,List.getElem?_eq_getElem (show a+k<ys.length by omega)⟩
  have th12:=H.thA 0 rfl hx11
  refine Ao U U U (fun w ⟨Ar,H⟩=>AZ (p:=AP A1+(a+k)*2) U BB U U (by omega) (by omega) th12 U) (JG U U U U U U U U (by decide) (Bq (cs:=[.string x7.key,.string x7.val]) U Cj U U (H.elsA 0 U hx8 U)) (Bq (cs:=[.string x10.key,.string x10.val]) U Cj U U (H.elsA 0 U hx11 U)) ?_)
  have th13:=H.thA 0 rfl hx11
  refine Ao U U U (fun w ⟨Ar,H⟩=>AZ (p:=AP A1+(a+k)*2) U BB U U (by omega) (by omega) th13 U) (AO U (Gy (i:=a+k) (a:=x7) U U U Cj U U U H (by omega) U (fun w H=>?_)))
  replace H:=H.h1 (A:=Y Ag (.slice A1 xs.length c2) (ys.set (a+k) x7))
  refine AE ⟨_,H⟩ ?_
  obtain ⟨x14,hx15⟩:∃ z9,(ys.set (a+k) x7)[b+k]?=some z9:=⟨_,List.getElem?_eq_getElem (show b+k<(ys.set (a+k) x7).length by simp only [List.length_set];omega)⟩
  have th16:=H.thA 0 rfl hx15
  refine Ao U U U (fun w ⟨Ar,H⟩=>AZ (p:=AP A1+(b+k)*2) U BB U U (by omega) (by omega) th16 U) (AO U (Gy (i:=b+k) (a:=x10) U U U Cj U U U H (by simp only [List.length_set];omega) U (fun w H=>?_)))
  replace H:=H.h1 (A:=Y Ag (.slice A1 xs.length c2) ((ys.set (a+k) x7).set (b+k) x10))
  exact AE ⟨_,H⟩ (BP (AU (Aa (Ae (Ad U (V U U (AT (z:=((k+1:Nat):Int)) U U U (by rw [AC (by omega) (by omega)];omega)) (Ad U (Ac (Bi (s:=(k,ys)) (k+1,(ys.set (a+k) x7).set (b+k) x10) ⟨rfl,rfl,rfl,rfl,rfl,trivial⟩ ⟨H,by omega,aB (by omega) hv hx11 hx8⟩ (by (try dsimp only);omega))))))))))
 exact BC (AM (AM (BD (DC U (Al ⟨_,rfl,(by omega:k=n)▸hv⟩ H)))))
theorem Q3 (v:Value) (xs:List Ap) (a:Nat) (m:Nat) (b:Nat) (h1:a<m) (h2:m<b) (h3:b≤xs.length) (hb:xs.length≤1000000):
    Cn Tryz.prog 306 [v,.int .i64 ((a:Nat):Int),.int .i64 ((m:Nat):Int),.int .i64 ((b:Nat):Int),.func (.func 209) #[] #[]] [Y Ag v xs] [] (fun _ Bs=>∃ ys,Bs=[Y Ag v ys]∧CV xs ys (Bn a m b)):=by
 intro w0 F0 H
 obtain ⟨A1,c2,rfl,hc3,hm4,hp5⟩:=H.fA 0 rfl
 refine enter Tryz.func306 U U (Nat.le_of_ble_eq_true U) (Ab (Ae (Ah 2 U (V U U (CK (z:=((m - a:Nat):Int)) U U U (by rw [AC (by omega) (by omega)];omega)) (Ad U (Ac (Aa ?_)))))))
 replace H:Hd _ _ _ [Y Ag (.slice A1 xs.length c2) xs] []:=H
 refine Ab (Ae (Ah 2 U (V U U (CK (z:=((b - m:Nat):Int)) U U U (by rw [AC (by omega) (by omega)];omega)) (Ad U (Ac (Aa (Ab (AS (BQ (σ:=Nat×Nat×List Ap) (fun (i,j,ys)=>[(0,.slice A1 xs.length c2),(2,.int .i64 ((m:Nat):Int)),(4,.func (.func 209) #[] #[]),(10,.int .i64 ((i:Nat):Int)),(11,.int .i64 ((j:Nat):Int))]) (fun (i,j,ys) w=>(Hd w0 F0 w [Y Ag (.slice A1 xs.length c2) ys] [])∧(0<i∧i≤m∧0<j∧m+j≤xs.length)∧(ys.length=xs.length)∧(∀ t,xs[Bn a m b t]?=ys[Bn (m - i) m (m+j) t]?)) (fun (i,j,ys)=>i+j) (m - a,b - m,xs) ⟨rfl,rfl,rfl,rfl,rfl,trivial⟩ ⟨H,by (try dsimp only);omega,rfl,fun t=>by (try dsimp only);rw [show m - (m - a)=a by omega,show m+(b - m)=b by omega]⟩ ?_)))))))))
 rintro ⟨i,j,ys⟩ w ⟨H,hi,hl,hv⟩
 refine Ab (Ab (Ae (Ah 2 U (V U U (CX U U U) (Ac (Aa ?_))))))
 refine Ax U (fun h6=>?_) (fun h6=>?_)
 ·refine Av (Aa (AS (Ab (Ae (Ah 2 U (V U U (Cp U U U) (Ac (Aa ?_))))))))
  refine Ax U (fun h7=>?_) (fun h7=>?_)
  ·refine Ab (Ae (Ah 3 U (V U U (CK (z:=((m - i:Nat):Int)) U U U (by rw [AC (by omega) (by omega)];omega)) (Ah 3 U (sc (MW (.slice A1 xs.length c2) ys (m - i) m j (by omega) (by omega) (by omega)) H l0 U U (At L3 U U) ?_)))))
   rintro _ _ w ⟨ys8,rfl,hv9⟩ H
   replace H:=H.h1 (A:=Y Ag (.slice A1 xs.length c2) ys8)
   refine Ac (Aa (Ae (Ah 2 U (V U U (CK (z:=((i - j:Nat):Int)) U U U (by rw [AC (by omega) (by omega)];omega)) (Ad U (Ac (AU ?_)))))))
   have hw:=Yy (m:=m) (i:=i) (j:=j) (by omega) (by omega) hv9
   exact Bi (s:=(i,j,ys)) (i - j,j,ys8) ⟨rfl,rfl,rfl,rfl,rfl,trivial⟩ ⟨H,by (try dsimp only);omega,by (try dsimp only);rw [hv9.1];exact hl,fun t=>(hv t).trans (hw t)⟩ (by (try dsimp only);omega)
  refine Ab (Ae (Ah 3 U (V U U (CK (z:=((m - i:Nat):Int)) U U U (by rw [AC (by omega) (by omega)];omega)) (Ah 2 U (V U U (AT (z:=((m+j:Nat):Int)) U U U (by rw [AC (by omega) (by omega)];omega)) (Ad U (V U U (CK (z:=((m+j - i:Nat):Int)) U U U (by rw [AC (by omega) (by omega)];omega)) (Ah 2 U (sc (MW (.slice A1 xs.length c2) ys (m - i) (m+j - i) i (by omega) (by omega) (by omega)) H l0 U U (At L3 U U) ?_)))))))))
  rintro _ _ w ⟨ys10,rfl,hv11⟩ H
  replace H:=H.h1 (A:=Y Ag (.slice A1 xs.length c2) ys10)
  refine Ac (Aa (Ae (Ah 2 U (V U U (CK (z:=((j - i:Nat):Int)) U U U (by rw [AC (by omega) (by omega)];omega)) (Ad U (Ac (AU ?_)))))))
  have hw:=Yz (m:=m) (i:=i) (j:=j) (by omega) (by omega) hv11
  exact Bi (s:=(i,j,ys)) (i,j - i,ys10) ⟨rfl,rfl,rfl,rfl,rfl,trivial⟩ ⟨H,by (try dsimp only);omega,by (try dsimp only);rw [hv11.1];exact hl,fun t=>(hv t).trans (hw t)⟩ (by (try dsimp only);omega)
 refine BC (AM (AM (BD (Aa (Ae (Ah 3 U (V U U (CK (z:=((m - i:Nat):Int)) U U U (by rw [AC (by omega) (by omega)];omega)) (Ah 3 U (sc (MW (.slice A1 xs.length c2) ys (m - i) m i (by omega) (by omega) (by omega)) H l0 U U (At L3 U U) ?_)))))))))
 rintro _ _ w ⟨ys12,rfl,hv13⟩ H
 refine Ac (DC U ?_)
 obtain rfl:i=j:=by omega
 exact Al ⟨_,rfl,hv13.1.trans hl,fun t=>by rw [hv,hv13.2,Yx (by omega)]<;>rfl⟩ H
theorem O6 (v:Value) (xs:List Ap) (a:Nat) (b:Nat) (h1:a≤b) (h2:b≤xs.length) (hb:xs.length≤1000000):
    Cn Tryz.prog 277 [v,.int .i64 ((a:Nat):Int),.int .i64 ((b:Nat):Int),.func (.func 209) #[] #[]] [Y Ag v xs] [] (fun _ Bs=>∃ ys,Bs=[Y Ag v ys]∧CU xs ys a b):=by
 intro w0 F0 H
 obtain ⟨A1,c2,rfl,hc3,hm4,hp5⟩:=H.fA 0 rfl
 refine enter Tryz.func277 U U (Nat.le_of_ble_eq_true U) (Ab (Ae (Ad U (V U U (AT (z:=((a+1:Nat):Int)) U U U (by rw [AC (by omega) (by omega)];omega)) (Ad U (Ac (Aa ?_)))))))
 replace H:Hd _ _ _ [Y Ag (.slice A1 xs.length c2) xs] []:=H
 refine AS (BQ (σ:=Nat×List Ap) (fun (i,ys)=>[(0,.slice A1 xs.length c2),(1,.int .i64 ((a:Nat):Int)),(2,.int .i64 ((b:Nat):Int)),(3,.func (.func 209) #[] #[]),(8,.int .i64 ((i:Nat):Int))]) (fun (i,ys) w=>(Hd w0 F0 w [Y Ag (.slice A1 xs.length c2) ys] [])∧(a+1≤i∧(i≤b∨i=a+1))∧(B6 xs ys)∧(Eb xs ys a b)∧(BU ys a i)) (fun (i,ys)=>b - i) (a+1,xs) ⟨rfl,rfl,rfl,rfl,rfl,trivial⟩ ⟨H,by (try dsimp only);omega,B6.refl _,Eb.refl _ _ _,BU.one xs (Nat.le_refl _)⟩ ?_)
 rintro ⟨i,ys⟩ w ⟨H,hi,hst,hin,hso⟩
 have hl:=hin.1
 refine Ab (Ab (Ae (Ah 2 U (V U U (Bd U U U) (Ac (Aa ?_))))))
 refine Ax U (fun h6=>?_) (fun h6=>?_)
 ·refine Av (Aa (Ab (AS (Ab (Ae (Ah 2 U (Ac (Aa (AS (BQ (σ:=Nat×List Ap) (fun (j,zs)=>[(0,.slice A1 xs.length c2),(1,.int .i64 ((a:Nat):Int)),(2,.int .i64 ((b:Nat):Int)),(3,.func (.func 209) #[] #[]),(8,.int .i64 ((i:Nat):Int)),(9,.int .i64 ((j:Nat):Int))]) (fun (j,zs) w=>(Hd w0 F0 w [Y Ag (.slice A1 xs.length c2) zs] [])∧(a≤j∧j≤i)∧(B6 xs zs)∧(Eb xs zs a b)∧(Gm zs a (i+1) j)) (fun (j,zs)=>j) (i,ys) ⟨rfl,rfl,rfl,rfl,rfl,rfl,trivial⟩ ⟨H,by (try dsimp only);omega,hst,hin,St hso⟩ ?_))))))))))
  rintro ⟨j,zs⟩ w ⟨H,hj,hst2,hin2,hbu⟩
  have hl2:=hin2.1
  refine Ab (Ab (BY (.e 0 (.e 1 (.e 2 (.e 3 (.e 4 (.e 5 (.e 6 (.e 7 (.e 8 (.e 9 (.e 10 (.e 11 (.e 12 (.e 13 (.m 14 (.e 15 (.e 16 .z))))))))))))))))) (fun w=>∃ Ar,Hd w0 F0 w (Y Ag (.slice A1 xs.length c2) zs::Ar) []) mo (by kernel_rfl) (fun w H=>⟨_,H⟩) H (fun w H=>(Au U (Au U (Ao U U U (fun w ⟨Ar,H⟩=>Cp U U U) (Au U ?_)))))))
  refine IG (d:=21) U (fun h7=>?_) (fun h7=>?_)
  ·refine Au U (Au U (Au U ?_))
   obtain ⟨x8,hx9⟩:∃ z9,zs[j]?=some z9:=⟨_,List.getElem?_eq_getElem (show j<zs.length by omega)⟩
   have th10:=H.thA 0 rfl hx9
   refine Ao U U U (fun w ⟨Ar,H⟩=>AZ (p:=AP A1+j*2) U BB U U (by omega) (by omega) th10 U) (Ao U U U (fun w ⟨Ar,H⟩=>Bq (cs:=[.string x8.key,.string x8.val]) U Cj U U (H.elsA 0 U hx9 U)) (Au U (Au U (Ao U U U (fun w ⟨Ar,H⟩=>CK (z:=((j - 1:Nat):Int)) U U U (by rw [AC (by omega) (by omega)];omega)) ?_))))
   obtain ⟨x11,hx12⟩:∃ z9,zs[j - 1]?=some z9:=⟨_,List.getElem?_eq_getElem (show j - 1<zs.length by omega)⟩
   have th13:=H.thA 0 rfl hx12
   refine Ao U U U (fun w ⟨Ar,H⟩=>AZ (p:=AP A1+(j - 1)*2) U BB U U (by omega) (by omega) th13 U) (Ao U U U (fun w ⟨Ar,H⟩=>Bq (cs:=[.string x11.key,.string x11.val]) U Cj U U (H.elsA 0 U hx12 U)) (AO U (sc (Ih x8 x11) H l0 U U (F_ (vs:=[.agg #[.string x8.key,.string x8.val],.agg #[.string x11.key,.string x11.val]]) (fs:=#[]) (cs:=#[]) H6 U U U) ?_)))
   rintro _ _ w ⟨rfl,rfl⟩ H
   refine AE ⟨_,H⟩ (Ao U U U (fun w ⟨Ar,H⟩=>Bd U U U) (Au U (BP (Aa ?_))))
   refine Ax U (fun h14=>?_) (fun h14=>?_)
   ·refine Av (Aa (Ab (AS (BY (.e 0 (.e 1 (.e 2 (.e 3 (.e 4 (.e 5 (.e 6 (.e 7 (.e 8 (.e 10 (.e 11 (.e 12 (.p 9 13 (.e 14 (.m 15 (.e 16 (.m 17 .z))))))))))))))))) (fun w=>∃ Ar,Hd w0 F0 w (Ar) []) mo (by kernel_rfl) (fun w H=>⟨_,H⟩) H (fun w H=>(Au U (Au U (Au U (Au U (Ao U U U (fun w ⟨Ar,H⟩=>CK (z:=((j - 1:Nat):Int)) U U U (by rw [AC (by omega) (by omega)];omega)) (Au U (Au U (Ao U U U (fun w ⟨Ar,H⟩=>CK (z:=((j - 1:Nat):Int)) U U U (by rw [AC (by omega) (by omega)];omega)) ?_)))))))))))))
    have th15:=H.thA 0 rfl hx12
    refine Ao U U U (fun w ⟨Ar,H⟩=>AZ (p:=AP A1+(j - 1)*2) U BB U U (by omega) (by omega) th15 U) (Au U (Au U ?_))
    have th16:=H.thA 0 rfl hx9
    refine Ao U U U (fun w ⟨Ar,H⟩=>AZ (p:=AP A1+j*2) U BB U U (by omega) (by omega) th16 U) (JG U U U U U U U U (by decide) (Bq (cs:=[.string x11.key,.string x11.val]) U Cj U U (H.elsA 0 U hx12 U)) (Bq (cs:=[.string x8.key,.string x8.val]) U Cj U U (H.elsA 0 U hx9 U)) ?_)
    have th17:=H.thA 0 rfl hx9
    refine Ao U U U (fun w ⟨Ar,H⟩=>AZ (p:=AP A1+j*2) U BB U U (by omega) (by omega) th17 U) (AO U (Gy (i:=j) (a:=x11) U U U Cj U U U H (by omega) U (fun w H=>?_)))
    replace H:Hd _ _ _ [Y Ag (.slice A1 xs.length c2) (zs.set j x11)] []:=H
    refine AE ⟨_,H⟩ ?_
    obtain ⟨x18,hx19⟩:∃ z9,(zs.set j x11)[j - 1]?=some z9:=⟨_,List.getElem?_eq_getElem (show j - 1<(zs.set j x11).length by simp only [List.length_set];omega)⟩
    have th20:=H.thA 0 rfl hx19
    refine Ao U U U (fun w ⟨Ar,H⟩=>AZ (p:=AP A1+(j - 1)*2) U BB U U (by omega) (by omega) th20 U) (AO U (Gy (i:=j - 1) (a:=x8) U U U Cj U U U H (by simp only [List.length_set];omega) U (fun w H=>?_)))
    replace H:=H.h1 (A:=Y Ag (.slice A1 xs.length c2) ((zs.set j x11).set (j - 1) x8))
    refine AE ⟨_,H⟩ (BP (AU (Aa (Ae (Ad U (V U U (CK (z:=((j - 1:Nat):Int)) U U U (by rw [AC (by omega) (by omega)];omega)) (Ad U (Ac ?_))))))))
    have hsw:=Zv (by omega) hx12 hx9 (GM.1 h14)
    exact Bi (s:=(j,zs)) (j - 1,(zs.set j x11).set (j - 1) x8) ⟨rfl,rfl,rfl,rfl,rfl,rfl,trivial⟩ ⟨H,by (try dsimp only);omega,hst2.trans hsw.1,hin2.trans (hsw.2.wider (by omega) (by omega)),Sv hbu (by omega) hx12 hx9 (GM.1 h14) (by omega)⟩ (by (try dsimp only);omega)
   exact BC (AM (AM (BD (AU (Aa (Ae (Ad U (V U U (AT (z:=((i+1:Nat):Int)) U U U (by rw [AC (by omega) (by omega)];omega)) (Ad U (Ac (Bi (s:=(i,ys)) (i+1,zs) ⟨rfl,rfl,rfl,rfl,rfl,trivial⟩ ⟨H,by (try dsimp only);omega,hst2,hin2,Sx hbu (by omega) hx12 hx9 (HH h14)⟩ (by (try dsimp only);omega))))))))))))
  exact Au U (Au U (Au U (Au U (Au U (Au U (Au U (Au U (Au U (Au U (Li U ⟨_,H⟩ U U (Au U (Au U (BP (Aa (B7 U (BC (AM (AM (BD (AU (Aa (Ae (Ad U (V U U (AT (z:=((i+1:Nat):Int)) U U U (by rw [AC (by omega) (by omega)];omega)) (Ad U (Ac (Bi (s:=(i,ys)) (i+1,zs) ⟨rfl,rfl,rfl,rfl,rfl,trivial⟩ ⟨H,by (try dsimp only);omega,hst2,hin2,Sr ((by omega:j=a)▸hbu)⟩ (by (try dsimp only);omega))))))))))))))))))))))))))))
 exact BC (AM (AM (BD (DC U (Al ⟨_,rfl,hst,hin,hso.sub (Nat.le_refl _) (by omega)⟩ H)))))
theorem Zw (N:Nat) (ih:∀ (v:Value) (xs:List Ap) (a m b:Nat),b - a<N→a<m→m<b→b≤xs.length→xs.length≤1000000→BU xs a m→BU xs m b→Cn Tryz.prog 278 [v,.int .i64 ((a:Nat):Int),.int .i64 ((m:Nat):Int),.int .i64 ((b:Nat):Int),.func (.func 209) #[] #[]] [Y Ag v xs] [] (fun _ Bs=>∃ ys,Bs=[Y Ag v ys]∧CU xs ys a b)) (v:Value) (xs:List Ap) (a:Nat) (m:Nat) (b:Nat) (hN:b - a<N+1) (h1:a<m) (h2:m<b) (h3:b≤xs.length) (hb:xs.length≤1000000) (hs1:BU xs a m) (hs2:BU xs m b):
    Cn Tryz.prog 278 [v,.int .i64 ((a:Nat):Int),.int .i64 ((m:Nat):Int),.int .i64 ((b:Nat):Int),.func (.func 209) #[] #[]] [Y Ag v xs] [] (fun _ Bs=>∃ ys,Bs=[Y Ag v ys]∧CU xs ys a b):=by
 intro w0 F0 H
 obtain ⟨A1,c2,rfl,hc3,hm4,hp5⟩:=H.fA 0 rfl
 refine enter Tryz.func278 U U (Nat.le_of_ble_eq_true U) (Ab (Ab (Ae (Ah 2 U (V U U (CK (z:=((m - a:Nat):Int)) U U U (by rw [AC (by omega) (by omega)];omega)) (V U U (Bb U U U) (Ac (Aa ?_))))))))
 replace H:Hd _ _ _ [Y Ag (.slice A1 xs.length c2) xs] []:=H
 refine Ax U (fun h6=>?_) (fun h6=>?_)
 ·refine Ab ?_
  have hm:m=a+1:=by omega
  obtain ⟨x0,hx0⟩:∃ z9,xs[a]?=some z9:=⟨_,List.getElem?_eq_getElem (show a<xs.length by omega)⟩
  refine Ae (Ah 2 U (Ac (Aa (Ab (Ae (Ah 2 U (Ac (Aa (Ab (AS (BQ (σ:=Nat×Nat) (fun (i,j)=>[(0,.slice A1 xs.length c2),(1,.int .i64 ((a:Nat):Int)),(2,.int .i64 ((m:Nat):Int)),(3,.int .i64 ((b:Nat):Int)),(4,.func (.func 209) #[] #[]),(10,.int .i64 ((i:Nat):Int)),(11,.int .i64 ((j:Nat):Int))]) (fun (i,j) w=>(Hd w0 F0 w [Y Ag (.slice A1 xs.length c2) xs] [])∧(m≤i∧i≤j∧j≤b)∧(i=m∨∃ u,xs[i - 1]?=some u∧Bl u.key x0.key=true)∧(j=b∨∃ u,xs[j]?=some u∧Bl u.key x0.key=false)) (fun (i,j)=>j - i) (m,b) ⟨rfl,rfl,rfl,rfl,rfl,rfl,rfl,trivial⟩ ⟨H,by (try dsimp only);omega,.inl rfl,.inl rfl⟩ ?_)))))))))))
  rintro ⟨i,j⟩ w ⟨H,hij,hlow,hup⟩
  refine Ab (Ab (Ae (Ah 2 U (V U U (Bd U U U) (Ac (Aa ?_))))))
  refine Ax U (fun h7=>?_) (fun h7=>?_)
  ·refine Av (Aa (AS (Ab (Ae (Ah 2 U (V U U (AT (z:=((i+j:Nat):Int)) U U U (by rw [AC (by omega) (by omega)];omega)) (V U U (DK (z:=((i+j:Nat):Int)) U U Dr E7 (Fs (by omega) (by omega))) (V U U (Ik (z:=(((i+j) / 2:Nat):Int)) U U U (by omega) (IQ _)) (V U U (DK (z:=(((i+j) / 2:Nat):Int)) U U E7 Dr (AC (by omega) (by omega))) (Ad U (Ac (Aa (Ab (BY (.e 0 (.e 1 (.e 2 (.e 3 (.e 4 (.e 5 (.e 6 (.e 7 (.e 8 (.m 9 (.e 10 .z))))))))))) (fun w=>∃ Ar,Hd w0 F0 w (Y Ag (.slice A1 xs.length c2) xs::Ar) []) mo (by kernel_rfl) (fun w H=>⟨_,H⟩) H (fun w H=>(Au U (Au U (Au U ?_))))))))))))))))))
   obtain ⟨x8,hx9⟩:∃ z9,xs[(i+j) / 2]?=some z9:=⟨_,List.getElem?_eq_getElem (show (i+j) / 2<xs.length by omega)⟩
   have th10:=H.thA 0 rfl hx9
   refine Ao U U U (fun w ⟨Ar,H⟩=>AZ (p:=AP A1+((i+j) / 2)*2) U BB U U (by omega) (by omega) th10 U) (Ao U U U (fun w ⟨Ar,H⟩=>Bq (cs:=[.string x8.key,.string x8.val]) U Cj U U (H.elsA 0 U hx9 U)) (Au U (Au U ?_)))
   obtain ⟨x11,hx12⟩:∃ z9,xs[a]?=some z9:=⟨_,List.getElem?_eq_getElem (show a<xs.length by omega)⟩
   have th13:=H.thA 0 rfl hx12
   refine Ao U U U (fun w ⟨Ar,H⟩=>AZ (p:=AP A1+a*2) U BB U U (by omega) (by omega) th13 U) (Ao U U U (fun w ⟨Ar,H⟩=>Bq (cs:=[.string x11.key,.string x11.val]) U Cj U U (H.elsA 0 U hx12 U)) (AO U (sc (Ih x8 x11) H l0 U U (F_ (vs:=[.agg #[.string x8.key,.string x8.val],.agg #[.string x11.key,.string x11.val]]) (fs:=#[]) (cs:=#[]) H6 U U U) ?_)))
   rintro _ _ w ⟨rfl,rfl⟩ H
   refine AE ⟨_,H⟩ (Ao U U U (fun w ⟨Ar,H⟩=>Bd U U U) (BP (Aa ?_)))
   refine Ax U (fun h14=>?_) (fun h14=>?_)
   ·obtain rfl:x11=x0:=Option.some.inj (hx12.symm.trans hx0)
    exact Ae (Ad U (V U U (AT (z:=(((i+j) / 2+1:Nat):Int)) U U U (by rw [AC (by omega) (by omega)];omega)) (Ad U (Ac (AU (Bi (s:=(i,j)) ((i+j) / 2+1,j) ⟨rfl,rfl,rfl,rfl,rfl,rfl,rfl,trivial⟩ ⟨H,by (try dsimp only);omega,.inr ⟨x8,by rw [Nat.add_sub_cancel];exact hx9,GM.1 h14⟩,hup⟩ (by (try dsimp only);omega)))))))
   obtain rfl:x11=x0:=Option.some.inj (hx12.symm.trans hx0)
   exact Ae (Ah 2 U (Ac (AU (Bi (s:=(i,j)) (i,(i+j) / 2) ⟨rfl,rfl,rfl,rfl,rfl,rfl,rfl,trivial⟩ ⟨H,by (try dsimp only);omega,hlow,.inr ⟨x8,hx9,HH h14⟩⟩ (by (try dsimp only);omega)))))
  refine BC (AM (AM (BD (Aa (Ab (Ab (Ae (Ah 2 U (Ac (Aa (AS (BQ (σ:=Nat×List Ap) (fun (k,ys)=>[(0,.slice A1 xs.length c2),(1,.int .i64 ((a:Nat):Int)),(2,.int .i64 ((m:Nat):Int)),(3,.int .i64 ((b:Nat):Int)),(4,.func (.func 209) #[] #[]),(10,.int .i64 ((i:Nat):Int)),(13,.int .i64 ((k:Nat):Int))]) (fun (k,ys) w=>(Hd w0 F0 w [Y Ag (.slice A1 xs.length c2) ys] [])∧(a≤k∧k+1≤i)∧(CV xs ys (Bn a m (k+1)))) (fun (k,ys)=>i - k) (a,xs) ⟨rfl,rfl,rfl,rfl,rfl,rfl,rfl,trivial⟩ ⟨H,by (try dsimp only);omega,by rw [hm];exact Z_ xs a⟩ ?_))))))))))))
  rintro ⟨k,ys⟩ w ⟨H,hk,hv⟩
  have hl:=hv.1
  refine Ab (Ab (Ae (Ah 2 U (V U U (CK (z:=((i - 1:Nat):Int)) U U U (by rw [AC (by omega) (by omega)];omega)) (V U U (Bd U U U) (Ac (Aa ?_)))))))
  refine Ax U (fun h15=>?_) (fun h15=>?_)
  ·refine Av (Aa (Ab (AS (BY (.e 0 (.e 1 (.e 2 (.e 3 (.e 4 (.e 5 (.e 6 (.e 7 (.e 8 (.e 10 (.e 11 (.e 12 (.p 9 13 (.e 14 (.m 15 (.e 16 (.m 17 .z))))))))))))))))) (fun w=>∃ Ar,Hd w0 F0 w (Ar) []) mo (by kernel_rfl) (fun w H=>⟨_,H⟩) H (fun w H=>(Au U (Au U (Au U (Au U (Ao U U U (fun w ⟨Ar,H⟩=>AT (z:=((k+1:Nat):Int)) U U U (by rw [AC (by omega) (by omega)];omega)) (Au U (Au U (Ao U U U (fun w ⟨Ar,H⟩=>AT (z:=((k+1:Nat):Int)) U U U (by rw [AC (by omega) (by omega)];omega)) ?_)))))))))))))
   obtain ⟨x16,hx17⟩:∃ z9,ys[k+1]?=some z9:=⟨_,List.getElem?_eq_getElem (show k+1<ys.length by omega)⟩
   have th18:=H.thA 0 rfl hx17
   refine Ao U U U (fun w ⟨Ar,H⟩=>AZ (p:=AP A1+(k+1)*2) U BB U U (by omega) (by omega) th18 U) (Au U (Au U ?_))
   obtain ⟨x19,hx20⟩:∃ z9,ys[k]?=some z9:=⟨_,List.getElem?_eq_getElem (show k<ys.length by omega)⟩
   have th21:=H.thA 0 rfl hx20
   refine Ao U U U (fun w ⟨Ar,H⟩=>AZ (p:=AP A1+k*2) U BB U U (by omega) (by omega) th21 U) (JG U U U U U U U U (by decide) (Bq (cs:=[.string x16.key,.string x16.val]) U Cj U U (H.elsA 0 U hx17 U)) (Bq (cs:=[.string x19.key,.string x19.val]) U Cj U U (H.elsA 0 U hx20 U)) ?_)
   have th22:=H.thA 0 rfl hx20
   refine Ao U U U (fun w ⟨Ar,H⟩=>AZ (p:=AP A1+k*2) U BB U U (by omega) (by omega) th22 U) (AO U (Gy (i:=k) (a:=x16) U U U Cj U U U H (by omega) U (fun w H=>?_)))
   replace H:=H.h1 (A:=Y Ag (.slice A1 xs.length c2) (ys.set k x16))
   refine AE ⟨_,H⟩ ?_
   obtain ⟨x23,hx24⟩:∃ z9,(ys.set k x16)[k+1]?=some z9:=⟨_,List.getElem?_eq_getElem (show k+1<(ys.set k x16).length by simp only [List.length_set];omega)⟩
   have th25:=H.thA 0 rfl hx24
   refine Ao U U U (fun w ⟨Ar,H⟩=>AZ (p:=AP A1+(k+1)*2) U BB U U (by omega) (by omega) th25 U) (AO U (Gy (i:=k+1) (a:=x19) U U U Cj U U U H (by simp only [List.length_set];omega) U (fun w H=>?_)))
   replace H:=H.h1 (A:=Y Ag (.slice A1 xs.length c2) ((ys.set k x16).set (k+1) x19))
   exact AE ⟨_,H⟩ (BP (AU (Aa (Ae (Ad U (V U U (AT (z:=((k+1:Nat):Int)) U U U (by rw [AC (by omega) (by omega)];omega)) (Ad U (Ac (Bi (s:=(k,ys)) (k+1,(ys.set k x16).set (k+1) x19) ⟨rfl,rfl,rfl,rfl,rfl,rfl,rfl,trivial⟩ ⟨H,by (try dsimp only);omega,aD hm (by omega) hv hx20 hx17⟩ (by (try dsimp only);omega))))))))))
  refine BC (AM (AM (BD (Aa (An (Az (I6 U ?_)))))))
  obtain rfl:j=i:=by omega
  obtain rfl:j=k+1:=by omega
  exact Al ⟨_,rfl,Wq hm hv (by omega) (by omega) (by omega) hs2 hx0 hlow hup⟩ H
 refine Av (Aa (Ab (Ab (Ae (Ah 2 U (V U U (CK (z:=((b - m:Nat):Int)) U U U (by rw [AC (by omega) (by omega)];omega)) (V U U (Bb U U U) (Ac (Aa ?_)))))))))
 refine Ax U (fun h26=>?_) (fun h26=>?_)
 ·refine Ab ?_
  have hm:b=m+1:=by omega
  obtain ⟨x0,hx0⟩:∃ z9,xs[m]?=some z9:=⟨_,List.getElem?_eq_getElem (show m<xs.length by omega)⟩
  refine Ae (Ah 2 U (Ac (Aa (Ab (Ae (Ah 2 U (Ac (Aa (Ab (AS (BQ (σ:=Nat×Nat) (fun (i,j)=>[(0,.slice A1 xs.length c2),(1,.int .i64 ((a:Nat):Int)),(2,.int .i64 ((m:Nat):Int)),(3,.int .i64 ((b:Nat):Int)),(4,.func (.func 209) #[] #[]),(14,.int .i64 ((i:Nat):Int)),(15,.int .i64 ((j:Nat):Int))]) (fun (i,j) w=>(Hd w0 F0 w [Y Ag (.slice A1 xs.length c2) xs] [])∧(a≤i∧i≤j∧j≤m)∧(i=a∨∃ u,xs[i - 1]?=some u∧Bl x0.key u.key=false)∧(j=m∨∃ u,xs[j]?=some u∧Bl x0.key u.key=true)) (fun (i,j)=>j - i) (a,m) ⟨rfl,rfl,rfl,rfl,rfl,rfl,rfl,trivial⟩ ⟨H,by (try dsimp only);omega,.inl rfl,.inl rfl⟩ ?_)))))))))))
  rintro ⟨i,j⟩ w ⟨H,hij,hlow,hup⟩
  refine Ab (Ab (Ae (Ah 2 U (V U U (Bd U U U) (Ac (Aa ?_))))))
  refine Ax U (fun h27=>?_) (fun h27=>?_)
  ·refine Av (Aa (AS (Ab (Ae (Ah 2 U (V U U (AT (z:=((i+j:Nat):Int)) U U U (by rw [AC (by omega) (by omega)];omega)) (V U U (DK (z:=((i+j:Nat):Int)) U U Dr E7 (Fs (by omega) (by omega))) (V U U (Ik (z:=(((i+j) / 2:Nat):Int)) U U U (by omega) (IQ _)) (V U U (DK (z:=(((i+j) / 2:Nat):Int)) U U E7 Dr (AC (by omega) (by omega))) (Ad U (Ac (Aa (Ab (BY (.e 0 (.e 1 (.e 2 (.e 3 (.e 4 (.e 5 (.e 6 (.e 7 (.e 8 (.m 9 (.e 10 (.e 11 .z)))))))))))) (fun w=>∃ Ar,Hd w0 F0 w (Y Ag (.slice A1 xs.length c2) xs::Ar) []) mo (by kernel_rfl) (fun w H=>⟨_,H⟩) H (fun w H=>(Au U (Au U (Au U ?_))))))))))))))))))
   obtain ⟨x28,hx29⟩:∃ z9,xs[m]?=some z9:=⟨_,List.getElem?_eq_getElem (show m<xs.length by omega)⟩
   have th30:=H.thA 0 rfl hx29
   refine Ao U U U (fun w ⟨Ar,H⟩=>AZ (p:=AP A1+m*2) U BB U U (by omega) (by omega) th30 U) (Ao U U U (fun w ⟨Ar,H⟩=>Bq (cs:=[.string x28.key,.string x28.val]) U Cj U U (H.elsA 0 U hx29 U)) (Au U (Au U ?_)))
   obtain ⟨x31,hx32⟩:∃ z9,xs[(i+j) / 2]?=some z9:=⟨_,List.getElem?_eq_getElem (show (i+j) / 2<xs.length by omega)⟩
   have th33:=H.thA 0 rfl hx32
   refine Ao U U U (fun w ⟨Ar,H⟩=>AZ (p:=AP A1+((i+j) / 2)*2) U BB U U (by omega) (by omega) th33 U) (Ao U U U (fun w ⟨Ar,H⟩=>Bq (cs:=[.string x31.key,.string x31.val]) U Cj U U (H.elsA 0 U hx32 U)) (AO U (sc (Ih x28 x31) H l0 U U (F_ (vs:=[.agg #[.string x28.key,.string x28.val],.agg #[.string x31.key,.string x31.val]]) (fs:=#[]) (cs:=#[]) H6 U U U) ?_)))
   rintro _ _ w ⟨rfl,rfl⟩ H
   refine AE ⟨_,H⟩ (Ao U U U (fun w ⟨Ar,H⟩=>Bd U U U) (Ao U U U (fun w ⟨Ar,H⟩=>D_ U U) (BP (Aa ?_))))
   refine Ax U (fun h34=>?_) (fun h34=>?_)
   ·obtain rfl:x28=x0:=Option.some.inj (hx29.symm.trans hx0)
    exact Ae (Ad U (V U U (AT (z:=(((i+j) / 2+1:Nat):Int)) U U U (by rw [AC (by omega) (by omega)];omega)) (Ad U (Ac (AU (Bi (s:=(i,j)) ((i+j) / 2+1,j) ⟨rfl,rfl,rfl,rfl,rfl,rfl,rfl,trivial⟩ ⟨H,by (try dsimp only);omega,.inr ⟨x31,by rw [Nat.add_sub_cancel];exact hx32,HH h34⟩,hup⟩ (by (try dsimp only);omega)))))))
   obtain rfl:x28=x0:=Option.some.inj (hx29.symm.trans hx0)
   exact Ae (Ah 2 U (Ac (AU (Bi (s:=(i,j)) (i,(i+j) / 2) ⟨rfl,rfl,rfl,rfl,rfl,rfl,rfl,trivial⟩ ⟨H,by (try dsimp only);omega,hlow,.inr ⟨x31,hx32,GM.1 (Classical.not_not.1 h34)⟩⟩ (by (try dsimp only);omega)))))
  refine BC (AM (AM (BD (Aa (Ab (Ab (Ae (Ah 2 U (Ac (Aa (AS (BQ (σ:=Nat×List Ap) (fun (k,ys)=>[(0,.slice A1 xs.length c2),(1,.int .i64 ((a:Nat):Int)),(2,.int .i64 ((m:Nat):Int)),(3,.int .i64 ((b:Nat):Int)),(4,.func (.func 209) #[] #[]),(14,.int .i64 ((i:Nat):Int)),(17,.int .i64 ((k:Nat):Int))]) (fun (k,ys) w=>(Hd w0 F0 w [Y Ag (.slice A1 xs.length c2) ys] [])∧(i≤k∧k≤m)∧(CV xs ys (Bn k m b))) (fun (k,ys)=>k) (m,xs) ⟨rfl,rfl,rfl,rfl,rfl,rfl,rfl,trivial⟩ ⟨H,by (try dsimp only);omega,by rw [hm];exact aA xs m⟩ ?_))))))))))))
  rintro ⟨k,ys⟩ w ⟨H,hk,hv⟩
  have hl:=hv.1
  refine Ab (Ab (Ae (Ah 2 U (V U U (Cp U U U) (Ac (Aa ?_))))))
  refine Ax U (fun h35=>?_) (fun h35=>?_)
  ·refine Av (Aa (Ab (AS (BY (.e 0 (.e 1 (.e 2 (.e 3 (.e 4 (.e 5 (.e 6 (.e 7 (.e 8 (.e 10 (.e 11 (.e 12 (.p 9 13 (.e 14 (.m 15 (.e 16 (.m 17 .z))))))))))))))))) (fun w=>∃ Ar,Hd w0 F0 w (Ar) []) mo (by kernel_rfl) (fun w H=>⟨_,H⟩) H (fun w H=>(Au U (Au U (Au U (Au U (Ao U U U (fun w ⟨Ar,H⟩=>CK (z:=((k - 1:Nat):Int)) U U U (by rw [AC (by omega) (by omega)];omega)) (Au U (Au U (Ao U U U (fun w ⟨Ar,H⟩=>CK (z:=((k - 1:Nat):Int)) U U U (by rw [AC (by omega) (by omega)];omega)) ?_)))))))))))))
   obtain ⟨x36,hx37⟩:∃ z9,ys[k - 1]?=some z9:=⟨_,List.getElem?_eq_getElem (show k - 1<ys.length by omega)⟩
   have th38:=H.thA 0 rfl hx37
   refine Ao U U U (fun w ⟨Ar,H⟩=>AZ (p:=AP A1+(k - 1)*2) U BB U U (by omega) (by omega) th38 U) (Au U (Au U ?_))
   obtain ⟨x39,hx40⟩:∃ z9,ys[k]?=some z9:=⟨_,List.getElem?_eq_getElem (show k<ys.length by omega)⟩
   have th41:=H.thA 0 rfl hx40
   refine Ao U U U (fun w ⟨Ar,H⟩=>AZ (p:=AP A1+k*2) U BB U U (by omega) (by omega) th41 U) (JG U U U U U U U U (by decide) (Bq (cs:=[.string x36.key,.string x36.val]) U Cj U U (H.elsA 0 U hx37 U)) (Bq (cs:=[.string x39.key,.string x39.val]) U Cj U U (H.elsA 0 U hx40 U)) ?_)
   have th42:=H.thA 0 rfl hx40
   refine Ao U U U (fun w ⟨Ar,H⟩=>AZ (p:=AP A1+k*2) U BB U U (by omega) (by omega) th42 U) (AO U (Gy (i:=k) (a:=x36) U U U Cj U U U H (by omega) U (fun w H=>?_)))
   replace H:=H.h1 (A:=Y Ag (.slice A1 xs.length c2) (ys.set k x36))
   refine AE ⟨_,H⟩ ?_
   obtain ⟨x43,hx44⟩:∃ z9,(ys.set k x36)[k - 1]?=some z9:=⟨_,List.getElem?_eq_getElem (show k - 1<(ys.set k x36).length by simp only [List.length_set];omega)⟩
   have th45:=H.thA 0 rfl hx44
   refine Ao U U U (fun w ⟨Ar,H⟩=>AZ (p:=AP A1+(k - 1)*2) U BB U U (by omega) (by omega) th45 U) (AO U (Gy (i:=k - 1) (a:=x39) U U U Cj U U U H (by simp only [List.length_set];omega) U (fun w H=>?_)))
   replace H:=H.h1 (A:=Y Ag (.slice A1 xs.length c2) ((ys.set k x36).set (k - 1) x39))
   exact AE ⟨_,H⟩ (BP (AU (Aa (Ae (Ad U (V U U (CK (z:=((k - 1:Nat):Int)) U U U (by rw [AC (by omega) (by omega)];omega)) (Ad U (Ac (Bi (s:=(k,ys)) (k - 1,(ys.set k x36).set (k - 1) x39) ⟨rfl,rfl,rfl,rfl,rfl,rfl,rfl,trivial⟩ ⟨H,by (try dsimp only);omega,Z8 hm (by omega) (by omega) hv hx40 hx37⟩ (by (try dsimp only);omega))))))))))
  refine BC (AM (AM (BD (Aa (An (Az (I6 U ?_)))))))
  obtain rfl:j=i:=by omega
  obtain rfl:j=k:=by omega
  exact Al ⟨_,rfl,Ws hm hv (by omega) (by omega) (by omega) hs1 hx0 hlow hup⟩ H
 refine Av (Aa (Ab (Ae (Ah 2 U (V U U (AT (z:=((a+b:Nat):Int)) U U U (by rw [AC (by omega) (by omega)];omega)) (V U U (DK (z:=((a+b:Nat):Int)) U U Dr E7 (Fs (by omega) (by omega))) (V U U (Ik (z:=(((a+b) / 2:Nat):Int)) U U U (by omega) (IQ _)) (V U U (DK (z:=(((a+b) / 2:Nat):Int)) U U E7 Dr (AC (by omega) (by omega))) (Ad U (Ac (Aa (Ab ?_))))))))))))
 generalize hmd:(a+b) / 2=md
 refine Ae (Ah 2 U (V U U (AT (z:=((md+m:Nat):Int)) U U U (by rw [AC (by omega) (by omega)];omega)) (Ad U (Ac (Aa (Ab (Ae (Ah 2 U (Ac (Aa (Ab (Ab (Ae (Ah 2 U (V U U (Cp U U U) (Ac (Aa ?_)))))))))))))))))
 refine Ax U (fun h46=>?_) (fun h46=>?_)
 ·refine Ab (Ae (Ah 2 U (V U U (CK (z:=((md+m - b:Nat):Int)) U U U (by rw [AC (by omega) (by omega)];omega)) (Ad U (Ac (Aa (Ae (Ah 2 U (Ac (Aa (Ab (Ae (Ad U (V U U (CK (z:=((md+m - 1:Nat):Int)) U U U (by rw [AC (by omega) (by omega)];omega)) (Ad U (Ac (Aa (Ab (AS (BQ (σ:=Nat×Nat) (fun (i,j)=>[(0,.slice A1 xs.length c2),(1,.int .i64 ((a:Nat):Int)),(2,.int .i64 ((m:Nat):Int)),(3,.int .i64 ((b:Nat):Int)),(4,.func (.func 209) #[] #[]),(18,.int .i64 ((md:Nat):Int)),(19,.int .i64 ((md+m:Nat):Int)),(20,.int .i64 ((i:Nat):Int)),(21,.int .i64 ((j:Nat):Int)),(22,.int .i64 ((md+m - 1:Nat):Int))]) (fun (i,j) w=>(Hd w0 F0 w [Y Ag (.slice A1 xs.length c2) xs] [])∧(md+m - b≤i∧i≤j∧j≤md)∧(i=md+m - b∨∃ u v,xs[i - 1]?=some u∧xs[md+m - i]?=some v∧Bl v.key u.key=false)∧(j=md∨∃ u v,xs[md+m - j - 1]?=some u∧xs[j]?=some v∧Bl u.key v.key=true)) (fun (i,j)=>j - i) (md+m - b,md) ⟨rfl,rfl,rfl,rfl,rfl,rfl,rfl,rfl,rfl,rfl,trivial⟩ ⟨H,by (try dsimp only);omega,.inl rfl,.inl rfl⟩ ?_))))))))))))))))))))
  rintro ⟨i,j⟩ w ⟨H,hij,hlow,hup⟩
  refine Ab (Ab (Ae (Ah 2 U (V U U (Bd U U U) (Ac (Aa ?_))))))
  refine Ax U (fun h47=>?_) (fun h47=>?_)
  ·refine Av (Aa (AS (Ab (Ae (Ah 2 U (V U U (AT (z:=((i+j:Nat):Int)) U U U (by rw [AC (by omega) (by omega)];omega)) (V U U (DK (z:=((i+j:Nat):Int)) U U Dr E7 (Fs (by omega) (by omega))) (V U U (Ik (z:=(((i+j) / 2:Nat):Int)) U U U (by omega) (IQ _)) (V U U (DK (z:=(((i+j) / 2:Nat):Int)) U U E7 Dr (AC (by omega) (by omega))) (Ad U (Ac (Aa (Ab (BY (.e 0 (.e 1 (.e 2 (.e 3 (.e 4 (.e 5 (.e 6 (.e 7 (.e 8 (.e 9 (.e 10 (.m 11 (.e 12 (.e 13 .z)))))))))))))) (fun w=>∃ Ar,Hd w0 F0 w (Y Ag (.slice A1 xs.length c2) xs::Ar) []) mo (by kernel_rfl) (fun w H=>⟨_,H⟩) H (fun w H=>(Au U (Au U (Au U (Au U (Ao U U U (fun w ⟨Ar,H⟩=>CK (z:=((md+m - 1 - ((i+j) / 2):Nat):Int)) U U U (by rw [AC (by omega) (by omega)];omega)) ?_))))))))))))))))))))
   obtain ⟨x48,hx49⟩:∃ z9,xs[md+m - 1 - ((i+j) / 2)]?=some z9:=⟨_,List.getElem?_eq_getElem (show md+m - 1 - ((i+j) / 2)<xs.length by omega)⟩
   have th50:=H.thA 0 rfl hx49
   refine Ao U U U (fun w ⟨Ar,H⟩=>AZ (p:=AP A1+(md+m - 1 - ((i+j) / 2))*2) U BB U U (by omega) (by omega) th50 U) (Ao U U U (fun w ⟨Ar,H⟩=>Bq (cs:=[.string x48.key,.string x48.val]) U Cj U U (H.elsA 0 U hx49 U)) (Au U (Au U ?_)))
   obtain ⟨x51,hx52⟩:∃ z9,xs[(i+j) / 2]?=some z9:=⟨_,List.getElem?_eq_getElem (show (i+j) / 2<xs.length by omega)⟩
   have th53:=H.thA 0 rfl hx52
   refine Ao U U U (fun w ⟨Ar,H⟩=>AZ (p:=AP A1+((i+j) / 2)*2) U BB U U (by omega) (by omega) th53 U) (Ao U U U (fun w ⟨Ar,H⟩=>Bq (cs:=[.string x51.key,.string x51.val]) U Cj U U (H.elsA 0 U hx52 U)) (AO U (sc (Ih x48 x51) H l0 U U (F_ (vs:=[.agg #[.string x48.key,.string x48.val],.agg #[.string x51.key,.string x51.val]]) (fs:=#[]) (cs:=#[]) H6 U U U) ?_)))
   rintro _ _ w ⟨rfl,rfl⟩ H
   refine AE ⟨_,H⟩ (Ao U U U (fun w ⟨Ar,H⟩=>Bd U U U) (Ao U U U (fun w ⟨Ar,H⟩=>D_ U U) (BP (Aa ?_))))
   refine Ax U (fun h54=>?_) (fun h54=>?_)
   ·exact Ae (Ad U (V U U (AT (z:=(((i+j) / 2+1:Nat):Int)) U U U (by rw [AC (by omega) (by omega)];omega)) (Ad U (Ac (AU (Bi (s:=(i,j)) ((i+j) / 2+1,j) ⟨rfl,rfl,rfl,rfl,rfl,rfl,rfl,rfl,rfl,rfl,trivial⟩ ⟨H,by (try dsimp only);omega,.inr ⟨x51,x48,by rw [Nat.add_sub_cancel];exact hx52,by rw [show md+m - ((i+j) / 2+1)=md+m - 1 - (i+j) / 2 by omega];exact hx49,HH h54⟩,hup⟩ (by (try dsimp only);omega)))))))
   exact Ae (Ah 2 U (Ac (AU (Bi (s:=(i,j)) (i,(i+j) / 2) ⟨rfl,rfl,rfl,rfl,rfl,rfl,rfl,rfl,rfl,rfl,trivial⟩ ⟨H,by (try dsimp only);omega,hlow,.inr ⟨x48,x51,by rw [show md+m - (i+j) / 2 - 1=md+m - 1 - (i+j) / 2 by omega];exact hx49,hx52,GM.1 (Classical.not_not.1 h54)⟩⟩ (by (try dsimp only);omega)))))
  refine BC (AM (AM (BD (Aa (Ab ?_)))))
  obtain rfl:j=i:=by omega
  have hlow2:j=a∨md+m - j=b∨∃ u v,xs[j - 1]?=some u∧xs[md+m - j]?=some v∧Bl v.key u.key=false:=hlow.elim (fun h=>.inr (.inl (by omega))) (fun h=>.inr (.inr h))
  have hup2:j=m∨md+m - j=m∨∃ u v,xs[md+m - j - 1]?=some u∧xs[j]?=some v∧Bl u.key v.key=true:=hup.elim (fun h=>.inr (.inl (by omega))) (fun h=>.inr (.inr h))
  have hbd:a≤j∧j≤m∧m≤md+m - j∧md+m - j≤b∧md=j+(md+m - j - m):=by omega
  refine Ae (Ah 2 U (V U U (CK (z:=((md+m - j:Nat):Int)) U U U (by rw [AC (by omega) (by omega)];omega)) (Ad U (Ac (Aa ?_)))))
  refine HF (σ:=List Ap) (fun ys=>[(0,.slice A1 xs.length c2),(1,.int .i64 ((a:Nat):Int)),(2,.int .i64 ((m:Nat):Int)),(3,.int .i64 ((b:Nat):Int)),(4,.func (.func 209) #[] #[]),(18,.int .i64 ((md:Nat):Int)),(20,.int .i64 ((j:Nat):Int)),(24,.int .i64 ((md+m - j:Nat):Int))]) (fun ys w=>(Hd w0 F0 w [Y Ag (.slice A1 xs.length c2) ys] [])∧(CV xs ys (Bn j m (md+m - j)))) ?_ ?_
  ·refine Ab (Ae (Ah 2 U (V U U (Bd U U U) (Ad U ?_))))
   refine AK (d:=181) U (fun h55=>?_) (fun h55=>?_)
   ·refine Ah 2 U (V U U (Bd U U U) (Ad U (Ac (Aa ?_))))
    refine Ax U (fun h56=>?_) (fun h56=>?_)
    ·refine Ae (Ah 5 U (sc (Q3 (.slice A1 xs.length c2) xs j m (md+m - j) (by omega) (by omega) (by omega) (by omega)) H l0 U U (At Px U U) ?_))
     rintro _ _ w ⟨ys57,rfl,hv58⟩ H
     exact Ac (EA ys57 ⟨rfl,rfl,rfl,rfl,rfl,rfl,rfl,rfl,trivial⟩ ⟨H,hv58⟩)
    exact Av (EA xs ⟨rfl,rfl,rfl,rfl,rfl,rfl,rfl,rfl,trivial⟩ ⟨H,KW xs (by omega) (by omega) (by omega)⟩)
   exact Ah 4 U (Ac (Aa (B7 U (Av (EA xs ⟨rfl,rfl,rfl,rfl,rfl,rfl,rfl,rfl,trivial⟩ ⟨H,KW xs (by omega) (by omega) (by omega)⟩)))))
  rintro ys w ⟨H,hv⟩
  have hl:=hv.1
  have hru:=KC hv hbd.1 hbd.2.1 hbd.2.2.1 hbd.2.2.2.1 hbd.2.2.2.2 hs1 hs2
  refine HF (σ:=List Ap) (fun zs=>[(0,.slice A1 xs.length c2),(1,.int .i64 ((a:Nat):Int)),(2,.int .i64 ((m:Nat):Int)),(3,.int .i64 ((b:Nat):Int)),(4,.func (.func 209) #[] #[]),(18,.int .i64 ((md:Nat):Int)),(20,.int .i64 ((j:Nat):Int)),(24,.int .i64 ((md+m - j:Nat):Int))]) (fun zs w=>(Hd w0 F0 w [Y Ag (.slice A1 xs.length c2) zs] [])∧(CU ys zs a md)) ?_ ?_
  ·refine Ab (Ae (Ah 2 U (V U U (Bd U U U) (Ad U ?_))))
   refine AK (d:=195) U (fun h59=>?_) (fun h59=>?_)
   ·refine Ah 2 U (V U U (Bd U U U) (Ad U (Ac (Aa ?_))))
    refine Ax U (fun h60=>?_) (fun h60=>?_)
    ·refine Ae (Ah 5 U (sc (ih (.slice A1 xs.length c2) ys a j md (by omega) (by omega) (by omega) (by omega) (by omega) hru.1 hru.2.1) H l0 U U (At H8 U U) ?_))
     rintro _ _ w ⟨ys61,rfl,hv62⟩ H
     exact Ac (EA ys61 ⟨rfl,rfl,rfl,rfl,rfl,rfl,rfl,rfl,trivial⟩ ⟨H,hv62⟩)
    exact Av (EA ys ⟨rfl,rfl,rfl,rfl,rfl,rfl,rfl,rfl,trivial⟩ ⟨H,CU.refl (G0 hru.1 hru.2.1 (by omega) hbd.1)⟩)
   exact Ah 4 U (Ac (Aa (B7 U (Av (EA ys ⟨rfl,rfl,rfl,rfl,rfl,rfl,rfl,rfl,trivial⟩ ⟨H,CU.refl (G0 hru.1 hru.2.1 (by omega) hbd.1)⟩)))))
  rintro zs w ⟨H,hz⟩
  have hl3:=hz.ins.1
  have hr3:BU zs md (md+m - j):=hru.2.2.1.same (fun t h1 h2=>hz.ins.2.1 t (by omega))
  have hr4:BU zs (md+m - j) b:=hru.2.2.2.same (fun t h1 h2=>hz.ins.2.1 t (by omega))
  refine Ab (Ae (Ah 2 U (V U U (Bd U U U) (Ad U ?_))))
  refine AK (d:=209) U (fun h63=>?_) (fun h63=>?_)
  ·refine Ah 2 U (V U U (Bd U U U) (Ad U (Ac (Aa ?_))))
   refine Ax U (fun h64=>?_) (fun h64=>?_)
   ·refine Ae (Ah 5 U (sc (ih (.slice A1 xs.length c2) zs md (md+m - j) b (by omega) (by omega) (by omega) (by omega) (by omega) hr3 hr4) H l0 U U (At H8 U U) ?_))
    rintro _ _ w ⟨ys65,rfl,hv66⟩ H
    exact Ac (DC U (Al ⟨_,rfl,GU hv hbd.1 hbd.2.1 hbd.2.2.1 hbd.2.2.2.1 (by omega) hbd.2.2.2.2 hs1 hs2 hlow2 hup2 hz hv66⟩ H))
   exact Av (DC U (Al ⟨_,rfl,GU hv hbd.1 hbd.2.1 hbd.2.2.1 hbd.2.2.2.1 (by omega) hbd.2.2.2.2 hs1 hs2 hlow2 hup2 hz (CU.refl (G0 hr3 hr4 (by omega) (by omega)))⟩ H))
  exact Ah 4 U (Ac (Aa (B7 U (Av (DC U (Al ⟨_,rfl,GU hv hbd.1 hbd.2.1 hbd.2.2.1 hbd.2.2.2.1 (by omega) hbd.2.2.2.2 hs1 hs2 hlow2 hup2 hz (CU.refl (G0 hr3 hr4 (by omega) (by omega)))⟩ H))))))
 refine Ab (Ae (Ah 2 U (Ac (Aa (Ae (Ah 2 U (Ac (Aa (Ab (Ae (Ad U (V U U (CK (z:=((md+m - 1:Nat):Int)) U U U (by rw [AC (by omega) (by omega)];omega)) (Ad U (Ac (Aa (Ab (AS (BQ (σ:=Nat×Nat) (fun (i,j)=>[(0,.slice A1 xs.length c2),(1,.int .i64 ((a:Nat):Int)),(2,.int .i64 ((m:Nat):Int)),(3,.int .i64 ((b:Nat):Int)),(4,.func (.func 209) #[] #[]),(18,.int .i64 ((md:Nat):Int)),(19,.int .i64 ((md+m:Nat):Int)),(20,.int .i64 ((i:Nat):Int)),(21,.int .i64 ((j:Nat):Int)),(22,.int .i64 ((md+m - 1:Nat):Int))]) (fun (i,j) w=>(Hd w0 F0 w [Y Ag (.slice A1 xs.length c2) xs] [])∧(a≤i∧i≤j∧j≤m)∧(i=a∨∃ u v,xs[i - 1]?=some u∧xs[md+m - i]?=some v∧Bl v.key u.key=false)∧(j=m∨∃ u v,xs[md+m - j - 1]?=some u∧xs[j]?=some v∧Bl u.key v.key=true)) (fun (i,j)=>j - i) (a,m) ⟨rfl,rfl,rfl,rfl,rfl,rfl,rfl,rfl,rfl,rfl,trivial⟩ ⟨H,by (try dsimp only);omega,.inl rfl,.inl rfl⟩ ?_))))))))))))))))))
 rintro ⟨i,j⟩ w ⟨H,hij,hlow,hup⟩
 refine Ab (Ab (Ae (Ah 2 U (V U U (Bd U U U) (Ac (Aa ?_))))))
 refine Ax U (fun h67=>?_) (fun h67=>?_)
 ·refine Av (Aa (AS (Ab (Ae (Ah 2 U (V U U (AT (z:=((i+j:Nat):Int)) U U U (by rw [AC (by omega) (by omega)];omega)) (V U U (DK (z:=((i+j:Nat):Int)) U U Dr E7 (Fs (by omega) (by omega))) (V U U (Ik (z:=(((i+j) / 2:Nat):Int)) U U U (by omega) (IQ _)) (V U U (DK (z:=(((i+j) / 2:Nat):Int)) U U E7 Dr (AC (by omega) (by omega))) (Ad U (Ac (Aa (Ab (BY (.e 0 (.e 1 (.e 2 (.e 3 (.e 4 (.e 5 (.e 6 (.e 7 (.e 8 (.e 9 (.e 10 (.m 11 (.e 12 (.e 13 .z)))))))))))))) (fun w=>∃ Ar,Hd w0 F0 w (Y Ag (.slice A1 xs.length c2) xs::Ar) []) mo (by kernel_rfl) (fun w H=>⟨_,H⟩) H (fun w H=>(Au U (Au U (Au U (Au U (Ao U U U (fun w ⟨Ar,H⟩=>CK (z:=((md+m - 1 - ((i+j) / 2):Nat):Int)) U U U (by rw [AC (by omega) (by omega)];omega)) ?_))))))))))))))))))))
  obtain ⟨x68,hx69⟩:∃ z9,xs[md+m - 1 - ((i+j) / 2)]?=some z9:=⟨_,List.getElem?_eq_getElem (show md+m - 1 - ((i+j) / 2)<xs.length by omega)⟩
  have th70:=H.thA 0 rfl hx69
  refine Ao U U U (fun w ⟨Ar,H⟩=>AZ (p:=AP A1+(md+m - 1 - ((i+j) / 2))*2) U BB U U (by omega) (by omega) th70 U) (Ao U U U (fun w ⟨Ar,H⟩=>Bq (cs:=[.string x68.key,.string x68.val]) U Cj U U (H.elsA 0 U hx69 U)) (Au U (Au U ?_)))
  obtain ⟨x71,hx72⟩:∃ z9,xs[(i+j) / 2]?=some z9:=⟨_,List.getElem?_eq_getElem (show (i+j) / 2<xs.length by omega)⟩
  have th73:=H.thA 0 rfl hx72
  refine Ao U U U (fun w ⟨Ar,H⟩=>AZ (p:=AP A1+((i+j) / 2)*2) U BB U U (by omega) (by omega) th73 U) (Ao U U U (fun w ⟨Ar,H⟩=>Bq (cs:=[.string x71.key,.string x71.val]) U Cj U U (H.elsA 0 U hx72 U)) (AO U (sc (Ih x68 x71) H l0 U U (F_ (vs:=[.agg #[.string x68.key,.string x68.val],.agg #[.string x71.key,.string x71.val]]) (fs:=#[]) (cs:=#[]) H6 U U U) ?_)))
  rintro _ _ w ⟨rfl,rfl⟩ H
  refine AE ⟨_,H⟩ (Ao U U U (fun w ⟨Ar,H⟩=>Bd U U U) (Ao U U U (fun w ⟨Ar,H⟩=>D_ U U) (BP (Aa ?_))))
  refine Ax U (fun h74=>?_) (fun h74=>?_)
  ·exact Ae (Ad U (V U U (AT (z:=(((i+j) / 2+1:Nat):Int)) U U U (by rw [AC (by omega) (by omega)];omega)) (Ad U (Ac (AU (Bi (s:=(i,j)) ((i+j) / 2+1,j) ⟨rfl,rfl,rfl,rfl,rfl,rfl,rfl,rfl,rfl,rfl,trivial⟩ ⟨H,by (try dsimp only);omega,.inr ⟨x71,x68,by rw [Nat.add_sub_cancel];exact hx72,by rw [show md+m - ((i+j) / 2+1)=md+m - 1 - (i+j) / 2 by omega];exact hx69,HH h74⟩,hup⟩ (by (try dsimp only);omega)))))))
  exact Ae (Ah 2 U (Ac (AU (Bi (s:=(i,j)) (i,(i+j) / 2) ⟨rfl,rfl,rfl,rfl,rfl,rfl,rfl,rfl,rfl,rfl,trivial⟩ ⟨H,by (try dsimp only);omega,hlow,.inr ⟨x68,x71,by rw [show md+m - (i+j) / 2 - 1=md+m - 1 - (i+j) / 2 by omega];exact hx69,hx72,GM.1 (Classical.not_not.1 h74)⟩⟩ (by (try dsimp only);omega)))))
 refine BC (AM (AM (BD (Aa (Ab ?_)))))
 obtain rfl:j=i:=by omega
 have hlow2:j=a∨md+m - j=b∨∃ u v,xs[j - 1]?=some u∧xs[md+m - j]?=some v∧Bl v.key u.key=false:=hlow.elim (fun h=>.inl (by omega)) (fun h=>.inr (.inr h))
 have hup2:j=m∨md+m - j=m∨∃ u v,xs[md+m - j - 1]?=some u∧xs[j]?=some v∧Bl u.key v.key=true:=hup.elim (fun h=>.inl (by omega)) (fun h=>.inr (.inr h))
 have hbd:a≤j∧j≤m∧m≤md+m - j∧md+m - j≤b∧md=j+(md+m - j - m):=by omega
 refine Ae (Ah 2 U (V U U (CK (z:=((md+m - j:Nat):Int)) U U U (by rw [AC (by omega) (by omega)];omega)) (Ad U (Ac (Aa ?_)))))
 refine HF (σ:=List Ap) (fun ys=>[(0,.slice A1 xs.length c2),(1,.int .i64 ((a:Nat):Int)),(2,.int .i64 ((m:Nat):Int)),(3,.int .i64 ((b:Nat):Int)),(4,.func (.func 209) #[] #[]),(18,.int .i64 ((md:Nat):Int)),(20,.int .i64 ((j:Nat):Int)),(24,.int .i64 ((md+m - j:Nat):Int))]) (fun ys w=>(Hd w0 F0 w [Y Ag (.slice A1 xs.length c2) ys] [])∧(CV xs ys (Bn j m (md+m - j)))) ?_ ?_
 ·refine Ab (Ae (Ah 2 U (V U U (Bd U U U) (Ad U ?_))))
  refine AK (d:=181) U (fun h75=>?_) (fun h75=>?_)
  ·refine Ah 2 U (V U U (Bd U U U) (Ad U (Ac (Aa ?_))))
   refine Ax U (fun h76=>?_) (fun h76=>?_)
   ·refine Ae (Ah 5 U (sc (Q3 (.slice A1 xs.length c2) xs j m (md+m - j) (by omega) (by omega) (by omega) (by omega)) H l0 U U (At Px U U) ?_))
    rintro _ _ w ⟨ys77,rfl,hv78⟩ H
    exact Ac (EA ys77 ⟨rfl,rfl,rfl,rfl,rfl,rfl,rfl,rfl,trivial⟩ ⟨H,hv78⟩)
   exact Av (EA xs ⟨rfl,rfl,rfl,rfl,rfl,rfl,rfl,rfl,trivial⟩ ⟨H,KW xs (by omega) (by omega) (by omega)⟩)
  exact Ah 4 U (Ac (Aa (B7 U (Av (EA xs ⟨rfl,rfl,rfl,rfl,rfl,rfl,rfl,rfl,trivial⟩ ⟨H,KW xs (by omega) (by omega) (by omega)⟩)))))
 rintro ys w ⟨H,hv⟩
 have hl:=hv.1
 have hru:=KC hv hbd.1 hbd.2.1 hbd.2.2.1 hbd.2.2.2.1 hbd.2.2.2.2 hs1 hs2
 refine HF (σ:=List Ap) (fun zs=>[(0,.slice A1 xs.length c2),(1,.int .i64 ((a:Nat):Int)),(2,.int .i64 ((m:Nat):Int)),(3,.int .i64 ((b:Nat):Int)),(4,.func (.func 209) #[] #[]),(18,.int .i64 ((md:Nat):Int)),(20,.int .i64 ((j:Nat):Int)),(24,.int .i64 ((md+m - j:Nat):Int))]) (fun zs w=>(Hd w0 F0 w [Y Ag (.slice A1 xs.length c2) zs] [])∧(CU ys zs a md)) ?_ ?_
 ·refine Ab (Ae (Ah 2 U (V U U (Bd U U U) (Ad U ?_))))
  refine AK (d:=195) U (fun h79=>?_) (fun h79=>?_)
  ·refine Ah 2 U (V U U (Bd U U U) (Ad U (Ac (Aa ?_))))
   refine Ax U (fun h80=>?_) (fun h80=>?_)
   ·refine Ae (Ah 5 U (sc (ih (.slice A1 xs.length c2) ys a j md (by omega) (by omega) (by omega) (by omega) (by omega) hru.1 hru.2.1) H l0 U U (At H8 U U) ?_))
    rintro _ _ w ⟨ys81,rfl,hv82⟩ H
    exact Ac (EA ys81 ⟨rfl,rfl,rfl,rfl,rfl,rfl,rfl,rfl,trivial⟩ ⟨H,hv82⟩)
   exact Av (EA ys ⟨rfl,rfl,rfl,rfl,rfl,rfl,rfl,rfl,trivial⟩ ⟨H,CU.refl (G0 hru.1 hru.2.1 (by omega) hbd.1)⟩)
  exact Ah 4 U (Ac (Aa (B7 U (Av (EA ys ⟨rfl,rfl,rfl,rfl,rfl,rfl,rfl,rfl,trivial⟩ ⟨H,CU.refl (G0 hru.1 hru.2.1 (by omega) hbd.1)⟩)))))
 rintro zs w ⟨H,hz⟩
 have hl3:=hz.ins.1
 have hr3:BU zs md (md+m - j):=hru.2.2.1.same (fun t h1 h2=>hz.ins.2.1 t (by omega))
 have hr4:BU zs (md+m - j) b:=hru.2.2.2.same (fun t h1 h2=>hz.ins.2.1 t (by omega))
 refine Ab (Ae (Ah 2 U (V U U (Bd U U U) (Ad U ?_))))
 refine AK (d:=209) U (fun h83=>?_) (fun h83=>?_)
 ·refine Ah 2 U (V U U (Bd U U U) (Ad U (Ac (Aa ?_))))
  refine Ax U (fun h84=>?_) (fun h84=>?_)
  ·refine Ae (Ah 5 U (sc (ih (.slice A1 xs.length c2) zs md (md+m - j) b (by omega) (by omega) (by omega) (by omega) (by omega) hr3 hr4) H l0 U U (At H8 U U) ?_))
   rintro _ _ w ⟨ys85,rfl,hv86⟩ H
   exact Ac (DC U (Al ⟨_,rfl,GU hv hbd.1 hbd.2.1 hbd.2.2.1 hbd.2.2.2.1 (by omega) hbd.2.2.2.2 hs1 hs2 hlow2 hup2 hz hv86⟩ H))
  exact Av (DC U (Al ⟨_,rfl,GU hv hbd.1 hbd.2.1 hbd.2.2.1 hbd.2.2.2.1 (by omega) hbd.2.2.2.2 hs1 hs2 hlow2 hup2 hz (CU.refl (G0 hr3 hr4 (by omega) (by omega)))⟩ H))
 exact Ah 4 U (Ac (Aa (B7 U (Av (DC U (Al ⟨_,rfl,GU hv hbd.1 hbd.2.1 hbd.2.2.1 hbd.2.2.2.1 (by omega) hbd.2.2.2.2 hs1 hs2 hlow2 hup2 hz (CU.refl (G0 hr3 hr4 (by omega) (by omega)))⟩ H))))))
theorem MX:∀ (N:Nat) (v:Value) (xs:List Ap) (a m b:Nat),b - a<N→a<m→m<b→b≤xs.length→xs.length≤1000000→BU xs a m→BU xs m b→Cn Tryz.prog 278 [v,.int .i64 ((a:Nat):Int),.int .i64 ((m:Nat):Int),.int .i64 ((b:Nat):Int),.func (.func 209) #[] #[]] [Y Ag v xs] [] (fun _ Bs=>∃ ys,Bs=[Y Ag v ys]∧CU xs ys a b)
 |0,_,_,_,_,_,h=>absurd h (Nat.not_lt_zero _)
 |N+1,v,xs,a,m,b,h=>fun h1 h2 h3 h4 h5 h6=>Zw N (MX N) v xs a m b h h1 h2 h3 h4 h5 h6
theorem Zq (v:Value) (xs:List Ap) (n:Nat) (hn:n=xs.length) (hb:xs.length≤1000000):
    Cn Tryz.prog 244 [v,.int .i64 ((n:Nat):Int),.func (.func 209) #[] #[]] [Y Ag v xs] [] (fun _ Bs=>∃ ys,Bs=[Y Ag v ys]∧ys=srt xs):=by
 intro w0 F0 H
 obtain ⟨A1,c2,rfl,hc3,hm4,hp5⟩:=H.fA 0 rfl
 refine enter Tryz.func244 U U (Nat.le_of_ble_eq_true U) (Ab (Ae (Ad U (Ac (Aa ?_)))))
 replace H:Hd _ _ _ [Y Ag (.slice A1 xs.length c2) xs] []:=H
 refine Ab (Ae (Ah 3 U (Ac (Aa (Ab (AS (BQ (σ:=Nat×List Ap) (fun (a,ys)=>[(0,.slice A1 xs.length c2),(1,.int .i64 ((n:Nat):Int)),(2,.func (.func 209) #[] #[]),(6,.int .i64 20),(7,.int .i64 ((a:Nat):Int)),(8,.int .i64 ((a+20:Nat):Int))]) (fun (a,ys) w=>(Hd w0 F0 w [Y Ag (.slice A1 xs.length c2) ys] [])∧(a%20=0∧a≤n∧ys.length=xs.length)∧(B6 xs ys)∧(DM ys 0 a 20)) (fun (a,ys)=>n - a) (0,xs) ⟨rfl,rfl,rfl,rfl,rfl,rfl,trivial⟩ ⟨H,by (try dsimp only);omega,B6.refl _,DM.nil _ _⟩ ?_)))))))
 rintro ⟨a,ys⟩ w ⟨H,ha,hst,hbl⟩
 refine Ab (Ab (Ae (Ah 2 U (V U U (Cz U U U) (Ac (Aa ?_))))))
 refine Ax U (fun h6=>?_) (fun h6=>?_)
 ·refine Av (Aa (AS (Ab (Ae (Ah 4 U (sc (O6 (.slice A1 xs.length c2) ys a (a+20) (by omega) (by omega) (by omega)) H l0 U U (At Pt U U) ?_))))))
  rintro _ _ w ⟨ys7,rfl,hv8⟩ H
  replace H:=H.h1 (A:=Y Ag (.slice A1 xs.length c2) ys7)
  exact Ac (Aa (Ab (Ae (Ah 2 U (Ac (Aa (Ae (Ah 2 U (V U U (AT (z:=((a+20+20:Nat):Int)) U U U (by rw [AC (by omega) (by omega)];omega)) (Ad U (Ac (AU (Bi (s:=(a,ys)) (a+20,ys7) ⟨rfl,rfl,rfl,rfl,rfl,rfl,trivial⟩ ⟨H,by (try dsimp only);rw [hv8.ins.1];omega,hst.trans hv8.stab,hbl.more (c:=a / 20) (by omega) (Nat.le_refl _) hv8.ins hv8.srt⟩ (by (try dsimp only);omega))))))))))))))
 refine BC (AM (AM (BD (Aa (Ab (Ae (Ah 4 U (sc (O6 (.slice A1 xs.length c2) ys a n (by omega) (by omega) (by omega)) H l0 U U (At Pt U U) ?_))))))))
 rintro _ _ w ⟨ys9,rfl,hv10⟩ H
 replace H:=H.h1 (A:=Y Ag (.slice A1 xs.length c2) ys9)
 refine Ac (Aa (AS (BQ (σ:=Nat×List Ap) (fun (bs,ys)=>[(0,.slice A1 xs.length c2),(1,.int .i64 ((n:Nat):Int)),(2,.func (.func 209) #[] #[]),(6,.int .i64 ((bs:Nat):Int))]) (fun (bs,ys) w=>(Hd w0 F0 w [Y Ag (.slice A1 xs.length c2) ys] [])∧(20≤bs∧bs≤4000000∧ys.length=xs.length)∧(B6 xs ys)∧(DM ys 0 n bs)) (fun (bs,ys)=>n - bs) (20,ys9) ⟨rfl,rfl,rfl,rfl,trivial⟩ ⟨H,by (try dsimp only);rw [hv10.ins.1];omega,hst.trans hv10.stab,hbl.more (c:=a / 20) (by omega) (by omega) hv10.ins hv10.srt⟩ ?_)))
 rintro ⟨bs,ys⟩ w ⟨H,hbs,hst2,hbl2⟩
 refine Ab (Ab (Ae (Ah 2 U (V U U (Bd U U U) (Ac (Aa ?_))))))
 refine Ax U (fun h11=>?_) (fun h11=>?_)
 ·refine Av (Aa (AS (Ab (Ae (Ad U (V U U (GX (z:=((2*bs:Nat):Int)) U U U (by rw [AC (by omega) (by omega)];omega)) (Ah 2 U (Ac (Aa (Ab (AS (BQ (σ:=Nat×List Ap) (fun (a,zs)=>[(0,.slice A1 xs.length c2),(1,.int .i64 ((n:Nat):Int)),(2,.func (.func 209) #[] #[]),(6,.int .i64 ((bs:Nat):Int)),(7,.int .i64 ((a:Nat):Int)),(8,.int .i64 ((a+2*bs:Nat):Int))]) (fun (a,zs) w=>(Hd w0 F0 w [Y Ag (.slice A1 xs.length c2) zs] [])∧(a≤n∧zs.length=xs.length)∧(∃ c,a=c*(2*bs))∧(B6 xs zs)∧(DM zs 0 a (2*bs))∧(DM zs a n bs)) (fun (a,zs)=>n - a) (0,ys) ⟨rfl,rfl,rfl,rfl,rfl,congrArg (fun z=>some (Value.int .i64 z)) (by (try dsimp only);omega),trivial⟩ ⟨H,by (try dsimp only);omega,⟨0,by simp⟩,hst2,DM.nil _ _,hbl2⟩ ?_))))))))))))
  rintro ⟨a,zs⟩ w ⟨H,ha3,hac,hst3,hlo,hhi⟩
  refine Ab (Ab (Ae (Ah 2 U (V U U (Cz U U U) (Ac (Aa ?_))))))
  refine Ax U (fun h12=>?_) (fun h12=>?_)
  ·refine Av (Aa (AS (Ab (Ae (Ah 4 U (V U U (AT (z:=((a+bs:Nat):Int)) U U U (by rw [AC (by omega) (by omega)];omega)) (Ah 2 U (sc (MX (a+2*bs - a+1) (.slice A1 xs.length c2) zs a (a+bs) (a+2*bs) (by omega) (by omega) (by omega) (by omega) (by omega) (JD hhi hac (by omega)).1 ((JD hhi hac (by omega)).2 _ (by omega) (by omega))) H l0 U U (At H8 U U) ?_))))))))
   rintro _ _ w ⟨ys13,rfl,hv14⟩ H
   replace H:=H.h1 (A:=Y Ag (.slice A1 xs.length c2) ys13)
   exact Ac (Aa (Ab (Ae (Ah 2 U (Ac (Aa (Ae (Ah 2 U (V U U (GX (z:=((2*bs:Nat):Int)) U U U (by rw [AC (by omega) (by omega)];omega)) (V U U (AT (z:=((a+2*bs+2*bs:Nat):Int)) U U U (by rw [AC (by omega) (by omega)];omega)) (Ad U (Ac (AU (Bi (s:=(a,zs)) (a+2*bs,ys13) ⟨rfl,rfl,rfl,rfl,rfl,rfl,trivial⟩ ⟨H,by (try dsimp only);rw [hv14.ins.1];omega,Ww hac,hst3.trans hv14.stab,Ld hlo hac (Nat.le_refl _) hv14,hhi.same (by omega) (fun t ht=>hv14.ins.2.1 t (by omega))⟩ (by (try dsimp only);omega)))))))))))))))
  refine BC (AM (AM (BD (Aa (Ab (Ab (Ae (Ah 2 U (V U U (AT (z:=((a+bs:Nat):Int)) U U U (by rw [AC (by omega) (by omega)];omega)) (Ad U (Ac (Aa (Ab (Ae (Ah 2 U (V U U (Bd U U U) (Ac (Aa ?_))))))))))))))))))
  refine Ax U (fun h15=>?_) (fun h15=>?_)
  ·refine Ae (Ah 5 U (sc (MX (n - a+1) (.slice A1 xs.length c2) zs a (a+bs) n (by omega) (by omega) (by omega) (by omega) (by omega) (JD hhi hac (by omega)).1 ((JD hhi hac (by omega)).2 _ (by omega) (by omega))) H l0 U U (At H8 U U) ?_))
   rintro _ _ w ⟨ys16,rfl,hv17⟩ H
   replace H:=H.h1 (A:=Y Ag (.slice A1 xs.length c2) ys16)
   refine Ac (Aa ?_)
   have hfin:=Ld hlo hac (by omega) hv17
   have hlen4:=hv17.ins.1
   exact Ae (Ad U (V U U (GX (z:=((bs*2:Nat):Int)) U U U (by rw [AC (by omega) (by omega)];omega)) (Ad U (Ac (AU (Bi (s:=(bs,ys)) (bs*2,ys16) ⟨rfl,rfl,rfl,rfl,trivial⟩ ⟨H,by (try dsimp only);omega,hst3.trans hv17.stab,by (try dsimp only);rw [Nat.mul_comm bs 2];exact hfin⟩ (by (try dsimp only);omega)))))))
  refine Av (Aa ?_)
  have hfin:=Ld hlo hac (by omega) (CU.refl (Sq hhi hac (by omega)))
  exact Ae (Ad U (V U U (GX (z:=((bs*2:Nat):Int)) U U U (by rw [AC (by omega) (by omega)];omega)) (Ad U (Ac (AU (Bi (s:=(bs,ys)) (bs*2,zs) ⟨rfl,rfl,rfl,rfl,trivial⟩ ⟨H,by (try dsimp only);omega,hst3,by (try dsimp only);rw [Nat.mul_comm bs 2];exact hfin⟩ (by (try dsimp only);omega)))))))
 exact BC (AM (AM (BD (DC U (Al ⟨_,rfl,Jk hst2 (BU.ord (by rw [hbs.2.2,←hn];exact hbl2.all (by omega)))⟩ H)))))
theorem Ze (v:Value) (xs:List Ap) (hb:xs.length≤1000000):
    Cn Tryz.prog 208 [v,.func (.func 209) #[] #[]] [Y Ag v xs] [] (fun _ Bs=>∃ ys,Bs=[Y Ag v ys]∧ys=srt xs):=by
 intro w0 F0 H
 obtain ⟨A1,c2,rfl,hc3,hm4,hp5⟩:=H.fA 0 rfl
 refine enter Tryz.func208 U U (Nat.le_of_ble_eq_true U) (Ae (Ah 2 U (V U U (A8 U Db U) (Ad U ?_))))
 replace H:Hd _ _ _ [Y Ag (.slice A1 xs.length c2) xs] []:=H
 refine sc (Zq (.slice A1 xs.length c2) xs xs.length (by omega) (by omega)) H l0 U U (At Vg U U) ?_
 rintro _ _ w ⟨ys6,rfl,hv7⟩ H
 exact Ac (DC U (Al ⟨_,rfl,hv7⟩ H))
theorem JF (vxs:Value) (xs:List Ap) (hb:xs.length≤1000000):
    Cn Tryz.prog 123 [vxs] [] [Z Ag vxs xs] (fun v Bs=>Bs=[Y Ag v xs]):=by
 intro w0 F0 H
 obtain ⟨A1,c2,rfl,hc3,hm4,hp5⟩:=H.fR 0 rfl
 refine enter Tryz.func123 U U (Nat.le_of_ble_eq_true U) (Ab (Ae (Ad U (Ac (Aa ?_)))))
 replace H:Hd _ _ _ [] [Z Ag (.slice A1 xs.length c2) xs]:=H
 refine Ab (Ab (Ae (Ad U (V U U (Kz U Db U U) (Ac (Aa ?_))))))
 refine DN (b:=(A1:Option Addr).isNone) U (fun h6=>?_) (fun h6=>?_)
 ·refine Ab (Ae (Ad U (Ac (Aa (An (Az (Aq U U ?_)))))))
  obtain rfl:=H.nilR 0 rfl h6
  replace H:=H.newnil Ag
  exact Al U H
 refine Av (Aa (Ab (Ae (KF U U U BB H (fun b7 w H=>(Ad U ?_))))))
 replace H:=H.newnilA Ag (some ⟨b7,0,none⟩)
 refine Ct (xs:=[]) (ys:=xs) U U U BB Dd U (by decide) U U H (by simp only [List.length_nil];omega) (fun F hA hR=>hR _ (List.mem_of_getElem? (i:=0) U)) (fun v8 w H=>?_)
 replace H:=H.h2 (A:=Y Ag v8 ([]++xs)) (B:=blk b7 [] 106)
 refine Ad U (Ac (Aa (An (Aq U U ?_))))
 rw [List.nil_append] at H
 replace H:=H.k1
 exact Al U H
theorem Mv (vxs:Value) (xs:List Ap) (hb:xs.length≤1000000):
    Cn Tryz.prog 176 [vxs] [] [Z Ag vxs xs] (fun v Bs=>Bs=[Y Ag v (srt xs)]):=by
 intro w0 F0 H
 obtain ⟨A1,c2,rfl,hc3,hm4,hp5⟩:=H.fR 0 rfl
 refine enter Tryz.func176 U U (Nat.le_of_ble_eq_true U) (Ab (Ae (Ad U (Ac (Aa ?_)))))
 replace H:Hd _ _ _ [] [Z Ag (.slice A1 xs.length c2) xs]:=H
 refine Ab (Ae (Ad U (sc (JF (.slice A1 xs.length c2) xs (by first |omega|decide)) H (lR 0 U l0) U U (At J3 U U) ?_)))
 rintro v6 _ w rfl H
 replace H:=H.h1 (A:=Y Ag v6 xs)
 refine Ad U (Ac (Aa (Ab (Ae (Ad U (sc (Ze v6 xs  (by omega)) H l0 U U (At U8 U U) ?_))))))
 rintro _ _ w ⟨ys7,rfl,hv8⟩ H
 replace H:=H.h1 (A:=Y Ag v6 ys7)
 refine Ac (Aa (Ab (Ae (Ah 2 U (Ac (Aa (An (Aq U U ?_))))))))
 subst hv8
 exact Al U H
theorem UB (v:Value) (xs:List Ap) (hb:xs.length≤1000000):
    Cn Tryz.prog 251 [v,.func (.func 209) #[] #[]] [] [Z Ag v xs] (fun v Bs=>v=.bool (decide (CZ xs))∧Bs=[]):=by
 intro w0 F0 H
 obtain ⟨A1,c2,rfl,hc3,hm4,hp5⟩:=H.fR 0 rfl
 refine enter Tryz.func251 U U (Nat.le_of_ble_eq_true U) (Ab (Ae (Ad U (Ac (Aa ?_)))))
 replace H:Hd _ _ _ [] [Z Ag (.slice A1 xs.length c2) xs]:=H
 refine Ab (Ab ?_)
 by_cases h0:xs.length=0
 ·refine Ae (Ad U (V U U (A8 U Db U) (V U U (CK (z:=((xs.length:Nat):Int) - 1) U U U (AC (by omega) (by omega))) (Ad U (Ac (Aa (AS (BQ (σ:=Unit) (fun u=>[(0,.slice A1 xs.length c2),(1,.func (.func 209) #[] #[]),(5,.int .i64 (((xs.length:Nat):Int) - 1))]) (fun u w=>(Hd w0 F0 w [] [Z Ag (.slice A1 xs.length c2) xs])) (fun u=>0) () ⟨rfl,rfl,rfl,trivial⟩ H ?_))))))))
  rintro u w H
  refine Ab (Ab (Ae (Ad U (V U U (Cp U U U) (Ac (Aa ?_))))))
  refine Ax U (fun h6=>?_) (fun h6=>?_)
  ·exfalso;omega
  refine BC (AM (AM (BD (Aa (Ab (Ae (Ad U (Ac (Aa (An (Aq U U ?_)))))))))))
  have ho:CZ xs:=by rw [List.eq_nil_of_length_eq_zero h0];exact List.Pairwise.nil
  exact Al ⟨by rw [decide_eq_true ho]<;>rfl,rfl⟩ H
 refine Ae (Ad U (V U U (A8 U Db U) (V U U (CK (z:=((xs.length - 1:Nat):Int)) U U U (by rw [AC (by omega) (by omega)];omega)) (Ad U (Ac (Aa (AS (BQ (σ:=Nat) (fun j=>[(0,.slice A1 xs.length c2),(1,.func (.func 209) #[] #[]),(5,.int .i64 ((j:Nat):Int))]) (fun j w=>(Hd w0 F0 w [] [Z Ag (.slice A1 xs.length c2) xs])∧(j<xs.length)∧(IC xs j)) (fun j=>j) (xs.length - 1) ⟨rfl,rfl,rfl,trivial⟩ ⟨H,by (try dsimp only);omega,RZ xs⟩ ?_))))))))
 rintro j w ⟨H,hj,had⟩
 refine Ab (Ab (Ae (Ad U (V U U (Cp U U U) (Ac (Aa ?_))))))
 refine Ax U (fun h7=>?_) (fun h7=>?_)
 ·refine Av (Aa (Ab (AS (Ab (BY (.e 0 (.e 1 (.e 2 (.e 3 (.e 4 (.e 5 (.e 6 (.e 7 (.e 8 (.e 9 (.m 10 (.e 11 .z)))))))))))) (fun w=>∃ Ar,Hd w0 F0 w (Ar) [Z Ag (.slice A1 xs.length c2) xs]) mo (by kernel_rfl) (fun w H=>⟨_,H⟩) H (fun w H=>(Au U (Au U (Au U ?_)))))))))
  obtain ⟨x8,hx9⟩:∃ z9,xs[j]?=some z9:=⟨_,List.getElem?_eq_getElem (show j<xs.length by omega)⟩
  have th10:=H.thR 0 rfl hx9
  refine Ao U U U (fun w ⟨Ar,H⟩=>AZ (p:=AP A1+j*2) U BB U U (by omega) (by omega) th10 U) (Ao U U U (fun w ⟨Ar,H⟩=>Bq (cs:=[.string x8.key,.string x8.val]) U Cj U U (H.elsR 0 U hx9 U)) (Au U (Au U (Ao U U U (fun w ⟨Ar,H⟩=>CK (z:=((j - 1:Nat):Int)) U U U (by rw [AC (by omega) (by omega)];omega)) ?_))))
  obtain ⟨x11,hx12⟩:∃ z9,xs[j - 1]?=some z9:=⟨_,List.getElem?_eq_getElem (show j - 1<xs.length by omega)⟩
  have th13:=H.thR 0 rfl hx12
  refine Ao U U U (fun w ⟨Ar,H⟩=>AZ (p:=AP A1+(j - 1)*2) U BB U U (by omega) (by omega) th13 U) (Ao U U U (fun w ⟨Ar,H⟩=>Bq (cs:=[.string x11.key,.string x11.val]) U Cj U U (H.elsR 0 U hx12 U)) (AO U (sc (Ih x8 x11) H l0 U U (F_ (vs:=[.agg #[.string x8.key,.string x8.val],.agg #[.string x11.key,.string x11.val]]) (fs:=#[]) (cs:=#[]) H6 U U U) ?_)))
  rintro _ _ w ⟨rfl,rfl⟩ H
  refine AE ⟨_,H⟩ (Ao U U U (fun w ⟨Ar,H⟩=>Bd U U U) (BP (Aa ?_)))
  refine Ax U (fun h14=>?_) (fun h14=>?_)
  ·refine Ab (Ae (Ad U (Ac (Aa (An (A0 (Az (Az (A0 (Az (Aq U U ?_)))))))))))
   have ho:¬ CZ xs:=fun ho=>by have:=Xb ho (by omega) hx9 hx12;rw [GM.1 h14] at this;cases this
   exact Al ⟨by rw [decide_eq_false ho]<;>rfl,rfl⟩ H
  exact Av (AU (Aa (Ae (Ad U (V U U (CK (z:=((j - 1:Nat):Int)) U U U (by rw [AC (by omega) (by omega)];omega)) (Ad U (Ac (Bi (s:=j) (j - 1) ⟨rfl,rfl,rfl,trivial⟩ ⟨H,by (try dsimp only);omega,R0 had (by omega) hx9 hx12 (HH h14)⟩ (by (try dsimp only);omega)))))))))
 refine BC (AM (AM (BD (Aa (Ab (Ae (Ad U (Ac (Aa (An (Aq U U ?_)))))))))))
 have ho:CZ xs:=R3 ((by omega:j=0)▸had)
 exact Al ⟨by rw [decide_eq_true ho]<;>rfl,rfl⟩ H
theorem Ri (vxs:Value) (xs:List Ap) (hb:xs.length≤1000000):
    Cn Tryz.prog 218 [vxs] [] [Z Ag vxs xs] (fun v Bs=>v=.bool (decide (CZ xs))∧Bs=[]):=by
 intro w0 F0 H
 obtain ⟨A1,c2,rfl,hc3,hm4,hp5⟩:=H.fR 0 rfl
 refine enter Tryz.func218 U U (Nat.le_of_ble_eq_true U) (Ab (Ae (Ad U (Ac (Aa ?_)))))
 replace H:Hd _ _ _ [] [Z Ag (.slice A1 xs.length c2) xs]:=H
 refine Ab (Ae (Ad U (sc (UB (.slice A1 xs.length c2) xs (by omega)) H (lR 0 U l0) U U (At Vo U U) ?_)))
 rintro _ _ w ⟨rfl,rfl⟩ H
 exact Ad U (Ac (Aa (An (Aq U U (Al ⟨rfl,rfl⟩ H)))))
theorem Zf (v:Value) (xs:List ByteArray) (hb:xs.length≤1000000):Cn Tryz.prog 246 [v] [Y Bk v xs] [] (fun _ Bs=>Bs=[Y Bk v (FY xs)]):=
 SU (e1:=Value.string) (s:=FY) (fun xs=>by simp [FY]) (by simp [FY]) (fun p c w=>Go.Proofs.Tryz.slices_Sort_string_none p c w) (fun b c xs w hH hbl hl=>by
  have h:=Go.Proofs.Tryz.slices_Sort_string b 0 c (xs.map Gw) w (O2 hH) hbl (by simp;omega)
  rw [List.length_map] at h
  refine h.mono ?_
  rintro e w' ⟨h1,n,os,h2⟩
  exact ⟨h1,n,os,by rw [h2,QB];rfl⟩) v xs hb
theorem S0 (v:Value) (xs:List ByteArray) (hb:xs.length≤1000000):Cn Tryz.prog 247 [v] [Y Bk v xs] [] (fun u Bs=>Bs=[Y Bk u (Gr xs)]):=
 ST (e1:=Value.string) (s:=Gr) (z:=Jo []) (fun xs=>by have:=NZ (xs.map Gw);simpa [Gr] using this) rfl (fun p c w=>Go.Proofs.Tryz.slices_Compact_string_empty p c w) (fun b c xs w hH hl hc=>by
  have h:=Go.Proofs.Tryz.slices_Compact_string b 0 c (xs.map Gw) w (O2 hH) (by simp;omega) (by simpa using hc)
  rw [List.length_map] at h
  refine h.mono ?_
  rintro e w' ⟨h1,n,h2⟩
  exact ⟨by rw [h1];simp [Gr],n,by rw [h2,QB];simp [Gr]⟩) v xs hb
end Go.Proofs.YthgehekecfpikaaGreatDoor.X
