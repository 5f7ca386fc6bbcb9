/- WorkerNone: texts M3, W1, M4, XCat, S1, S2, N7, N9, N10, WK1, WK2, M5, M7, WK3, joined by a program of ours; what nothing names is left out. -/
import Derived.Test.YthgehekecfpikaaGreatDoorWorkerNoneQ5
set_option linter.unusedVariables false
set_option linter.unusedSimpArgs false
set_option maxHeartbeats 8000000
namespace Go.Proofs.YthgehekecfpikaaGreatDoor.X
open Go
theorem Tu {w0 w:World} {F0:AH} {As Rs:List SP} (H:Hd w0 F0 w As Rs):Hd w0 F0 w (As++[]) Rs:=by rw [List.append_nil];exact H
theorem V3 {w0 w:World} {F0:AH} {As Rs:List SP} (H:Hd w0 F0 w (As++[]) Rs):Hd w0 F0 w As Rs:=by rw [List.append_nil] at H;exact H
set_option maxRecDepth 100000 in
theorem St (c pl:Nat) (sm:Value) (md:Int) (fv:Value) (tx tx2:ByteArray) (Xs Ys Rs:List SP)
  (hcl:Cn Tryz.prog 170 [.pointer (some ⟨pl,0,none⟩)] (blk c [.int .u32 0,.int .i32 1,sm,.int .u32 md,fv,.string tx] 234::Xs) Rs (fun v Bs=>v=.tuple #[]∧Bs=blk c [.int .u32 0,.int .i32 1,sm,.int .u32 md,fv,.string tx2] 234::Ys)):
  Cn Tryz.prog 205 [.pointer (some ⟨c,0,none⟩),.func (.func 170) #[] #[.pointer (some ⟨pl,0,none⟩)]] (blk c [.int .u32 0,.int .i32 0,sm,.int .u32 md,fv,.string tx] 234::Xs) Rs (fun v Bs=>v=.tuple #[]∧Bs=blk c [.int .u32 1,.int .i32 0,sm,.int .u32 md,fv,.string tx2] 234::Ys):=by
 intro w F H
 have hnot:∀ (x:Bool) (w:World),(Op.unary .not (.bool x)).run Tryz.prog w=.ok (.bool (!x)) w:=fun _ _=>rfl
 go_enter_defers Tryz.func205,Tryz.ntmps205
 go_wp2_with (first
  |(go_at_call 241;refine (Ge (As:=Xs) (Pf c 0 sm md fv tx) H l0).mono ?_;rintro e w1 ⟨v,rfl,Bs,⟨rfl,rfl⟩,H1⟩)
  |(go_at_call 144;refine (Ge (Cs:=[]) (JM c 1 sm md fv tx) H1 (lA 0 rfl (fun _ h=>h) l0)).mono ?_;rintro e w2 ⟨v,rfl,Bs,⟨rfl,rfl⟩,H2⟩)
  |(go_at_call 170;refine (Ge (As:=[]) hcl (Tu H2) LN).mono ?_;rintro e w3 ⟨v,rfl,Bs,⟨rfl,rfl⟩,H3n⟩;have H3:=V3 H3n))
 refine leaves_cons (f:=142) (args:=#[.pointer (some ⟨c,0,none⟩),.bool true]) (by simp) (by simp [go_sem]) ?_
 refine (Jc (As:=Ys) (QM c 0 1 sm md fv tx2) H3 l0).mono ?_
 rintro e u' w4 ⟨rfl,v,rfl,Bs,⟨rfl,rfl⟩,H4⟩
 refine leaves_cons (f:=242) (args:=#[.pointer (some ⟨c,1,none⟩)]) (by simp [settle]) (by simp [go_sem]) ?_
 refine (Jc (As:=Ys) (Q0 c 1 sm md fv tx2) H4 l0).mono ?_
 rintro e u' w5 ⟨rfl,v,rfl,Bs,⟨rfl,rfl⟩,H5⟩
 exact ⟨.tuple #[],by simp [results,Tryz.results205],.tuple #[],rfl,_,⟨rfl,rfl⟩,H5⟩
theorem Vs (b ba bb bc cb:Nat) (vS:Value) (vM:Value) (vC:Value) (vR:Value) (vK:Value) (J:AC) (cw ct co:Int) (s:Nat) (att:Int) (hJ:B5 J) (hs:s<J.us.length):
    Cn Tryz.prog 96 [.pointer (some ⟨ba,0,none⟩),.pointer (some ⟨bb,0,none⟩),.pointer (some ⟨bc,0,none⟩)] [blk b [vS,.int .i64 J.parts,vM,vC,vR,.int .i64 J.chunk,.int .i64 J.window,.int .i64 J.fuel,vK,.int .i64 cw,.int .i64 ct,.int .i64 co,.int .i64 ((s:Nat):Int),.int .i64 att,.int .i64 0,.pointer (some ⟨cb,0,none⟩),.slice none 0 0] 164] [blk ba [vS,.int .i64 J.parts,vM,vC,vR,.int .i64 J.chunk,.int .i64 J.window,.int .i64 J.fuel,vK,.int .i64 cw,.int .i64 ct,.int .i64 co] 28,blk bb [.int .i64 ((s:Nat):Int)] 3,blk bc [.pointer (some ⟨b,0,none⟩)] 44,Ab (Ao Ag) vS J.us,Ab Af vM J.map,Ab Af vC J.comb,Ab Af vR J.red,Ab (Ai .i64) vK J.marks,gl] (fun v Bs=>v=.string (AZ (Az dg J s).1)∧Bs=[blk b [vS,.int .i64 J.parts,vM,vC,vR,.int .i64 J.chunk,.int .i64 J.window,.int .i64 J.fuel,vK,.int .i64 cw,.int .i64 ct,.int .i64 co,.int .i64 ((s:Nat):Int),.int .i64 att,.int .i64 ((Az dg J s).2),.pointer (some ⟨cb,0,none⟩),.slice none 0 0] 164]):=by
 intro w0 F0 H
 have hlen:(Az dg J s).1.length≤1000:=by have:=HW dg J s;omega
 have hszs:∀ p∈(Az dg J s).1,p.key.size≤100∧p.val.size≤100:=fun x hx=>by have:=IT HJ hJ s x hx;unfold C5 at this;omega
 refine enter Tryz.func96 U U (Nat.le_of_ble_eq_true U) (Aa (Ae (Ad U (Ac (Z (Aa (Ae (V U U (Aj U CY U) (V U U (Bn (cs:=[vS,.int .i64 J.parts,vM,vC,vR,.int .i64 J.chunk,.int .i64 J.window,.int .i64 J.fuel,vK]) U Ku U U (H.cellsRI 0 U U)) (V U U (Al U AA U (H.cellRI 1 U U)) (sc (YE vS vM vC vR vK J hJ s (by first |assumption|omega|exact hlen|exact hszs)) H (lR 3 U (lR 4 U (lR 5 U (lR 6 U (lR 7 U (lR 8 U l0)))))) U U (Au UW U U) ?_)))))))))))
 rintro _ _ w ⟨u1,rfl,rfl⟩ H
 refine Ah 5 U (Ac (Z ?_))
 replace H:Hd _ _ _ [Y Ag u1 ((Az dg J s).1),blk b [vS,.int .i64 J.parts,vM,vC,vR,.int .i64 J.chunk,.int .i64 J.window,.int .i64 J.fuel,vK,.int .i64 cw,.int .i64 ct,.int .i64 co,.int .i64 ((s:Nat):Int),.int .i64 att,.int .i64 0,.pointer (some ⟨cb,0,none⟩),.slice none 0 0] 164] [blk ba [vS,.int .i64 J.parts,vM,vC,vR,.int .i64 J.chunk,.int .i64 J.window,.int .i64 J.fuel,vK,.int .i64 cw,.int .i64 ct,.int .i64 co] 28,blk bb [.int .i64 ((s:Nat):Int)] 3,blk bc [.pointer (some ⟨b,0,none⟩)] 44,Ab (Ao Ag) vS J.us,Ab Af vM J.map,Ab Af vC J.comb,Ab Af vR J.red,Ab (Ai .i64) vK J.marks,gl]:=H
 refine Aa (Ae (V U U (Al U Fs U (H.cellRI 2 U U)) (Ad U (V U U (AF U U) (V U U (Aj U La U) ?_)))))
 replace H:=H.p1
 refine BD U U U AA U U H U (Nat.le_of_ble_eq_true U) (fun u hu=>by simp [Value.cells] at hu;subst hu;rfl) (fun w H=>?_)
 replace H:=H.h1 (A:=blk b [vS,.int .i64 J.parts,vM,vC,vR,.int .i64 J.chunk,.int .i64 J.window,.int .i64 J.fuel,vK,.int .i64 cw,.int .i64 ct,.int .i64 co,.int .i64 ((s:Nat):Int),.int .i64 att,.int .i64 ((Az dg J s).2),.pointer (some ⟨cb,0,none⟩),.slice none 0 0] 164)
 refine Ac (Z (Aa (Ae (Ad U (sc (WH u1 ((Az dg J s).1) (by first |assumption|omega|exact hlen|exact hszs) (by first |assumption|omega|exact hlen|exact hszs)) H (lA 1 U BE l0) U U (Au U7 U U) ?_)))))
 rintro _ _ w ⟨rfl,rfl⟩ H
 refine Ad U (Ac (Z (Am (Aq U U ?_))))
 replace H:=H.k1
 exact Ak ⟨rfl,rfl⟩ H
theorem Vp (b ba bb bc cb:Nat) (vS:Value) (vM:Value) (vC:Value) (vR:Value) (vK:Value) (J:AC) (cw ct co:Int) (s:Nat) (att:Int) (hJ:B5 J) (hs:s<J.us.length) (pl:Nat) (sm:Value) (md:Int) (tx:ByteArray):
    Cn Tryz.prog 170 [.pointer (some ⟨pl,0,none⟩)] [blk cb [.int .u32 0,.int .i32 1,sm,.int .u32 md,.func (.func 96) #[] #[.pointer (some ⟨ba,0,none⟩),.pointer (some ⟨bb,0,none⟩),.pointer (some ⟨bc,0,none⟩)],.string tx] 234,blk b [vS,.int .i64 J.parts,vM,vC,vR,.int .i64 J.chunk,.int .i64 J.window,.int .i64 J.fuel,vK,.int .i64 cw,.int .i64 ct,.int .i64 co,.int .i64 ((s:Nat):Int),.int .i64 att,.int .i64 0,.pointer (some ⟨cb,0,none⟩),.slice none 0 0] 164] [blk pl [.pointer (some ⟨cb,0,none⟩)] 161,blk ba [vS,.int .i64 J.parts,vM,vC,vR,.int .i64 J.chunk,.int .i64 J.window,.int .i64 J.fuel,vK,.int .i64 cw,.int .i64 ct,.int .i64 co] 28,blk bb [.int .i64 ((s:Nat):Int)] 3,blk bc [.pointer (some ⟨b,0,none⟩)] 44,Ab (Ao Ag) vS J.us,Ab Af vM J.map,Ab Af vC J.comb,Ab Af vR J.red,Ab (Ai .i64) vK J.marks,gl] (fun v Bs=>v=.tuple #[]∧Bs=[blk cb [.int .u32 0,.int .i32 1,sm,.int .u32 md,.func (.func 96) #[] #[.pointer (some ⟨ba,0,none⟩),.pointer (some ⟨bb,0,none⟩),.pointer (some ⟨bc,0,none⟩)],.string (AZ (Az dg J s).1)] 234,blk b [vS,.int .i64 J.parts,vM,vC,vR,.int .i64 J.chunk,.int .i64 J.window,.int .i64 J.fuel,vK,.int .i64 cw,.int .i64 ct,.int .i64 co,.int .i64 ((s:Nat):Int),.int .i64 att,.int .i64 ((Az dg J s).2),.pointer (some ⟨cb,0,none⟩),.slice none 0 0] 164]):=by
 intro w0 F0 H
 refine enter Tryz.func170 U U (Nat.le_of_ble_eq_true U) (Aa (Ae (V U U (Al U DG U (H.cellRI 0 U U)) (V U U (AF U U) (V U U (Aj U Js U) (V U U (Al U Ks U (H.cellI 0 U U)) (V U U (P_ U QU U U) (Ac (Z (Ck U (B1 (.e 0 (.e 1 (.e 2 (.e 3 (.m 4 (.m 5 (.e 6 (.e 7 (.m 8 .z))))))))) (fun w=>∃ Ar,Hd w0 F0 w (Ar) [blk pl [.pointer (some ⟨cb,0,none⟩)] 161,blk ba [vS,.int .i64 J.parts,vM,vC,vR,.int .i64 J.chunk,.int .i64 J.window,.int .i64 J.fuel,vK,.int .i64 cw,.int .i64 ct,.int .i64 co] 28,blk bb [.int .i64 ((s:Nat):Int)] 3,blk bc [.pointer (some ⟨b,0,none⟩)] 44,Ab (Ao Ag) vS J.us,Ab Af vM J.map,Ab Af vC J.comb,Ab Af vR J.red,Ab (Ai .i64) vK J.marks,gl]) mo (by kernel_rfl) (fun w H=>⟨_,H⟩) H (fun w H=>(Ap U U U (fun w ⟨Ar,H⟩=>Al U DG U (H.cellRI 0 U U)) ?_)))))))))))))
 refine Ap U U U (fun w ⟨Ar,H⟩=>Al U DG U (H.cellRI 0 U U)) (Ap U U U (fun w ⟨Ar,H⟩=>AF U U) (Ap U U U (fun w ⟨Ar,H⟩=>Aj U Js U) (AO U (V U U (Al U Ks U (H.cellI 0 U U)) (AJ ⟨_,H⟩ (AO U ?_))))))
 replace H:=H.p1
 replace H:Hd _ _ _ [blk b [vS,.int .i64 J.parts,vM,vC,vR,.int .i64 J.chunk,.int .i64 J.window,.int .i64 J.fuel,vK,.int .i64 cw,.int .i64 ct,.int .i64 co,.int .i64 ((s:Nat):Int),.int .i64 att,.int .i64 0,.pointer (some ⟨cb,0,none⟩),.slice none 0 0] 164,blk cb [.int .u32 0,.int .i32 1,sm,.int .u32 md,.func (.func 96) #[] #[.pointer (some ⟨ba,0,none⟩),.pointer (some ⟨bb,0,none⟩),.pointer (some ⟨bc,0,none⟩)],.string tx] 234] [blk pl [.pointer (some ⟨cb,0,none⟩)] 161,blk ba [vS,.int .i64 J.parts,vM,vC,vR,.int .i64 J.chunk,.int .i64 J.window,.int .i64 J.fuel,vK,.int .i64 cw,.int .i64 ct,.int .i64 co] 28,blk bb [.int .i64 ((s:Nat):Int)] 3,blk bc [.pointer (some ⟨b,0,none⟩)] 44,Ab (Ao Ag) vS J.us,Ab Af vM J.map,Ab Af vC J.comb,Ab Af vR J.red,Ab (Ai .i64) vK J.marks,gl]:=H
 refine sc (Vs b ba bb bc cb vS vM vC vR vK J cw ct co s att hJ hs) H (lR 1 U (lR 2 U (lR 3 U (lR 4 U (lR 5 U (lR 6 U (lR 7 U (lR 8 U (lR 9 U l0))))))))) U U (FP (vs:=[]) (fs:=#[]) (cs:=#[.pointer (some ⟨ba,0,none⟩),.pointer (some ⟨bb,0,none⟩),.pointer (some ⟨bc,0,none⟩)]) U6 U U U) ?_
 rintro _ _ w ⟨rfl,rfl⟩ H
 replace H:=H.h1 (A:=blk b [vS,.int .i64 J.parts,vM,vC,vR,.int .i64 J.chunk,.int .i64 J.window,.int .i64 J.fuel,vK,.int .i64 cw,.int .i64 ct,.int .i64 co,.int .i64 ((s:Nat):Int),.int .i64 att,.int .i64 ((Az dg J s).2),.pointer (some ⟨cb,0,none⟩),.slice none 0 0] 164)
 refine AJ ⟨_,H⟩ (Ap U U U (fun w ⟨Ar,H⟩=>AF U U) (Ap U U U (fun w ⟨Ar,H⟩=>Aj U Im U) (AO U ?_)))
 replace H:=H.p1
 refine BD U U U BR U U H U (Nat.le_of_ble_eq_true U) (fun u hu=>by simp [Value.cells] at hu;subst hu;rfl) (fun w H=>?_)
 replace H:=H.h1 (A:=blk cb [.int .u32 0,.int .i32 1,sm,.int .u32 md,.func (.func 96) #[] #[.pointer (some ⟨ba,0,none⟩),.pointer (some ⟨bb,0,none⟩),.pointer (some ⟨bc,0,none⟩)],.string (AZ (Az dg J s).1)] 234)
 exact AJ ⟨_,H⟩ (BK (Dx U (Ak ⟨rfl,rfl⟩ H)))
theorem Vn (b ba bb bc cb:Nat) (vS:Value) (vM:Value) (vC:Value) (vR:Value) (vK:Value) (J:AC) (cw ct co:Int) (s:Nat) (att:Int) (hJ:B5 J) (hs:s<J.us.length) (pl:Nat) (sm:Value) (md:Int) (tx:ByteArray):
    Cn Tryz.prog 169 [.pointer (some ⟨cb,0,none⟩),.func (.func 170) #[] #[.pointer (some ⟨pl,0,none⟩)]] [blk cb [.int .u32 0,.int .i32 0,sm,.int .u32 md,.func (.func 96) #[] #[.pointer (some ⟨ba,0,none⟩),.pointer (some ⟨bb,0,none⟩),.pointer (some ⟨bc,0,none⟩)],.string tx] 234,blk b [vS,.int .i64 J.parts,vM,vC,vR,.int .i64 J.chunk,.int .i64 J.window,.int .i64 J.fuel,vK,.int .i64 cw,.int .i64 ct,.int .i64 co,.int .i64 ((s:Nat):Int),.int .i64 att,.int .i64 0,.pointer (some ⟨cb,0,none⟩),.slice none 0 0] 164] [blk pl [.pointer (some ⟨cb,0,none⟩)] 161,blk ba [vS,.int .i64 J.parts,vM,vC,vR,.int .i64 J.chunk,.int .i64 J.window,.int .i64 J.fuel,vK,.int .i64 cw,.int .i64 ct,.int .i64 co] 28,blk bb [.int .i64 ((s:Nat):Int)] 3,blk bc [.pointer (some ⟨b,0,none⟩)] 44,Ab (Ao Ag) vS J.us,Ab Af vM J.map,Ab Af vC J.comb,Ab Af vR J.red,Ab (Ai .i64) vK J.marks,gl] (fun v Bs=>v=.tuple #[]∧Bs=[blk cb [.int .u32 1,.int .i32 0,sm,.int .u32 md,.func (.func 96) #[] #[.pointer (some ⟨ba,0,none⟩),.pointer (some ⟨bb,0,none⟩),.pointer (some ⟨bc,0,none⟩)],.string (AZ (Az dg J s).1)] 234,blk b [vS,.int .i64 J.parts,vM,vC,vR,.int .i64 J.chunk,.int .i64 J.window,.int .i64 J.fuel,vK,.int .i64 cw,.int .i64 ct,.int .i64 co,.int .i64 ((s:Nat):Int),.int .i64 att,.int .i64 ((Az dg J s).2),.pointer (some ⟨cb,0,none⟩),.slice none 0 0] 164]):=by
 intro w0 F0 H
 refine enter Tryz.func169 U U (Nat.le_of_ble_eq_true U) (Aa (Ae (Ad U (V U U (AF U U) (V U U (Aj U Lg U) (sc (JM cb 0 sm md (.func (.func 96) #[] #[.pointer (some ⟨ba,0,none⟩),.pointer (some ⟨bb,0,none⟩),.pointer (some ⟨bc,0,none⟩)]) tx) H (lA 0 U (fun _ h=>h) l0) U U (Au JH U U) ?_))))))
 rintro _ _ w ⟨rfl,rfl⟩ H
 refine V U U (Fl U U U) (Ac (Z (Ck U (Ae (Ah 2 U (sc (St cb pl sm md (.func (.func 96) #[] #[.pointer (some ⟨ba,0,none⟩),.pointer (some ⟨bb,0,none⟩),.pointer (some ⟨bc,0,none⟩)]) tx (AZ (Az dg J s).1) [blk b [vS,.int .i64 J.parts,vM,vC,vR,.int .i64 J.chunk,.int .i64 J.window,.int .i64 J.fuel,vK,.int .i64 cw,.int .i64 ct,.int .i64 co,.int .i64 ((s:Nat):Int),.int .i64 att,.int .i64 0,.pointer (some ⟨cb,0,none⟩),.slice none 0 0] 164] [blk b [vS,.int .i64 J.parts,vM,vC,vR,.int .i64 J.chunk,.int .i64 J.window,.int .i64 J.fuel,vK,.int .i64 cw,.int .i64 ct,.int .i64 co,.int .i64 ((s:Nat):Int),.int .i64 att,.int .i64 ((Az dg J s).2),.pointer (some ⟨cb,0,none⟩),.slice none 0 0] 164] [blk pl [.pointer (some ⟨cb,0,none⟩)] 161,blk ba [vS,.int .i64 J.parts,vM,vC,vR,.int .i64 J.chunk,.int .i64 J.window,.int .i64 J.fuel,vK,.int .i64 cw,.int .i64 ct,.int .i64 co] 28,blk bb [.int .i64 ((s:Nat):Int)] 3,blk bc [.pointer (some ⟨b,0,none⟩)] 44,Ab (Ao Ag) vS J.us,Ab Af vM J.map,Ab Af vC J.comb,Ab Af vR J.red,Ab (Ai .i64) vK J.marks,gl] (Vp b ba bb bc cb vS vM vC vR vK J cw ct co s att hJ hs pl sm md tx)) H (lR 0 U (lR 1 U (lR 2 U (lR 3 U (lR 4 U (lR 5 U (lR 6 U (lR 7 U (lR 8 U (lR 9 U l0)))))))))) U U (Au OU U U) ?_))))))
 rintro _ _ w ⟨rfl,rfl⟩ H
 refine Ac (Dx U ?_)
 replace H:Hd _ _ _ [blk cb [.int .u32 1,.int .i32 0,sm,.int .u32 md,.func (.func 96) #[] #[.pointer (some ⟨ba,0,none⟩),.pointer (some ⟨bb,0,none⟩),.pointer (some ⟨bc,0,none⟩)],.string (AZ (Az dg J s).1)] 234,blk b [vS,.int .i64 J.parts,vM,vC,vR,.int .i64 J.chunk,.int .i64 J.window,.int .i64 J.fuel,vK,.int .i64 cw,.int .i64 ct,.int .i64 co,.int .i64 ((s:Nat):Int),.int .i64 att,.int .i64 ((Az dg J s).2),.pointer (some ⟨cb,0,none⟩),.slice none 0 0] 164] [blk pl [.pointer (some ⟨cb,0,none⟩)] 161,blk ba [vS,.int .i64 J.parts,vM,vC,vR,.int .i64 J.chunk,.int .i64 J.window,.int .i64 J.fuel,vK,.int .i64 cw,.int .i64 ct,.int .i64 co] 28,blk bb [.int .i64 ((s:Nat):Int)] 3,blk bc [.pointer (some ⟨b,0,none⟩)] 44,Ab (Ao Ag) vS J.us,Ab Af vM J.map,Ab Af vC J.comb,Ab Af vR J.red,Ab (Ai .i64) vK J.marks,gl]:=H
 exact Ak ⟨rfl,rfl⟩ H
theorem Vo (b ba bb bc cb:Nat) (vS:Value) (vM:Value) (vC:Value) (vR:Value) (vK:Value) (J:AC) (cw ct co:Int) (s:Nat) (att:Int) (hJ:B5 J) (hs:s<J.us.length):
    Cn Tryz.prog 109 [.pointer (some ⟨cb,0,none⟩)] [blk cb [.int .u32 0,.int .i32 0,.int .u32 0,.int .u32 0,.func (.func 96) #[] #[.pointer (some ⟨ba,0,none⟩),.pointer (some ⟨bb,0,none⟩),.pointer (some ⟨bc,0,none⟩)],.string ⟨#[]⟩] 234,blk b [vS,.int .i64 J.parts,vM,vC,vR,.int .i64 J.chunk,.int .i64 J.window,.int .i64 J.fuel,vK,.int .i64 cw,.int .i64 ct,.int .i64 co,.int .i64 ((s:Nat):Int),.int .i64 att,.int .i64 0,.pointer (some ⟨cb,0,none⟩),.slice none 0 0] 164] [blk ba [vS,.int .i64 J.parts,vM,vC,vR,.int .i64 J.chunk,.int .i64 J.window,.int .i64 J.fuel,vK,.int .i64 cw,.int .i64 ct,.int .i64 co] 28,blk bb [.int .i64 ((s:Nat):Int)] 3,blk bc [.pointer (some ⟨b,0,none⟩)] 44,Ab (Ao Ag) vS J.us,Ab Af vM J.map,Ab Af vC J.comb,Ab Af vR J.red,Ab (Ai .i64) vK J.marks,gl] (fun v Bs=>v=.string (AZ (Az dg J s).1)∧Bs=[blk cb [.int .u32 1,.int .i32 0,.int .u32 0,.int .u32 1,.func (.func 96) #[] #[.pointer (some ⟨ba,0,none⟩),.pointer (some ⟨bb,0,none⟩),.pointer (some ⟨bc,0,none⟩)],.string (AZ (Az dg J s).1)] 234,blk b [vS,.int .i64 J.parts,vM,vC,vR,.int .i64 J.chunk,.int .i64 J.window,.int .i64 J.fuel,vK,.int .i64 cw,.int .i64 ct,.int .i64 co,.int .i64 ((s:Nat):Int),.int .i64 att,.int .i64 ((Az dg J s).2),.pointer (some ⟨cb,0,none⟩),.slice none 0 0] 164]):=by
 intro w0 F0 H
 refine enter Tryz.func109 U U (Nat.le_of_ble_eq_true U) (Aa (Ae (Cm U U U U H (fun b1 w H=>(Ad U (Ac (Z ?_)))))))
 replace H:Hd _ _ _ [blk b1 [.pointer (some ⟨cb,0,none⟩)] 161,blk cb [.int .u32 0,.int .i32 0,.int .u32 0,.int .u32 0,.func (.func 96) #[] #[.pointer (some ⟨ba,0,none⟩),.pointer (some ⟨bb,0,none⟩),.pointer (some ⟨bc,0,none⟩)],.string ⟨#[]⟩] 234,blk b [vS,.int .i64 J.parts,vM,vC,vR,.int .i64 J.chunk,.int .i64 J.window,.int .i64 J.fuel,vK,.int .i64 cw,.int .i64 ct,.int .i64 co,.int .i64 ((s:Nat):Int),.int .i64 att,.int .i64 0,.pointer (some ⟨cb,0,none⟩),.slice none 0 0] 164] [blk ba [vS,.int .i64 J.parts,vM,vC,vR,.int .i64 J.chunk,.int .i64 J.window,.int .i64 J.fuel,vK,.int .i64 cw,.int .i64 ct,.int .i64 co] 28,blk bb [.int .i64 ((s:Nat):Int)] 3,blk bc [.pointer (some ⟨b,0,none⟩)] 44,Ab (Ao Ag) vS J.us,Ab Af vM J.map,Ab Af vC J.comb,Ab Af vR J.red,Ab (Ai .i64) vK J.marks,gl]:=H
 refine Aa (Aa (Ae (V U U (Al U DG U (H.cellI 0 U U)) (V U U (CW U I3 U U) (Ac (Z (B7 U (Ax (Z (Aa (Ae (V U U (Al U DG U (H.cellI 0 U U)) (V U U (AF U U) (V U U (Aj U Li U) ?_))))))))))))))
 replace H:=H.p1
 refine sc (MB cb 0 0 (.int .u32 0) 0 (.func (.func 96) #[] #[.pointer (some ⟨ba,0,none⟩),.pointer (some ⟨bb,0,none⟩),.pointer (some ⟨bc,0,none⟩)]) (⟨#[]⟩:ByteArray)) H l0 U U (Au JG U U) ?_
 rintro _ _ w ⟨rfl,rfl⟩ H
 replace H:=H.h1 (A:=blk cb [.int .u32 0,.int .i32 0,.int .u32 0,.int .u32 1,.func (.func 96) #[] #[.pointer (some ⟨ba,0,none⟩),.pointer (some ⟨bb,0,none⟩),.pointer (some ⟨bc,0,none⟩)],.string ⟨#[]⟩] 234)
 refine Ac (Z (Aa (Ae (V U U (Al U DG U (H.cellI 1 U U)) (V U U (AF U U) (V U U (Aj U Lh U) (V U U (G8 (fs:=#[]) (cs:=#[.pointer (some ⟨b1,0,none⟩)]) U U U) ?_)))))))
 replace H:=H.p2.p1
 refine sc (Vn b ba bb bc cb vS vM vC vR vK J cw ct co s att hJ hs b1 (.int .u32 0) 1 ⟨#[]⟩) H (lA 0 U (fun _ h=>h) (lR 0 U (lR 1 U (lR 2 U (lR 3 U (lR 4 U (lR 5 U (lR 6 U (lR 7 U (lR 8 U l0)))))))))) U U (Au LE U U) ?_
 rintro _ _ w ⟨rfl,rfl⟩ H
 replace H:=H.h2 (A:=blk cb [.int .u32 1,.int .i32 0,.int .u32 0,.int .u32 1,.func (.func 96) #[] #[.pointer (some ⟨ba,0,none⟩),.pointer (some ⟨bb,0,none⟩),.pointer (some ⟨bc,0,none⟩)],.string (AZ (Az dg J s).1)] 234) (B:=blk b [vS,.int .i64 J.parts,vM,vC,vR,.int .i64 J.chunk,.int .i64 J.window,.int .i64 J.fuel,vK,.int .i64 cw,.int .i64 ct,.int .i64 co,.int .i64 ((s:Nat):Int),.int .i64 att,.int .i64 ((Az dg J s).2),.pointer (some ⟨cb,0,none⟩),.slice none 0 0] 164)
 refine Ac (Z (Aa (Ae (V U U (Al U DG U (H.cellI 2 U U)) (V U U (AF U U) (V U U (Aj U Im U) (V U U (Al U BR U (H.cellI 0 U U)) (Ad U (Ac (Z (Am (Aq U U ?_))))))))))))
 replace H:=H.k2
 exact Ak ⟨rfl,rfl⟩ H
theorem Vr (b ba bb bc cb:Nat) (vS:Value) (vM:Value) (vC:Value) (vR:Value) (vK:Value) (J:AC) (cw ct co:Int) (s:Nat) (att:Int) (hJ:B5 J) (hs:s<J.us.length):
    Cn Tryz.prog 32 [.pointer (some ⟨b,0,none⟩)] [blk cb [.int .u32 0,.int .i32 0,.int .u32 0,.int .u32 0,.func (.func 96) #[] #[.pointer (some ⟨ba,0,none⟩),.pointer (some ⟨bb,0,none⟩),.pointer (some ⟨bc,0,none⟩)],.string ⟨#[]⟩] 234,blk b [vS,.int .i64 J.parts,vM,vC,vR,.int .i64 J.chunk,.int .i64 J.window,.int .i64 J.fuel,vK,.int .i64 cw,.int .i64 ct,.int .i64 co,.int .i64 ((s:Nat):Int),.int .i64 att,.int .i64 0,.pointer (some ⟨cb,0,none⟩),.slice none 0 0] 164] [blk ba [vS,.int .i64 J.parts,vM,vC,vR,.int .i64 J.chunk,.int .i64 J.window,.int .i64 J.fuel,vK,.int .i64 cw,.int .i64 ct,.int .i64 co] 28,blk bb [.int .i64 ((s:Nat):Int)] 3,blk bc [.pointer (some ⟨b,0,none⟩)] 44,Ab (Ao Ag) vS J.us,Ab Af vM J.map,Ab Af vC J.comb,Ab Af vR J.red,Ab (Ai .i64) vK J.marks,gl] (fun v Bs=>v=.int .i64 ((Az dg J s).2)∧Bs=[blk cb [.int .u32 1,.int .i32 0,.int .u32 0,.int .u32 1,.func (.func 96) #[] #[.pointer (some ⟨ba,0,none⟩),.pointer (some ⟨bb,0,none⟩),.pointer (some ⟨bc,0,none⟩)],.string (AZ (Az dg J s).1)] 234,blk b [vS,.int .i64 J.parts,vM,vC,vR,.int .i64 J.chunk,.int .i64 J.window,.int .i64 J.fuel,vK,.int .i64 cw,.int .i64 ct,.int .i64 co,.int .i64 ((s:Nat):Int),.int .i64 att,.int .i64 ((Az dg J s).2),.pointer (some ⟨cb,0,none⟩),.slice none 0 0] 164]):=by
 intro w0 F0 H
 refine enter Tryz.func32 U U (Nat.le_of_ble_eq_true U) (Aa (Ae (Ad U (Ac (Z (Aa (Aa (Ae (Ad U (V U U (CW U Hi U U) (Ac (Z (B7 U (Ax (Z (Aa (Ae (Ad U (V U U (AF U U) (V U U (Aj U Jo U) (V U U (Al U DG U (H.cellI 1 U U)) (sc (Vo b ba bb bc cb vS vM vC vR vK J cw ct co s att hJ hs) H (lR 0 U (lR 1 U (lR 2 U (lR 3 U (lR 4 U (lR 5 U (lR 6 U (lR 7 U (lR 8 U l0))))))))) U U (Au It U U) ?_))))))))))))))))))))))
 rintro _ _ w ⟨rfl,rfl⟩ H
 refine Ac (Z ?_)
 replace H:Hd _ _ _ [blk cb [.int .u32 1,.int .i32 0,.int .u32 0,.int .u32 1,.func (.func 96) #[] #[.pointer (some ⟨ba,0,none⟩),.pointer (some ⟨bb,0,none⟩),.pointer (some ⟨bc,0,none⟩)],.string (AZ (Az dg J s).1)] 234,blk b [vS,.int .i64 J.parts,vM,vC,vR,.int .i64 J.chunk,.int .i64 J.window,.int .i64 J.fuel,vK,.int .i64 cw,.int .i64 ct,.int .i64 co,.int .i64 ((s:Nat):Int),.int .i64 att,.int .i64 ((Az dg J s).2),.pointer (some ⟨cb,0,none⟩),.slice none 0 0] 164] [blk ba [vS,.int .i64 J.parts,vM,vC,vR,.int .i64 J.chunk,.int .i64 J.window,.int .i64 J.fuel,vK,.int .i64 cw,.int .i64 ct,.int .i64 co] 28,blk bb [.int .i64 ((s:Nat):Int)] 3,blk bc [.pointer (some ⟨b,0,none⟩)] 44,Ab (Ao Ag) vS J.us,Ab Af vM J.map,Ab Af vC J.comb,Ab Af vR J.red,Ab (Ai .i64) vK J.marks,gl]:=H
 exact Aa (Ae (Ad U (V U U (AF U U) (V U U (Aj U La U) (V U U (Al U AA U (H.cellI 1 U U)) (Ad U (Ac (Z (Am (Aq U U (Ak ⟨rfl,rfl⟩ H)))))))))))
theorem Vl (b ba bb bc cb:Nat) (vS:Value) (vM:Value) (vC:Value) (vR:Value) (vK:Value) (J:AC) (cw ct co:Int) (s:Nat) (att:Int) (hJ:B5 J) (hs:s<J.us.length):
    Cn Tryz.prog 30 [.pointer (some ⟨b,0,none⟩)] [blk cb [.int .u32 0,.int .i32 0,.int .u32 0,.int .u32 0,.func (.func 96) #[] #[.pointer (some ⟨ba,0,none⟩),.pointer (some ⟨bb,0,none⟩),.pointer (some ⟨bc,0,none⟩)],.string ⟨#[]⟩] 234,blk b [vS,.int .i64 J.parts,vM,vC,vR,.int .i64 J.chunk,.int .i64 J.window,.int .i64 J.fuel,vK,.int .i64 cw,.int .i64 ct,.int .i64 co,.int .i64 ((s:Nat):Int),.int .i64 att,.int .i64 0,.pointer (some ⟨cb,0,none⟩),.slice none 0 0] 164] [blk ba [vS,.int .i64 J.parts,vM,vC,vR,.int .i64 J.chunk,.int .i64 J.window,.int .i64 J.fuel,vK,.int .i64 cw,.int .i64 ct,.int .i64 co] 28,blk bb [.int .i64 ((s:Nat):Int)] 3,blk bc [.pointer (some ⟨b,0,none⟩)] 44,Ab (Ao Ag) vS J.us,Ab Af vM J.map,Ab Af vC J.comb,Ab Af vR J.red,Ab (Ai .i64) vK J.marks,gl] (fun v Bs=>Bs=[Y (Ai .i64) v (Br dg J s att),blk cb [.int .u32 1,.int .i32 0,.int .u32 0,.int .u32 1,.func (.func 96) #[] #[.pointer (some ⟨ba,0,none⟩),.pointer (some ⟨bb,0,none⟩),.pointer (some ⟨bc,0,none⟩)],.string (AZ (Az dg J s).1)] 234,blk b [vS,.int .i64 J.parts,vM,vC,vR,.int .i64 J.chunk,.int .i64 J.window,.int .i64 J.fuel,vK,.int .i64 cw,.int .i64 ct,.int .i64 co,.int .i64 ((s:Nat):Int),.int .i64 att,.int .i64 ((Az dg J s).2),.pointer (some ⟨cb,0,none⟩),.slice none 0 0] 164]):=by
 intro w0 F0 H
 have hlen:(Az dg J s).1.length≤1000:=by have:=HW dg J s;omega
 have hszs:∀ p∈(Az dg J s).1,p.key.size≤100∧p.val.size≤100:=fun x hx=>by have:=IT HJ hJ s x hx;unfold C5 at this;omega
 have hsk:∀ x∈(Az dg J s).1,x.key.size≤9223372036854775807:=fun x hx=>by have:=(hszs x hx).1;omega
 have hpt:=hJ.parts
 have hck:=hJ.chunk1
 have hol:=IC dg J s
 refine enter Tryz.func30 U U (Nat.le_of_ble_eq_true U) (Aa (Ae (Ad U (Ac (Z (Aa (Aa (Ae (Ad U (V U U (CW U Hi U U) (Ah 2 U (sc (Vr b ba bb bc cb vS vM vC vR vK J cw ct co s att hJ hs) H (lR 0 U (lR 1 U (lR 2 U (lR 3 U (lR 4 U (lR 5 U (lR 6 U (lR 7 U (lR 8 U l0))))))))) U U (Au JK U U) ?_))))))))))))
 rintro _ _ w ⟨rfl,rfl⟩ H
 refine V U U (Dq U U U) (Ad U (Ac (Z ?_)))
 replace H:Hd _ _ _ [blk cb [.int .u32 1,.int .i32 0,.int .u32 0,.int .u32 1,.func (.func 96) #[] #[.pointer (some ⟨ba,0,none⟩),.pointer (some ⟨bb,0,none⟩),.pointer (some ⟨bc,0,none⟩)],.string (AZ (Az dg J s).1)] 234,blk b [vS,.int .i64 J.parts,vM,vC,vR,.int .i64 J.chunk,.int .i64 J.window,.int .i64 J.fuel,vK,.int .i64 cw,.int .i64 ct,.int .i64 co,.int .i64 ((s:Nat):Int),.int .i64 att,.int .i64 ((Az dg J s).2),.pointer (some ⟨cb,0,none⟩),.slice none 0 0] 164] [blk ba [vS,.int .i64 J.parts,vM,vC,vR,.int .i64 J.chunk,.int .i64 J.window,.int .i64 J.fuel,vK,.int .i64 cw,.int .i64 ct,.int .i64 co] 28,blk bb [.int .i64 ((s:Nat):Int)] 3,blk bc [.pointer (some ⟨b,0,none⟩)] 44,Ab (Ao Ag) vS J.us,Ab Af vM J.map,Ab Af vC J.comb,Ab Af vR J.red,Ab (Ai .i64) vK J.marks,gl]:=H
 refine Aw U (fun h1=>?_) (fun h1=>?_)
 ·refine Aa (Ae (Ad U (Ac (Z (Am (Ay (Aq U U ?_)))))))
  replace H:=H.newnil (Ai .i64)|>.tellK (ys:=Br dg J s att) (by rw [NH h1])|>.h1 (A:=Y (Ai .i64) (.slice none 0 0) (Br dg J s att))
  exact Ak U H
 refine Ax (Z (Aa (Ae (Ad U (Ac (Z (Aa (Aa (Ae (Ad U (V U U (AF U U) (V U U (Aj U Jn U) (V U U (Aj U CY U) (V U U (Aj U HC U) (V U U (Al U AA U (H.cellI 1 U U)) (Ad U (Ac (Z (AS ?_)))))))))))))))))))
 replace H:=H.newnil (Ai .i64)|>.tellK (ys:=DP dg J s att 0) (by rfl)
 refine BQ (σ:=Nat×Value) (fun (k,q)=>[(0,.pointer (some ⟨b,0,none⟩)),(2,.slice none 0 0),(3,q),(17,.int .i64 J.parts),(18,.int .i64 ((k:Nat):Int))]) (fun (k,q) w=>(Hd w0 F0 w [Y (Ai .i64) q (DP dg J s att k),blk cb [.int .u32 1,.int .i32 0,.int .u32 0,.int .u32 1,.func (.func 96) #[] #[.pointer (some ⟨ba,0,none⟩),.pointer (some ⟨bb,0,none⟩),.pointer (some ⟨bc,0,none⟩)],.string (AZ (Az dg J s).1)] 234,blk b [vS,.int .i64 J.parts,vM,vC,vR,.int .i64 J.chunk,.int .i64 J.window,.int .i64 J.fuel,vK,.int .i64 cw,.int .i64 ct,.int .i64 co,.int .i64 ((s:Nat):Int),.int .i64 att,.int .i64 ((Az dg J s).2),.pointer (some ⟨cb,0,none⟩),.slice none 0 0] 164] [blk ba [vS,.int .i64 J.parts,vM,vC,vR,.int .i64 J.chunk,.int .i64 J.window,.int .i64 J.fuel,vK,.int .i64 cw,.int .i64 ct,.int .i64 co] 28,blk bb [.int .i64 ((s:Nat):Int)] 3,blk bc [.pointer (some ⟨b,0,none⟩)] 44,Ab (Ao Ag) vS J.us,Ab Af vM J.map,Ab Af vC J.comb,Ab Af vR J.red,Ab (Ai .i64) vK J.marks,gl])∧((k:Int)≤J.parts)) (fun (k,q)=>J.parts.toNat - k) (0,.slice none 0 0) ⟨rfl,rfl,rfl,rfl,rfl,trivial⟩ ⟨H,by omega⟩ ?_
 rintro ⟨k,q⟩ w ⟨H,hk⟩
 have hcl:=Nx dg J s att k
 have holk:=hol ((k:Nat):Int)
 refine Aa (Ae (V U U (Bd U U U) (Ac (Z (Aa ?_)))))
 refine Aw U (fun h2=>?_) (fun h2=>?_)
 ·refine Ax (Z (Aa (AS (Aa (Ae (Ah 2 U (Ac (Z (Ae (Ah 3 U ?_))))))))))
  replace H:=H.p1
  replace H:Hd _ _ _ [blk cb [.int .u32 1,.int .i32 0,.int .u32 0,.int .u32 1,.func (.func 96) #[] #[.pointer (some ⟨ba,0,none⟩),.pointer (some ⟨bb,0,none⟩),.pointer (some ⟨bc,0,none⟩)],.string (AZ (Az dg J s).1)] 234,Y (Ai .i64) q (DP dg J s att k),blk b [vS,.int .i64 J.parts,vM,vC,vR,.int .i64 J.chunk,.int .i64 J.window,.int .i64 J.fuel,vK,.int .i64 cw,.int .i64 ct,.int .i64 co,.int .i64 ((s:Nat):Int),.int .i64 att,.int .i64 ((Az dg J s).2),.pointer (some ⟨cb,0,none⟩),.slice none 0 0] 164] [blk ba [vS,.int .i64 J.parts,vM,vC,vR,.int .i64 J.chunk,.int .i64 J.window,.int .i64 J.fuel,vK,.int .i64 cw,.int .i64 ct,.int .i64 co] 28,blk bb [.int .i64 ((s:Nat):Int)] 3,blk bc [.pointer (some ⟨b,0,none⟩)] 44,Ab (Ao Ag) vS J.us,Ab Af vM J.map,Ab Af vC J.comb,Ab Af vR J.red,Ab (Ai .i64) vK J.marks,gl]:=H
  refine sc (LS b vS vM vC vR vK J cw ct co s att cb (.func (.func 96) #[] #[.pointer (some ⟨ba,0,none⟩),.pointer (some ⟨bb,0,none⟩),.pointer (some ⟨bc,0,none⟩)]) (.slice none 0 0) ((k:Nat):Int) (by first |assumption|omega|exact hlen|exact hszs)) H (lA 1 U (fun _ h=>h) l0) U U (Au LA U U) ?_
  rintro v3 _ w rfl H
  obtain ⟨A4,c5,rfl,hc6,hm7,hp8⟩:=H.fA 0 rfl
  refine V U U (Bf U C7 U) (Ad U ?_)
  replace H:Hd _ _ _ [Y Ag (.slice A4 ((Cr dg J s ((k:Nat):Int)).length) c5) (Cr dg J s ((k:Nat):Int)),blk cb [.int .u32 1,.int .i32 0,.int .u32 0,.int .u32 1,.func (.func 96) #[] #[.pointer (some ⟨ba,0,none⟩),.pointer (some ⟨bb,0,none⟩),.pointer (some ⟨bc,0,none⟩)],.string (AZ (Az dg J s).1)] 234,Y (Ai .i64) q (DP dg J s att k),blk b [vS,.int .i64 J.parts,vM,vC,vR,.int .i64 J.chunk,.int .i64 J.window,.int .i64 J.fuel,vK,.int .i64 cw,.int .i64 ct,.int .i64 co,.int .i64 ((s:Nat):Int),.int .i64 att,.int .i64 ((Az dg J s).2),.pointer (some ⟨cb,0,none⟩),.slice none 0 0] 164] [blk ba [vS,.int .i64 J.parts,vM,vC,vR,.int .i64 J.chunk,.int .i64 J.window,.int .i64 J.fuel,vK,.int .i64 cw,.int .i64 ct,.int .i64 co] 28,blk bb [.int .i64 ((s:Nat):Int)] 3,blk bc [.pointer (some ⟨b,0,none⟩)] 44,Ab (Ao Ag) vS J.us,Ab Af vM J.map,Ab Af vC J.comb,Ab Af vR J.red,Ab (Ai .i64) vK J.marks,gl]:=H
  refine sc (LT b vS vM vC vR vK J cw ct co s att cb (.slice none 0 0) (by first |assumption|omega|exact hlen|exact hszs)) H (lA 3 U (fun _ h=>h) l0) U U (Au LB U U) ?_
  rintro _ _ w ⟨rfl,rfl⟩ H
  refine sc (KM (((Cr dg J s ((k:Nat):Int)).length:Nat):Int) (Df J.chunk att) (by first |assumption|omega|exact hlen|exact hszs)) H l0 U U (Au Lz U U) ?_
  rintro _ _ w ⟨rfl,rfl⟩ H
  refine BW (parts:=[(0,.tmp 28)]) (vs:=[.int .i64 (De (((Cr dg J s ((k:Nat):Int)).length:Nat):Int) (Df J.chunk att))]) (cs:=[.int .i64 (De (((Cr dg J s ((k:Nat):Int)).length:Nat):Int) (Df J.chunk att))]) U U U DW FK U (by decide) (by decide) U U H (fun b9 w H=>?_)
  replace H:=H.p3
  refine CA (xs:=DP dg J s att k) (ys:=[De (((Cr dg J s ((k:Nat):Int)).length:Nat):Int) (Df J.chunk att)]) U U U DW FK U (by decide) U U H (by first |omega|(simp only [List.length_append,List.length_cons,List.length_nil];omega)) (fun F hA hR=>Cp (hA _ (List.mem_of_getElem? (i:=0) U)) U (by decide) (AV.flat_eq.2 U)) (fun v10 w H=>(Ad U (Ac (AU (Z ?_)))))
  replace H:Hd _ _ _ [Y (Ai .i64) v10 ((DP dg J s att k)++[De (((Cr dg J s ((k:Nat):Int)).length:Nat):Int) (Df J.chunk att)]),blk b9 [.int .i64 (De (((Cr dg J s ((k:Nat):Int)).length:Nat):Int) (Df J.chunk att))] 3,Y Ag (.slice A4 ((Cr dg J s ((k:Nat):Int)).length) c5) (Cr dg J s ((k:Nat):Int)),blk cb [.int .u32 1,.int .i32 0,.int .u32 0,.int .u32 1,.func (.func 96) #[] #[.pointer (some ⟨ba,0,none⟩),.pointer (some ⟨bb,0,none⟩),.pointer (some ⟨bc,0,none⟩)],.string (AZ (Az dg J s).1)] 234,blk b [vS,.int .i64 J.parts,vM,vC,vR,.int .i64 J.chunk,.int .i64 J.window,.int .i64 J.fuel,vK,.int .i64 cw,.int .i64 ct,.int .i64 co,.int .i64 ((s:Nat):Int),.int .i64 att,.int .i64 ((Az dg J s).2),.pointer (some ⟨cb,0,none⟩),.slice none 0 0] 164] [blk ba [vS,.int .i64 J.parts,vM,vC,vR,.int .i64 J.chunk,.int .i64 J.window,.int .i64 J.fuel,vK,.int .i64 cw,.int .i64 ct,.int .i64 co] 28,blk bb [.int .i64 ((s:Nat):Int)] 3,blk bc [.pointer (some ⟨b,0,none⟩)] 44,Ab (Ao Ag) vS J.us,Ab Af vM J.map,Ab Af vC J.comb,Ab Af vR J.red,Ab (Ai .i64) vK J.marks,gl]:=H
  refine Ae (V U U (AX (z:=((k+1:Nat):Int)) U U U (by rw [AB (by omega) (by omega)];omega)) (Ad U (Ac ?_)))
  replace H:=H.p4.p4.p2.k3.tellK (ys:=DP dg J s att (k+1)) (by rw [Ny])
  exact Bj (s:=(k,undef)) (k+1,v10) ⟨rfl,rfl,rfl,rfl,rfl,trivial⟩ ⟨H,by (try dsimp only);omega⟩ (by (try dsimp only);omega)
 refine BH (AR (AR (BI (Z (Aa (Ae (Ah 2 U (Ac (Z (Am (Aq U U ?_)))))))))))
 have hkk:k=J.parts.toNat:=by omega
 replace H:=H.tellK (ys:=Br dg J s att) (by rw [NJ (Classical.not_not.1 h1),←hkk])
 replace H:Hd _ _ _ [Y (Ai .i64) q (Br dg J s att),blk cb [.int .u32 1,.int .i32 0,.int .u32 0,.int .u32 1,.func (.func 96) #[] #[.pointer (some ⟨ba,0,none⟩),.pointer (some ⟨bb,0,none⟩),.pointer (some ⟨bc,0,none⟩)],.string (AZ (Az dg J s).1)] 234,blk b [vS,.int .i64 J.parts,vM,vC,vR,.int .i64 J.chunk,.int .i64 J.window,.int .i64 J.fuel,vK,.int .i64 cw,.int .i64 ct,.int .i64 co,.int .i64 ((s:Nat):Int),.int .i64 att,.int .i64 ((Az dg J s).2),.pointer (some ⟨cb,0,none⟩),.slice none 0 0] 164] [blk ba [vS,.int .i64 J.parts,vM,vC,vR,.int .i64 J.chunk,.int .i64 J.window,.int .i64 J.fuel,vK,.int .i64 cw,.int .i64 ct,.int .i64 co] 28,blk bb [.int .i64 ((s:Nat):Int)] 3,blk bc [.pointer (some ⟨b,0,none⟩)] 44,Ab (Ao Ag) vS J.us,Ab Af vM J.map,Ab Af vC J.comb,Ab Af vR J.red,Ab (Ai .i64) vK J.marks,gl]:=H
 exact Ak U H
theorem Vq (ba bb bc:Nat):
    Cn Tryz.prog 95 [.func (.func 96) #[] #[.pointer (some ⟨ba,0,none⟩),.pointer (some ⟨bb,0,none⟩),.pointer (some ⟨bc,0,none⟩)]] [] [] (fun v Bs=>∃ cb,v=.pointer (some ⟨cb,0,none⟩)∧Bs=[blk cb [.int .u32 0,.int .i32 0,.int .u32 0,.int .u32 0,.func (.func 96) #[] #[.pointer (some ⟨ba,0,none⟩),.pointer (some ⟨bb,0,none⟩),.pointer (some ⟨bc,0,none⟩)],.string ⟨#[]⟩] 234]):=by
 intro w0 F0 H
 refine enter Tryz.func95 U U (Nat.le_of_ble_eq_true U) (Aa (Ae (Ad U (Ac (Z (Aa (Ae (Ad U (V U U (CQ (parts:=[(2,.tmp 3)]) (vs:=[.func (.func 96) #[] #[.pointer (some ⟨ba,0,none⟩),.pointer (some ⟨bb,0,none⟩),.pointer (some ⟨bc,0,none⟩)]]) (cs:=[.int .u32 0,.int .i32 0,.int .u32 0,.int .u32 0,.func (.func 96) #[] #[.pointer (some ⟨ba,0,none⟩),.pointer (some ⟨bb,0,none⟩),.pointer (some ⟨bc,0,none⟩)],.string ⟨#[]⟩]) U No U U) (Cm U U U U H (fun b1 w H=>(Ad U (Ac (Z ?_))))))))))))))
 replace H:Hd _ _ _ [blk b1 [.int .u32 0,.int .i32 0,.int .u32 0,.int .u32 0,.func (.func 96) #[] #[.pointer (some ⟨ba,0,none⟩),.pointer (some ⟨bb,0,none⟩),.pointer (some ⟨bc,0,none⟩)],.string ⟨#[]⟩] 234] []:=H
 exact Am (Aq U U (Ak ⟨_,rfl,rfl⟩ H))
theorem ZK (c:Int) (s:Int) (h:0≤c∧c≤40∧1≤s∧s≤4):
    Cn Tryz.prog 98 [.int .i64 c,.int .i64 s] [] [] (fun v Bs=>∃ b,v=.tuple #[.pointer (some ⟨b,0,none⟩),.int .i64 0]∧Bs=[blk b [.int .i64 c,.int .i64 s,.int .i64 0,.int .i64 0] 239]):=by
 intro w0 F0 H
 refine enter Tryz.func98 U U (Nat.le_of_ble_eq_true U) (Aa (Ae (Ah 2 U (Ac (Z (Aa (Aa (Ae (Ad U (V U U (Bd U U U) (Ad U ?_)))))))))))
 refine AN (d:=8) U (fun h1=>?_) (fun h1=>?_)
 ·exact absurd h1 (by omega)
 refine Ad U (V U U (CK U U U) (Ah 2 U ?_))
 refine AN (d:=12) U (fun h2=>?_) (fun h2=>?_)
 ·exact absurd h2 (by omega)
 refine Ad U (V U U (Bd U U U) (Ah 2 U ?_))
 refine AN (d:=16) U (fun h3=>?_) (fun h3=>?_)
 ·exact absurd h3 (by omega)
 refine Ad U (V U U (CK U U U) (Ad U (Ac (Z ?_))))
 refine Aw U (fun h4=>?_) (fun h4=>?_)
 ·exact absurd h4 (by omega)
 refine Ax (Z (Aa (Ae (Ah 2 U (V U U (CQ (parts:=[(0,.tmp 20),(1,.tmp 21)]) (vs:=[.int .i64 c,.int .i64 s]) (cs:=[.int .i64 c,.int .i64 s,.int .i64 0,.int .i64 0]) U Ru U U) (Cm U U U U H (fun b5 w H=>(Ah 2 U (Ac (Z ?_))))))))))
 replace H:Hd _ _ _ [blk b5 [.int .i64 c,.int .i64 s,.int .i64 0,.int .i64 0] 239] []:=H
 exact Am (B_ U U U (Ak ⟨_,rfl,rfl⟩ H))
theorem ZL (b:Nat) (c:Int) (s:Int) (e:Int) (x:Int) (h:0≤c∧c≤40∧1≤s∧s≤4) (hx:0≤x∧x≤c):
    Cn Tryz.prog 108 [.pointer (some ⟨b,0,none⟩)] [] [blk b [.int .i64 c,.int .i64 s,.int .i64 e,.int .i64 x] 239] (fun v Bs=>Bs=[Y (Ai .i64) v (Do c s x)]):=by
 intro w0 F0 H
 refine enter Tryz.func108 U U (Nat.le_of_ble_eq_true U) (Aa (Ae (Ad U (Ac (Z (Aa (Aa (Ae (Ad U (V U U (CW U Zf U U) (Ac (Z (B7 U (Ax (Z (Aa (Ae (Ad U (Ac (Z (Aa (Aa (Gd mo (by kernel_rfl) H (D4 U (Bu U U (fun w H=>AF U U) (Bu U U (fun w H=>Aj U S6 U) (Bu U U (fun w H=>Al U AA U (H.cellRI 0 U U)) (D4 U (Bu U U (fun w H=>AF U U) (Bu U U (fun w H=>Aj U S5 U) (Bu U U (fun w H=>Al U AA U (H.cellRI 0 U U)) (D4 U (Bu U U (fun w H=>AF U U) (Bu U U (fun w H=>Aj U Oc U) (Bu U U (fun w H=>Al U AA U (H.cellRI 0 U U)) (Bu U U (fun w H=>Cz (z:=c - x) U U U (AB (by omega) (by omega))) ?_))))))))))))))))))))))))))))))))))))
 refine Bu U U (fun w H=>G9 (z:=min s (c - x)) U U U U) (D4 U (Gs (fun w H=>(Z (AS ?_)))))
 replace H:=H.newnil (Ai .i64)
 refine BQ (σ:=Nat×Value) (fun (k,l)=>[(0,.pointer (some ⟨b,0,none⟩)),(2,.slice none 0 0),(3,l),(20,.int .i64 (min s (c - x))),(21,.int .i64 ((k:Nat):Int))]) (fun (k,l) w=>(Hd w0 F0 w [Y (Ai .i64) l (Gu x k)] [blk b [.int .i64 c,.int .i64 s,.int .i64 e,.int .i64 x] 239])∧(k≤(min s (c - x)).toNat)) (fun (k,l)=>(min s (c - x)).toNat - k) (0,.slice none 0 0) ⟨rfl,rfl,rfl,rfl,rfl,trivial⟩ ⟨H,by omega⟩ ?_
 rintro ⟨k,l⟩ w ⟨H,hk⟩
 refine Aa (Ae (V U U (Bd U U U) (Ac (Z (Aa ?_)))))
 refine Aw U (fun h1=>?_) (fun h1=>?_)
 ·refine Ax (Z (Aa (AS (Aa (Ae (Ah 2 U (Ac (Z (Ae (Ah 2 U (V U U (AF U U) (V U U (Aj U Oc U) (V U U (Al U AA U (H.cellRI 0 U U)) (Ad U (V U U (AX (z:=x+((k:Nat):Int)) U U U (AB (by omega) (by omega))) (BW (parts:=[(0,.tmp 30)]) (vs:=[.int .i64 (x+((k:Nat):Int))]) (cs:=[.int .i64 (x+((k:Nat):Int))]) U U U DW FK U (by decide) (by decide) U U H (fun b2 w H=>?_)))))))))))))))))
  replace H:=H.p1
  refine CA (xs:=Gu x k) (ys:=[x+((k:Nat):Int)]) U U U DW FK U (by decide) U U H (by simp only [Q2,List.length_cons,List.length_nil];omega) (fun F hA hR=>Cp (hA _ (List.mem_of_getElem? (i:=0) U)) U (by decide) (AV.flat_eq.2 U)) (fun v3 w H=>(Ad U (Ac (AU (Z ?_)))))
  replace H:Hd _ _ _ [Y (Ai .i64) v3 ((Gu x k)++[x+((k:Nat):Int)]),blk b2 [.int .i64 (x+((k:Nat):Int))] 3] [blk b [.int .i64 c,.int .i64 s,.int .i64 e,.int .i64 x] 239]:=H
  refine Ae (V U U (AX (z:=((k+1:Nat):Int)) U U U (by rw [AB (by omega) (by omega)];omega)) (Ad U (Ac ?_)))
  rw [←Zm] at H
  replace H:=H.k1
  exact Bj (s:=(k,undef)) (k+1,v3) ⟨rfl,rfl,rfl,rfl,rfl,trivial⟩ ⟨H,by omega⟩ (by (try dsimp only);omega)
 refine BH (AR (AR (BI (Z (Aa (Ae (Ah 2 U (Ac (Z (Am (Aq U U ?_)))))))))))
 obtain rfl:k=(min s (c - x)).toNat:=by omega
 exact Ak U H
def Ce (b:Nat) (J:AC) (M:BJ):SP:=ex fun vS:Value=>ex fun vM:Value=>ex fun vC:Value=>ex fun vR:Value=>ex fun vK:Value=>ex fun J2:AC=>ex fun cw:Int=>ex fun ct:Int=>ex fun co:Int=>ex fun cb:Nat=>ex fun fv:Value=>ex fun vw:Value=>ex fun ws:List (Nat×B0)=>BU [BS ((Bb J2 J)∧(ws.map Prod.snd=M.ws)),blk b [vS,.int .i64 J2.parts,vM,vC,vR,.int .i64 J2.chunk,.int .i64 J2.window,.int .i64 J2.fuel,vK,.int .i64 cw,.int .i64 ct,.int .i64 co,.int .i64 ((M.sp:Nat):Int),.int .i64 M.att,.int .i64 ((Az dg J2 M.sp).2),.pointer (some ⟨cb,0,none⟩),vw] 164,blk cb [.int .u32 1,.int .i32 0,.int .u32 0,.int .u32 1,fv,.string (AZ (Az dg J2 M.sp).1)] 234,Y (Ao Ag) vS J2.us,Y Af vM J2.map,Y Af vC J2.comb,Y Af vR J2.red,Y (Ai .i64) vK J2.marks,Y Cq vw (ws.map Prod.fst),Bm (Cg 239) ws]
theorem JT (b:Nat) (J:AC) (M:BJ) {w0 w:World} {F0:AH} {As Rs:List SP} (H:Hd w0 F0 w (Ce b J M::As) Rs):∃ vS:Value,∃ vM:Value,∃ vC:Value,∃ vR:Value,∃ vK:Value,∃ J2:AC,∃ cw:Int,∃ ct:Int,∃ co:Int,∃ cb:Nat,∃ fv:Value,∃ vw:Value,∃ ws:List (Nat×B0),((Bb J2 J)∧(ws.map Prod.snd=M.ws))∧Hd w0 F0 w ([blk b [vS,.int .i64 J2.parts,vM,vC,vR,.int .i64 J2.chunk,.int .i64 J2.window,.int .i64 J2.fuel,vK,.int .i64 cw,.int .i64 ct,.int .i64 co,.int .i64 ((M.sp:Nat):Int),.int .i64 M.att,.int .i64 ((Az dg J2 M.sp).2),.pointer (some ⟨cb,0,none⟩),vw] 164,blk cb [.int .u32 1,.int .i32 0,.int .u32 0,.int .u32 1,fv,.string (AZ (Az dg J2 M.sp).1)] 234,Y (Ao Ag) vS J2.us,Y Af vM J2.map,Y Af vC J2.comb,Y Af vR J2.red,Y (Ai .i64) vK J2.marks,Y Cq vw (ws.map Prod.fst),Bm (Cg 239) ws]++As) Rs:=by
 obtain ⟨vS,H⟩:=Hd.exA H
 obtain ⟨vM,H⟩:=Hd.exA H
 obtain ⟨vC,H⟩:=Hd.exA H
 obtain ⟨vR,H⟩:=Hd.exA H
 obtain ⟨vK,H⟩:=Hd.exA H
 obtain ⟨J2,H⟩:=Hd.exA H
 obtain ⟨cw,H⟩:=Hd.exA H
 obtain ⟨ct,H⟩:=Hd.exA H
 obtain ⟨co,H⟩:=Hd.exA H
 obtain ⟨cb,H⟩:=Hd.exA H
 obtain ⟨fv,H⟩:=Hd.exA H
 obtain ⟨vw,H⟩:=Hd.exA H
 obtain ⟨ws,H⟩:=Hd.exA H
 exact ⟨vS,vM,vC,vR,vK,J2,cw,ct,co,cb,fv,vw,ws,H.stA.puA⟩
theorem Ix (b:Nat) (J:AC) (M:BJ) (vS:Value) (vM:Value) (vC:Value) (vR:Value) (vK:Value) (J2:AC) (cw:Int) (ct:Int) (co:Int) (cb:Nat) (fv:Value) (vw:Value) (ws:List (Nat×B0)) {w0 w:World} {F0:AH} {As Rs:List SP} (hp:(Bb J2 J)∧(ws.map Prod.snd=M.ws)) (H:Hd w0 F0 w ([blk b [vS,.int .i64 J2.parts,vM,vC,vR,.int .i64 J2.chunk,.int .i64 J2.window,.int .i64 J2.fuel,vK,.int .i64 cw,.int .i64 ct,.int .i64 co,.int .i64 ((M.sp:Nat):Int),.int .i64 M.att,.int .i64 ((Az dg J2 M.sp).2),.pointer (some ⟨cb,0,none⟩),vw] 164,blk cb [.int .u32 1,.int .i32 0,.int .u32 0,.int .u32 1,fv,.string (AZ (Az dg J2 M.sp).1)] 234,Y (Ao Ag) vS J2.us,Y Af vM J2.map,Y Af vC J2.comb,Y Af vR J2.red,Y (Ai .i64) vK J2.marks,Y Cq vw (ws.map Prod.fst),Bm (Cg 239) ws]++As) Rs):Hd w0 F0 w (Ce b J M::As) Rs:=by
 have H1:=(show Hd w0 F0 w ([BS ((Bb J2 J)∧(ws.map Prod.snd=M.ws)),blk b [vS,.int .i64 J2.parts,vM,vC,vR,.int .i64 J2.chunk,.int .i64 J2.window,.int .i64 J2.fuel,vK,.int .i64 cw,.int .i64 ct,.int .i64 co,.int .i64 ((M.sp:Nat):Int),.int .i64 M.att,.int .i64 ((Az dg J2 M.sp).2),.pointer (some ⟨cb,0,none⟩),vw] 164,blk cb [.int .u32 1,.int .i32 0,.int .u32 0,.int .u32 1,fv,.string (AZ (Az dg J2 M.sp).1)] 234,Y (Ao Ag) vS J2.us,Y Af vM J2.map,Y Af vC J2.comb,Y Af vR J2.red,Y (Ai .i64) vK J2.marks,Y Cq vw (ws.map Prod.fst),Bm (Cg 239) ws]++As) Rs from H.puI hp).stI
 replace H1:=Hd.exI (A:=fun ws:List (Nat×B0)=>BU [BS ((Bb J2 J)∧(ws.map Prod.snd=M.ws)),blk b [vS,.int .i64 J2.parts,vM,vC,vR,.int .i64 J2.chunk,.int .i64 J2.window,.int .i64 J2.fuel,vK,.int .i64 cw,.int .i64 ct,.int .i64 co,.int .i64 ((M.sp:Nat):Int),.int .i64 M.att,.int .i64 ((Az dg J2 M.sp).2),.pointer (some ⟨cb,0,none⟩),vw] 164,blk cb [.int .u32 1,.int .i32 0,.int .u32 0,.int .u32 1,fv,.string (AZ (Az dg J2 M.sp).1)] 234,Y (Ao Ag) vS J2.us,Y Af vM J2.map,Y Af vC J2.comb,Y Af vR J2.red,Y (Ai .i64) vK J2.marks,Y Cq vw (ws.map Prod.fst),Bm (Cg 239) ws]) ws H1
 replace H1:=Hd.exI (A:=fun vw:Value=>ex fun ws:List (Nat×B0)=>BU [BS ((Bb J2 J)∧(ws.map Prod.snd=M.ws)),blk b [vS,.int .i64 J2.parts,vM,vC,vR,.int .i64 J2.chunk,.int .i64 J2.window,.int .i64 J2.fuel,vK,.int .i64 cw,.int .i64 ct,.int .i64 co,.int .i64 ((M.sp:Nat):Int),.int .i64 M.att,.int .i64 ((Az dg J2 M.sp).2),.pointer (some ⟨cb,0,none⟩),vw] 164,blk cb [.int .u32 1,.int .i32 0,.int .u32 0,.int .u32 1,fv,.string (AZ (Az dg J2 M.sp).1)] 234,Y (Ao Ag) vS J2.us,Y Af vM J2.map,Y Af vC J2.comb,Y Af vR J2.red,Y (Ai .i64) vK J2.marks,Y Cq vw (ws.map Prod.fst),Bm (Cg 239) ws]) vw H1
 replace H1:=Hd.exI (A:=fun fv:Value=>ex fun vw:Value=>ex fun ws:List (Nat×B0)=>BU [BS ((Bb J2 J)∧(ws.map Prod.snd=M.ws)),blk b [vS,.int .i64 J2.parts,vM,vC,vR,.int .i64 J2.chunk,.int .i64 J2.window,.int .i64 J2.fuel,vK,.int .i64 cw,.int .i64 ct,.int .i64 co,.int .i64 ((M.sp:Nat):Int),.int .i64 M.att,.int .i64 ((Az dg J2 M.sp).2),.pointer (some ⟨cb,0,none⟩),vw] 164,blk cb [.int .u32 1,.int .i32 0,.int .u32 0,.int .u32 1,fv,.string (AZ (Az dg J2 M.sp).1)] 234,Y (Ao Ag) vS J2.us,Y Af vM J2.map,Y Af vC J2.comb,Y Af vR J2.red,Y (Ai .i64) vK J2.marks,Y Cq vw (ws.map Prod.fst),Bm (Cg 239) ws]) fv H1
 replace H1:=Hd.exI (A:=fun cb:Nat=>ex fun fv:Value=>ex fun vw:Value=>ex fun ws:List (Nat×B0)=>BU [BS ((Bb J2 J)∧(ws.map Prod.snd=M.ws)),blk b [vS,.int .i64 J2.parts,vM,vC,vR,.int .i64 J2.chunk,.int .i64 J2.window,.int .i64 J2.fuel,vK,.int .i64 cw,.int .i64 ct,.int .i64 co,.int .i64 ((M.sp:Nat):Int),.int .i64 M.att,.int .i64 ((Az dg J2 M.sp).2),.pointer (some ⟨cb,0,none⟩),vw] 164,blk cb [.int .u32 1,.int .i32 0,.int .u32 0,.int .u32 1,fv,.string (AZ (Az dg J2 M.sp).1)] 234,Y (Ao Ag) vS J2.us,Y Af vM J2.map,Y Af vC J2.comb,Y Af vR J2.red,Y (Ai .i64) vK J2.marks,Y Cq vw (ws.map Prod.fst),Bm (Cg 239) ws]) cb H1
 replace H1:=Hd.exI (A:=fun co:Int=>ex fun cb:Nat=>ex fun fv:Value=>ex fun vw:Value=>ex fun ws:List (Nat×B0)=>BU [BS ((Bb J2 J)∧(ws.map Prod.snd=M.ws)),blk b [vS,.int .i64 J2.parts,vM,vC,vR,.int .i64 J2.chunk,.int .i64 J2.window,.int .i64 J2.fuel,vK,.int .i64 cw,.int .i64 ct,.int .i64 co,.int .i64 ((M.sp:Nat):Int),.int .i64 M.att,.int .i64 ((Az dg J2 M.sp).2),.pointer (some ⟨cb,0,none⟩),vw] 164,blk cb [.int .u32 1,.int .i32 0,.int .u32 0,.int .u32 1,fv,.string (AZ (Az dg J2 M.sp).1)] 234,Y (Ao Ag) vS J2.us,Y Af vM J2.map,Y Af vC J2.comb,Y Af vR J2.red,Y (Ai .i64) vK J2.marks,Y Cq vw (ws.map Prod.fst),Bm (Cg 239) ws]) co H1
 replace H1:=Hd.exI (A:=fun ct:Int=>ex fun co:Int=>ex fun cb:Nat=>ex fun fv:Value=>ex fun vw:Value=>ex fun ws:List (Nat×B0)=>BU [BS ((Bb J2 J)∧(ws.map Prod.snd=M.ws)),blk b [vS,.int .i64 J2.parts,vM,vC,vR,.int .i64 J2.chunk,.int .i64 J2.window,.int .i64 J2.fuel,vK,.int .i64 cw,.int .i64 ct,.int .i64 co,.int .i64 ((M.sp:Nat):Int),.int .i64 M.att,.int .i64 ((Az dg J2 M.sp).2),.pointer (some ⟨cb,0,none⟩),vw] 164,blk cb [.int .u32 1,.int .i32 0,.int .u32 0,.int .u32 1,fv,.string (AZ (Az dg J2 M.sp).1)] 234,Y (Ao Ag) vS J2.us,Y Af vM J2.map,Y Af vC J2.comb,Y Af vR J2.red,Y (Ai .i64) vK J2.marks,Y Cq vw (ws.map Prod.fst),Bm (Cg 239) ws]) ct H1
 replace H1:=Hd.exI (A:=fun cw:Int=>ex fun ct:Int=>ex fun co:Int=>ex fun cb:Nat=>ex fun fv:Value=>ex fun vw:Value=>ex fun ws:List (Nat×B0)=>BU [BS ((Bb J2 J)∧(ws.map Prod.snd=M.ws)),blk b [vS,.int .i64 J2.parts,vM,vC,vR,.int .i64 J2.chunk,.int .i64 J2.window,.int .i64 J2.fuel,vK,.int .i64 cw,.int .i64 ct,.int .i64 co,.int .i64 ((M.sp:Nat):Int),.int .i64 M.att,.int .i64 ((Az dg J2 M.sp).2),.pointer (some ⟨cb,0,none⟩),vw] 164,blk cb [.int .u32 1,.int .i32 0,.int .u32 0,.int .u32 1,fv,.string (AZ (Az dg J2 M.sp).1)] 234,Y (Ao Ag) vS J2.us,Y Af vM J2.map,Y Af vC J2.comb,Y Af vR J2.red,Y (Ai .i64) vK J2.marks,Y Cq vw (ws.map Prod.fst),Bm (Cg 239) ws]) cw H1
 replace H1:=Hd.exI (A:=fun J2:AC=>ex fun cw:Int=>ex fun ct:Int=>ex fun co:Int=>ex fun cb:Nat=>ex fun fv:Value=>ex fun vw:Value=>ex fun ws:List (Nat×B0)=>BU [BS ((Bb J2 J)∧(ws.map Prod.snd=M.ws)),blk b [vS,.int .i64 J2.parts,vM,vC,vR,.int .i64 J2.chunk,.int .i64 J2.window,.int .i64 J2.fuel,vK,.int .i64 cw,.int .i64 ct,.int .i64 co,.int .i64 ((M.sp:Nat):Int),.int .i64 M.att,.int .i64 ((Az dg J2 M.sp).2),.pointer (some ⟨cb,0,none⟩),vw] 164,blk cb [.int .u32 1,.int .i32 0,.int .u32 0,.int .u32 1,fv,.string (AZ (Az dg J2 M.sp).1)] 234,Y (Ao Ag) vS J2.us,Y Af vM J2.map,Y Af vC J2.comb,Y Af vR J2.red,Y (Ai .i64) vK J2.marks,Y Cq vw (ws.map Prod.fst),Bm (Cg 239) ws]) J2 H1
 replace H1:=Hd.exI (A:=fun vK:Value=>ex fun J2:AC=>ex fun cw:Int=>ex fun ct:Int=>ex fun co:Int=>ex fun cb:Nat=>ex fun fv:Value=>ex fun vw:Value=>ex fun ws:List (Nat×B0)=>BU [BS ((Bb J2 J)∧(ws.map Prod.snd=M.ws)),blk b [vS,.int .i64 J2.parts,vM,vC,vR,.int .i64 J2.chunk,.int .i64 J2.window,.int .i64 J2.fuel,vK,.int .i64 cw,.int .i64 ct,.int .i64 co,.int .i64 ((M.sp:Nat):Int),.int .i64 M.att,.int .i64 ((Az dg J2 M.sp).2),.pointer (some ⟨cb,0,none⟩),vw] 164,blk cb [.int .u32 1,.int .i32 0,.int .u32 0,.int .u32 1,fv,.string (AZ (Az dg J2 M.sp).1)] 234,Y (Ao Ag) vS J2.us,Y Af vM J2.map,Y Af vC J2.comb,Y Af vR J2.red,Y (Ai .i64) vK J2.marks,Y Cq vw (ws.map Prod.fst),Bm (Cg 239) ws]) vK H1
 replace H1:=Hd.exI (A:=fun vR:Value=>ex fun vK:Value=>ex fun J2:AC=>ex fun cw:Int=>ex fun ct:Int=>ex fun co:Int=>ex fun cb:Nat=>ex fun fv:Value=>ex fun vw:Value=>ex fun ws:List (Nat×B0)=>BU [BS ((Bb J2 J)∧(ws.map Prod.snd=M.ws)),blk b [vS,.int .i64 J2.parts,vM,vC,vR,.int .i64 J2.chunk,.int .i64 J2.window,.int .i64 J2.fuel,vK,.int .i64 cw,.int .i64 ct,.int .i64 co,.int .i64 ((M.sp:Nat):Int),.int .i64 M.att,.int .i64 ((Az dg J2 M.sp).2),.pointer (some ⟨cb,0,none⟩),vw] 164,blk cb [.int .u32 1,.int .i32 0,.int .u32 0,.int .u32 1,fv,.string (AZ (Az dg J2 M.sp).1)] 234,Y (Ao Ag) vS J2.us,Y Af vM J2.map,Y Af vC J2.comb,Y Af vR J2.red,Y (Ai .i64) vK J2.marks,Y Cq vw (ws.map Prod.fst),Bm (Cg 239) ws]) vR H1
 replace H1:=Hd.exI (A:=fun vC:Value=>ex fun vR:Value=>ex fun vK:Value=>ex fun J2:AC=>ex fun cw:Int=>ex fun ct:Int=>ex fun co:Int=>ex fun cb:Nat=>ex fun fv:Value=>ex fun vw:Value=>ex fun ws:List (Nat×B0)=>BU [BS ((Bb J2 J)∧(ws.map Prod.snd=M.ws)),blk b [vS,.int .i64 J2.parts,vM,vC,vR,.int .i64 J2.chunk,.int .i64 J2.window,.int .i64 J2.fuel,vK,.int .i64 cw,.int .i64 ct,.int .i64 co,.int .i64 ((M.sp:Nat):Int),.int .i64 M.att,.int .i64 ((Az dg J2 M.sp).2),.pointer (some ⟨cb,0,none⟩),vw] 164,blk cb [.int .u32 1,.int .i32 0,.int .u32 0,.int .u32 1,fv,.string (AZ (Az dg J2 M.sp).1)] 234,Y (Ao Ag) vS J2.us,Y Af vM J2.map,Y Af vC J2.comb,Y Af vR J2.red,Y (Ai .i64) vK J2.marks,Y Cq vw (ws.map Prod.fst),Bm (Cg 239) ws]) vC H1
 replace H1:=Hd.exI (A:=fun vM:Value=>ex fun vC:Value=>ex fun vR:Value=>ex fun vK:Value=>ex fun J2:AC=>ex fun cw:Int=>ex fun ct:Int=>ex fun co:Int=>ex fun cb:Nat=>ex fun fv:Value=>ex fun vw:Value=>ex fun ws:List (Nat×B0)=>BU [BS ((Bb J2 J)∧(ws.map Prod.snd=M.ws)),blk b [vS,.int .i64 J2.parts,vM,vC,vR,.int .i64 J2.chunk,.int .i64 J2.window,.int .i64 J2.fuel,vK,.int .i64 cw,.int .i64 ct,.int .i64 co,.int .i64 ((M.sp:Nat):Int),.int .i64 M.att,.int .i64 ((Az dg J2 M.sp).2),.pointer (some ⟨cb,0,none⟩),vw] 164,blk cb [.int .u32 1,.int .i32 0,.int .u32 0,.int .u32 1,fv,.string (AZ (Az dg J2 M.sp).1)] 234,Y (Ao Ag) vS J2.us,Y Af vM J2.map,Y Af vC J2.comb,Y Af vR J2.red,Y (Ai .i64) vK J2.marks,Y Cq vw (ws.map Prod.fst),Bm (Cg 239) ws]) vM H1
 replace H1:=Hd.exI (A:=fun vS:Value=>ex fun vM:Value=>ex fun vC:Value=>ex fun vR:Value=>ex fun vK:Value=>ex fun J2:AC=>ex fun cw:Int=>ex fun ct:Int=>ex fun co:Int=>ex fun cb:Nat=>ex fun fv:Value=>ex fun vw:Value=>ex fun ws:List (Nat×B0)=>BU [BS ((Bb J2 J)∧(ws.map Prod.snd=M.ws)),blk b [vS,.int .i64 J2.parts,vM,vC,vR,.int .i64 J2.chunk,.int .i64 J2.window,.int .i64 J2.fuel,vK,.int .i64 cw,.int .i64 ct,.int .i64 co,.int .i64 ((M.sp:Nat):Int),.int .i64 M.att,.int .i64 ((Az dg J2 M.sp).2),.pointer (some ⟨cb,0,none⟩),vw] 164,blk cb [.int .u32 1,.int .i32 0,.int .u32 0,.int .u32 1,fv,.string (AZ (Az dg J2 M.sp).1)] 234,Y (Ao Ag) vS J2.us,Y Af vM J2.map,Y Af vC J2.comb,Y Af vR J2.red,Y (Ai .i64) vK J2.marks,Y Cq vw (ws.map Prod.fst),Bm (Cg 239) ws]) vS H1
 exact H1
theorem Vu (vS:Value) (vM:Value) (vC:Value) (vR:Value) (vK:Value) (C:Cf) (s:Int) (att:Int) (hgo:¬ (C1 C∧0≤s∧s<((C.J.us.length:Nat):Int)∧1≤att∧att≤C.t)):
    Cn Tryz.prog 27 [.agg #[vS,.int .i64 C.J.parts,vM,vC,vR,.int .i64 C.J.chunk,.int .i64 C.J.window,.int .i64 C.J.fuel,vK,.int .i64 C.w,.int .i64 C.t,.int .i64 C.o],.int .i64 s,.int .i64 att] [] [Ab (Ao Ag) vS C.J.us,Ab Af vM C.J.map,Ab Af vC C.J.comb,Ab Af vR C.J.red,Ab (Ai .i64) vK C.J.marks] (fun v Bs=>v=.tuple #[.pointer none,.int .i64 2]∧Bs=[]):=by
 intro w0 F0 H
 obtain ⟨A1,c2,rfl,hc3,hm4,hp5⟩:=H.fR 0 rfl
 obtain ⟨A6,c7,rfl,hc8,hm9,hp10⟩:=H.fR 1 rfl
 obtain ⟨A11,c12,rfl,hc13,hm14,hp15⟩:=H.fR 2 rfl
 obtain ⟨A16,c17,rfl,hc18,hm19,hp20⟩:=H.fR 3 rfl
 obtain ⟨A21,c22,rfl,hc23,hm24,hp25⟩:=H.fR 4 rfl
 refine enter Tryz.func27 U U (Nat.le_of_ble_eq_true U) (Aa (Ae (Cm U U U U H (fun b26 w H=>(Cm U U U U H (fun b27 w H=>(Ah 2 U (Ac (Z ?_)))))))))
 replace H:Hd _ _ _ [blk b27 [.int .i64 s] 3,blk b26 [.slice A1 C.J.us.length c2,.int .i64 C.J.parts,.slice A6 C.J.map.length c7,.slice A11 C.J.comb.length c12,.slice A16 C.J.red.length c17,.int .i64 C.J.chunk,.int .i64 C.J.window,.int .i64 C.J.fuel,.slice A21 C.J.marks.length c22,.int .i64 C.w,.int .i64 C.t,.int .i64 C.o] 28] [Ab (Ao Ag) (.slice A1 C.J.us.length c2) C.J.us,Ab Af (.slice A6 C.J.map.length c7) C.J.map,Ab Af (.slice A11 C.J.comb.length c12) C.J.comb,Ab Af (.slice A16 C.J.red.length c17) C.J.red,Ab (Ai .i64) (.slice A21 C.J.marks.length c22) C.J.marks]:=H
 refine Aa (Aa (Ae (V U U (Bn (cs:=[.slice A1 C.J.us.length c2,.int .i64 C.J.parts,.slice A6 C.J.map.length c7,.slice A11 C.J.comb.length c12,.slice A16 C.J.red.length c17,.int .i64 C.J.chunk,.int .i64 C.J.window,.int .i64 C.J.fuel,.slice A21 C.J.marks.length c22,.int .i64 C.w,.int .i64 C.t,.int .i64 C.o]) U DX U U (H.cellsI 1 U U)) (sc (JS (.slice A1 C.J.us.length c2) (.slice A6 C.J.map.length c7) (.slice A11 C.J.comb.length c12) (.slice A16 C.J.red.length c17) (.slice A21 C.J.marks.length c22) C) H (lR 0 U (lR 1 U (lR 2 U (lR 3 U (lR 4 U l0))))) U U (Au JI U U) ?_))))
 rintro _ _ w ⟨rfl,rfl⟩ H
 refine V U U (D7 U U) (Ad U ?_)
 refine AN (d:=16) U (fun h28=>?_) (fun h28=>?_)
 ·refine Ah 12 U (Ah 9 U (Ac (Z ?_)))
  replace H:Hd _ _ _ [blk b27 [.int .i64 s] 3,blk b26 [.slice A1 C.J.us.length c2,.int .i64 C.J.parts,.slice A6 C.J.map.length c7,.slice A11 C.J.comb.length c12,.slice A16 C.J.red.length c17,.int .i64 C.J.chunk,.int .i64 C.J.window,.int .i64 C.J.fuel,.slice A21 C.J.marks.length c22,.int .i64 C.w,.int .i64 C.t,.int .i64 C.o] 28] [Ab (Ao Ag) (.slice A1 C.J.us.length c2) C.J.us,Ab Af (.slice A6 C.J.map.length c7) C.J.map,Ab Af (.slice A11 C.J.comb.length c12) C.J.comb,Ab Af (.slice A16 C.J.red.length c17) C.J.red,Ab (Ai .i64) (.slice A21 C.J.marks.length c22) C.J.marks]:=H
  refine Ck U (Aa (Ae (Ah 2 U (Ac (Z (Am (Ay (B_ U U U ?_))))))))
  replace H:=H.nil
  exact Ak ⟨rfl,rfl⟩ H
 refine V U U (Al U AA U (H.cellI 0 U U)) (V U U (Bd U U U) (Ah 2 U ?_))
 refine AN (d:=20) U (fun h29=>?_) (fun h29=>?_)
 ·refine Ah 12 U (Ah 5 U (Ac (Z ?_)))
  replace H:Hd _ _ _ [blk b27 [.int .i64 s] 3,blk b26 [.slice A1 C.J.us.length c2,.int .i64 C.J.parts,.slice A6 C.J.map.length c7,.slice A11 C.J.comb.length c12,.slice A16 C.J.red.length c17,.int .i64 C.J.chunk,.int .i64 C.J.window,.int .i64 C.J.fuel,.slice A21 C.J.marks.length c22,.int .i64 C.w,.int .i64 C.t,.int .i64 C.o] 28] [Ab (Ao Ag) (.slice A1 C.J.us.length c2) C.J.us,Ab Af (.slice A6 C.J.map.length c7) C.J.map,Ab Af (.slice A11 C.J.comb.length c12) C.J.comb,Ab Af (.slice A16 C.J.red.length c17) C.J.red,Ab (Ai .i64) (.slice A21 C.J.marks.length c22) C.J.marks]:=H
  refine Ck U (Aa (Ae (Ah 2 U (Ac (Z (Am (Ay (B_ U U U ?_))))))))
  replace H:=H.nil
  exact Ak ⟨rfl,rfl⟩ H
 refine V U U (Al U AA U (H.cellI 0 U U)) (V U U (Aj U CY U) (V U U (Aj U Eh U) (V U U (Al U Eo U (H.cellI 1 U U)) (V U U (Bf U EP U) (V U U (CJ U U U) (Ah 2 U ?_))))))
 refine AN (d:=28) U (fun h30=>?_) (fun h30=>?_)
 ·refine Ah 9 U (Ac (Z ?_))
  replace H:Hd _ _ _ [blk b27 [.int .i64 s] 3,blk b26 [.slice A1 C.J.us.length c2,.int .i64 C.J.parts,.slice A6 C.J.map.length c7,.slice A11 C.J.comb.length c12,.slice A16 C.J.red.length c17,.int .i64 C.J.chunk,.int .i64 C.J.window,.int .i64 C.J.fuel,.slice A21 C.J.marks.length c22,.int .i64 C.w,.int .i64 C.t,.int .i64 C.o] 28] [Ab (Ao Ag) (.slice A1 C.J.us.length c2) C.J.us,Ab Af (.slice A6 C.J.map.length c7) C.J.map,Ab Af (.slice A11 C.J.comb.length c12) C.J.comb,Ab Af (.slice A16 C.J.red.length c17) C.J.red,Ab (Ai .i64) (.slice A21 C.J.marks.length c22) C.J.marks]:=H
  refine Ck U (Aa (Ae (Ah 2 U (Ac (Z (Am (Ay (B_ U U U ?_))))))))
  replace H:=H.nil
  exact Ak ⟨rfl,rfl⟩ H
 refine Ad U (V U U (Bd U U U) (Ah 2 U ?_))
 refine AN (d:=32) U (fun h31=>?_) (fun h31=>?_)
 ·refine Ah 5 U (Ac (Z ?_))
  replace H:Hd _ _ _ [blk b27 [.int .i64 s] 3,blk b26 [.slice A1 C.J.us.length c2,.int .i64 C.J.parts,.slice A6 C.J.map.length c7,.slice A11 C.J.comb.length c12,.slice A16 C.J.red.length c17,.int .i64 C.J.chunk,.int .i64 C.J.window,.int .i64 C.J.fuel,.slice A21 C.J.marks.length c22,.int .i64 C.w,.int .i64 C.t,.int .i64 C.o] 28] [Ab (Ao Ag) (.slice A1 C.J.us.length c2) C.J.us,Ab Af (.slice A6 C.J.map.length c7) C.J.map,Ab Af (.slice A11 C.J.comb.length c12) C.J.comb,Ab Af (.slice A16 C.J.red.length c17) C.J.red,Ab (Ai .i64) (.slice A21 C.J.marks.length c22) C.J.marks]:=H
  refine Ck U (Aa (Ae (Ah 2 U (Ac (Z (Am (Ay (B_ U U U ?_))))))))
  replace H:=H.nil
  exact Ak ⟨rfl,rfl⟩ H
 refine Ad U (V U U (Aj U Lk U) (V U U (Al U AA U (H.cellI 1 U U)) (V U U (CK U U U) (Ad U (Ac (Z ?_))))))
 replace H:Hd _ _ _ [blk b27 [.int .i64 s] 3,blk b26 [.slice A1 C.J.us.length c2,.int .i64 C.J.parts,.slice A6 C.J.map.length c7,.slice A11 C.J.comb.length c12,.slice A16 C.J.red.length c17,.int .i64 C.J.chunk,.int .i64 C.J.window,.int .i64 C.J.fuel,.slice A21 C.J.marks.length c22,.int .i64 C.w,.int .i64 C.t,.int .i64 C.o] 28] [Ab (Ao Ag) (.slice A1 C.J.us.length c2) C.J.us,Ab Af (.slice A6 C.J.map.length c7) C.J.map,Ab Af (.slice A11 C.J.comb.length c12) C.J.comb,Ab Af (.slice A16 C.J.red.length c17) C.J.red,Ab (Ai .i64) (.slice A21 C.J.marks.length c22) C.J.marks]:=H
 refine Aw U (fun h32=>?_) (fun h32=>?_)
 ·refine Aa (Ae (Ah 2 U (Ac (Z (Am (Ay (B_ U U U ?_)))))))
  replace H:=H.nil
  exact Ak ⟨rfl,rfl⟩ H
 exact absurd ⟨by first |assumption|exact Classical.not_not.1 (by assumption),by omega,by omega,by omega,by omega⟩ hgo
theorem Vv (vS:Value) (vM:Value) (vC:Value) (vR:Value) (vK:Value) (C:Cf) (s:Nat) (att:Int) (hC:C1 C) (hO:B5 C.J) (hgo:s<C.J.us.length∧1≤att∧att≤C.t):
    Cn Tryz.prog 27 [.agg #[vS,.int .i64 C.J.parts,vM,vC,vR,.int .i64 C.J.chunk,.int .i64 C.J.window,.int .i64 C.J.fuel,vK,.int .i64 C.w,.int .i64 C.t,.int .i64 C.o],.int .i64 ((s:Nat):Int),.int .i64 att] [] [Ab (Ao Ag) vS C.J.us,Ab Af vM C.J.map,Ab Af vC C.J.comb,Ab Af vR C.J.red,Ab (Ai .i64) vK C.J.marks,gl] (fun v Bs=>∃ b:Nat,v=.tuple #[.pointer (some ⟨b,0,none⟩),.int .i64 0]∧Bs=[Ce b C.J (Db dg C.J s att)]):=by
 intro w0 F0 H
 obtain ⟨A1,c2,rfl,hc3,hm4,hp5⟩:=H.fR 0 rfl
 obtain ⟨A6,c7,rfl,hc8,hm9,hp10⟩:=H.fR 1 rfl
 obtain ⟨A11,c12,rfl,hc13,hm14,hp15⟩:=H.fR 2 rfl
 obtain ⟨A16,c17,rfl,hc18,hm19,hp20⟩:=H.fR 3 rfl
 obtain ⟨A21,c22,rfl,hc23,hm24,hp25⟩:=H.fR 4 rfl
 refine enter Tryz.func27 U U (Nat.le_of_ble_eq_true U) (Aa (Ae (Cm U U U U H (fun b26 w H=>(Cm U U U U H (fun b27 w H=>(Ah 2 U (Ac (Z ?_)))))))))
 replace H:Hd _ _ _ [blk b27 [.int .i64 ((s:Nat):Int)] 3,blk b26 [.slice A1 C.J.us.length c2,.int .i64 C.J.parts,.slice A6 C.J.map.length c7,.slice A11 C.J.comb.length c12,.slice A16 C.J.red.length c17,.int .i64 C.J.chunk,.int .i64 C.J.window,.int .i64 C.J.fuel,.slice A21 C.J.marks.length c22,.int .i64 C.w,.int .i64 C.t,.int .i64 C.o] 28] [Ab (Ao Ag) (.slice A1 C.J.us.length c2) C.J.us,Ab Af (.slice A6 C.J.map.length c7) C.J.map,Ab Af (.slice A11 C.J.comb.length c12) C.J.comb,Ab Af (.slice A16 C.J.red.length c17) C.J.red,Ab (Ai .i64) (.slice A21 C.J.marks.length c22) C.J.marks,gl]:=H
 refine Aa (Aa (Ae (V U U (Bn (cs:=[.slice A1 C.J.us.length c2,.int .i64 C.J.parts,.slice A6 C.J.map.length c7,.slice A11 C.J.comb.length c12,.slice A16 C.J.red.length c17,.int .i64 C.J.chunk,.int .i64 C.J.window,.int .i64 C.J.fuel,.slice A21 C.J.marks.length c22,.int .i64 C.w,.int .i64 C.t,.int .i64 C.o]) U DX U U (H.cellsI 1 U U)) (sc (JS (.slice A1 C.J.us.length c2) (.slice A6 C.J.map.length c7) (.slice A11 C.J.comb.length c12) (.slice A16 C.J.red.length c17) (.slice A21 C.J.marks.length c22) C) H (lR 0 U (lR 1 U (lR 2 U (lR 3 U (lR 4 U l0))))) U U (Au JI U U) ?_))))
 rintro _ _ w ⟨rfl,rfl⟩ H
 refine V U U (D7 U U) (Ad U ?_)
 refine AN (d:=16) U (fun h28=>?_) (fun h28=>?_)
 ·first |exact (h28 hC).elim|(exfalso;omega)
 refine V U U (Al U AA U (H.cellI 0 U U)) (V U U (Bd U U U) (Ah 2 U ?_))
 refine AN (d:=20) U (fun h29=>?_) (fun h29=>?_)
 ·first |exact (h29 hC).elim|(exfalso;omega)
 refine V U U (Al U AA U (H.cellI 0 U U)) (V U U (Aj U CY U) (V U U (Aj U Eh U) (V U U (Al U Eo U (H.cellI 1 U U)) (V U U (Bf U EP U) (V U U (CJ U U U) (Ah 2 U ?_))))))
 refine AN (d:=28) U (fun h30=>?_) (fun h30=>?_)
 ·first |exact (h30 hC).elim|(exfalso;omega)
 refine Ad U (V U U (Bd U U U) (Ah 2 U ?_))
 refine AN (d:=32) U (fun h31=>?_) (fun h31=>?_)
 ·first |exact (h31 hC).elim|(exfalso;omega)
 refine Ad U (V U U (Aj U Lk U) (V U U (Al U AA U (H.cellI 1 U U)) (V U U (CK U U U) (Ad U (Ac (Z ?_))))))
 replace H:Hd _ _ _ [blk b27 [.int .i64 ((s:Nat):Int)] 3,blk b26 [.slice A1 C.J.us.length c2,.int .i64 C.J.parts,.slice A6 C.J.map.length c7,.slice A11 C.J.comb.length c12,.slice A16 C.J.red.length c17,.int .i64 C.J.chunk,.int .i64 C.J.window,.int .i64 C.J.fuel,.slice A21 C.J.marks.length c22,.int .i64 C.w,.int .i64 C.t,.int .i64 C.o] 28] [Ab (Ao Ag) (.slice A1 C.J.us.length c2) C.J.us,Ab Af (.slice A6 C.J.map.length c7) C.J.map,Ab Af (.slice A11 C.J.comb.length c12) C.J.comb,Ab Af (.slice A16 C.J.red.length c17) C.J.red,Ab (Ai .i64) (.slice A21 C.J.marks.length c22) C.J.marks,gl]:=H
 refine Aw U (fun h32=>?_) (fun h32=>?_)
 ·first |exact (h32 hC).elim|(exfalso;omega)
 refine Ax (Z (Aa (Ae (V U U (Bn (cs:=[.slice A1 C.J.us.length c2,.int .i64 C.J.parts,.slice A6 C.J.map.length c7,.slice A11 C.J.comb.length c12,.slice A16 C.J.red.length c17,.int .i64 C.J.chunk,.int .i64 C.J.window,.int .i64 C.J.fuel,.slice A21 C.J.marks.length c22,.int .i64 C.w,.int .i64 C.t,.int .i64 C.o]) U DX U U (H.cellsI 1 U U)) (sc (L5 (.slice A1 C.J.us.length c2) (.slice A6 C.J.map.length c7) (.slice A11 C.J.comb.length c12) (.slice A16 C.J.red.length c17) (.slice A21 C.J.marks.length c22) C (by first |assumption|omega)) H (lR 0 U (lR 1 U (lR 2 U (lR 3 U (lR 4 U l0))))) U U (Au LM U U) ?_)))))
 rintro _ _ w ⟨J33,vS34,vM35,vC36,vR37,vK38,rfl,rfl,hf39⟩ H
 have hsj:=hf39
 have hJ:B5 J33:=hsj.symm.ok hO
 have hs:s<J33.us.length:=by have:=hsj.len;omega
 have hpt:=hJ.parts
 have hwi:=hJ.window1
 have hcl:(Br dg J33 s att).length≤1000:=by rw [NG];split<;>omega
 obtain ⟨A40,c41,rfl,hc42,hm43,hp44⟩:=H.fA 0 rfl
 obtain ⟨A45,c46,rfl,hc47,hm48,hp49⟩:=H.fA 1 rfl
 obtain ⟨A50,c51,rfl,hc52,hm53,hp54⟩:=H.fA 2 rfl
 obtain ⟨A55,c56,rfl,hc57,hm58,hp59⟩:=H.fA 3 rfl
 obtain ⟨A60,c61,rfl,hc62,hm63,hp64⟩:=H.fA 4 rfl
 replace H:=H.p6
 refine BD U U U DX U U H U (Nat.le_of_ble_eq_true U) (fun u hu=>by simp [Value.cells] at hu;rcases hu with rfl|rfl|rfl|rfl|rfl|rfl|rfl|rfl|rfl|rfl|rfl|rfl<;>rfl) (fun w H=>?_)
 replace H:Hd _ _ _ [blk b26 [.slice A40 J33.us.length c41,.int .i64 J33.parts,.slice A45 J33.map.length c46,.slice A50 J33.comb.length c51,.slice A55 J33.red.length c56,.int .i64 J33.chunk,.int .i64 J33.window,.int .i64 J33.fuel,.slice A60 J33.marks.length c61,.int .i64 C.w,.int .i64 C.t,.int .i64 C.o] 28,Y (Ao Ag) (.slice A40 J33.us.length c41) J33.us,Y Af (.slice A45 J33.map.length c46) J33.map,Y Af (.slice A50 J33.comb.length c51) J33.comb,Y Af (.slice A55 J33.red.length c56) J33.red,Y (Ai .i64) (.slice A60 J33.marks.length c61) J33.marks,blk b27 [.int .i64 ((s:Nat):Int)] 3] [Ab (Ao Ag) (.slice A1 C.J.us.length c2) C.J.us,Ab Af (.slice A6 C.J.map.length c7) C.J.map,Ab Af (.slice A11 C.J.comb.length c12) C.J.comb,Ab Af (.slice A16 C.J.red.length c17) C.J.red,Ab (Ai .i64) (.slice A21 C.J.marks.length c22) C.J.marks,gl]:=H
 refine Ac (Z (Aa (Ae (V U U (Bn (cs:=[.slice A40 J33.us.length c41,.int .i64 J33.parts,.slice A45 J33.map.length c46,.slice A50 J33.comb.length c51,.slice A55 J33.red.length c56,.int .i64 J33.chunk,.int .i64 J33.window,.int .i64 J33.fuel,.slice A60 J33.marks.length c61,.int .i64 C.w,.int .i64 C.t,.int .i64 C.o]) U DX U U (H.cellsI 0 U U)) (V U U (Al U AA U (H.cellI 6 U U)) (Ad U (V U U (CQ (parts:=[(0,.tmp 40),(1,.tmp 41),(2,.tmp 42)]) (vs:=[.agg #[.slice A40 J33.us.length c41,.int .i64 J33.parts,.slice A45 J33.map.length c46,.slice A50 J33.comb.length c51,.slice A55 J33.red.length c56,.int .i64 J33.chunk,.int .i64 J33.window,.int .i64 J33.fuel,.slice A60 J33.marks.length c61,.int .i64 C.w,.int .i64 C.t,.int .i64 C.o],.int .i64 ((s:Nat):Int),.int .i64 att]) (cs:=[.slice A40 J33.us.length c41,.int .i64 J33.parts,.slice A45 J33.map.length c46,.slice A50 J33.comb.length c51,.slice A55 J33.red.length c56,.int .i64 J33.chunk,.int .i64 J33.window,.int .i64 J33.fuel,.slice A60 J33.marks.length c61,.int .i64 C.w,.int .i64 C.t,.int .i64 C.o,.int .i64 ((s:Nat):Int),.int .i64 att,.int .i64 0,.pointer none,.slice none 0 0]) U Rp U U) ?_)))))))
 refine Cm U U U U H (fun b65 w H=>(Dk U U U Z4 H (fun b66 w H=>(BD U U U Fs U U H U (Nat.le_of_ble_eq_true U) (fun u hu=>by simp [Value.cells] at hu;subst hu;rfl) (fun w H=>?_)))))
 replace H:=H.h2 (A:=blk b66 [.pointer (some ⟨b65,0,none⟩)] 44) (B:=blk b65 [.slice A40 J33.us.length c41,.int .i64 J33.parts,.slice A45 J33.map.length c46,.slice A50 J33.comb.length c51,.slice A55 J33.red.length c56,.int .i64 J33.chunk,.int .i64 J33.window,.int .i64 J33.fuel,.slice A60 J33.marks.length c61,.int .i64 C.w,.int .i64 C.t,.int .i64 C.o,.int .i64 ((s:Nat):Int),.int .i64 att,.int .i64 0,.pointer none,.slice none 0 0] 164)
 refine Ac (Z (Aa ?_))
 replace H:=H.p8.p8.p8.p8.p8.p8.p8.p7
 refine B1 (.e 0 (.e 1 (.m 2 (.e 3 (.e 4 (.m 5 .z)))))) (fun w=>∃ Ar,Hd w0 F0 w (blk b66 [.pointer (some ⟨b65,0,none⟩)] 44::blk b26 [.slice A40 J33.us.length c41,.int .i64 J33.parts,.slice A45 J33.map.length c46,.slice A50 J33.comb.length c51,.slice A55 J33.red.length c56,.int .i64 J33.chunk,.int .i64 J33.window,.int .i64 J33.fuel,.slice A60 J33.marks.length c61,.int .i64 C.w,.int .i64 C.t,.int .i64 C.o] 28::Y (Ao Ag) (.slice A40 J33.us.length c41) J33.us::Y Af (.slice A45 J33.map.length c46) J33.map::Y Af (.slice A50 J33.comb.length c51) J33.comb::Y Af (.slice A55 J33.red.length c56) J33.red::Y (Ai .i64) (.slice A60 J33.marks.length c61) J33.marks::blk b27 [.int .i64 ((s:Nat):Int)] 3::Ar) [Ab (Ao Ag) (.slice A1 C.J.us.length c2) C.J.us,Ab Af (.slice A6 C.J.map.length c7) C.J.map,Ab Af (.slice A11 C.J.comb.length c12) C.J.comb,Ab Af (.slice A16 C.J.red.length c17) C.J.red,Ab (Ai .i64) (.slice A21 C.J.marks.length c22) C.J.marks,gl]) mo (by kernel_rfl) (fun w H=>⟨_,H⟩) H (fun w H=>?_)
 refine Ap U U U (fun w ⟨Ar,H⟩=>Al U Fs U (H.cellI 0 U U)) (Ap U U U (fun w ⟨Ar,H⟩=>G8 (fs:=#[]) (cs:=#[.pointer (some ⟨b26,0,none⟩),.pointer (some ⟨b27,0,none⟩),.pointer (some ⟨b66,0,none⟩)]) U U U) (AO U (sc (Vq b26 b27 b66) H l0 U U (Au Pa U U) ?_)))
 rintro _ _ w ⟨cb67,rfl,rfl⟩ H
 replace H:=H.h1 (A:=blk cb67 [.int .u32 0,.int .i32 0,.int .u32 0,.int .u32 0,.func (.func 96) #[] #[.pointer (some ⟨b26,0,none⟩),.pointer (some ⟨b27,0,none⟩),.pointer (some ⟨b66,0,none⟩)],.string ⟨#[]⟩] 234)|>.p8|>.p8|>.p8|>.p8|>.p8|>.p8|>.p8|>.p8
 refine AJ ⟨_,H⟩ (Ap U U U (fun w ⟨Ar,H⟩=>AF U U) (Ap U U U (fun w ⟨Ar,H⟩=>Aj U Jo U) (AO U ?_)))
 replace H:=H.p9
 refine BD U U U DG U U H U (Nat.le_of_ble_eq_true U) (fun u hu=>by simp [Value.cells] at hu;subst hu;rfl) (fun w H=>?_)
 replace H:=H.h1 (A:=blk b65 [.slice A40 J33.us.length c41,.int .i64 J33.parts,.slice A45 J33.map.length c46,.slice A50 J33.comb.length c51,.slice A55 J33.red.length c56,.int .i64 J33.chunk,.int .i64 J33.window,.int .i64 J33.fuel,.slice A60 J33.marks.length c61,.int .i64 C.w,.int .i64 C.t,.int .i64 C.o,.int .i64 ((s:Nat):Int),.int .i64 att,.int .i64 0,.pointer (some ⟨cb67,0,none⟩),.slice none 0 0] 164)|>.p8|>.p8|>.p8|>.p8|>.p8|>.p8|>.p8|>.p8
 refine AJ ⟨_,H⟩ (BK (Z (Aa (Aa (Ae (V U U (Al U Fs U (H.cellI 0 U U)) ?_))))))
 replace H:=H.p8.p9
 refine sc (Vl b65 b26 b27 b66 cb67 (.slice A40 J33.us.length c41) (.slice A45 J33.map.length c46) (.slice A50 J33.comb.length c51) (.slice A55 J33.red.length c56) (.slice A60 J33.marks.length c61) J33 C.w C.t C.o s att hJ hs) H (lA 1 U (fun _ h=>h) (lA 7 U (fun _ h=>h) (lA 0 U (fun _ h=>h) (lA 2 U BE (lA 3 U BE (lA 4 U BE (lA 5 U BE (lA 6 U BE (lR 5 U l0))))))))) U U (Au LH U U) ?_
 rintro v68 _ w rfl H
 obtain ⟨A69,c70,rfl,hc71,hm72,hp73⟩:=H.fA 0 rfl
 refine V U U (Bf U E7 U) (Ad U (Ac (Z ?_)))
 replace H:Hd _ _ _ [Y (Ai .i64) (.slice A69 ((Br dg J33 s att).length) c70) (Br dg J33 s att),blk cb67 [.int .u32 1,.int .i32 0,.int .u32 0,.int .u32 1,.func (.func 96) #[] #[.pointer (some ⟨b26,0,none⟩),.pointer (some ⟨b27,0,none⟩),.pointer (some ⟨b66,0,none⟩)],.string (AZ (Az dg J33 s).1)] 234,blk b65 [.slice A40 J33.us.length c41,.int .i64 J33.parts,.slice A45 J33.map.length c46,.slice A50 J33.comb.length c51,.slice A55 J33.red.length c56,.int .i64 J33.chunk,.int .i64 J33.window,.int .i64 J33.fuel,.slice A60 J33.marks.length c61,.int .i64 C.w,.int .i64 C.t,.int .i64 C.o,.int .i64 ((s:Nat):Int),.int .i64 att,.int .i64 ((Az dg J33 s).2),.pointer (some ⟨cb67,0,none⟩),.slice none 0 0] 164,blk b66 [.pointer (some ⟨b65,0,none⟩)] 44,blk b26 [.slice A40 J33.us.length c41,.int .i64 J33.parts,.slice A45 J33.map.length c46,.slice A50 J33.comb.length c51,.slice A55 J33.red.length c56,.int .i64 J33.chunk,.int .i64 J33.window,.int .i64 J33.fuel,.slice A60 J33.marks.length c61,.int .i64 C.w,.int .i64 C.t,.int .i64 C.o] 28,Y (Ao Ag) (.slice A40 J33.us.length c41) J33.us,Y Af (.slice A45 J33.map.length c46) J33.map,Y Af (.slice A50 J33.comb.length c51) J33.comb,Y Af (.slice A55 J33.red.length c56) J33.red,Y (Ai .i64) (.slice A60 J33.marks.length c61) J33.marks,blk b27 [.int .i64 ((s:Nat):Int)] 3] [Ab (Ao Ag) (.slice A1 C.J.us.length c2) C.J.us,Ab Af (.slice A6 C.J.map.length c7) C.J.map,Ab Af (.slice A11 C.J.comb.length c12) C.J.comb,Ab Af (.slice A16 C.J.red.length c17) C.J.red,Ab (Ai .i64) (.slice A21 C.J.marks.length c22) C.J.marks,gl]:=H
 refine AS ?_
 replace H:=H.p4.p9.p9.p9.p9.p9.p8.p8.p8.k10.newnil Cq
 replace H:=Hd.tellK (ys:=([]:List (Nat×B0)).map Prod.fst) H rfl
 replace H:=Hd.big0 (Cg 239) H
 replace H:=H.h2 (A:=Bm (Cg 239) ([]:List (Nat×B0))) (B:=Y Cq (.slice none 0 0) (([]:List (Nat×B0)).map Prod.fst))
 refine BQ (σ:=Nat×Value×List (Nat×B0)) (fun (k,vw,ws)=>[(3,.pointer (some ⟨b26,0,none⟩)),(6,.pointer none),(7,.int .i64 0),(8,.pointer (some ⟨b66,0,none⟩)),(51,.slice A69 ((Br dg J33 s att).length) c70),(52,.int .i64 (((Br dg J33 s att).length:Nat):Int)),(53,.int .i64 ((k:Nat):Int))]) (fun (k,vw,ws) w=>(Hd w0 F0 w [Bm (Cg 239) ws,Y Cq vw (ws.map Prod.fst),Y (Ai .i64) (.slice A69 ((Br dg J33 s att).length) c70) (Br dg J33 s att),blk cb67 [.int .u32 1,.int .i32 0,.int .u32 0,.int .u32 1,.func (.func 96) #[] #[.pointer (some ⟨b26,0,none⟩),.pointer (some ⟨b27,0,none⟩),.pointer (some ⟨b66,0,none⟩)],.string (AZ (Az dg J33 s).1)] 234,blk b65 [.slice A40 J33.us.length c41,.int .i64 J33.parts,.slice A45 J33.map.length c46,.slice A50 J33.comb.length c51,.slice A55 J33.red.length c56,.int .i64 J33.chunk,.int .i64 J33.window,.int .i64 J33.fuel,.slice A60 J33.marks.length c61,.int .i64 C.w,.int .i64 C.t,.int .i64 C.o,.int .i64 ((s:Nat):Int),.int .i64 att,.int .i64 ((Az dg J33 s).2),.pointer (some ⟨cb67,0,none⟩),vw] 164,Y (Ao Ag) (.slice A40 J33.us.length c41) J33.us,Y Af (.slice A45 J33.map.length c46) J33.map,Y Af (.slice A50 J33.comb.length c51) J33.comb,Y Af (.slice A55 J33.red.length c56) J33.red,Y (Ai .i64) (.slice A60 J33.marks.length c61) J33.marks,blk b26 [.slice A40 J33.us.length c41,.int .i64 J33.parts,.slice A45 J33.map.length c46,.slice A50 J33.comb.length c51,.slice A55 J33.red.length c56,.int .i64 J33.chunk,.int .i64 J33.window,.int .i64 J33.fuel,.slice A60 J33.marks.length c61,.int .i64 C.w,.int .i64 C.t,.int .i64 C.o] 28,blk b66 [.pointer (some ⟨b65,0,none⟩)] 44] [Ab (Ao Ag) (.slice A1 C.J.us.length c2) C.J.us,Ab Af (.slice A6 C.J.map.length c7) C.J.map,Ab Af (.slice A11 C.J.comb.length c12) C.J.comb,Ab Af (.slice A16 C.J.red.length c17) C.J.red,Ab (Ai .i64) (.slice A21 C.J.marks.length c22) C.J.marks,gl])∧(k≤(Br dg J33 s att).length)∧(ws.map Prod.snd=((Br dg J33 s att).take k).map (Q7 J33))) (fun (k,vw,ws)=>(Br dg J33 s att).length - k) (0,.slice none 0 0,[]) ⟨rfl,rfl,rfl,rfl,rfl,rfl,rfl,trivial⟩ ⟨H,Nat.zero_le _,rfl⟩ ?_
 rintro ⟨k,vw,ws⟩ w ⟨H,hk,hws⟩
 have hwl:=congrArg List.length hws
 rw [List.length_map,List.length_map,List.length_take] at hwl
 have hwf:(ws.map Prod.fst).length=ws.length:=List.length_map ..
 refine Aa (Ae (V U U (Bd U U U) (Ac (Z (Aa ?_)))))
 refine Aw U (fun h74=>?_) (fun h74=>?_)
 ·refine Ax (Z (Aa (AS (Aa (Ae ?_)))))
  obtain ⟨x75,hx76⟩:∃ z9,(Br dg J33 s att)[k]?=some z9:=⟨_,List.getElem?_eq_getElem (show k<(Br dg J33 s att).length by omega)⟩
  have th77:=H.thA 2 rfl hx76
  refine V U U (A0 (p:=AQ A69+k*1) U DW U U (by omega) (by omega) th77 U) (V U U (Al U AA U (H.elA 2 U hx76 (q:=0) U U)) (Ad U (Ac (Z (Aa ?_)))))
  have hci:=NF (Cc hx76)
  refine Ae (Ad U (V U U (Aj U CY U) (V U U (Aj U Oe U) (V U U (Al U AA U (H.cellI 10 U U)) (sc (ZK x75 J33.window (by omega)) H l0 U U (Au U8 U U) ?_)))))
  rintro _ _ w ⟨b78,rfl,rfl⟩ H
  replace H:=H.h6 (A:=blk b78 [.int .i64 x75,.int .i64 J33.window,.int .i64 0,.int .i64 0] 239) (B:=Bm (Cg 239) ws) (C:=Y Cq vw (ws.map Prod.fst)) (F:=blk b65 [.slice A40 J33.us.length c41,.int .i64 J33.parts,.slice A45 J33.map.length c46,.slice A50 J33.comb.length c51,.slice A55 J33.red.length c56,.int .i64 J33.chunk,.int .i64 J33.window,.int .i64 J33.fuel,.slice A60 J33.marks.length c61,.int .i64 C.w,.int .i64 C.t,.int .i64 C.o,.int .i64 ((s:Nat):Int),.int .i64 att,.int .i64 ((Az dg J33 s).2),.pointer (some ⟨cb67,0,none⟩),vw] 164)
  refine Ah 5 U (Ac (Z ?_))
  replace H:=H.pick 12 rfl|>.pick 12 rfl|>.pick 12 rfl|>.pick 12 rfl|>.pick 12 rfl|>.pick 12 rfl|>.pick 12 rfl|>.pick 11 rfl|>.pick 11 rfl|>.pick 10 rfl|>.pick 10 rfl
  refine B1 (.e 0 (.e 1 (.e 2 (.e 3 (.e 5 (.b 4 6 (.m 6 (.m 7 (.e 8 (.e 9 (.m 10 .z))))) (.m 4 (.m 7 (.e 8 (.e 9 (.m 10 .z))))))))))) (fun w=>∃ Ar,Hd w0 F0 w (blk b78 [.int .i64 x75,.int .i64 J33.window,.int .i64 0,.int .i64 0] 239::Bm (Cg 239) ws::Y (Ai .i64) (.slice A69 ((Br dg J33 s att).length) c70) (Br dg J33 s att)::blk cb67 [.int .u32 1,.int .i32 0,.int .u32 0,.int .u32 1,.func (.func 96) #[] #[.pointer (some ⟨b26,0,none⟩),.pointer (some ⟨b27,0,none⟩),.pointer (some ⟨b66,0,none⟩)],.string (AZ (Az dg J33 s).1)] 234::Y (Ao Ag) (.slice A40 J33.us.length c41) J33.us::Y Af (.slice A45 J33.map.length c46) J33.map::Y Af (.slice A50 J33.comb.length c51) J33.comb::Y Af (.slice A55 J33.red.length c56) J33.red::Y (Ai .i64) (.slice A60 J33.marks.length c61) J33.marks::blk b26 [.slice A40 J33.us.length c41,.int .i64 J33.parts,.slice A45 J33.map.length c46,.slice A50 J33.comb.length c51,.slice A55 J33.red.length c56,.int .i64 J33.chunk,.int .i64 J33.window,.int .i64 J33.fuel,.slice A60 J33.marks.length c61,.int .i64 C.w,.int .i64 C.t,.int .i64 C.o] 28::blk b66 [.pointer (some ⟨b65,0,none⟩)] 44::Ar) [Ab (Ao Ag) (.slice A1 C.J.us.length c2) C.J.us,Ab Af (.slice A6 C.J.map.length c7) C.J.map,Ab Af (.slice A11 C.J.comb.length c12) C.J.comb,Ab Af (.slice A16 C.J.red.length c17) C.J.red,Ab (Ai .i64) (.slice A21 C.J.marks.length c22) C.J.marks,gl]) mo (by kernel_rfl) (fun w H=>⟨_,H⟩) H (fun w H=>?_)
  refine Ap U U U (fun w ⟨Ar,H⟩=>Al U Fs U (H.cellI 10 U U)) (Ap U U U (fun w ⟨Ar,H⟩=>Al U Fs U (H.cellI 10 U U)) (Ap U U U (fun w ⟨Ar,H⟩=>AF U U) (Ap U U U (fun w ⟨Ar,H⟩=>Aj U Jp U) (At U ?_))))
  refine Hu U U ?_ ?_
  ·refine V U U (Al U IZ U (H.cellI 12 U U)) (AJ ⟨_,H⟩ (AO U (BW (parts:=[(0,.tmp 70)]) (vs:=[.pointer (some ⟨b78,0,none⟩)]) (cs:=[.pointer (some ⟨b78,0,none⟩)]) U U U IS Kz U (by decide) (by decide) U U H (fun b79 w H=>?_))))
   replace H:=H.h1 (A:=blk b79 [.pointer (some ⟨b78,0,none⟩)] 168)|>.pick 11 rfl|>.pick 11 rfl|>.pick 11 rfl|>.pick 11 rfl|>.pick 11 rfl|>.pick 11 rfl|>.pick 11 rfl|>.pick 11 rfl|>.pick 11 rfl|>.pick 11 rfl|>.pick 11 rfl
   refine AJ ⟨_,H⟩ (AO U ?_)
   replace H:=H.pick 12 rfl
   refine CA (xs:=ws.map Prod.fst) (ys:=[b78]) U U U IS Kz U (by decide) U U H (by first |omega|(simp only [List.length_append,List.length_cons,List.length_nil];omega)) (fun F hA hR=>Cp (hA _ (List.mem_of_getElem? (i:=11) U)) U (by decide) (AV.flat_eq.2 U)) (fun v80 w H=>?_)
   replace H:=H.h1 (A:=Y Cq v80 ((ws.map Prod.fst)++[b78]))|>.pick 11 rfl|>.pick 11 rfl|>.pick 11 rfl|>.pick 11 rfl|>.pick 11 rfl|>.pick 11 rfl|>.pick 11 rfl|>.pick 11 rfl|>.pick 11 rfl|>.pick 11 rfl|>.pick 11 rfl
   refine AJ ⟨_,H⟩ (Ap U U U (fun w ⟨Ar,H⟩=>AF U U) (Ap U U U (fun w ⟨Ar,H⟩=>Aj U Jp U) (AO U ?_)))
   obtain ⟨A81,c82,rfl,hc83,hm84,hp85⟩:=H.fA 11 rfl
   replace H:=H.pick 13 rfl
   refine BD U U U IZ U U H U (Nat.le_of_ble_eq_true U) (fun u hu=>by simp [Value.cells] at hu;subst hu;rfl) (fun w H=>?_)
   replace H:Hd _ _ _ [blk b65 [.slice A40 J33.us.length c41,.int .i64 J33.parts,.slice A45 J33.map.length c46,.slice A50 J33.comb.length c51,.slice A55 J33.red.length c56,.int .i64 J33.chunk,.int .i64 J33.window,.int .i64 J33.fuel,.slice A60 J33.marks.length c61,.int .i64 C.w,.int .i64 C.t,.int .i64 C.o,.int .i64 ((s:Nat):Int),.int .i64 att,.int .i64 ((Az dg J33 s).2),.pointer (some ⟨cb67,0,none⟩),.slice A81 (((ws.map Prod.fst)++[b78]).length) c82] 164,blk b78 [.int .i64 x75,.int .i64 J33.window,.int .i64 0,.int .i64 0] 239,Bm (Cg 239) ws,Y (Ai .i64) (.slice A69 ((Br dg J33 s att).length) c70) (Br dg J33 s att),blk cb67 [.int .u32 1,.int .i32 0,.int .u32 0,.int .u32 1,.func (.func 96) #[] #[.pointer (some ⟨b26,0,none⟩),.pointer (some ⟨b27,0,none⟩),.pointer (some ⟨b66,0,none⟩)],.string (AZ (Az dg J33 s).1)] 234,Y (Ao Ag) (.slice A40 J33.us.length c41) J33.us,Y Af (.slice A45 J33.map.length c46) J33.map,Y Af (.slice A50 J33.comb.length c51) J33.comb,Y Af (.slice A55 J33.red.length c56) J33.red,Y (Ai .i64) (.slice A60 J33.marks.length c61) J33.marks,blk b26 [.slice A40 J33.us.length c41,.int .i64 J33.parts,.slice A45 J33.map.length c46,.slice A50 J33.comb.length c51,.slice A55 J33.red.length c56,.int .i64 J33.chunk,.int .i64 J33.window,.int .i64 J33.fuel,.slice A60 J33.marks.length c61,.int .i64 C.w,.int .i64 C.t,.int .i64 C.o] 28,blk b66 [.pointer (some ⟨b65,0,none⟩)] 44,Y Cq (.slice A81 (((ws.map Prod.fst)++[b78]).length) c82) ((ws.map Prod.fst)++[b78]),blk b79 [.pointer (some ⟨b78,0,none⟩)] 168] [Ab (Ao Ag) (.slice A1 C.J.us.length c2) C.J.us,Ab Af (.slice A6 C.J.map.length c7) C.J.map,Ab Af (.slice A11 C.J.comb.length c12) C.J.comb,Ab Af (.slice A16 C.J.red.length c17) C.J.red,Ab (Ai .i64) (.slice A21 C.J.marks.length c22) C.J.marks,gl]:=H
   replace H:=H.pick 11 rfl|>.pick 11 rfl|>.pick 11 rfl|>.pick 11 rfl|>.pick 11 rfl|>.pick 11 rfl|>.pick 11 rfl|>.pick 11 rfl|>.pick 11 rfl|>.pick 11 rfl|>.pick 11 rfl
   refine AJ ⟨_,H⟩ (BK (AU (Z (Ae (V U U (AX (z:=((k+1:Nat):Int)) U U U (by rw [AB (by omega) (by omega)];omega)) (Ad U (Ac ?_)))))))
   replace H:=H.pick 11 rfl|>.p4|>.p4|>.pick 12 rfl|>.p5|>.p5|>.keep 13
   replace H:=Hd.bigN (f:=Cg 239) (x:=(b78,(⟨x75,J33.window,0,0⟩:B0))) H
   replace H:Hd w0 F0 w [Bm (Cg 239) (ws++[(b78,(⟨x75,J33.window,0,0⟩:B0))]),Y Cq (.slice A81 (((ws.map Prod.fst)++[b78]).length) c82) ((ws++[(b78,(⟨x75,J33.window,0,0⟩:B0))]).map Prod.fst),Y (Ai .i64) (.slice A69 ((Br dg J33 s att).length) c70) (Br dg J33 s att),blk cb67 [.int .u32 1,.int .i32 0,.int .u32 0,.int .u32 1,.func (.func 96) #[] #[.pointer (some ⟨b26,0,none⟩),.pointer (some ⟨b27,0,none⟩),.pointer (some ⟨b66,0,none⟩)],.string (AZ (Az dg J33 s).1)] 234,blk b65 [.slice A40 J33.us.length c41,.int .i64 J33.parts,.slice A45 J33.map.length c46,.slice A50 J33.comb.length c51,.slice A55 J33.red.length c56,.int .i64 J33.chunk,.int .i64 J33.window,.int .i64 J33.fuel,.slice A60 J33.marks.length c61,.int .i64 C.w,.int .i64 C.t,.int .i64 C.o,.int .i64 ((s:Nat):Int),.int .i64 att,.int .i64 ((Az dg J33 s).2),.pointer (some ⟨cb67,0,none⟩),.slice A81 (((ws.map Prod.fst)++[b78]).length) c82] 164,Y (Ao Ag) (.slice A40 J33.us.length c41) J33.us,Y Af (.slice A45 J33.map.length c46) J33.map,Y Af (.slice A50 J33.comb.length c51) J33.comb,Y Af (.slice A55 J33.red.length c56) J33.red,Y (Ai .i64) (.slice A60 J33.marks.length c61) J33.marks,blk b26 [.slice A40 J33.us.length c41,.int .i64 J33.parts,.slice A45 J33.map.length c46,.slice A50 J33.comb.length c51,.slice A55 J33.red.length c56,.int .i64 J33.chunk,.int .i64 J33.window,.int .i64 J33.fuel,.slice A60 J33.marks.length c61,.int .i64 C.w,.int .i64 C.t,.int .i64 C.o] 28,blk b66 [.pointer (some ⟨b65,0,none⟩)] 44] [Ab (Ao Ag) (.slice A1 C.J.us.length c2) C.J.us,Ab Af (.slice A6 C.J.map.length c7) C.J.map,Ab Af (.slice A11 C.J.comb.length c12) C.J.comb,Ab Af (.slice A16 C.J.red.length c17) C.J.red,Ab (Ai .i64) (.slice A21 C.J.marks.length c22) C.J.marks,gl]:=by rw [List.map_append];exact H
   exact Bj (s:=(k,undef,ws)) (k+1,.slice A81 (((ws.map Prod.fst)++[b78]).length) c82,ws++[(b78,(⟨x75,J33.window,0,0⟩:B0))]) ⟨rfl,rfl,rfl,rfl,rfl,rfl,rfl,trivial⟩ ⟨H,by (try dsimp only);omega,by (try dsimp only);rw [List.map_append,hws,D9 hx76,List.map_append];rfl⟩ (by (try dsimp only);omega)
  refine BW (parts:=[(0,.tmp 70)]) (vs:=[.pointer (some ⟨b78,0,none⟩)]) (cs:=[.pointer (some ⟨b78,0,none⟩)]) U U U IS Kz U (by decide) (by decide) U U H (fun b86 w H=>?_)
  replace H:=H.h1 (A:=blk b86 [.pointer (some ⟨b78,0,none⟩)] 168)|>.pick 11 rfl|>.pick 11 rfl|>.pick 11 rfl|>.pick 11 rfl|>.pick 11 rfl|>.pick 11 rfl|>.pick 11 rfl|>.pick 11 rfl|>.pick 11 rfl|>.pick 11 rfl|>.pick 11 rfl
  refine AJ ⟨_,H⟩ (AO U (V U U (Al U IZ U (H.cellI 13 U U)) (AJ ⟨_,H⟩ (AO U ?_))))
  replace H:=H.pick 12 rfl
  refine CA (xs:=ws.map Prod.fst) (ys:=[b78]) U U U IS Kz U (by decide) U U H (by first |omega|(simp only [List.length_append,List.length_cons,List.length_nil];omega)) (fun F hA hR=>Cp (hA _ (List.mem_of_getElem? (i:=11) U)) U (by decide) (AV.flat_eq.2 U)) (fun v87 w H=>?_)
  replace H:=H.h1 (A:=Y Cq v87 ((ws.map Prod.fst)++[b78]))|>.pick 11 rfl|>.pick 11 rfl|>.pick 11 rfl|>.pick 11 rfl|>.pick 11 rfl|>.pick 11 rfl|>.pick 11 rfl|>.pick 11 rfl|>.pick 11 rfl|>.pick 11 rfl|>.pick 11 rfl
  refine AJ ⟨_,H⟩ (Ap U U U (fun w ⟨Ar,H⟩=>AF U U) (Ap U U U (fun w ⟨Ar,H⟩=>Aj U Jp U) (AO U ?_)))
  obtain ⟨A88,c89,rfl,hc90,hm91,hp92⟩:=H.fA 11 rfl
  replace H:=H.pick 13 rfl
  refine BD U U U IZ U U H U (Nat.le_of_ble_eq_true U) (fun u hu=>by simp [Value.cells] at hu;subst hu;rfl) (fun w H=>?_)
  replace H:Hd _ _ _ [blk b65 [.slice A40 J33.us.length c41,.int .i64 J33.parts,.slice A45 J33.map.length c46,.slice A50 J33.comb.length c51,.slice A55 J33.red.length c56,.int .i64 J33.chunk,.int .i64 J33.window,.int .i64 J33.fuel,.slice A60 J33.marks.length c61,.int .i64 C.w,.int .i64 C.t,.int .i64 C.o,.int .i64 ((s:Nat):Int),.int .i64 att,.int .i64 ((Az dg J33 s).2),.pointer (some ⟨cb67,0,none⟩),.slice A88 (((ws.map Prod.fst)++[b78]).length) c89] 164,blk b78 [.int .i64 x75,.int .i64 J33.window,.int .i64 0,.int .i64 0] 239,Bm (Cg 239) ws,Y (Ai .i64) (.slice A69 ((Br dg J33 s att).length) c70) (Br dg J33 s att),blk cb67 [.int .u32 1,.int .i32 0,.int .u32 0,.int .u32 1,.func (.func 96) #[] #[.pointer (some ⟨b26,0,none⟩),.pointer (some ⟨b27,0,none⟩),.pointer (some ⟨b66,0,none⟩)],.string (AZ (Az dg J33 s).1)] 234,Y (Ao Ag) (.slice A40 J33.us.length c41) J33.us,Y Af (.slice A45 J33.map.length c46) J33.map,Y Af (.slice A50 J33.comb.length c51) J33.comb,Y Af (.slice A55 J33.red.length c56) J33.red,Y (Ai .i64) (.slice A60 J33.marks.length c61) J33.marks,blk b26 [.slice A40 J33.us.length c41,.int .i64 J33.parts,.slice A45 J33.map.length c46,.slice A50 J33.comb.length c51,.slice A55 J33.red.length c56,.int .i64 J33.chunk,.int .i64 J33.window,.int .i64 J33.fuel,.slice A60 J33.marks.length c61,.int .i64 C.w,.int .i64 C.t,.int .i64 C.o] 28,blk b66 [.pointer (some ⟨b65,0,none⟩)] 44,Y Cq (.slice A88 (((ws.map Prod.fst)++[b78]).length) c89) ((ws.map Prod.fst)++[b78]),blk b86 [.pointer (some ⟨b78,0,none⟩)] 168] [Ab (Ao Ag) (.slice A1 C.J.us.length c2) C.J.us,Ab Af (.slice A6 C.J.map.length c7) C.J.map,Ab Af (.slice A11 C.J.comb.length c12) C.J.comb,Ab Af (.slice A16 C.J.red.length c17) C.J.red,Ab (Ai .i64) (.slice A21 C.J.marks.length c22) C.J.marks,gl]:=H
  replace H:=H.pick 11 rfl|>.pick 11 rfl|>.pick 11 rfl|>.pick 11 rfl|>.pick 11 rfl|>.pick 11 rfl|>.pick 11 rfl|>.pick 11 rfl|>.pick 11 rfl|>.pick 11 rfl|>.pick 11 rfl
  refine AJ ⟨_,H⟩ (BK (AU (Z (Ae (V U U (AX (z:=((k+1:Nat):Int)) U U U (by rw [AB (by omega) (by omega)];omega)) (Ad U (Ac ?_)))))))
  replace H:=H.pick 11 rfl|>.p4|>.p4|>.pick 12 rfl|>.p5|>.p5|>.keep 13
  replace H:=Hd.bigN (f:=Cg 239) (x:=(b78,(⟨x75,J33.window,0,0⟩:B0))) H
  replace H:Hd w0 F0 w [Bm (Cg 239) (ws++[(b78,(⟨x75,J33.window,0,0⟩:B0))]),Y Cq (.slice A88 (((ws.map Prod.fst)++[b78]).length) c89) ((ws++[(b78,(⟨x75,J33.window,0,0⟩:B0))]).map Prod.fst),Y (Ai .i64) (.slice A69 ((Br dg J33 s att).length) c70) (Br dg J33 s att),blk cb67 [.int .u32 1,.int .i32 0,.int .u32 0,.int .u32 1,.func (.func 96) #[] #[.pointer (some ⟨b26,0,none⟩),.pointer (some ⟨b27,0,none⟩),.pointer (some ⟨b66,0,none⟩)],.string (AZ (Az dg J33 s).1)] 234,blk b65 [.slice A40 J33.us.length c41,.int .i64 J33.parts,.slice A45 J33.map.length c46,.slice A50 J33.comb.length c51,.slice A55 J33.red.length c56,.int .i64 J33.chunk,.int .i64 J33.window,.int .i64 J33.fuel,.slice A60 J33.marks.length c61,.int .i64 C.w,.int .i64 C.t,.int .i64 C.o,.int .i64 ((s:Nat):Int),.int .i64 att,.int .i64 ((Az dg J33 s).2),.pointer (some ⟨cb67,0,none⟩),.slice A88 (((ws.map Prod.fst)++[b78]).length) c89] 164,Y (Ao Ag) (.slice A40 J33.us.length c41) J33.us,Y Af (.slice A45 J33.map.length c46) J33.map,Y Af (.slice A50 J33.comb.length c51) J33.comb,Y Af (.slice A55 J33.red.length c56) J33.red,Y (Ai .i64) (.slice A60 J33.marks.length c61) J33.marks,blk b26 [.slice A40 J33.us.length c41,.int .i64 J33.parts,.slice A45 J33.map.length c46,.slice A50 J33.comb.length c51,.slice A55 J33.red.length c56,.int .i64 J33.chunk,.int .i64 J33.window,.int .i64 J33.fuel,.slice A60 J33.marks.length c61,.int .i64 C.w,.int .i64 C.t,.int .i64 C.o] 28,blk b66 [.pointer (some ⟨b65,0,none⟩)] 44] [Ab (Ao Ag) (.slice A1 C.J.us.length c2) C.J.us,Ab Af (.slice A6 C.J.map.length c7) C.J.map,Ab Af (.slice A11 C.J.comb.length c12) C.J.comb,Ab Af (.slice A16 C.J.red.length c17) C.J.red,Ab (Ai .i64) (.slice A21 C.J.marks.length c22) C.J.marks,gl]:=by rw [List.map_append];exact H
  exact Bj (s:=(k,undef,ws)) (k+1,.slice A88 (((ws.map Prod.fst)++[b78]).length) c89,ws++[(b78,(⟨x75,J33.window,0,0⟩:B0))]) ⟨rfl,rfl,rfl,rfl,rfl,rfl,rfl,trivial⟩ ⟨H,by (try dsimp only);omega,by (try dsimp only);rw [List.map_append,hws,D9 hx76,List.map_append];rfl⟩ (by (try dsimp only);omega)
 refine BH (AR (AR (BI (Z (Aa (Ae (V U U (Al U Fs U (H.cellI 11 U U)) (Ah 2 U (Ac (Z (Am (B_ U U U ?_))))))))))))
 replace H:=H.p1.p9.p9.p9.p9.p9.p8.p9.k9.h9 (A:=blk b65 [.slice A40 J33.us.length c41,.int .i64 J33.parts,.slice A45 J33.map.length c46,.slice A50 J33.comb.length c51,.slice A55 J33.red.length c56,.int .i64 J33.chunk,.int .i64 J33.window,.int .i64 J33.fuel,.slice A60 J33.marks.length c61,.int .i64 C.w,.int .i64 C.t,.int .i64 C.o,.int .i64 ((s:Nat):Int),.int .i64 att,.int .i64 ((Az dg J33 s).2),.pointer (some ⟨cb67,0,none⟩),vw] 164) (I:=Y Cq vw (ws.map Prod.fst)) (J:=Bm (Cg 239) ws)
 replace H:=Ix b65 C.J (Db dg C.J s att) (.slice A40 J33.us.length c41) (.slice A45 J33.map.length c46) (.slice A50 J33.comb.length c51) (.slice A55 J33.red.length c56) (.slice A60 J33.marks.length c61) J33 C.w C.t C.o cb67 (.func (.func 96) #[] #[.pointer (some ⟨b26,0,none⟩),.pointer (some ⟨b27,0,none⟩),.pointer (some ⟨b66,0,none⟩)]) vw ws ⟨hsj,V0 hsj hws (by omega)⟩ H
 replace H:=H.h1 (A:=Ce b65 C.J (Db dg C.J s att))
 exact Ak ⟨_,rfl,rfl⟩ H
section
variable {P:Program} {ops:Array Oper} {Q:Exit→Act→World→Prop} {rest:List Oper} {n:Nat} {l:Bz} {w0 w:World} {F0:AH} {o:Oper} {As Rs:List SP} {x y:Operand} {t ti:TypeId}
end
section
variable {w0 w:World} {F0:AH} {As Rs:List SP} {t sb mb:Nat} {st:DH} {kvs:List Gw} {k:Int×Int} {v:Value} {us:List (Value×List An)}
end
def D8 (r:Nat) (vS:Value) (vM:Value) (vC:Value) (vR:Value) (vK:Value) (J:AC) (cw:Int) (ct:Int) (co:Int) (sb:Nat) (R:AI):SP:=ex fun hv:Nat→Value=>ex fun vs:Value=>ex fun us:List (Value×List Int)=>BU [BS ((us.map (fun u=>u.2)=R.sets)),blk r (Bq vS vM vC vR vK J cw ct co R.part R.ep R.g hv sb vs) 185,Y (Ao Ag) vS J.us,Y Af vM J.map,Y Af vC J.comb,Y Af vR J.red,Y (Ai .i64) vK J.marks,BF (R.g) hv,Y (Ao (Ai .i64)) vs us,CB 253 sb (R.st)]
theorem XL (r:Nat) (vS:Value) (vM:Value) (vC:Value) (vR:Value) (vK:Value) (J:AC) (cw:Int) (ct:Int) (co:Int) (sb:Nat) (R:AI) {w0 w:World} {F0:AH} {As Rs:List SP} (H:Hd w0 F0 w (D8 r vS vM vC vR vK J cw ct co sb R::As) Rs):∃ hv:Nat→Value,∃ vs:Value,∃ us:List (Value×List Int),((us.map (fun u=>u.2)=R.sets))∧Hd w0 F0 w ([blk r (Bq vS vM vC vR vK J cw ct co R.part R.ep R.g hv sb vs) 185,Y (Ao Ag) vS J.us,Y Af vM J.map,Y Af vC J.comb,Y Af vR J.red,Y (Ai .i64) vK J.marks,BF (R.g) hv,Y (Ao (Ai .i64)) vs us,CB 253 sb (R.st)]++As) Rs:=by
 obtain ⟨hv,H⟩:=Hd.exA H
 obtain ⟨vs,H⟩:=Hd.exA H
 obtain ⟨us,H⟩:=Hd.exA H
 exact ⟨hv,vs,us,H.stA.puA⟩
theorem Qo (r:Nat) (vS:Value) (vM:Value) (vC:Value) (vR:Value) (vK:Value) (J:AC) (cw:Int) (ct:Int) (co:Int) (sb:Nat) (R:AI) (hv:Nat→Value) (vs:Value) (us:List (Value×List Int)) {w0 w:World} {F0:AH} {As Rs:List SP} (hp:(us.map (fun u=>u.2)=R.sets)) (H:Hd w0 F0 w ([blk r (Bq vS vM vC vR vK J cw ct co R.part R.ep R.g hv sb vs) 185,Y (Ao Ag) vS J.us,Y Af vM J.map,Y Af vC J.comb,Y Af vR J.red,Y (Ai .i64) vK J.marks,BF (R.g) hv,Y (Ao (Ai .i64)) vs us,CB 253 sb (R.st)]++As) Rs):Hd w0 F0 w (D8 r vS vM vC vR vK J cw ct co sb R::As) Rs:=by
 have H1:=(show Hd w0 F0 w ([BS ((us.map (fun u=>u.2)=R.sets)),blk r (Bq vS vM vC vR vK J cw ct co R.part R.ep R.g hv sb vs) 185,Y (Ao Ag) vS J.us,Y Af vM J.map,Y Af vC J.comb,Y Af vR J.red,Y (Ai .i64) vK J.marks,BF (R.g) hv,Y (Ao (Ai .i64)) vs us,CB 253 sb (R.st)]++As) Rs from H.puI hp).stI
 replace H1:=Hd.exI (A:=fun us:List (Value×List Int)=>BU [BS ((us.map (fun u=>u.2)=R.sets)),blk r (Bq vS vM vC vR vK J cw ct co R.part R.ep R.g hv sb vs) 185,Y (Ao Ag) vS J.us,Y Af vM J.map,Y Af vC J.comb,Y Af vR J.red,Y (Ai .i64) vK J.marks,BF (R.g) hv,Y (Ao (Ai .i64)) vs us,CB 253 sb (R.st)]) us H1
 replace H1:=Hd.exI (A:=fun vs:Value=>ex fun us:List (Value×List Int)=>BU [BS ((us.map (fun u=>u.2)=R.sets)),blk r (Bq vS vM vC vR vK J cw ct co R.part R.ep R.g hv sb vs) 185,Y (Ao Ag) vS J.us,Y Af vM J.map,Y Af vC J.comb,Y Af vR J.red,Y (Ai .i64) vK J.marks,BF (R.g) hv,Y (Ao (Ai .i64)) vs us,CB 253 sb (R.st)]) vs H1
 replace H1:=Hd.exI (A:=fun hv:Nat→Value=>ex fun vs:Value=>ex fun us:List (Value×List Int)=>BU [BS ((us.map (fun u=>u.2)=R.sets)),blk r (Bq vS vM vC vR vK J cw ct co R.part R.ep R.g hv sb vs) 185,Y (Ao Ag) vS J.us,Y Af vM J.map,Y Af vC J.comb,Y Af vR J.red,Y (Ai .i64) vK J.marks,BF (R.g) hv,Y (Ao (Ai .i64)) vs us,CB 253 sb (R.st)]) hv H1
 exact H1
theorem Ty (r:Nat) (A:Option Addr) (c:Nat) (vM2:Value) (vC2:Value) (vR2:Value) (vK2:Value) (J2:AC) (cw:Int) (ct:Int) (co:Int) (part:Int) (ep:Int) (R:AI) (hv:Nat→Value) (sb:Nat) (vs:Value) (hred:∀ i∈J2.red,AP i.a) (hf64:AP J2.fuel) (hus6:J2.us.length≤6) (hbp:∀ i,(R.g i).pairs.length≤1000) (hpt:part=R.part) (hep:ep=R.ep):
    Cn Tryz.prog 61 [.pointer (some ⟨r,0,none⟩)] [] [blk r (Bq (.slice A J2.us.length c) vM2 vC2 vR2 vK2 J2 cw ct co part ep R.g hv sb vs) 185,BF (R.g) hv,Ab Af vR2 J2.red,gl] (fun v Bs=>∃ u:Value,v=.agg #[.int .i64 ((AD dg J2 R).kind),.int .i64 ((AD dg J2 R).sp),.int .i64 ((AD dg J2 R).att),.int .i64 ((AD dg J2 R).part),.int .i64 ((AD dg J2 R).seq),.int .i64 ((AD dg J2 R).next),.int .i64 ((AD dg J2 R).ep),.int .i64 ((AD dg J2 R).why),u,.slice none 0 0]∧Bs=[Y (Ai .i64) u ((AD dg J2 R).set)]):=by
 intro w0 F0 H
 refine enter Tryz.func61 U U (Nat.le_of_ble_eq_true U) (Aa (Ae (Dk U U U Ib H (fun b1 w H=>(Ac (Z ?_))))))
 replace H:Hd _ _ _ [blk b1 [.int .i64 0,.int .i64 0,.int .i64 0,.int .i64 0,.int .i64 0,.int .i64 0,.int .i64 0,.int .i64 0,.slice none 0 0,.slice none 0 0] 64] [blk r (Bq (.slice A J2.us.length c) vM2 vC2 vR2 vK2 J2 cw ct co part ep R.g hv sb vs) 185,BF (R.g) hv,Ab Af vR2 J2.red,gl]:=H
 refine Aa (Aa (Ae (Ad U (V U U (CW U H9 U U) (Ac (Z (B7 U (Ax (Z (Aa (Ae (Ad U (sc (Wq r A c vM2 vC2 vR2 vK2 J2 cw ct co part ep R hv sb vs (by first |assumption|omega) (by first |assumption|omega) (by first |assumption|omega) (by first |assumption|omega)) H (lR 0 U (lR 1 U (lR 2 U (lR 3 U l0)))) U U (Au UY U U) ?_)))))))))))))
 rintro _ _ w ⟨u2,rfl,rfl⟩ H
 replace H:=H.h1 (A:=Y Ag u2 ((DE dg J2 R).1))
 refine Ah 7 U (Ac (Z (Aa (Aa (Ae (Ad U (Ac (Z ?_))))))))
 refine DO (b:=(DE dg J2 R).2.2) U (fun h3=>?_) (fun h3=>?_)
 ·refine Aa (B1 (.e 0 (.e 1 (.e 2 (.e 3 (.e 4 (.e 5 (.e 6 (.e 7 (.e 8 (.e 9 (.m 10 .z))))))))))) (fun w=>∃ Ar,Hd w0 F0 w (Y Ag u2 ((DE dg J2 R).1)::Ar) [blk r (Bq (.slice A J2.us.length c) vM2 vC2 vR2 vK2 J2 cw ct co part ep R.g hv sb vs) 185,BF (R.g) hv,Ab Af vR2 J2.red,gl]) mo (by kernel_rfl) (fun w H=>⟨_,H⟩) H (fun w H=>(At U (Ap U U U (fun w ⟨Ar,H⟩=>AF U U) (Ap U U U (fun w ⟨Ar,H⟩=>Aj U N9 U) (Ap U U U (fun w ⟨Ar,H⟩=>Al U AA U (H.cellRI 0 U U)) (At U (Ap U U U (fun w ⟨Ar,H⟩=>AF U U) (Ap U U U (fun w ⟨Ar,H⟩=>Aj U N_ U) (Ap U U U (fun w ⟨Ar,H⟩=>Al U AA U (H.cellRI 0 U U)) (At U (Ap U U U (fun w ⟨Ar,H⟩=>CQ (parts:=[(0,.const (.int .i64 8)),(3,.tmp 19),(6,.tmp 23),(7,.tmp 24)]) (vs:=[.int .i64 8,.int .i64 part,.int .i64 ep,.int .i64 ((DE dg J2 R).2.1)]) (cs:=[.int .i64 8,.int .i64 0,.int .i64 0,.int .i64 part,.int .i64 0,.int .i64 0,.int .i64 ep,.int .i64 ((DE dg J2 R).2.1),.slice none 0 0,.slice none 0 0]) U Gx U U) ?_))))))))))))
  refine AO U ?_
  replace H:=H.p1
  refine BD U U U EG U U H U (Nat.le_of_ble_eq_true U) (fun u hu=>by simp [Value.cells] at hu;rcases hu with rfl|rfl|rfl|rfl|rfl|rfl|rfl|rfl|rfl|rfl<;>rfl) (fun w H=>?_)
  replace H:=H.h1 (A:=blk b1 [.int .i64 8,.int .i64 0,.int .i64 0,.int .i64 part,.int .i64 0,.int .i64 0,.int .i64 ep,.int .i64 ((DE dg J2 R).2.1),.slice none 0 0,.slice none 0 0] 64)|>.p1
  refine AJ ⟨_,H⟩ (BK (Z (Am (Ay (Fk (cs:=[.int .i64 8,.int .i64 0,.int .i64 0,.int .i64 part,.int .i64 0,.int .i64 0,.int .i64 ep,.int .i64 ((DE dg J2 R).2.1),.slice none 0 0,.slice none 0 0]) U U EG U (H.cellsI 1 U U) ?_)))))
  have e:=TA (D:=dg) (J:=J2) (R:=R) (by simpa using h3)
  replace H:=H.newnil (Ai .i64)|>.k1
  exact Ak ⟨(.slice none 0 0),by rw [e,hpt,hep]<;>rfl,by rw [e]<;>rfl⟩ H
 refine Ax (Z (Aa (B1 (.e 0 (.e 1 (.e 2 (.e 3 (.e 4 (.e 5 (.e 6 (.e 7 (.e 8 (.m 9 (.e 10 (.m 11 .z)))))))))))) (fun w=>∃ Ar,Hd w0 F0 w (Y Ag u2 ((DE dg J2 R).1)::Ar) [blk r (Bq (.slice A J2.us.length c) vM2 vC2 vR2 vK2 J2 cw ct co part ep R.g hv sb vs) 185,BF (R.g) hv,Ab Af vR2 J2.red,gl]) mo (by kernel_rfl) (fun w H=>⟨_,H⟩) H (fun w H=>(At U (Ap U U U (fun w ⟨Ar,H⟩=>AF U U) (Ap U U U (fun w ⟨Ar,H⟩=>Aj U N9 U) (Ap U U U (fun w ⟨Ar,H⟩=>Al U AA U (H.cellRI 0 U U)) (At U (Ap U U U (fun w ⟨Ar,H⟩=>AF U U) (Ap U U U (fun w ⟨Ar,H⟩=>Aj U N_ U) (Ap U U U (fun w ⟨Ar,H⟩=>Al U AA U (H.cellRI 0 U U)) (At U (AO U (sc (Pv r A c vM2 vC2 vR2 vK2 J2 cw ct co part ep R hv sb vs (by first |assumption|omega)) H (lR 0 U l0) U U (Au O5 U U) ?_)))))))))))))))
 rintro v4 _ w rfl H
 replace H:=H.h1 (A:=Y (Ai .i64) v4 (CT J2.us.length R))|>.p1
 refine AJ ⟨_,H⟩ ?_
 obtain ⟨A5,c6,rfl,hc7,hm8,hp9⟩:=H.fA 1 rfl
 refine Ap U U U (fun w ⟨Ar,H⟩=>CQ (parts:=[(0,.const (.int .i64 6)),(3,.tmp 29),(6,.tmp 33),(8,.tmp 35)]) (vs:=[.int .i64 6,.int .i64 part,.int .i64 ep,.slice A5 ((CT J2.us.length R).length) c6]) (cs:=[.int .i64 6,.int .i64 0,.int .i64 0,.int .i64 part,.int .i64 0,.int .i64 0,.int .i64 ep,.int .i64 0,.slice A5 ((CT J2.us.length R).length) c6,.slice none 0 0]) U Gx U U) (AO U ?_)
 replace H:=H.p2
 refine BD U U U EG U U H U (Nat.le_of_ble_eq_true U) (fun u hu=>by simp [Value.cells] at hu;rcases hu with rfl|rfl|rfl|rfl|rfl|rfl|rfl|rfl|rfl|rfl<;>rfl) (fun w H=>?_)
 replace H:Hd _ _ _ [blk b1 [.int .i64 6,.int .i64 0,.int .i64 0,.int .i64 part,.int .i64 0,.int .i64 0,.int .i64 ep,.int .i64 0,.slice A5 ((CT J2.us.length R).length) c6,.slice none 0 0] 64,Y Ag u2 ((DE dg J2 R).1),Y (Ai .i64) (.slice A5 ((CT J2.us.length R).length) c6) (CT J2.us.length R)] [blk r (Bq (.slice A J2.us.length c) vM2 vC2 vR2 vK2 J2 cw ct co part ep R.g hv sb vs) 185,BF (R.g) hv,Ab Af vR2 J2.red,gl]:=H
 replace H:=H.p1
 refine AJ ⟨_,H⟩ (BK (Z (Am (Fk (cs:=[.int .i64 6,.int .i64 0,.int .i64 0,.int .i64 part,.int .i64 0,.int .i64 0,.int .i64 ep,.int .i64 0,.slice A5 ((CT J2.us.length R).length) c6,.slice none 0 0]) U U EG U (H.cellsI 1 U U) ?_))))
 have e:=Tx (D:=dg) (J:=J2) (R:=R) (by simpa using h3)
 replace H:=H.p2.k1
 exact Ak ⟨(.slice A5 ((CT J2.us.length R).length) c6),by rw [e,hpt,hep]<;>rfl,by rw [e]<;>rfl⟩ H
def FE (e:Nat) (C:Cf) (R:AI):SP:=ex fun vS2:Value=>ex fun vM2:Value=>ex fun vC2:Value=>ex fun vR2:Value=>ex fun vK2:Value=>ex fun J2:AC=>ex fun sb:Nat=>BU [BS ((Bb J2 C.J)),D8 e vS2 vM2 vC2 vR2 vK2 J2 C.w C.t C.o sb R]
theorem XK (e:Nat) (C:Cf) (R:AI) {w0 w:World} {F0:AH} {As Rs:List SP} (H:Hd w0 F0 w (FE e C R::As) Rs):∃ vS2:Value,∃ vM2:Value,∃ vC2:Value,∃ vR2:Value,∃ vK2:Value,∃ J2:AC,∃ sb:Nat,((Bb J2 C.J))∧Hd w0 F0 w ([D8 e vS2 vM2 vC2 vR2 vK2 J2 C.w C.t C.o sb R]++As) Rs:=by
 obtain ⟨vS2,H⟩:=Hd.exA H
 obtain ⟨vM2,H⟩:=Hd.exA H
 obtain ⟨vC2,H⟩:=Hd.exA H
 obtain ⟨vR2,H⟩:=Hd.exA H
 obtain ⟨vK2,H⟩:=Hd.exA H
 obtain ⟨J2,H⟩:=Hd.exA H
 obtain ⟨sb,H⟩:=Hd.exA H
 exact ⟨vS2,vM2,vC2,vR2,vK2,J2,sb,H.stA.puA⟩
theorem Qn (e:Nat) (C:Cf) (R:AI) (vS2:Value) (vM2:Value) (vC2:Value) (vR2:Value) (vK2:Value) (J2:AC) (sb:Nat) {w0 w:World} {F0:AH} {As Rs:List SP} (hp:(Bb J2 C.J)) (H:Hd w0 F0 w ([D8 e vS2 vM2 vC2 vR2 vK2 J2 C.w C.t C.o sb R]++As) Rs):Hd w0 F0 w (FE e C R::As) Rs:=by
 have H1:=(show Hd w0 F0 w ([BS ((Bb J2 C.J)),D8 e vS2 vM2 vC2 vR2 vK2 J2 C.w C.t C.o sb R]++As) Rs from H.puI hp).stI
 replace H1:=Hd.exI (A:=fun sb:Nat=>BU [BS ((Bb J2 C.J)),D8 e vS2 vM2 vC2 vR2 vK2 J2 C.w C.t C.o sb R]) sb H1
 replace H1:=Hd.exI (A:=fun J2:AC=>ex fun sb:Nat=>BU [BS ((Bb J2 C.J)),D8 e vS2 vM2 vC2 vR2 vK2 J2 C.w C.t C.o sb R]) J2 H1
 replace H1:=Hd.exI (A:=fun vK2:Value=>ex fun J2:AC=>ex fun sb:Nat=>BU [BS ((Bb J2 C.J)),D8 e vS2 vM2 vC2 vR2 vK2 J2 C.w C.t C.o sb R]) vK2 H1
 replace H1:=Hd.exI (A:=fun vR2:Value=>ex fun vK2:Value=>ex fun J2:AC=>ex fun sb:Nat=>BU [BS ((Bb J2 C.J)),D8 e vS2 vM2 vC2 vR2 vK2 J2 C.w C.t C.o sb R]) vR2 H1
 replace H1:=Hd.exI (A:=fun vC2:Value=>ex fun vR2:Value=>ex fun vK2:Value=>ex fun J2:AC=>ex fun sb:Nat=>BU [BS ((Bb J2 C.J)),D8 e vS2 vM2 vC2 vR2 vK2 J2 C.w C.t C.o sb R]) vC2 H1
 replace H1:=Hd.exI (A:=fun vM2:Value=>ex fun vC2:Value=>ex fun vR2:Value=>ex fun vK2:Value=>ex fun J2:AC=>ex fun sb:Nat=>BU [BS ((Bb J2 C.J)),D8 e vS2 vM2 vC2 vR2 vK2 J2 C.w C.t C.o sb R]) vM2 H1
 replace H1:=Hd.exI (A:=fun vS2:Value=>ex fun vM2:Value=>ex fun vC2:Value=>ex fun vR2:Value=>ex fun vK2:Value=>ex fun J2:AC=>ex fun sb:Nat=>BU [BS ((Bb J2 C.J)),D8 e vS2 vM2 vC2 vR2 vK2 J2 C.w C.t C.o sb R]) vS2 H1
 exact H1
def BV (C:Cf) (rl:List (Nat×AI)):SP:=Bm (fun e:Nat×AI=>FE e.1 C e.2) rl
def B8 (J:AC) (tl:List (Nat×BJ)):SP:=Bm (fun e:Nat×BJ=>Ce e.1 J e.2) tl
theorem VQ {A B:AC} (h:Bb A B) {b:Nat} {M:BJ} {w0 w:World} {F0:AH} {As Rs:List SP} (H:Hd w0 F0 w (Ce b A M::As) Rs):Hd w0 F0 w (Ce b B M::As) Rs:=by
 obtain ⟨vS,vM,vC,vR,vK,J2,cw,ct,co,cb,fv,vw,ws,⟨hsj,hws⟩,H⟩:=JT b A M H
 exact Ix b B M vS vM vC vR vK J2 cw ct co cb fv vw ws ⟨hsj.trans h,hws⟩ H
theorem Kp {tl:List (Nat×BJ)} {ts:List BJ} (htl:tl.map Prod.snd=ts) {k:Nat} {x:ES} (hx:(tl.map AG)[k]?=some x):∃ e,tl[k]?=some e∧ts[k]?=some e.2∧x=AG e:=by
 rw [List.getElem?_map] at hx
 obtain ⟨e,he,rfl⟩:=Option.map_eq_some_iff.1 hx
 exact ⟨e,he,by rw [←htl,List.getElem?_map,he];rfl,rfl⟩
theorem SU {tl:List (Nat×BJ)} {ts:List BJ} (htl:tl.map Prod.snd=ts) {k:Nat} {sp att:Int} (hk:¬ k<(tl.map AG).length) (hn:∀ M∈ts.take k,Fz sp att M=false):EL ts sp att=false:=by
 have h:ts.length≤k:=by rw [←htl,List.length_map];rw [List.length_map] at hk;omega
 rw [List.take_of_length_le h] at hn
 exact SV hn
theorem QP {sp att:Int} {e:Nat×BJ} (h:¬ ((AG e).sp=sp∧(AG e).att=att)):Fz sp att e.2=false:=by
 unfold Fz
 rw [←Bool.decide_and]
 exact decide_eq_false h
theorem YW {sp att:Int} {e:Nat×BJ} (h1:(AG e).sp=sp) (h2:(AG e).att=att):Fz sp att e.2=true:=by
 unfold Fz
 rw [←Bool.decide_and]
 exact decide_eq_true ⟨h1,h2⟩
def Ch (b:Nat) (C:Cf) (W:Ds):SP:=ex fun vS:Value=>ex fun vM:Value=>ex fun vC:Value=>ex fun vR:Value=>ex fun vK:Value=>ex fun J2:AC=>ex fun pv:Value=>ex fun kb:Nat=>ex fun tv:Value=>ex fun rl:List (Nat×AI)=>ex fun tl:List (Nat×BJ)=>BU [BS ((Bb J2 C.J)∧(rl.map Prod.snd=W.rs)∧(tl.map Prod.snd=W.ts)),blk b [vS,.int .i64 J2.parts,vM,vC,vR,.int .i64 J2.chunk,.int .i64 J2.window,.int .i64 J2.fuel,vK,.int .i64 C.w,.int .i64 C.t,.int .i64 C.o,.int .i64 W.ep,pv,.map (some kb),tv,.int .u32 (BC W.over)] 210,Y (Ao Ag) vS J2.us,Y Af vM J2.map,Y Af vC J2.comb,Y Af vR J2.red,Y (Ai .i64) vK J2.marks,Y (Ai .i64) pv (rl.map AE),Bt BG kb (rl.map BM),BV C rl,Y B6 tv (tl.map AG),B8 C.J tl]
theorem Hm (b:Nat) (C:Cf) (W:Ds) {w0 w:World} {F0:AH} {As Rs:List SP} (H:Hd w0 F0 w (Ch b C W::As) Rs):∃ vS:Value,∃ vM:Value,∃ vC:Value,∃ vR:Value,∃ vK:Value,∃ J2:AC,∃ pv:Value,∃ kb:Nat,∃ tv:Value,∃ rl:List (Nat×AI),∃ tl:List (Nat×BJ),((Bb J2 C.J)∧(rl.map Prod.snd=W.rs)∧(tl.map Prod.snd=W.ts))∧Hd w0 F0 w ([blk b [vS,.int .i64 J2.parts,vM,vC,vR,.int .i64 J2.chunk,.int .i64 J2.window,.int .i64 J2.fuel,vK,.int .i64 C.w,.int .i64 C.t,.int .i64 C.o,.int .i64 W.ep,pv,.map (some kb),tv,.int .u32 (BC W.over)] 210,Y (Ao Ag) vS J2.us,Y Af vM J2.map,Y Af vC J2.comb,Y Af vR J2.red,Y (Ai .i64) vK J2.marks,Y (Ai .i64) pv (rl.map AE),Bt BG kb (rl.map BM),BV C rl,Y B6 tv (tl.map AG),B8 C.J tl]++As) Rs:=by
 obtain ⟨vS,H⟩:=Hd.exA H
 obtain ⟨vM,H⟩:=Hd.exA H
 obtain ⟨vC,H⟩:=Hd.exA H
 obtain ⟨vR,H⟩:=Hd.exA H
 obtain ⟨vK,H⟩:=Hd.exA H
 obtain ⟨J2,H⟩:=Hd.exA H
 obtain ⟨pv,H⟩:=Hd.exA H
 obtain ⟨kb,H⟩:=Hd.exA H
 obtain ⟨tv,H⟩:=Hd.exA H
 obtain ⟨rl,H⟩:=Hd.exA H
 obtain ⟨tl,H⟩:=Hd.exA H
 exact ⟨vS,vM,vC,vR,vK,J2,pv,kb,tv,rl,tl,H.stA.puA⟩
theorem EH (b:Nat) (C:Cf) (W:Ds) (vS:Value) (vM:Value) (vC:Value) (vR:Value) (vK:Value) (J2:AC) (pv:Value) (kb:Nat) (tv:Value) (rl:List (Nat×AI)) (tl:List (Nat×BJ)) {w0 w:World} {F0:AH} {As Rs:List SP} (hp:(Bb J2 C.J)∧(rl.map Prod.snd=W.rs)∧(tl.map Prod.snd=W.ts)) (H:Hd w0 F0 w ([blk b [vS,.int .i64 J2.parts,vM,vC,vR,.int .i64 J2.chunk,.int .i64 J2.window,.int .i64 J2.fuel,vK,.int .i64 C.w,.int .i64 C.t,.int .i64 C.o,.int .i64 W.ep,pv,.map (some kb),tv,.int .u32 (BC W.over)] 210,Y (Ao Ag) vS J2.us,Y Af vM J2.map,Y Af vC J2.comb,Y Af vR J2.red,Y (Ai .i64) vK J2.marks,Y (Ai .i64) pv (rl.map AE),Bt BG kb (rl.map BM),BV C rl,Y B6 tv (tl.map AG),B8 C.J tl]++As) Rs):Hd w0 F0 w (Ch b C W::As) Rs:=by
 have H1:=(show Hd w0 F0 w ([BS ((Bb J2 C.J)∧(rl.map Prod.snd=W.rs)∧(tl.map Prod.snd=W.ts)),blk b [vS,.int .i64 J2.parts,vM,vC,vR,.int .i64 J2.chunk,.int .i64 J2.window,.int .i64 J2.fuel,vK,.int .i64 C.w,.int .i64 C.t,.int .i64 C.o,.int .i64 W.ep,pv,.map (some kb),tv,.int .u32 (BC W.over)] 210,Y (Ao Ag) vS J2.us,Y Af vM J2.map,Y Af vC J2.comb,Y Af vR J2.red,Y (Ai .i64) vK J2.marks,Y (Ai .i64) pv (rl.map AE),Bt BG kb (rl.map BM),BV C rl,Y B6 tv (tl.map AG),B8 C.J tl]++As) Rs from H.puI hp).stI
 replace H1:=Hd.exI (A:=fun tl:List (Nat×BJ)=>BU [BS ((Bb J2 C.J)∧(rl.map Prod.snd=W.rs)∧(tl.map Prod.snd=W.ts)),blk b [vS,.int .i64 J2.parts,vM,vC,vR,.int .i64 J2.chunk,.int .i64 J2.window,.int .i64 J2.fuel,vK,.int .i64 C.w,.int .i64 C.t,.int .i64 C.o,.int .i64 W.ep,pv,.map (some kb),tv,.int .u32 (BC W.over)] 210,Y (Ao Ag) vS J2.us,Y Af vM J2.map,Y Af vC J2.comb,Y Af vR J2.red,Y (Ai .i64) vK J2.marks,Y (Ai .i64) pv (rl.map AE),Bt BG kb (rl.map BM),BV C rl,Y B6 tv (tl.map AG),B8 C.J tl]) tl H1
 replace H1:=Hd.exI (A:=fun rl:List (Nat×AI)=>ex fun tl:List (Nat×BJ)=>BU [BS ((Bb J2 C.J)∧(rl.map Prod.snd=W.rs)∧(tl.map Prod.snd=W.ts)),blk b [vS,.int .i64 J2.parts,vM,vC,vR,.int .i64 J2.chunk,.int .i64 J2.window,.int .i64 J2.fuel,vK,.int .i64 C.w,.int .i64 C.t,.int .i64 C.o,.int .i64 W.ep,pv,.map (some kb),tv,.int .u32 (BC W.over)] 210,Y (Ao Ag) vS J2.us,Y Af vM J2.map,Y Af vC J2.comb,Y Af vR J2.red,Y (Ai .i64) vK J2.marks,Y (Ai .i64) pv (rl.map AE),Bt BG kb (rl.map BM),BV C rl,Y B6 tv (tl.map AG),B8 C.J tl]) rl H1
 replace H1:=Hd.exI (A:=fun tv:Value=>ex fun rl:List (Nat×AI)=>ex fun tl:List (Nat×BJ)=>BU [BS ((Bb J2 C.J)∧(rl.map Prod.snd=W.rs)∧(tl.map Prod.snd=W.ts)),blk b [vS,.int .i64 J2.parts,vM,vC,vR,.int .i64 J2.chunk,.int .i64 J2.window,.int .i64 J2.fuel,vK,.int .i64 C.w,.int .i64 C.t,.int .i64 C.o,.int .i64 W.ep,pv,.map (some kb),tv,.int .u32 (BC W.over)] 210,Y (Ao Ag) vS J2.us,Y Af vM J2.map,Y Af vC J2.comb,Y Af vR J2.red,Y (Ai .i64) vK J2.marks,Y (Ai .i64) pv (rl.map AE),Bt BG kb (rl.map BM),BV C rl,Y B6 tv (tl.map AG),B8 C.J tl]) tv H1
 replace H1:=Hd.exI (A:=fun kb:Nat=>ex fun tv:Value=>ex fun rl:List (Nat×AI)=>ex fun tl:List (Nat×BJ)=>BU [BS ((Bb J2 C.J)∧(rl.map Prod.snd=W.rs)∧(tl.map Prod.snd=W.ts)),blk b [vS,.int .i64 J2.parts,vM,vC,vR,.int .i64 J2.chunk,.int .i64 J2.window,.int .i64 J2.fuel,vK,.int .i64 C.w,.int .i64 C.t,.int .i64 C.o,.int .i64 W.ep,pv,.map (some kb),tv,.int .u32 (BC W.over)] 210,Y (Ao Ag) vS J2.us,Y Af vM J2.map,Y Af vC J2.comb,Y Af vR J2.red,Y (Ai .i64) vK J2.marks,Y (Ai .i64) pv (rl.map AE),Bt BG kb (rl.map BM),BV C rl,Y B6 tv (tl.map AG),B8 C.J tl]) kb H1
 replace H1:=Hd.exI (A:=fun pv:Value=>ex fun kb:Nat=>ex fun tv:Value=>ex fun rl:List (Nat×AI)=>ex fun tl:List (Nat×BJ)=>BU [BS ((Bb J2 C.J)∧(rl.map Prod.snd=W.rs)∧(tl.map Prod.snd=W.ts)),blk b [vS,.int .i64 J2.parts,vM,vC,vR,.int .i64 J2.chunk,.int .i64 J2.window,.int .i64 J2.fuel,vK,.int .i64 C.w,.int .i64 C.t,.int .i64 C.o,.int .i64 W.ep,pv,.map (some kb),tv,.int .u32 (BC W.over)] 210,Y (Ao Ag) vS J2.us,Y Af vM J2.map,Y Af vC J2.comb,Y Af vR J2.red,Y (Ai .i64) vK J2.marks,Y (Ai .i64) pv (rl.map AE),Bt BG kb (rl.map BM),BV C rl,Y B6 tv (tl.map AG),B8 C.J tl]) pv H1
 replace H1:=Hd.exI (A:=fun J2:AC=>ex fun pv:Value=>ex fun kb:Nat=>ex fun tv:Value=>ex fun rl:List (Nat×AI)=>ex fun tl:List (Nat×BJ)=>BU [BS ((Bb J2 C.J)∧(rl.map Prod.snd=W.rs)∧(tl.map Prod.snd=W.ts)),blk b [vS,.int .i64 J2.parts,vM,vC,vR,.int .i64 J2.chunk,.int .i64 J2.window,.int .i64 J2.fuel,vK,.int .i64 C.w,.int .i64 C.t,.int .i64 C.o,.int .i64 W.ep,pv,.map (some kb),tv,.int .u32 (BC W.over)] 210,Y (Ao Ag) vS J2.us,Y Af vM J2.map,Y Af vC J2.comb,Y Af vR J2.red,Y (Ai .i64) vK J2.marks,Y (Ai .i64) pv (rl.map AE),Bt BG kb (rl.map BM),BV C rl,Y B6 tv (tl.map AG),B8 C.J tl]) J2 H1
 replace H1:=Hd.exI (A:=fun vK:Value=>ex fun J2:AC=>ex fun pv:Value=>ex fun kb:Nat=>ex fun tv:Value=>ex fun rl:List (Nat×AI)=>ex fun tl:List (Nat×BJ)=>BU [BS ((Bb J2 C.J)∧(rl.map Prod.snd=W.rs)∧(tl.map Prod.snd=W.ts)),blk b [vS,.int .i64 J2.parts,vM,vC,vR,.int .i64 J2.chunk,.int .i64 J2.window,.int .i64 J2.fuel,vK,.int .i64 C.w,.int .i64 C.t,.int .i64 C.o,.int .i64 W.ep,pv,.map (some kb),tv,.int .u32 (BC W.over)] 210,Y (Ao Ag) vS J2.us,Y Af vM J2.map,Y Af vC J2.comb,Y Af vR J2.red,Y (Ai .i64) vK J2.marks,Y (Ai .i64) pv (rl.map AE),Bt BG kb (rl.map BM),BV C rl,Y B6 tv (tl.map AG),B8 C.J tl]) vK H1
 replace H1:=Hd.exI (A:=fun vR:Value=>ex fun vK:Value=>ex fun J2:AC=>ex fun pv:Value=>ex fun kb:Nat=>ex fun tv:Value=>ex fun rl:List (Nat×AI)=>ex fun tl:List (Nat×BJ)=>BU [BS ((Bb J2 C.J)∧(rl.map Prod.snd=W.rs)∧(tl.map Prod.snd=W.ts)),blk b [vS,.int .i64 J2.parts,vM,vC,vR,.int .i64 J2.chunk,.int .i64 J2.window,.int .i64 J2.fuel,vK,.int .i64 C.w,.int .i64 C.t,.int .i64 C.o,.int .i64 W.ep,pv,.map (some kb),tv,.int .u32 (BC W.over)] 210,Y (Ao Ag) vS J2.us,Y Af vM J2.map,Y Af vC J2.comb,Y Af vR J2.red,Y (Ai .i64) vK J2.marks,Y (Ai .i64) pv (rl.map AE),Bt BG kb (rl.map BM),BV C rl,Y B6 tv (tl.map AG),B8 C.J tl]) vR H1
 replace H1:=Hd.exI (A:=fun vC:Value=>ex fun vR:Value=>ex fun vK:Value=>ex fun J2:AC=>ex fun pv:Value=>ex fun kb:Nat=>ex fun tv:Value=>ex fun rl:List (Nat×AI)=>ex fun tl:List (Nat×BJ)=>BU [BS ((Bb J2 C.J)∧(rl.map Prod.snd=W.rs)∧(tl.map Prod.snd=W.ts)),blk b [vS,.int .i64 J2.parts,vM,vC,vR,.int .i64 J2.chunk,.int .i64 J2.window,.int .i64 J2.fuel,vK,.int .i64 C.w,.int .i64 C.t,.int .i64 C.o,.int .i64 W.ep,pv,.map (some kb),tv,.int .u32 (BC W.over)] 210,Y (Ao Ag) vS J2.us,Y Af vM J2.map,Y Af vC J2.comb,Y Af vR J2.red,Y (Ai .i64) vK J2.marks,Y (Ai .i64) pv (rl.map AE),Bt BG kb (rl.map BM),BV C rl,Y B6 tv (tl.map AG),B8 C.J tl]) vC H1
 replace H1:=Hd.exI (A:=fun vM:Value=>ex fun vC:Value=>ex fun vR:Value=>ex fun vK:Value=>ex fun J2:AC=>ex fun pv:Value=>ex fun kb:Nat=>ex fun tv:Value=>ex fun rl:List (Nat×AI)=>ex fun tl:List (Nat×BJ)=>BU [BS ((Bb J2 C.J)∧(rl.map Prod.snd=W.rs)∧(tl.map Prod.snd=W.ts)),blk b [vS,.int .i64 J2.parts,vM,vC,vR,.int .i64 J2.chunk,.int .i64 J2.window,.int .i64 J2.fuel,vK,.int .i64 C.w,.int .i64 C.t,.int .i64 C.o,.int .i64 W.ep,pv,.map (some kb),tv,.int .u32 (BC W.over)] 210,Y (Ao Ag) vS J2.us,Y Af vM J2.map,Y Af vC J2.comb,Y Af vR J2.red,Y (Ai .i64) vK J2.marks,Y (Ai .i64) pv (rl.map AE),Bt BG kb (rl.map BM),BV C rl,Y B6 tv (tl.map AG),B8 C.J tl]) vM H1
 replace H1:=Hd.exI (A:=fun vS:Value=>ex fun vM:Value=>ex fun vC:Value=>ex fun vR:Value=>ex fun vK:Value=>ex fun J2:AC=>ex fun pv:Value=>ex fun kb:Nat=>ex fun tv:Value=>ex fun rl:List (Nat×AI)=>ex fun tl:List (Nat×BJ)=>BU [BS ((Bb J2 C.J)∧(rl.map Prod.snd=W.rs)∧(tl.map Prod.snd=W.ts)),blk b [vS,.int .i64 J2.parts,vM,vC,vR,.int .i64 J2.chunk,.int .i64 J2.window,.int .i64 J2.fuel,vK,.int .i64 C.w,.int .i64 C.t,.int .i64 C.o,.int .i64 W.ep,pv,.map (some kb),tv,.int .u32 (BC W.over)] 210,Y (Ao Ag) vS J2.us,Y Af vM J2.map,Y Af vC J2.comb,Y Af vR J2.red,Y (Ai .i64) vK J2.marks,Y (Ai .i64) pv (rl.map AE),Bt BG kb (rl.map BM),BV C rl,Y B6 tv (tl.map AG),B8 C.J tl]) vS H1
 exact H1
theorem ZJ (b:Nat) (vS:Value) (vM:Value) (vC:Value) (vR:Value) (vK:Value) (J2:AC) (C:Cf) (ep:Int) (pv:Value) (kb:Nat) (tv:Value) (ov:Bool):
    Cn Tryz.prog 144 [.pointer (some ⟨b,16,none⟩)] [] [blk b [vS,.int .i64 J2.parts,vM,vC,vR,.int .i64 J2.chunk,.int .i64 J2.window,.int .i64 J2.fuel,vK,.int .i64 C.w,.int .i64 C.t,.int .i64 C.o,.int .i64 ep,pv,.map (some kb),tv,.int .u32 (BC ov)] 210] (fun v Bs=>v=.bool ov∧Bs=[]):=by
 intro w0 F0 H
 refine enter Tryz.func144 U U (Nat.le_of_ble_eq_true U) (Aa (Ae (Ad U (Ac (Z (Aa (Ae (Ad U (V U U (AF U U) (V U U (Aj U HA U) (V U U (J0 KV U U (H.cellRI 0 U U)) (V U U (Dq U U U) (Ad U (Ac (Z (Am (Aq U U ?_)))))))))))))))))
 replace H:Hd _ _ _ [] [blk b [vS,.int .i64 J2.parts,vM,vC,vR,.int .i64 J2.chunk,.int .i64 J2.window,.int .i64 J2.fuel,vK,.int .i64 C.w,.int .i64 C.t,.int .i64 C.o,.int .i64 ep,pv,.map (some kb),tv,.int .u32 (BC ov)] 210]:=H
 exact Ak ⟨congrArg Value.bool (Wr ov),rfl⟩ H
theorem ZD  :
    Cn Tryz.prog 76 [.pointer none] [] [] (fun v Bs=>v=.bool false∧Bs=[]):=by
 intro w0 F0 H
 refine enter Tryz.func76 U U (Nat.le_of_ble_eq_true U) (Aa (Ae (Ad U (Ac (Z (Aa (Ae (Ad U (V U U (IJ U E6 U U) (Ah 7 U (Ac (Z (Am (Aq U U ?_))))))))))))))
 replace H:Hd _ _ _ [] []:=H
 exact Ak ⟨rfl,rfl⟩ H
theorem Q4 (b:Nat) (C:Cf) (W:Ds):
    Cn Tryz.prog 76 [.pointer (some ⟨b,0,none⟩)] [Ch b C W] [] (fun v Bs=>v=.bool W.over∧Bs=[Ch b C W]):=by
 intro w0 F0 H
 obtain ⟨vS1,vM2,vC3,vR4,vK5,J6,pv7,kb8,tv9,rl10,tl11,⟨hsj12,hrl13,htl14⟩,H⟩:=Hm b C W H
 replace H:Hd _ _ _ [blk b [vS1,.int .i64 J6.parts,vM2,vC3,vR4,.int .i64 J6.chunk,.int .i64 J6.window,.int .i64 J6.fuel,vK5,.int .i64 C.w,.int .i64 C.t,.int .i64 C.o,.int .i64 W.ep,pv7,.map (some kb8),tv9,.int .u32 (BC W.over)] 210,Y (Ao Ag) vS1 J6.us,Y Af vM2 J6.map,Y Af vC3 J6.comb,Y Af vR4 J6.red,Y (Ai .i64) vK5 J6.marks,Y (Ai .i64) pv7 (rl10.map AE),Bt BG kb8 (rl10.map BM),BV C rl10,Y B6 tv9 (tl11.map AG),B8 C.J tl11] []:=H
 obtain ⟨A15,c16,rfl,hc17,hm18,hp19⟩:=H.fA 6 rfl
 obtain ⟨A20,c21,rfl,hc22,hm23,hp24⟩:=H.fA 9 rfl
 refine enter Tryz.func76 U U (Nat.le_of_ble_eq_true U) (Aa (Ae (Ad U (Ac (Z (Aa (Ae (Ad U (V U U (IJ U E6 U U) (Ah 2 U (V U U (AF U U) (V U U (Aj U Oa U) (sc (ZJ b vS1 vM2 vC3 vR4 vK5 J6 C W.ep (.slice A15 ((rl10.map AE).length) c16) kb8 (.slice A20 ((tl11.map AG).length) c21) W.over) H (lA 0 U (fun _ h=>h) l0) U U (Au JH U U) ?_)))))))))))))
 rintro _ _ w ⟨rfl,rfl⟩ H
 refine Ah 2 U (Ac (Z (Am (Aq U U ?_))))
 replace H:=EH b C W vS1 vM2 vC3 vR4 vK5 J6 (.slice A15 ((rl10.map AE).length) c16) kb8 (.slice A20 ((tl11.map AG).length) c21) rl10 tl11 ⟨hsj12,hrl13,htl14⟩ H
 replace H:=H.h1 (A:=Ch b C W)
 exact Ak ⟨rfl,rfl⟩ H
theorem ZE  :
    Cn Tryz.prog 77 [.pointer none] [] [] (fun v Bs=>v=.int .i64 0∧Bs=[]):=by
 intro w0 F0 H
 refine enter Tryz.func77 U U (Nat.le_of_ble_eq_true U) (Aa (Ae (Ad U (Ac (Z (Aa (Aa (Ae (Ad U (V U U (CW U E6 U U) (Ac (Z (Ck U (Aa (Ae (Ad U (Ac (Z (Am (Ay (Aq U U ?_)))))))))))))))))))))
 replace H:Hd _ _ _ [] []:=H
 exact Ak ⟨rfl,rfl⟩ H
theorem ZF (b:Nat) (C:Cf) (W:Ds):
    Cn Tryz.prog 77 [.pointer (some ⟨b,0,none⟩)] [Ch b C W] [] (fun v Bs=>v=.int .i64 W.ep∧Bs=[Ch b C W]):=by
 intro w0 F0 H
 obtain ⟨vS1,vM2,vC3,vR4,vK5,J6,pv7,kb8,tv9,rl10,tl11,⟨hsj12,hrl13,htl14⟩,H⟩:=Hm b C W H
 replace H:Hd _ _ _ [blk b [vS1,.int .i64 J6.parts,vM2,vC3,vR4,.int .i64 J6.chunk,.int .i64 J6.window,.int .i64 J6.fuel,vK5,.int .i64 C.w,.int .i64 C.t,.int .i64 C.o,.int .i64 W.ep,pv7,.map (some kb8),tv9,.int .u32 (BC W.over)] 210,Y (Ao Ag) vS1 J6.us,Y Af vM2 J6.map,Y Af vC3 J6.comb,Y Af vR4 J6.red,Y (Ai .i64) vK5 J6.marks,Y (Ai .i64) pv7 (rl10.map AE),Bt BG kb8 (rl10.map BM),BV C rl10,Y B6 tv9 (tl11.map AG),B8 C.J tl11] []:=H
 obtain ⟨A15,c16,rfl,hc17,hm18,hp19⟩:=H.fA 6 rfl
 obtain ⟨A20,c21,rfl,hc22,hm23,hp24⟩:=H.fA 9 rfl
 refine enter Tryz.func77 U U (Nat.le_of_ble_eq_true U) (Aa (Ae (Ad U (Ac (Z (Aa (Aa (Ae (Ad U (V U U (CW U E6 U U) (Ac (Z (B7 U (Ax (Z (Aa (Ae (Ad U (V U U (AF U U) (V U U (Aj U Jr U) (V U U (Al U AA U (H.cellI 0 U U)) (Ad U (Ac (Z (Am (Aq U U ?_))))))))))))))))))))))))))
 replace H:=EH b C W vS1 vM2 vC3 vR4 vK5 J6 (.slice A15 ((rl10.map AE).length) c16) kb8 (.slice A20 ((tl11.map AG).length) c21) rl10 tl11 ⟨hsj12,hrl13,htl14⟩ H
 replace H:=H.h1 (A:=Ch b C W)
 exact Ak ⟨rfl,rfl⟩ H
theorem ZQ  :
    Cn Tryz.prog 73 [.pointer none] [] [] (fun v Bs=>v=.int .i64 0∧Bs=[]):=by
 intro w0 F0 H
 refine enter Tryz.func73 U U (Nat.le_of_ble_eq_true U) (Aa (Ae (Ad U (Ac (Z (Aa (Aa (Ae (Ad U (V U U (CW U E6 U U) (Ac (Z (Ck U (Aa (Ae (Ad U (Ac (Z (Am (Ay (Aq U U ?_)))))))))))))))))))))
 replace H:Hd _ _ _ [] []:=H
 exact Ak ⟨rfl,rfl⟩ H
theorem ZR (b:Nat) (C:Cf) (W:Ds):
    Cn Tryz.prog 73 [.pointer (some ⟨b,0,none⟩)] [Ch b C W] [] (fun v Bs=>v=.int .i64 ((W.ts.length:Nat):Int)∧Bs=[Ch b C W]):=by
 intro w0 F0 H
 obtain ⟨vS1,vM2,vC3,vR4,vK5,J6,pv7,kb8,tv9,rl10,tl11,⟨hsj12,hrl13,htl14⟩,H⟩:=Hm b C W H
 replace H:Hd _ _ _ [blk b [vS1,.int .i64 J6.parts,vM2,vC3,vR4,.int .i64 J6.chunk,.int .i64 J6.window,.int .i64 J6.fuel,vK5,.int .i64 C.w,.int .i64 C.t,.int .i64 C.o,.int .i64 W.ep,pv7,.map (some kb8),tv9,.int .u32 (BC W.over)] 210,Y (Ao Ag) vS1 J6.us,Y Af vM2 J6.map,Y Af vC3 J6.comb,Y Af vR4 J6.red,Y (Ai .i64) vK5 J6.marks,Y (Ai .i64) pv7 (rl10.map AE),Bt BG kb8 (rl10.map BM),BV C rl10,Y B6 tv9 (tl11.map AG),B8 C.J tl11] []:=H
 obtain ⟨A15,c16,rfl,hc17,hm18,hp19⟩:=H.fA 6 rfl
 obtain ⟨A20,c21,rfl,hc22,hm23,hp24⟩:=H.fA 9 rfl
 refine enter Tryz.func73 U U (Nat.le_of_ble_eq_true U) (Aa (Ae (Ad U (Ac (Z (Aa (Aa (Ae (Ad U (V U U (CW U E6 U U) (Ac (Z (B7 U (Ax (Z (Aa (Ae (Ad U (V U U (AF U U) (V U U (Aj U HB U) (V U U (Al U H0 U (H.cellI 0 U U)) (V U U (Bf U MH U) (Ad U (Ac (Z (Am (Aq U U ?_)))))))))))))))))))))))))))
 have e:W.ts.length=(tl11.map AG).length:=by rw [←htl14,List.length_map,List.length_map]
 replace H:=EH b C W vS1 vM2 vC3 vR4 vK5 J6 (.slice A15 ((rl10.map AE).length) c16) kb8 (.slice A20 ((tl11.map AG).length) c21) rl10 tl11 ⟨hsj12,hrl13,htl14⟩ H
 replace H:=H.h1 (A:=Ch b C W)
 exact Ak ⟨by rw [e]<;>rfl,rfl⟩ H
theorem ZM  :
    Cn Tryz.prog 74 [.pointer none] [] [] (fun v Bs=>v=.slice none 0 0∧Bs=[]):=by
 intro w0 F0 H
 refine enter Tryz.func74 U U (Nat.le_of_ble_eq_true U) (Aa (Ae (Ad U (Ac (Z (Aa (Aa (Ae (Ad U (V U U (CW U E6 U U) (Ac (Z (Ck U (Aa (Ae (Ad U (Ac (Z (Am (Ay (Aq U U ?_)))))))))))))))))))))
 replace H:Hd _ _ _ [] []:=H
 exact Ak ⟨rfl,rfl⟩ H
theorem ZN (p:Int):
    Cn Tryz.prog 78 [.pointer none,.int .i64 p] [] [] (fun v Bs=>v=.pointer none∧Bs=[]):=by
 intro w0 F0 H
 refine enter Tryz.func78 U U (Nat.le_of_ble_eq_true U) (Aa (Ae (Ad U (Ac (Z (Aa (Aa (Ae (Ad U (V U U (CW U E6 U U) (Ac (Z (Ck U (Aa (Ae (Ad U (Ac (Z (Am (Ay (Aq U U ?_)))))))))))))))))))))
 replace H:Hd _ _ _ [] []:=H
 exact Ak ⟨rfl,rfl⟩ H
theorem ZG (b:Nat) (C:Cf) (W:Ds) (sp:Int) (att:Int):
    Cn Tryz.prog 141 [.pointer (some ⟨b,0,none⟩),.int .i64 sp,.int .i64 att] [Ch b C W] [] (fun v Bs=>∃ o:Option Addr,v=.pointer o∧Bs=[Ch b C W]∧(o.isNone=!EL W.ts sp att)):=by
 intro w0 F0 H
 obtain ⟨vS1,vM2,vC3,vR4,vK5,J6,pv7,kb8,tv9,rl10,tl11,⟨hsj12,hrl13,htl14⟩,H⟩:=Hm b C W H
 replace H:Hd _ _ _ [blk b [vS1,.int .i64 J6.parts,vM2,vC3,vR4,.int .i64 J6.chunk,.int .i64 J6.window,.int .i64 J6.fuel,vK5,.int .i64 C.w,.int .i64 C.t,.int .i64 C.o,.int .i64 W.ep,pv7,.map (some kb8),tv9,.int .u32 (BC W.over)] 210,Y (Ao Ag) vS1 J6.us,Y Af vM2 J6.map,Y Af vC3 J6.comb,Y Af vR4 J6.red,Y (Ai .i64) vK5 J6.marks,Y (Ai .i64) pv7 (rl10.map AE),Bt BG kb8 (rl10.map BM),BV C rl10,Y B6 tv9 (tl11.map AG),B8 C.J tl11] []:=H
 obtain ⟨A15,c16,rfl,hc17,hm18,hp19⟩:=H.fA 6 rfl
 obtain ⟨A20,c21,rfl,hc22,hm23,hp24⟩:=H.fA 9 rfl
 refine enter Tryz.func141 U U (Nat.le_of_ble_eq_true U) (Aa (Ae (Ad U (Ac (Z (Aa (Aa (Ae (Ad U (V U U (AF U U) (V U U (Aj U HB U) (V U U (Al U H0 U (H.cellI 0 U U)) (V U U (Bf U MH U) (Ad U (Ac (Z (AS (BQ (σ:=Nat) (fun k=>[(1,.int .i64 sp),(2,.int .i64 att),(12,.slice A20 ((tl11.map AG).length) c21),(13,.int .i64 (((tl11.map AG).length:Nat):Int)),(14,.int .i64 ((k:Nat):Int))]) (fun k w=>(Hd w0 F0 w [blk b [vS1,.int .i64 J6.parts,vM2,vC3,vR4,.int .i64 J6.chunk,.int .i64 J6.window,.int .i64 J6.fuel,vK5,.int .i64 C.w,.int .i64 C.t,.int .i64 C.o,.int .i64 W.ep,.slice A15 ((rl10.map AE).length) c16,.map (some kb8),.slice A20 ((tl11.map AG).length) c21,.int .u32 (BC W.over)] 210,Y (Ao Ag) vS1 J6.us,Y Af vM2 J6.map,Y Af vC3 J6.comb,Y Af vR4 J6.red,Y (Ai .i64) vK5 J6.marks,Y (Ai .i64) (.slice A15 ((rl10.map AE).length) c16) (rl10.map AE),Bt BG kb8 (rl10.map BM),BV C rl10,Y B6 (.slice A20 ((tl11.map AG).length) c21) (tl11.map AG),B8 C.J tl11] [])∧(k≤(tl11.map AG).length)∧(∀ M∈W.ts.take k,Fz sp att M=false)) (fun k=>(tl11.map AG).length - k) 0 ⟨rfl,rfl,rfl,rfl,rfl,trivial⟩ ⟨H,Nat.zero_le _,by simp⟩ ?_))))))))))))))))))
 rintro k w ⟨H,hk,hn⟩
 refine Aa (Ae (V U U (Bd U U U) (Ac (Z (Aa ?_)))))
 refine Aw U (fun h25=>?_) (fun h25=>?_)
 ·refine Ax (Z (Aa (AS (Aa (Ae ?_)))))
  obtain ⟨x26,hx27⟩:∃ z9,(tl11.map AG)[k]?=some z9:=⟨_,List.getElem?_eq_getElem (show k<(tl11.map AG).length by omega)⟩
  have th28:=H.thA 9 rfl hx27
  refine V U U (A0 (p:=AQ A20+k*3) U Kk U U (by omega) (by omega) th28 U) (V U U (Bn (cs:=[.int .i64 x26.sp,.int .i64 x26.att,.pointer (some ⟨x26.b,0,none⟩)]) U I0 U U (H.elsA 9 U hx27 U)) (Dk U U U KA H (fun b29 w H=>(BD U U U I0 U U H U (Nat.le_of_ble_eq_true U) (fun u hu=>by simp [Value.cells] at hu;rcases hu with rfl|rfl|rfl<;>rfl) (fun w H=>?_)))))
  replace H:=H.h1 (A:=blk b29 [.int .i64 x26.sp,.int .i64 x26.att,.pointer (some ⟨x26.b,0,none⟩)] 215)
  refine Ac (Z (Aa (Ae (V U U (Aj U Ld U) (V U U (Al U AA U (H.cellI 0 U U)) (Ad U (V U U (AW U U U) (Ad U ?_))))))))
  refine AN (d:=22) U (fun h30=>?_) (fun h30=>?_)
  ·refine V U U (Aj U Le U) (V U U (Al U AA U (H.cellI 0 U U)) (Ad U (V U U (AW U U U) (Ad U (Ac (Z ?_))))))
   refine Aw U (fun h31=>?_) (fun h31=>?_)
   ·refine Aa (Ae (V U U (Aj U Il U) (V U U (Al U Fs U (H.cellI 0 U U)) (Ad U (Ac (Z (Am (AY (Ay (Ay (AY (Ay (Aq U U ?_)))))))))))))
    obtain ⟨e9,he9,hw9,hx9⟩:=Kp htl14 hx27
    have e:EL W.ts sp att=true:=Sa hw9 (YW (by rw [←hx9];exact h30) (by rw [←hx9];exact h31))
    replace H:=H.pick 11 rfl|>.pick 11 rfl|>.pick 11 rfl|>.pick 11 rfl|>.pick 11 rfl|>.pick 11 rfl|>.pick 11 rfl|>.pick 11 rfl|>.pick 11 rfl|>.pick 11 rfl|>.pick 11 rfl
    replace H:=EH b C W vS1 vM2 vC3 vR4 vK5 J6 (.slice A15 ((rl10.map AE).length) c16) kb8 (.slice A20 ((tl11.map AG).length) c21) rl10 tl11 ⟨hsj12,hrl13,htl14⟩ H
    replace H:=H.h1 (A:=Ch b C W)|>.k1
    exact Ak ⟨(some ⟨x26.b,0,none⟩),rfl,rfl,(by rw [e];rfl)⟩ H
   refine Ax (AU (Z (Ae (V U U (AX (z:=((k+1:Nat):Int)) U U U (by rw [AB (by omega) (by omega)];omega)) (Ad U (Ac ?_))))))
   replace H:=H.pick 11 rfl|>.pick 11 rfl|>.pick 11 rfl|>.pick 11 rfl|>.pick 11 rfl|>.pick 11 rfl|>.pick 11 rfl|>.pick 11 rfl|>.pick 11 rfl|>.pick 11 rfl|>.pick 11 rfl|>.keep 11
   obtain ⟨e9,he9,hw9,rfl⟩:=Kp htl14 hx27
   exact Bj (s:=k) (k+1) ⟨rfl,rfl,rfl,rfl,rfl,trivial⟩ ⟨H,by (try dsimp only);omega,HY (Q:=fun M=>Fz sp att M=false) hn hw9 (QP (fun g=>h31 g.2))⟩ (by (try dsimp only);omega)
  refine Ah 5 U (Ac (Z (B7 U (Ax (AU (Z (Ae (V U U (AX (z:=((k+1:Nat):Int)) U U U (by rw [AB (by omega) (by omega)];omega)) (Ad U (Ac ?_))))))))))
  replace H:=H.pick 11 rfl|>.pick 11 rfl|>.pick 11 rfl|>.pick 11 rfl|>.pick 11 rfl|>.pick 11 rfl|>.pick 11 rfl|>.pick 11 rfl|>.pick 11 rfl|>.pick 11 rfl|>.pick 11 rfl|>.keep 11
  obtain ⟨e9,he9,hw9,rfl⟩:=Kp htl14 hx27
  exact Bj (s:=k) (k+1) ⟨rfl,rfl,rfl,rfl,rfl,trivial⟩ ⟨H,by (try dsimp only);omega,HY (Q:=fun M=>Fz sp att M=false) hn hw9 (QP (fun g=>h30 g.1))⟩ (by (try dsimp only);omega)
 refine BH (AR (AR (BI (Z (Aa (Ae (Ad U (Ac (Z (Am (Aq U U ?_)))))))))))
 have e:EL W.ts sp att=false:=SU htl14 (by omega) hn
 replace H:=EH b C W vS1 vM2 vC3 vR4 vK5 J6 (.slice A15 ((rl10.map AE).length) c16) kb8 (.slice A20 ((tl11.map AG).length) c21) rl10 tl11 ⟨hsj12,hrl13,htl14⟩ H
 replace H:=H.h1 (A:=Ch b C W)
 exact Ak ⟨none,rfl,rfl,(by rw [e];rfl)⟩ H
theorem Vt (vS:Value) (vM:Value) (vC:Value) (vR:Value) (vK:Value) (C:Cf) (s:Int) (att:Int) (hC:C1 C) (hO:B5 C.J) (hgo:HS C s att):Cn Tryz.prog 27 [.agg #[vS,.int .i64 C.J.parts,vM,vC,vR,.int .i64 C.J.chunk,.int .i64 C.J.window,.int .i64 C.J.fuel,vK,.int .i64 C.w,.int .i64 C.t,.int .i64 C.o],.int .i64 s,.int .i64 att] [] [Ab (Ao Ag) vS C.J.us,Ab Af vM C.J.map,Ab Af vC C.J.comb,Ab Af vR C.J.red,Ab (Ai .i64) vK C.J.marks,gl] (fun v Bs=>∃ b:Nat,v=.tuple #[.pointer (some ⟨b,0,none⟩),.int .i64 0]∧Bs=[Ce b C.J (Db dg C.J s.toNat att)]):=by
 obtain ⟨m,rfl⟩:∃ z:Nat,s=(z:Int):=⟨s.toNat,by have:=hgo.1;omega⟩
 rw [Int.toNat_natCast]
 exact Vv vS vM vC vR vK C m att hC hO ⟨by have:=hgo.2.1;omega,hgo.2.2.1,hgo.2.2.2⟩
theorem ZO (b:Nat) (C:Cf) (W:Ds) (sp:Int) (att:Int) (hC:C1 C) (hJ:B5 C.J) (hl:W.ts.length≤1000):
    Cn Tryz.prog 140 [.pointer (some ⟨b,0,none⟩),.int .i64 sp,.int .i64 att] [Ch b C W] [gl] (fun v Bs=>v=.tuple #[]∧Bs=[Ch b C (FZ dg C W sp att)]):=by
 intro w0 F0 H
 refine enter Tryz.func140 U U (Nat.le_of_ble_eq_true U) (Aa (Aa (Ae (Ad U (sc (Q4 b C W) H l0 U U (Au LL U U) ?_)))))
 rintro _ _ w ⟨rfl,rfl⟩ H
 refine Ad U ?_
 refine GM (d:=10) (b:=W.over) U (fun h1=>?_) (fun h1=>?_)
 ·refine Ah 6 U (Ac (Z ?_))
  replace H:Hd _ _ _ [Ch b C W] [gl]:=H
  refine Ck U (Am (Ay (IG U ?_)))
  have e:FZ dg C W sp att=W:=if_pos (by first |(rw [show W.over=true by simpa using h1];rfl)|(rw [show EL W.ts sp att=true by have h9:=h1;rw [hfo] at h9;simpa using h9];cases W.over<;>rfl))
  exact Ak ⟨rfl,by rw [e]<;>rfl⟩ H
 refine Ah 3 U ?_
 replace H:Hd _ _ _ [Ch b C W] [gl]:=H
 refine sc (ZG b C W sp att) H l0 U U (Au Ua U U) ?_
 rintro _ _ w ⟨o2,rfl,rfl,hf3⟩ H
 have hfo:=hf3
 refine V U U (IJ U Hi U U) (Ad U (Ac (Z ?_)))
 refine DO (b:=!(o2:Option Addr).isNone) U (fun h4=>?_) (fun h4=>?_)
 ·refine Am (Ay (IG U ?_))
  have e:FZ dg C W sp att=W:=if_pos (by first |(rw [show W.over=true by simpa using h4];rfl)|(rw [show EL W.ts sp att=true by have h9:=h4;rw [hfo] at h9;simpa using h9];cases W.over<;>rfl))
  exact Ak ⟨rfl,by rw [e]<;>rfl⟩ H
 refine Ax (Z (Aa ?_))
 obtain ⟨vS5,vM6,vC7,vR8,vK9,J10,pv11,kb12,tv13,rl14,tl15,⟨hsj16,hrl17,htl18⟩,H⟩:=Hm b C W H
 replace H:Hd _ _ _ [blk b [vS5,.int .i64 J10.parts,vM6,vC7,vR8,.int .i64 J10.chunk,.int .i64 J10.window,.int .i64 J10.fuel,vK9,.int .i64 C.w,.int .i64 C.t,.int .i64 C.o,.int .i64 W.ep,pv11,.map (some kb12),tv13,.int .u32 (BC W.over)] 210,Y (Ao Ag) vS5 J10.us,Y Af vM6 J10.map,Y Af vC7 J10.comb,Y Af vR8 J10.red,Y (Ai .i64) vK9 J10.marks,Y (Ai .i64) pv11 (rl14.map AE),Bt BG kb12 (rl14.map BM),BV C rl14,Y B6 tv13 (tl15.map AG),B8 C.J tl15] [gl]:=H
 obtain ⟨A19,c20,rfl,hc21,hm22,hp23⟩:=H.fA 6 rfl
 obtain ⟨A24,c25,rfl,hc26,hm27,hp28⟩:=H.fA 9 rfl
 have htl1:(tl15.map AG).length≤1000:=by rw [List.length_map,←List.length_map (f:=Prod.snd),htl18];exact hl
 by_cases hrm:HS C sp att
 ·refine Ae (Ad U (V U U (AF U U) (V U U (Aj U Ik U) (V U U (Bn (cs:=[vS5,.int .i64 J10.parts,vM6,vC7,vR8,.int .i64 J10.chunk,.int .i64 J10.window,.int .i64 J10.fuel,vK9,.int .i64 C.w,.int .i64 C.t,.int .i64 C.o]) U DX U U (H.cellsI 0 U U)) (Ah 2 U ?_)))))
  have hC2:C1 (Co J10 C):=(IP hsj16).symm.may hC
  have hO2:B5 J10:=hsj16.symm.ok hJ
  have hle:=hsj16.len
  have hg2:HS (Co J10 C) sp att:=⟨hrm.1,by show sp<((J10.us.length:Nat):Int);have:=hrm.2.1;omega,hrm.2.2⟩
  refine sc (Vt vS5 vM6 vC7 vR8 vK9 (Co J10 C) sp att (by first |assumption|exact hO2|omega) (by first |assumption|exact hO2|omega) (by first |assumption|exact hO2|omega)) H (lA 1 U BE (lA 2 U BE (lA 3 U BE (lA 4 U BE (lA 5 U BE (lR 0 U l0)))))) U U (Au OY U U) ?_
  rintro _ _ w ⟨b29,rfl,rfl⟩ H
  replace H:=H.h1 (A:=Ce b29 J10 (Db dg J10 sp.toNat att))
  rw [Py hsj16] at H
  replace H:=VQ hsj16 H
  replace H:Hd _ _ _ [Ce b29 C.J (Db dg C.J sp.toNat att),blk b [vS5,.int .i64 J10.parts,vM6,vC7,vR8,.int .i64 J10.chunk,.int .i64 J10.window,.int .i64 J10.fuel,vK9,.int .i64 C.w,.int .i64 C.t,.int .i64 C.o,.int .i64 W.ep,.slice A19 ((rl14.map AE).length) c20,.map (some kb12),.slice A24 ((tl15.map AG).length) c25,.int .u32 (BC W.over)] 210,Y (Ao Ag) vS5 J10.us,Y Af vM6 J10.map,Y Af vC7 J10.comb,Y Af vR8 J10.red,Y (Ai .i64) vK9 J10.marks,Y (Ai .i64) (.slice A19 ((rl14.map AE).length) c20) (rl14.map AE),Bt BG kb12 (rl14.map BM),BV C rl14,Y B6 (.slice A24 ((tl15.map AG).length) c25) (tl15.map AG),B8 C.J tl15] [gl]:=H
  refine Ah 5 U (Ac (Z (Aa (Ae (Ad U (V U U (AW U U U) (Ac (Z (Ck U (Ae (Ah 2 U (V U U (AF U U) (V U U (Aj U HB U) (V U U (Al U H0 U (H.cellI 1 U U)) (Ah 3 U (V U U (CQ (parts:=[(0,.tmp 34),(1,.tmp 35),(2,.tmp 36)]) (vs:=[.int .i64 sp,.int .i64 att,.pointer (some ⟨b29,0,none⟩)]) (cs:=[.int .i64 sp,.int .i64 att,.pointer (some ⟨b29,0,none⟩)]) U Rt U U) (BW (parts:=[(0,.tmp 37)]) (vs:=[.agg #[.int .i64 sp,.int .i64 att,.pointer (some ⟨b29,0,none⟩)]]) (cs:=[.int .i64 sp,.int .i64 att,.pointer (some ⟨b29,0,none⟩)]) U U U Kk KA U (by decide) (by decide) U U H (fun b30 w H=>?_))))))))))))))))))
  replace H:=H.pick 11 rfl
  refine CA (xs:=tl15.map AG) (ys:=[(⟨sp,att,b29⟩:ES)]) U U U Kk KA U (by decide) U U H (by first |omega|(simp only [List.length_append,List.length_cons,List.length_nil];omega)) (fun F hA hR=>Cp (hA _ (List.mem_of_getElem? (i:=0) U)) U (by decide) (AV.flat_eq.2 U)) (fun v31 w H=>(V U U (AF U U) (V U U (Aj U HB U) ?_)))
  obtain ⟨A32,c33,rfl,hc34,hm35,hp36⟩:=H.fA 0 rfl
  replace H:=H.p3
  refine BD U U U H0 U U H U (Nat.le_of_ble_eq_true U) (fun u hu=>by simp [Value.cells] at hu;subst hu;rfl) (fun w H=>?_)
  replace H:Hd _ _ _ [blk b [vS5,.int .i64 J10.parts,vM6,vC7,vR8,.int .i64 J10.chunk,.int .i64 J10.window,.int .i64 J10.fuel,vK9,.int .i64 C.w,.int .i64 C.t,.int .i64 C.o,.int .i64 W.ep,.slice A19 ((rl14.map AE).length) c20,.map (some kb12),.slice A32 (((tl15.map AG)++[(⟨sp,att,b29⟩:ES)]).length) c33,.int .u32 (BC W.over)] 210,Y B6 (.slice A32 (((tl15.map AG)++[(⟨sp,att,b29⟩:ES)]).length) c33) ((tl15.map AG)++[(⟨sp,att,b29⟩:ES)]),blk b30 [.int .i64 sp,.int .i64 att,.pointer (some ⟨b29,0,none⟩)] 215,Ce b29 C.J (Db dg C.J sp.toNat att),Y (Ao Ag) vS5 J10.us,Y Af vM6 J10.map,Y Af vC7 J10.comb,Y Af vR8 J10.red,Y (Ai .i64) vK9 J10.marks,Y (Ai .i64) (.slice A19 ((rl14.map AE).length) c20) (rl14.map AE),Bt BG kb12 (rl14.map BM),BV C rl14,B8 C.J tl15] [gl]:=H
  refine Ac (Dx U ?_)
  have hno:¬ (W.over||EL W.ts sp att)=true:=by rw [show W.over=false by simpa using h1,show EL W.ts sp att=false by have h9:=h4;rw [hfo] at h9;simpa using h9];decide
  replace H:Hd w0 F0 w [blk b [vS5,.int .i64 J10.parts,vM6,vC7,vR8,.int .i64 J10.chunk,.int .i64 J10.window,.int .i64 J10.fuel,vK9,.int .i64 C.w,.int .i64 C.t,.int .i64 C.o,.int .i64 W.ep,.slice A19 ((rl14.map AE).length) c20,.map (some kb12),.slice A32 (((tl15.map AG)++[(⟨sp,att,b29⟩:ES)]).length) c33,.int .u32 (BC W.over)] 210,Y B6 (.slice A32 (((tl15.map AG)++[(⟨sp,att,b29⟩:ES)]).length) c33) ((tl15++[(b29,Db dg C.J sp.toNat att)]).map AG),blk b30 [.int .i64 sp,.int .i64 att,.pointer (some ⟨b29,0,none⟩)] 215,Ce b29 C.J (Db dg C.J sp.toNat att),Y (Ao Ag) vS5 J10.us,Y Af vM6 J10.map,Y Af vC7 J10.comb,Y Af vR8 J10.red,Y (Ai .i64) vK9 J10.marks,Y (Ai .i64) (.slice A19 ((rl14.map AE).length) c20) (rl14.map AE),Bt BG kb12 (rl14.map BM),BV C rl14,B8 C.J tl15] [gl]:=by rw [List.map_append,show [(b29,Db dg C.J sp.toNat att)].map AG=[(⟨sp,att,b29⟩:ES)] from by show [(⟨((sp.toNat:Nat):Int),att,b29⟩:ES)]=_;rw [Int.toNat_of_nonneg hrm.1]];exact H
  replace H:=H.pick 12 rfl|>.p4
  replace H:=Hd.bigN (f:=fun e:Nat×BJ=>Ce e.1 C.J e.2) (x:=(b29,Db dg C.J sp.toNat att)) H
  replace H:=H.h1 (A:=B8 C.J (tl15++[(b29,Db dg C.J sp.toNat att)]))
  have e:FZ dg C W sp att=({ W with ts:=W.ts++[Db dg C.J sp.toNat att] }:Ds):=by unfold FZ;rw [if_neg hno,if_pos hrm]
  replace H:=H.p2.pick 11 rfl|>.pick 11 rfl|>.pick 11 rfl|>.pick 11 rfl|>.pick 11 rfl|>.pick 11 rfl|>.pick 11 rfl|>.pick 11 rfl|>.pick 10 rfl|>.keep 11
  replace H:=EH b C ({ W with ts:=W.ts++[Db dg C.J sp.toNat att] }:Ds) vS5 vM6 vC7 vR8 vK9 J10 (.slice A19 ((rl14.map AE).length) c20) kb12 (.slice A32 (((tl15.map AG)++[(⟨sp,att,b29⟩:ES)]).length) c33) rl14 (tl15++[(b29,Db dg C.J sp.toNat att)]) ⟨hsj16,hrl17,(by rw [List.map_append,htl18];rfl)⟩ H
  replace H:=H.h1 (A:=Ch b C ({ W with ts:=W.ts++[Db dg C.J sp.toNat att] }:Ds))
  exact Ak ⟨rfl,by rw [e]<;>rfl⟩ H
 refine Ae (Ad U (V U U (AF U U) (V U U (Aj U Ik U) (V U U (Bn (cs:=[vS5,.int .i64 J10.parts,vM6,vC7,vR8,.int .i64 J10.chunk,.int .i64 J10.window,.int .i64 J10.fuel,vK9,.int .i64 C.w,.int .i64 C.t,.int .i64 C.o]) U DX U U (H.cellsI 0 U U)) (Ah 2 U ?_)))))
 have hC2:C1 (Co J10 C):=(IP hsj16).symm.may hC
 have hO2:B5 J10:=hsj16.symm.ok hJ
 have hle:=hsj16.len
 have hg2:¬ (C1 (Co J10 C)∧0≤sp∧sp<(((Co J10 C).J.us.length:Nat):Int)∧1≤att∧att≤(Co J10 C).t):=fun g=>hrm ⟨g.2.1,by have h9:sp<((J10.us.length:Nat):Int):=g.2.2.1;omega,g.2.2.2⟩
 refine sc (Vu vS5 vM6 vC7 vR8 vK9 (Co J10 C) sp att (by first |assumption|exact hO2|omega)) H (lA 1 U BE (lA 2 U BE (lA 3 U BE (lA 4 U BE (lA 5 U BE l0))))) U U (Au OY U U) ?_
 rintro _ _ w ⟨rfl,rfl⟩ H
 refine Ah 5 U (Ac (Z (Aa (Ae (Ad U (V U U (AW U U U) (Ac (Z (B7 U (Ax (Dx U ?_)))))))))))
 have hno:¬ (W.over||EL W.ts sp att)=true:=by rw [show W.over=false by simpa using h1,show EL W.ts sp att=false by have h9:=h4;rw [hfo] at h9;simpa using h9];decide
 have e:FZ dg C W sp att=W:=by unfold FZ;rw [if_neg hno,if_neg hrm]
 replace H:=EH b C W vS5 vM6 vC7 vR8 vK9 J10 (.slice A19 ((rl14.map AE).length) c20) kb12 (.slice A24 ((tl15.map AG).length) c25) rl14 tl15 ⟨hsj16,hrl17,htl18⟩ H
 replace H:=H.h1 (A:=Ch b C W)
 exact Ak ⟨rfl,by rw [e]<;>rfl⟩ H
theorem ZP (b:Nat) (vS:Value) (vM:Value) (vC:Value) (vR:Value) (vK:Value) (J2:AC) (C:Cf) (ep:Int) (pv:Value) (kb:Nat) (tv:Value) (ov:Bool):
    Cn Tryz.prog 142 [.pointer (some ⟨b,16,none⟩),.bool true] [blk b [vS,.int .i64 J2.parts,vM,vC,vR,.int .i64 J2.chunk,.int .i64 J2.window,.int .i64 J2.fuel,vK,.int .i64 C.w,.int .i64 C.t,.int .i64 C.o,.int .i64 ep,pv,.map (some kb),tv,.int .u32 (BC ov)] 210] [] (fun v Bs=>v=.tuple #[]∧Bs=[blk b [vS,.int .i64 J2.parts,vM,vC,vR,.int .i64 J2.chunk,.int .i64 J2.window,.int .i64 J2.fuel,vK,.int .i64 C.w,.int .i64 C.t,.int .i64 C.o,.int .i64 ep,pv,.map (some kb),tv,.int .u32 (BC true)] 210]):=by
 intro w0 F0 H
 refine enter Tryz.func142 U U (Nat.le_of_ble_eq_true U) (B1 (.e 0 (.e 1 (.e 2 (.e 3 (.m 4 (.m 5 .z)))))) (fun w=>∃ Ar,Hd w0 F0 w (Ar) []) mo (by kernel_rfl) (fun w H=>⟨_,H⟩) H (fun w H=>(At U (Ap U U U (fun w ⟨Ar,H⟩=>AF U U) (Ap U U U (fun w ⟨Ar,H⟩=>Aj U HA U) (At U (AO U (sc (KH true) H l0 U U (Au LG U U) ?_))))))))
 rintro _ _ w ⟨rfl,rfl⟩ H
 refine AJ ⟨_,H⟩ (AO U (Mr KU U U U U H U (fun w H=>?_)))
 replace H:Hd _ _ _ [blk b [vS,.int .i64 J2.parts,vM,vC,vR,.int .i64 J2.chunk,.int .i64 J2.window,.int .i64 J2.fuel,vK,.int .i64 C.w,.int .i64 C.t,.int .i64 C.o,.int .i64 ep,pv,.map (some kb),tv,.int .u32 (BC true)] 210] []:=H
 exact AJ ⟨_,H⟩ (BK (Dx U (Ak ⟨rfl,rfl⟩ H)))
theorem ZI (b:Nat) (C:Cf) (W:Ds) (fr:Int) (kd:Int) (sp:Int) (att:Int) (hC:C1 C) (hJ:B5 C.J) (hfr:0≤fr∧fr≤C.w) (hk:kd=1∨kd=9) (hl:W.ts.length≤1000):
    Cn Tryz.prog 70 [.pointer (some ⟨b,0,none⟩),.int .i64 fr,.agg #[.int .i64 kd,.int .i64 sp,.int .i64 att,.int .i64 0,.int .i64 0,.int .i64 0,.int .i64 0,.int .i64 0,.slice none 0 0,.slice none 0 0]] [Ch b C W] [gl] (fun v Bs=>v=.tuple #[.slice none 0 0,.slice none 0 0]∧Bs=[Ch b C (Fh dg C W fr kd sp att)]):=by
 intro w0 F0 H
 obtain ⟨vS1,vM2,vC3,vR4,vK5,J6,pv7,kb8,tv9,rl10,tl11,⟨hsj12,hrl13,htl14⟩,H⟩:=Hm b C W H
 replace H:Hd _ _ _ [blk b [vS1,.int .i64 J6.parts,vM2,vC3,vR4,.int .i64 J6.chunk,.int .i64 J6.window,.int .i64 J6.fuel,vK5,.int .i64 C.w,.int .i64 C.t,.int .i64 C.o,.int .i64 W.ep,pv7,.map (some kb8),tv9,.int .u32 (BC W.over)] 210,Y (Ao Ag) vS1 J6.us,Y Af vM2 J6.map,Y Af vC3 J6.comb,Y Af vR4 J6.red,Y (Ai .i64) vK5 J6.marks,Y (Ai .i64) pv7 (rl10.map AE),Bt BG kb8 (rl10.map BM),BV C rl10,Y B6 tv9 (tl11.map AG),B8 C.J tl11] [gl]:=H
 obtain ⟨A15,c16,rfl,hc17,hm18,hp19⟩:=H.fA 6 rfl
 obtain ⟨A20,c21,rfl,hc22,hm23,hp24⟩:=H.fA 9 rfl
 refine enter Tryz.func70 U U (Nat.le_of_ble_eq_true U) (Aa (Ae (Cm U U U U H (fun b25 w H=>?_))))
 replace H:=H.h1 (A:=blk b25 [.int .i64 kd,.int .i64 sp,.int .i64 att,.int .i64 0,.int .i64 0,.int .i64 0,.int .i64 0,.int .i64 0,.slice none 0 0,.slice none 0 0] 64)
 refine Ah 2 U (Ac (Z (Aa (Aa (Ae (Ad U (V U U (CW U E6 U U) (Ah 2 U (V U U (Bd U U U) (Ah 2 U ?_))))))))))
 refine AN (d:=17) U (fun h26=>?_) (fun h26=>?_)
 ·exfalso;omega
 refine Ah 2 U (V U U (AF U U) (V U U (Aj U Ik U) (V U U (Aj U JA U) (V U U (Al U AA U (H.cellI 1 U U)) (V U U (CK U U U) (Ad U (Ac (Z ?_))))))))
 refine Aw U (fun h27=>?_) (fun h27=>?_)
 ·exfalso;omega
 refine Ax (Z (Aa (Gd mo (by kernel_rfl) H (D4 U (Bu U U (fun w H=>AF U U) (Bu U U (fun w H=>Aj U Lc U) (Bu U U (fun w H=>Al U MF U (H.cellI 1 U U)) (Bu U U (fun w H=>Aj U JB U) (Bu U U (fun w H=>Al U AA U (H.cellI 0 U U)) (Bu U U (fun w H=>Qb MR U MG Rc U 0 U H 8 U (JN _ _)) (D4 U (Gs (fun w H=>(Z (Aa (AS (Aa (Ae (V U U (Aj U Fe U) (V U U (Al U AA U (H.cellI 0 U U)) (V U U (AW U U U) (Ad U ?_))))))))))))))))))))))
 refine AN (d:=37) U (fun h28=>?_) (fun h28=>?_)
 ·refine Ad U (V U U (AW U U U) (Ah 2 U (Ac (Z ?_))))
  refine Aw U (fun h29=>?_) (fun h29=>?_)
  ·refine Ae (Ad U (V U U (Aj U Ll U) (V U U (Al U AA U (H.cellI 0 U U)) (V U U (Aj U Lm U) (V U U (Al U AA U (H.cellI 0 U U)) ?_)))))
   replace H:=H.sel 12 [1,2,3,4,5,6,7,8,9,10,11,0] [] rfl (by kernel_rfl)
   replace H:Hd _ _ _ [blk b [vS1,.int .i64 J6.parts,vM2,vC3,vR4,.int .i64 J6.chunk,.int .i64 J6.window,.int .i64 J6.fuel,vK5,.int .i64 C.w,.int .i64 C.t,.int .i64 C.o,.int .i64 W.ep,.slice A15 ((rl10.map AE).length) c16,.map (some kb8),.slice A20 ((tl11.map AG).length) c21,.int .u32 (BC W.over)] 210,Y (Ao Ag) vS1 J6.us,Y Af vM2 J6.map,Y Af vC3 J6.comb,Y Af vR4 J6.red,Y (Ai .i64) vK5 J6.marks,Y (Ai .i64) (.slice A15 ((rl10.map AE).length) c16) (rl10.map AE),Bt BG kb8 (rl10.map BM),BV C rl10,Y B6 (.slice A20 ((tl11.map AG).length) c21) (tl11.map AG),B8 C.J tl11,blk b25 [.int .i64 kd,.int .i64 sp,.int .i64 att,.int .i64 0,.int .i64 0,.int .i64 0,.int .i64 0,.int .i64 0,.slice none 0 0,.slice none 0 0] 64] [gl]:=H
   replace H:=EH b C W vS1 vM2 vC3 vR4 vK5 J6 (.slice A15 ((rl10.map AE).length) c16) kb8 (.slice A20 ((tl11.map AG).length) c21) rl10 tl11 ⟨hsj12,hrl13,htl14⟩ H
   replace H:=H.h1 (A:=Ch b C W)
   refine sc (ZO b C W sp att (by first |assumption|exact hO2|omega) (by first |assumption|exact hO2|omega) (by first |assumption|exact hO2|omega)) H (lR 0 U l0) U U (Au T_ U U) ?_
   rintro _ _ w ⟨rfl,rfl⟩ H
   replace H:=H.h1 (A:=Ch b C (FZ dg C W sp att))
   refine Ac (AU (Z (Aa (Ae (Ah 2 U (Ac (Z (Am (B_ U U U ?_)))))))))
   have e:Fh dg C W fr kd sp att=FZ dg C W sp att:=by unfold Fh;rw [if_neg (fun g=>g (by omega)),if_pos (by omega)]
   replace H:=H.k1
   exact Ak ⟨rfl,by rw [e]<;>rfl⟩ H
  refine Aa (Ae (V U U (Aj U Fe U) (V U U (Al U AA U (H.cellI 0 U U)) (V U U (AW U U U) (Ad U ?_)))))
  refine AN (d:=51) U (fun h30=>?_) (fun h30=>?_)
  ·exfalso;omega
  refine Ah 4 U (Ac (Z (B7 U (Aa (Ae (V U U (Aj U Fe U) (V U U (Al U AA U (H.cellI 0 U U)) (V U U (AW U U U) (Ad U (Ac (Z ?_)))))))))))
  refine Aw U (fun h31=>?_) (fun h31=>?_)
  ·exfalso;omega
  refine Aa (Ae (V U U (Aj U Fe U) (V U U (Al U AA U (H.cellI 0 U U)) (V U U (AW U U U) (Ad U ?_)))))
  refine AN (d:=91) U (fun h32=>?_) (fun h32=>?_)
  ·exfalso;omega
  refine Ah 8 U (Ac (Z (B7 U (Aa (Ae (V U U (Aj U Fe U) (V U U (Al U AA U (H.cellI 0 U U)) (V U U (AW U U U) (Ad U ?_)))))))))
  refine AN (d:=111) U (fun h33=>?_) (fun h33=>?_)
  ·refine Ad U (V U U (AW U U U) (Ah 2 U (Ac (Z ?_))))
   refine Aw U (fun h34=>?_) (fun h34=>?_)
   ·exact absurd h34 h29
   refine Ax (AU (Z (Aa (Ae (Ah 2 U (Ac (Z (Am (B_ U U U ?_)))))))))
   have e:Fh dg C W fr kd sp att=W:=if_pos (by omega)
   replace H:=H.sel 12 [1,2,3,4,5,6,7,8,9,10,11] [0] rfl (by kernel_rfl)
   replace H:Hd _ _ _ [blk b [vS1,.int .i64 J6.parts,vM2,vC3,vR4,.int .i64 J6.chunk,.int .i64 J6.window,.int .i64 J6.fuel,vK5,.int .i64 C.w,.int .i64 C.t,.int .i64 C.o,.int .i64 W.ep,.slice A15 ((rl10.map AE).length) c16,.map (some kb8),.slice A20 ((tl11.map AG).length) c21,.int .u32 (BC W.over)] 210,Y (Ao Ag) vS1 J6.us,Y Af vM2 J6.map,Y Af vC3 J6.comb,Y Af vR4 J6.red,Y (Ai .i64) vK5 J6.marks,Y (Ai .i64) (.slice A15 ((rl10.map AE).length) c16) (rl10.map AE),Bt BG kb8 (rl10.map BM),BV C rl10,Y B6 (.slice A20 ((tl11.map AG).length) c21) (tl11.map AG),B8 C.J tl11] [gl]:=H
   replace H:=EH b C W vS1 vM2 vC3 vR4 vK5 J6 (.slice A15 ((rl10.map AE).length) c16) kb8 (.slice A20 ((tl11.map AG).length) c21) rl10 tl11 ⟨hsj12,hrl13,htl14⟩ H
   replace H:=H.h1 (A:=Ch b C W)
   exact Ak ⟨rfl,by rw [e]<;>rfl⟩ H
  refine Ah 4 U (Ac (Z (B7 U (Ax (AU (Z (Aa (Ae (Ah 2 U (Ac (Z (Am (B_ U U U ?_)))))))))))))
  have e:Fh dg C W fr kd sp att=W:=if_pos (by omega)
  replace H:=H.sel 12 [1,2,3,4,5,6,7,8,9,10,11] [0] rfl (by kernel_rfl)
  replace H:Hd _ _ _ [blk b [vS1,.int .i64 J6.parts,vM2,vC3,vR4,.int .i64 J6.chunk,.int .i64 J6.window,.int .i64 J6.fuel,vK5,.int .i64 C.w,.int .i64 C.t,.int .i64 C.o,.int .i64 W.ep,.slice A15 ((rl10.map AE).length) c16,.map (some kb8),.slice A20 ((tl11.map AG).length) c21,.int .u32 (BC W.over)] 210,Y (Ao Ag) vS1 J6.us,Y Af vM2 J6.map,Y Af vC3 J6.comb,Y Af vR4 J6.red,Y (Ai .i64) vK5 J6.marks,Y (Ai .i64) (.slice A15 ((rl10.map AE).length) c16) (rl10.map AE),Bt BG kb8 (rl10.map BM),BV C rl10,Y B6 (.slice A20 ((tl11.map AG).length) c21) (tl11.map AG),B8 C.J tl11] [gl]:=H
  replace H:=EH b C W vS1 vM2 vC3 vR4 vK5 J6 (.slice A15 ((rl10.map AE).length) c16) kb8 (.slice A20 ((tl11.map AG).length) c21) rl10 tl11 ⟨hsj12,hrl13,htl14⟩ H
  replace H:=H.h1 (A:=Ch b C W)
  exact Ak ⟨rfl,by rw [e]<;>rfl⟩ H
 refine Ah 4 U (Ac (Z (B7 U (Aa (Ae (V U U (Aj U Fe U) (V U U (Al U AA U (H.cellI 0 U U)) (V U U (AW U U U) (Ad U ?_)))))))))
 refine AN (d:=51) U (fun h35=>?_) (fun h35=>?_)
 ·exfalso;omega
 refine Ah 4 U (Ac (Z (B7 U (Aa (Ae (V U U (Aj U Fe U) (V U U (Al U AA U (H.cellI 0 U U)) (V U U (AW U U U) (Ad U (Ac (Z ?_)))))))))))
 refine Aw U (fun h36=>?_) (fun h36=>?_)
 ·exfalso;omega
 refine Aa (Ae (V U U (Aj U Fe U) (V U U (Al U AA U (H.cellI 0 U U)) (V U U (AW U U U) (Ad U ?_)))))
 refine AN (d:=91) U (fun h37=>?_) (fun h37=>?_)
 ·exfalso;omega
 refine Ah 8 U (Ac (Z (B7 U (Aa (Ae (V U U (Aj U Fe U) (V U U (Al U AA U (H.cellI 0 U U)) (V U U (AW U U U) (Ad U ?_)))))))))
 refine AN (d:=111) U (fun h38=>?_) (fun h38=>?_)
 ·refine Ad U (V U U (AW U U U) (Ah 2 U (Ac (Z ?_))))
  refine Aw U (fun h39=>?_) (fun h39=>?_)
  ·refine Aa (Ae (Ad U (V U U (AF U U) (V U U (Aj U Oa U) ?_))))
   replace H:=H.p1
   replace H:Hd _ _ _ [blk b [vS1,.int .i64 J6.parts,vM2,vC3,vR4,.int .i64 J6.chunk,.int .i64 J6.window,.int .i64 J6.fuel,vK5,.int .i64 C.w,.int .i64 C.t,.int .i64 C.o,.int .i64 W.ep,.slice A15 ((rl10.map AE).length) c16,.map (some kb8),.slice A20 ((tl11.map AG).length) c21,.int .u32 (BC W.over)] 210,blk b25 [.int .i64 kd,.int .i64 sp,.int .i64 att,.int .i64 0,.int .i64 0,.int .i64 0,.int .i64 0,.int .i64 0,.slice none 0 0,.slice none 0 0] 64,Y (Ao Ag) vS1 J6.us,Y Af vM2 J6.map,Y Af vC3 J6.comb,Y Af vR4 J6.red,Y (Ai .i64) vK5 J6.marks,Y (Ai .i64) (.slice A15 ((rl10.map AE).length) c16) (rl10.map AE),Bt BG kb8 (rl10.map BM),BV C rl10,Y B6 (.slice A20 ((tl11.map AG).length) c21) (tl11.map AG),B8 C.J tl11] [gl]:=H
   refine sc (ZP b vS1 vM2 vC3 vR4 vK5 J6 C W.ep (.slice A15 ((rl10.map AE).length) c16) kb8 (.slice A20 ((tl11.map AG).length) c21) W.over) H l0 U U (Au JG U U) ?_
   rintro _ _ w ⟨rfl,rfl⟩ H
   replace H:=H.h1 (A:=blk b [vS1,.int .i64 J6.parts,vM2,vC3,vR4,.int .i64 J6.chunk,.int .i64 J6.window,.int .i64 J6.fuel,vK5,.int .i64 C.w,.int .i64 C.t,.int .i64 C.o,.int .i64 W.ep,.slice A15 ((rl10.map AE).length) c16,.map (some kb8),.slice A20 ((tl11.map AG).length) c21,.int .u32 (BC true)] 210)
   refine Ac (Z (Ae (Ad U (V U U (AF U U) (V U U (Aj U HB U) (BD U U U H0 U U H U (Nat.le_of_ble_eq_true U) (fun u hu=>by simp [Value.cells] at hu;subst hu;rfl) (fun w H=>?_)))))))
   replace H:=H.h1 (A:=blk b [vS1,.int .i64 J6.parts,vM2,vC3,vR4,.int .i64 J6.chunk,.int .i64 J6.window,.int .i64 J6.fuel,vK5,.int .i64 C.w,.int .i64 C.t,.int .i64 C.o,.int .i64 W.ep,.slice A15 ((rl10.map AE).length) c16,.map (some kb8),.slice none 0 0,.int .u32 (BC true)] 210)
   refine Ac (AU (Z (Aa (Ae (Ah 2 U (Ac (Z (Am (B_ U U U ?_)))))))))
   replace H:=H.newnil B6
   replace H:=Hd.big0 (fun e:Nat×BJ=>Ce e.1 C.J e.2) H
   replace H:=H.h2 (A:=B8 C.J ([]:List (Nat×BJ))) (B:=Y B6 (.slice none 0 0) (([]:List (Nat×BJ)).map AG))|>.keep 12
   have e:Fh dg C W fr kd sp att=({ W with ts:=[],over:=true }:Ds):=by unfold Fh;rw [if_neg (fun g=>g (by omega)),if_neg (by omega)]
   replace H:=H.p1.pick 11 rfl|>.pick 11 rfl|>.pick 11 rfl|>.pick 11 rfl|>.pick 11 rfl|>.pick 11 rfl|>.pick 11 rfl|>.pick 11 rfl|>.pick 10 rfl|>.keep 11
   replace H:=EH b C ({ W with ts:=[],over:=true }:Ds) vS1 vM2 vC3 vR4 vK5 J6 (.slice A15 ((rl10.map AE).length) c16) kb8 (.slice none 0 0) rl10 [] ⟨hsj12,hrl13,rfl⟩ H
   replace H:=H.h1 (A:=Ch b C ({ W with ts:=[],over:=true }:Ds))
   exact Ak ⟨rfl,by rw [e]<;>rfl⟩ H
  refine Ax (AU (Z (Aa (Ae (Ah 2 U (Ac (Z (Am (B_ U U U ?_)))))))))
  have e:Fh dg C W fr kd sp att=W:=if_pos (by omega)
  replace H:=H.sel 12 [1,2,3,4,5,6,7,8,9,10,11] [0] rfl (by kernel_rfl)
  replace H:Hd _ _ _ [blk b [vS1,.int .i64 J6.parts,vM2,vC3,vR4,.int .i64 J6.chunk,.int .i64 J6.window,.int .i64 J6.fuel,vK5,.int .i64 C.w,.int .i64 C.t,.int .i64 C.o,.int .i64 W.ep,.slice A15 ((rl10.map AE).length) c16,.map (some kb8),.slice A20 ((tl11.map AG).length) c21,.int .u32 (BC W.over)] 210,Y (Ao Ag) vS1 J6.us,Y Af vM2 J6.map,Y Af vC3 J6.comb,Y Af vR4 J6.red,Y (Ai .i64) vK5 J6.marks,Y (Ai .i64) (.slice A15 ((rl10.map AE).length) c16) (rl10.map AE),Bt BG kb8 (rl10.map BM),BV C rl10,Y B6 (.slice A20 ((tl11.map AG).length) c21) (tl11.map AG),B8 C.J tl11] [gl]:=H
  replace H:=EH b C W vS1 vM2 vC3 vR4 vK5 J6 (.slice A15 ((rl10.map AE).length) c16) kb8 (.slice A20 ((tl11.map AG).length) c21) rl10 tl11 ⟨hsj12,hrl13,htl14⟩ H
  replace H:=H.h1 (A:=Ch b C W)
  exact Ak ⟨rfl,by rw [e]<;>rfl⟩ H
 refine Ah 4 U (Ac (Z (B7 U (Ax (AU (Z (Aa (Ae (Ah 2 U (Ac (Z (Am (B_ U U U ?_)))))))))))))
 have e:Fh dg C W fr kd sp att=W:=if_pos (by omega)
 replace H:=H.sel 12 [1,2,3,4,5,6,7,8,9,10,11] [0] rfl (by kernel_rfl)
 replace H:Hd _ _ _ [blk b [vS1,.int .i64 J6.parts,vM2,vC3,vR4,.int .i64 J6.chunk,.int .i64 J6.window,.int .i64 J6.fuel,vK5,.int .i64 C.w,.int .i64 C.t,.int .i64 C.o,.int .i64 W.ep,.slice A15 ((rl10.map AE).length) c16,.map (some kb8),.slice A20 ((tl11.map AG).length) c21,.int .u32 (BC W.over)] 210,Y (Ao Ag) vS1 J6.us,Y Af vM2 J6.map,Y Af vC3 J6.comb,Y Af vR4 J6.red,Y (Ai .i64) vK5 J6.marks,Y (Ai .i64) (.slice A15 ((rl10.map AE).length) c16) (rl10.map AE),Bt BG kb8 (rl10.map BM),BV C rl10,Y B6 (.slice A20 ((tl11.map AG).length) c21) (tl11.map AG),B8 C.J tl11] [gl]:=H
 replace H:=EH b C W vS1 vM2 vC3 vR4 vK5 J6 (.slice A15 ((rl10.map AE).length) c16) kb8 (.slice A20 ((tl11.map AG).length) c21) rl10 tl11 ⟨hsj12,hrl13,htl14⟩ H
 replace H:=H.h1 (A:=Ch b C W)
 exact Ak ⟨rfl,by rw [e]<;>rfl⟩ H
theorem PI (b:Nat) (J:AC) (M:BJ):Cn Tryz.prog 32 [.pointer (some ⟨b,0,none⟩)] [Ce b J M] [] (fun v Bs=>v=.int .i64 ((Az dg J M.sp).2)∧Bs=[Ce b J M]):=by
 intro w0 F0 H
 obtain ⟨vS,vM,vC,vR,vK,J2,cw,ct,co,cb,fv,vw,ws,⟨hsj,hws⟩,H⟩:=JT b J M H
 have H1:Hd w0 F0 w0 ([blk cb [.int .u32 1,.int .i32 0,.int .u32 0,.int .u32 1,fv,.string (AZ (Az dg J2 M.sp).1)] 234]++[blk b [vS,.int .i64 J2.parts,vM,vC,vR,.int .i64 J2.chunk,.int .i64 J2.window,.int .i64 J2.fuel,vK,.int .i64 cw,.int .i64 ct,.int .i64 co,.int .i64 ((M.sp:Nat):Int),.int .i64 M.att,.int .i64 ((Az dg J2 M.sp).2),.pointer (some ⟨cb,0,none⟩),vw] 164,Y (Ao Ag) vS J2.us,Y Af vM J2.map,Y Af vC J2.comb,Y Af vR J2.red,Y (Ai .i64) vK J2.marks,Y Cq vw (ws.map Prod.fst),Bm (Cg 239) ws]) []:=H.pick 1 rfl
 refine (Ge (Po b vS vM vC vR vK J2 cw ct co M.sp M.att cb fv vw ) H1 (lA 0 U (fun _ h=>h) l0)).mono ?_
 rintro e w ⟨v,rfl,Bs,⟨rfl,rfl⟩,H⟩
 replace H:Hd w0 F0 w [blk cb [.int .u32 1,.int .i32 0,.int .u32 0,.int .u32 1,fv,.string (AZ (Az dg J2 M.sp).1)] 234,blk b [vS,.int .i64 J2.parts,vM,vC,vR,.int .i64 J2.chunk,.int .i64 J2.window,.int .i64 J2.fuel,vK,.int .i64 cw,.int .i64 ct,.int .i64 co,.int .i64 ((M.sp:Nat):Int),.int .i64 M.att,.int .i64 ((Az dg J2 M.sp).2),.pointer (some ⟨cb,0,none⟩),vw] 164,Y (Ao Ag) vS J2.us,Y Af vM J2.map,Y Af vC J2.comb,Y Af vR J2.red,Y (Ai .i64) vK J2.marks,Y Cq vw (ws.map Prod.fst),Bm (Cg 239) ws] []:=H
 replace H:=H.p1
 have e:=hsj.split dg M.sp
 exact ⟨_,rfl,_,⟨by rw [e],rfl⟩,Ix b J M vS vM vC vR vK J2 cw ct co cb fv vw ws ⟨hsj,hws⟩ (As:=[]) H⟩
theorem PH (b:Nat) (J:AC) (M:BJ) (hJ:B5 J):Cn Tryz.prog 30 [.pointer (some ⟨b,0,none⟩)] [Ce b J M] [] (fun v Bs=>Bs=[Y (Ai .i64) v (Br dg J M.sp M.att),Ce b J M]):=by
 intro w0 F0 H
 obtain ⟨vS,vM,vC,vR,vK,J2,cw,ct,co,cb,fv,vw,ws,⟨hsj,hws⟩,H⟩:=JT b J M H
 have H1:Hd w0 F0 w0 ([blk cb [.int .u32 1,.int .i32 0,.int .u32 0,.int .u32 1,fv,.string (AZ (Az dg J2 M.sp).1)] 234]++[blk b [vS,.int .i64 J2.parts,vM,vC,vR,.int .i64 J2.chunk,.int .i64 J2.window,.int .i64 J2.fuel,vK,.int .i64 cw,.int .i64 ct,.int .i64 co,.int .i64 ((M.sp:Nat):Int),.int .i64 M.att,.int .i64 ((Az dg J2 M.sp).2),.pointer (some ⟨cb,0,none⟩),vw] 164,Y (Ao Ag) vS J2.us,Y Af vM J2.map,Y Af vC J2.comb,Y Af vR J2.red,Y (Ai .i64) vK J2.marks,Y Cq vw (ws.map Prod.fst),Bm (Cg 239) ws]) []:=H.pick 1 rfl
 refine (Ge (Vm b vS vM vC vR vK J2 cw ct co M.sp M.att cb fv vw  (hsj.symm.ok hJ)) H1 (lA 0 U (fun _ h=>h) l0)).mono ?_
 rintro e w ⟨v,rfl,Bs,rfl,H⟩
 replace H:Hd w0 F0 w [Y (Ai .i64) v (Br dg J2 M.sp M.att),blk cb [.int .u32 1,.int .i32 0,.int .u32 0,.int .u32 1,fv,.string (AZ (Az dg J2 M.sp).1)] 234,blk b [vS,.int .i64 J2.parts,vM,vC,vR,.int .i64 J2.chunk,.int .i64 J2.window,.int .i64 J2.fuel,vK,.int .i64 cw,.int .i64 ct,.int .i64 co,.int .i64 ((M.sp:Nat):Int),.int .i64 M.att,.int .i64 ((Az dg J2 M.sp).2),.pointer (some ⟨cb,0,none⟩),vw] 164,Y (Ao Ag) vS J2.us,Y Af vM J2.map,Y Af vC J2.comb,Y Af vR J2.red,Y (Ai .i64) vK J2.marks,Y Cq vw (ws.map Prod.fst),Bm (Cg 239) ws] []:=H
 replace H:=H.p9.p9.p9.p9.p9.p9.p9.p8.p9
 replace H:=Ix b J M vS vM vC vR vK J2 cw ct co cb fv vw ws ⟨hsj,hws⟩ (As:=[Y (Ai .i64) v (Br dg J2 M.sp M.att)]) H
 refine ⟨v,rfl,_,rfl,?_⟩
 have e:=NI hsj dg M.sp M.att
 rw [e] at H
 exact H.pick 1 U
theorem V9 (b:Nat) (J:AC) (M:BJ) (hJ:B5 J) (hM:FW M):
    Cn Tryz.prog 31 [.pointer (some ⟨b,0,none⟩)] [Ce b J M] [] (fun v Bs=>∃ zs:List (Bi Cj),Bs=[Y Is v zs,Ce b J M]∧(zs.map FV=GH dg J M)):=by
 intro w0 F0 H
 obtain ⟨vS1,vM2,vC3,vR4,vK5,J6,cw7,ct8,co9,cb10,fv11,vw12,ws13,⟨hsj14,hws15⟩,H⟩:=JT b J M H
 replace H:Hd _ _ _ [blk b [vS1,.int .i64 J6.parts,vM2,vC3,vR4,.int .i64 J6.chunk,.int .i64 J6.window,.int .i64 J6.fuel,vK5,.int .i64 cw7,.int .i64 ct8,.int .i64 co9,.int .i64 ((M.sp:Nat):Int),.int .i64 M.att,.int .i64 ((Az dg J6 M.sp).2),.pointer (some ⟨cb10,0,none⟩),vw12] 164,blk cb10 [.int .u32 1,.int .i32 0,.int .u32 0,.int .u32 1,fv11,.string (AZ (Az dg J6 M.sp).1)] 234,Y (Ao Ag) vS1 J6.us,Y Af vM2 J6.map,Y Af vC3 J6.comb,Y Af vR4 J6.red,Y (Ai .i64) vK5 J6.marks,Y Cq vw12 (ws13.map Prod.fst),Bm (Cg 239) ws13] []:=H
 have hwf:(ws13.map Prod.fst).length=ws13.length:=List.length_map ..
 have hwl:M.ws.length=ws13.length:=by rw [←hws15];exact List.length_map ..
 obtain ⟨A16,c17,rfl,hc18,hm19,hp20⟩:=H.fA 7 rfl
 have hJ2:B5 J6:=hsj14.symm.ok hJ
 have hml:=hM.2
 refine enter Tryz.func31 U U (Nat.le_of_ble_eq_true U) (Aa (Ae (Ad U (Ac (Z (Aa (Aa (Ae (Ad U (V U U (CW U Hi U U) (Ac (Z (B7 U (Ax (Z (Aa (Ae (Ad U (Ac (Z (Aa (Aa (Ae (Ad U (V U U (AF U U) (V U U (Aj U Jp U) (V U U (Al U IZ U (H.cellI 0 U U)) (V U U (Bf U Ze U) (Ad U (Ac (Z (AS ?_))))))))))))))))))))))))))))))))
 replace H:=H.newnil Ea
 replace H:=Hd.tw0 (α:=Cj) H
 replace H:=H.h1 (A:=BX ([]:List (Bi Cj)))|>.h2 (B:=Y Ea (.slice none 0 0) (([]:List (Bi Cj)).map Bv))|>.p1
 refine BQ (σ:=Nat×Value×List (Bi Cj)) (fun (k,q,zs)=>[(0,.pointer (some ⟨b,0,none⟩)),(2,.slice none 0 0),(3,q),(13,.slice A16 ((ws13.map Prod.fst).length) c17),(14,.int .i64 (((ws13.map Prod.fst).length:Nat):Int)),(15,.int .i64 ((k:Nat):Int))]) (fun (k,q,zs) w=>(Hd w0 F0 w [Y Ea q (zs.map Bv),BX zs,blk b [vS1,.int .i64 J6.parts,vM2,vC3,vR4,.int .i64 J6.chunk,.int .i64 J6.window,.int .i64 J6.fuel,vK5,.int .i64 cw7,.int .i64 ct8,.int .i64 co9,.int .i64 ((M.sp:Nat):Int),.int .i64 M.att,.int .i64 ((Az dg J6 M.sp).2),.pointer (some ⟨cb10,0,none⟩),.slice A16 ((ws13.map Prod.fst).length) c17] 164,blk cb10 [.int .u32 1,.int .i32 0,.int .u32 0,.int .u32 1,fv11,.string (AZ (Az dg J6 M.sp).1)] 234,Y (Ao Ag) vS1 J6.us,Y Af vM2 J6.map,Y Af vC3 J6.comb,Y Af vR4 J6.red,Y (Ai .i64) vK5 J6.marks,Y Cq (.slice A16 ((ws13.map Prod.fst).length) c17) (ws13.map Prod.fst),Bm (Cg 239) ws13] [])∧(k≤ws13.length)∧(zs.map FV=Dw dg J6 M.sp M.att (M.ws.take k) 0)) (fun (k,q,zs)=>ws13.length - k) (0,.slice none 0 0,[]) ⟨rfl,rfl,rfl,rfl,rfl,rfl,trivial⟩ ⟨H,Nat.zero_le _,rfl⟩ ?_
 rintro ⟨k,q,zs⟩ w ⟨H,hk,hz⟩
 have hzl:=congrArg List.length hz
 rw [List.length_map] at hzl
 have hpl:=JZ (D:=dg) (J:=J6) (s:=M.sp) (att:=M.att) (ws:=M.ws.take k) 0 (fun x hx=>hM.1 x (List.mem_of_mem_take hx))
 rw [List.length_take] at hpl
 refine Aa (Ae (V U U (Bd U U U) (Ac (Z (Aa ?_)))))
 refine Aw U (fun h21=>?_) (fun h21=>?_)
 ·refine Ax (Z (Aa (AS (Aa (Ae (Ad U ?_))))))
  obtain ⟨x22,hx23⟩:∃ z9,(ws13.map Prod.fst)[k]?=some z9:=⟨_,List.getElem?_eq_getElem (show k<(ws13.map Prod.fst).length by omega)⟩
  have th24:=H.thA 9 rfl hx23
  refine V U U (A0 (p:=AQ A16+k*1) U IS U U (by omega) (by omega) th24 U) (V U U (Al U Y_ U (H.elA 9 U hx23 (q:=0) U U)) (Ah 2 U (Ac (Z (Aa (Ae (Ad U ?_)))))))
  obtain ⟨wd25,he26⟩:=ZV hx23
  have hm27:M.ws[k]?=some wd25:=by rw [←hws15];exact ZX he26
  have hok_wd25:=hM.1 _ (Cc hm27)
  unfold IB at hok_wd25
  replace H:=H.pick 10 rfl|>.h3 (B:=Y Ea q (zs.map Bv)) (C:=BX zs)
  replace H:=Hd.bigO k he26 H
  replace H:=H.h2 (A:=blk x22 [.int .i64 wd25.c,.int .i64 wd25.s,.int .i64 wd25.e,.int .i64 wd25.x] 239) (B:=Bm (Cg 239) (ws13.eraseIdx k))
  refine sc (ZL x22 wd25.c wd25.s wd25.e wd25.x (by first |omega|decide) (by first |omega|decide)) H (lA 0 U (fun _ h=>h) l0) U U (Au TY U U) ?_
  rintro v28 _ w rfl H
  replace H:=H.h1 (A:=Y (Ai .i64) v28 (Do wd25.c wd25.s wd25.x))|>.p2|>.p2
  replace H:=Hd.bigI (f:=Cg 239) (x:=(x22,wd25)) k (JQ he26) H
  rw [ZW he26] at H
  obtain ⟨A29,c30,rfl,hc31,hm32,hp33⟩:=H.fA 1 rfl
  refine V U U (Bf U E7 U) (Ad U (Ac (Z ?_)))
  replace H:Hd _ _ _ [Bm (Cg 239) ws13,Y (Ai .i64) (.slice A29 ((Do wd25.c wd25.s wd25.x).length) c30) (Do wd25.c wd25.s wd25.x),Y Ea q (zs.map Bv),BX zs,blk b [vS1,.int .i64 J6.parts,vM2,vC3,vR4,.int .i64 J6.chunk,.int .i64 J6.window,.int .i64 J6.fuel,vK5,.int .i64 cw7,.int .i64 ct8,.int .i64 co9,.int .i64 ((M.sp:Nat):Int),.int .i64 M.att,.int .i64 ((Az dg J6 M.sp).2),.pointer (some ⟨cb10,0,none⟩),.slice A16 ((ws13.map Prod.fst).length) c17] 164,blk cb10 [.int .u32 1,.int .i32 0,.int .u32 0,.int .u32 1,fv11,.string (AZ (Az dg J6 M.sp).1)] 234,Y (Ao Ag) vS1 J6.us,Y Af vM2 J6.map,Y Af vC3 J6.comb,Y Af vR4 J6.red,Y (Ai .i64) vK5 J6.marks,Y Cq (.slice A16 ((ws13.map Prod.fst).length) c17) (ws13.map Prod.fst)] []:=H
  refine AS ?_
  replace H:=H.pick 11 rfl|>.pick 11 rfl|>.pick 11 rfl|>.pick 11 rfl|>.pick 11 rfl|>.pick 11 rfl|>.pick 11 rfl|>.pick 11 rfl|>.p9|>.pick 11 rfl|>.pick 11 rfl
  have hz0:zs.map FV=Dw dg J6 M.sp M.att (M.ws.take k) 0++(D2 dg J6 M.sp M.att wd25 k).take 0:=by rw [List.take_zero,List.append_nil];exact hz
  refine BQ (σ:=Nat×Value×List (Bi Cj)) (fun (j,q2,zs2)=>[(0,.pointer (some ⟨b,0,none⟩)),(2,.slice none 0 0),(3,q2),(4,.int .i64 ((k:Nat):Int)),(13,.slice A16 ((ws13.map Prod.fst).length) c17),(14,.int .i64 (((ws13.map Prod.fst).length:Nat):Int)),(15,.int .i64 ((k:Nat):Int)),(21,.slice A29 ((Do wd25.c wd25.s wd25.x).length) c30),(22,.int .i64 (((Do wd25.c wd25.s wd25.x).length:Nat):Int)),(23,.int .i64 ((j:Nat):Int))]) (fun (j,q2,zs2) w=>(Hd w0 F0 w [Y Ea q2 (zs2.map Bv),BX zs2,Y (Ai .i64) (.slice A29 ((Do wd25.c wd25.s wd25.x).length) c30) (Do wd25.c wd25.s wd25.x),blk b [vS1,.int .i64 J6.parts,vM2,vC3,vR4,.int .i64 J6.chunk,.int .i64 J6.window,.int .i64 J6.fuel,vK5,.int .i64 cw7,.int .i64 ct8,.int .i64 co9,.int .i64 ((M.sp:Nat):Int),.int .i64 M.att,.int .i64 ((Az dg J6 M.sp).2),.pointer (some ⟨cb10,0,none⟩),.slice A16 ((ws13.map Prod.fst).length) c17] 164,blk cb10 [.int .u32 1,.int .i32 0,.int .u32 0,.int .u32 1,fv11,.string (AZ (Az dg J6 M.sp).1)] 234,Y (Ao Ag) vS1 J6.us,Y Af vM2 J6.map,Y Af vC3 J6.comb,Y Af vR4 J6.red,Y (Ai .i64) vK5 J6.marks,Y Cq (.slice A16 ((ws13.map Prod.fst).length) c17) (ws13.map Prod.fst),Bm (Cg 239) ws13] [])∧(j≤(Do wd25.c wd25.s wd25.x).length)∧(zs2.map FV=Dw dg J6 M.sp M.att (M.ws.take k) 0++(D2 dg J6 M.sp M.att wd25 k).take j)) (fun (j,q2,zs2)=>(Do wd25.c wd25.s wd25.x).length - j) (0,q,zs) ⟨rfl,rfl,rfl,rfl,rfl,rfl,rfl,rfl,rfl,rfl,trivial⟩ ⟨H,Nat.zero_le _,hz0⟩ ?_
  rintro ⟨j,q2,zs2⟩ w ⟨H,hj,hz2⟩
  have hzl2:=congrArg List.length hz2
  rw [List.length_map,List.length_append,List.length_take,Mc] at hzl2
  have hwl2:=PM hok_wd25
  have htf:(zs2.map Bv).length=zs2.length:=List.length_map ..
  refine Aa (Ae (V U U (Bd U U U) (Ac (Z (Aa ?_)))))
  refine Aw U (fun h34=>?_) (fun h34=>?_)
  ·refine Ax (Z (Aa (AS (Aa (Ae ?_)))))
   obtain ⟨x35,hx36⟩:∃ z9,(Do wd25.c wd25.s wd25.x)[j]?=some z9:=⟨_,List.getElem?_eq_getElem (show j<(Do wd25.c wd25.s wd25.x).length by omega)⟩
   have th37:=H.thA 2 rfl hx36
   refine V U U (A0 (p:=AQ A29+j*1) U DW U U (by omega) (by omega) th37 U) (V U U (Al U AA U (H.elA 2 U hx36 (q:=0) U U)) (Ad U (Ac (Z ?_))))
   replace H:=H.pick 11 rfl|>.pick 11 rfl|>.pick 11 rfl|>.pick 11 rfl|>.pick 11 rfl|>.pick 11 rfl|>.pick 11 rfl|>.pick 11 rfl|>.pick 11 rfl|>.pick 11 rfl|>.pick 11 rfl
   replace H:Hd _ _ _ [BX zs2,Y (Ai .i64) (.slice A29 ((Do wd25.c wd25.s wd25.x).length) c30) (Do wd25.c wd25.s wd25.x),blk b [vS1,.int .i64 J6.parts,vM2,vC3,vR4,.int .i64 J6.chunk,.int .i64 J6.window,.int .i64 J6.fuel,vK5,.int .i64 cw7,.int .i64 ct8,.int .i64 co9,.int .i64 ((M.sp:Nat):Int),.int .i64 M.att,.int .i64 ((Az dg J6 M.sp).2),.pointer (some ⟨cb10,0,none⟩),.slice A16 ((ws13.map Prod.fst).length) c17] 164,blk cb10 [.int .u32 1,.int .i32 0,.int .u32 0,.int .u32 1,fv11,.string (AZ (Az dg J6 M.sp).1)] 234,Y (Ao Ag) vS1 J6.us,Y Af vM2 J6.map,Y Af vC3 J6.comb,Y Af vR4 J6.red,Y (Ai .i64) vK5 J6.marks,Y Cq (.slice A16 ((ws13.map Prod.fst).length) c17) (ws13.map Prod.fst),Bm (Cg 239) ws13,Y Ea q2 (zs2.map Bv)] []:=H
   refine B1 (.e 0 (.e 1 (.e 2 (.e 3 (.e 4 (.e 5 (.e 6 (.e 7 (.e 8 (.e 9 (.e 10 (.e 11 (.e 12 (.e 13 (.m 14 (.e 15 (.m 16 (.m 17 (.e 18 .z))))))))))))))))))) (fun w=>∃ Ar,Hd w0 F0 w (BX zs2::Y (Ai .i64) (.slice A29 ((Do wd25.c wd25.s wd25.x).length) c30) (Do wd25.c wd25.s wd25.x)::blk b [vS1,.int .i64 J6.parts,vM2,vC3,vR4,.int .i64 J6.chunk,.int .i64 J6.window,.int .i64 J6.fuel,vK5,.int .i64 cw7,.int .i64 ct8,.int .i64 co9,.int .i64 ((M.sp:Nat):Int),.int .i64 M.att,.int .i64 ((Az dg J6 M.sp).2),.pointer (some ⟨cb10,0,none⟩),.slice A16 ((ws13.map Prod.fst).length) c17] 164::blk cb10 [.int .u32 1,.int .i32 0,.int .u32 0,.int .u32 1,fv11,.string (AZ (Az dg J6 M.sp).1)] 234::Y (Ao Ag) vS1 J6.us::Y Af vM2 J6.map::Y Af vC3 J6.comb::Y Af vR4 J6.red::Y (Ai .i64) vK5 J6.marks::Y Cq (.slice A16 ((ws13.map Prod.fst).length) c17) (ws13.map Prod.fst)::Bm (Cg 239) ws13::Ar) []) mo (by kernel_rfl) (fun w H=>⟨_,H⟩) H (fun w H=>?_)
   refine At U (At U (Ap U U U (fun w ⟨Ar,H⟩=>AF U U) (Ap U U U (fun w ⟨Ar,H⟩=>Aj U S4 U) (Ap U U U (fun w ⟨Ar,H⟩=>Al U AA U (H.cellI 2 U U)) (At U (Ap U U U (fun w ⟨Ar,H⟩=>AF U U) (Ap U U U (fun w ⟨Ar,H⟩=>Aj U N7 U) (Ap U U U (fun w ⟨Ar,H⟩=>Al U AA U (H.cellI 2 U U)) (At U (At U (At U (At U (At U (AO U ?_))))))))))))))
   replace H:=H.p3
   refine sc (Vk b vS1 vM2 vC3 vR4 vK5 J6 cw7 ct8 co9 M.sp M.att cb10 fv11 (.slice A16 ((ws13.map Prod.fst).length) c17) ((k:Nat):Int) x35 (by first |assumption|omega)) H (lA 2 U (fun _ h=>h) l0) U U (Au UV U U) ?_
   rintro v38 _ w rfl H
   obtain ⟨A39,c40,rfl,hc41,hm42,hp43⟩:=H.fA 0 rfl
   replace H:Hd _ _ _ [Y Ag (.slice A39 ((C3 dg J6 M.sp M.att ((k:Nat):Int) x35).length) c40) (C3 dg J6 M.sp M.att ((k:Nat):Int) x35),blk cb10 [.int .u32 1,.int .i32 0,.int .u32 0,.int .u32 1,fv11,.string (AZ (Az dg J6 M.sp).1)] 234,BX zs2,Y (Ai .i64) (.slice A29 ((Do wd25.c wd25.s wd25.x).length) c30) (Do wd25.c wd25.s wd25.x),blk b [vS1,.int .i64 J6.parts,vM2,vC3,vR4,.int .i64 J6.chunk,.int .i64 J6.window,.int .i64 J6.fuel,vK5,.int .i64 cw7,.int .i64 ct8,.int .i64 co9,.int .i64 ((M.sp:Nat):Int),.int .i64 M.att,.int .i64 ((Az dg J6 M.sp).2),.pointer (some ⟨cb10,0,none⟩),.slice A16 ((ws13.map Prod.fst).length) c17] 164,Y (Ao Ag) vS1 J6.us,Y Af vM2 J6.map,Y Af vC3 J6.comb,Y Af vR4 J6.red,Y (Ai .i64) vK5 J6.marks,Y Cq (.slice A16 ((ws13.map Prod.fst).length) c17) (ws13.map Prod.fst),Bm (Cg 239) ws13,Y Ea q2 (zs2.map Bv)] []:=H
   replace H:=H.pick 11 rfl|>.pick 11 rfl|>.pick 11 rfl|>.pick 11 rfl|>.pick 11 rfl|>.pick 11 rfl|>.pick 11 rfl|>.p8|>.pick 11 rfl|>.pick 11 rfl|>.pick 11 rfl
   refine AJ ⟨_,H⟩ (Ap U U U (fun w ⟨Ar,H⟩=>CQ (parts:=[(0,.const (.int .i64 2)),(1,.tmp 31),(2,.tmp 35),(3,.tmp 36),(4,.tmp 37),(9,.tmp 41)]) (vs:=[.int .i64 2,.int .i64 ((M.sp:Nat):Int),.int .i64 M.att,.int .i64 ((k:Nat):Int),.int .i64 x35,.slice A39 ((C3 dg J6 M.sp M.att ((k:Nat):Int) x35).length) c40]) (cs:=[.int .i64 2,.int .i64 ((M.sp:Nat):Int),.int .i64 M.att,.int .i64 ((k:Nat):Int),.int .i64 x35,.int .i64 0,.int .i64 0,.int .i64 0,.slice none 0 0,.slice A39 ((C3 dg J6 M.sp M.att ((k:Nat):Int) x35).length) c40]) U Gx U U) (AO U (BW (parts:=[(0,.tmp 42)]) (vs:=[.agg #[.int .i64 2,.int .i64 ((M.sp:Nat):Int),.int .i64 M.att,.int .i64 ((k:Nat):Int),.int .i64 x35,.int .i64 0,.int .i64 0,.int .i64 0,.slice none 0 0,.slice A39 ((C3 dg J6 M.sp M.att ((k:Nat):Int) x35).length) c40]]) (cs:=[.int .i64 2,.int .i64 ((M.sp:Nat):Int),.int .i64 M.att,.int .i64 ((k:Nat):Int),.int .i64 x35,.int .i64 0,.int .i64 0,.int .i64 0,.slice none 0 0,.slice A39 ((C3 dg J6 M.sp M.att ((k:Nat):Int) x35).length) c40]) U U U Mx Ib U (by decide) (by decide) U U H (fun b44 w H=>?_))))
   replace H:=H.h1 (A:=blk b44 [.int .i64 2,.int .i64 ((M.sp:Nat):Int),.int .i64 M.att,.int .i64 ((k:Nat):Int),.int .i64 x35,.int .i64 0,.int .i64 0,.int .i64 0,.slice none 0 0,.slice A39 ((C3 dg J6 M.sp M.att ((k:Nat):Int) x35).length) c40] 64)|>.pick 11 rfl|>.pick 11 rfl|>.pick 11 rfl|>.pick 11 rfl|>.pick 11 rfl|>.pick 11 rfl|>.pick 11 rfl|>.pick 11 rfl|>.pick 11 rfl|>.pick 11 rfl|>.pick 11 rfl
   refine AJ ⟨_,H⟩ (AO U ?_)
   replace H:=H.pick 13 rfl
   refine CA (xs:=zs2.map Bv) (ys:=[(⟨⟨2,((M.sp:Nat):Int),M.att,((k:Nat):Int),x35,0,0,0⟩,⟨none,0,0⟩,⟨A39,(C3 dg J6 M.sp M.att ((k:Nat):Int) x35).length,c40⟩⟩:EU Cj)]) U U U Mx Ib U (by decide) U U H (by first |omega|(simp only [List.length_append,List.length_cons,List.length_nil,List.length_map];omega)) (fun F hA hR=>Cp (hA _ (List.mem_of_getElem? (i:=11) U)) U (by decide) (AV.flat_eq.2 U)) (fun v45 w H=>?_)
   replace H:=H.h1 (A:=Y Ea v45 ((zs2.map Bv)++[(⟨⟨2,((M.sp:Nat):Int),M.att,((k:Nat):Int),x35,0,0,0⟩,⟨none,0,0⟩,⟨A39,(C3 dg J6 M.sp M.att ((k:Nat):Int) x35).length,c40⟩⟩:EU Cj)]))|>.pick 11 rfl|>.pick 11 rfl|>.pick 11 rfl|>.pick 11 rfl|>.pick 11 rfl|>.pick 11 rfl|>.pick 11 rfl|>.pick 11 rfl|>.pick 11 rfl|>.pick 11 rfl|>.pick 11 rfl
   refine AJ ⟨_,H⟩ (At U (BK (AU (Z (Ae (V U U (AX (z:=((j+1:Nat):Int)) U U U (by rw [AB (by omega) (by omega)];omega)) (Ad U (Ac ?_))))))))
   replace H:=H.newnil (Ai .i64)|>.pick 12 rfl|>.p2|>.pick 14 rfl|>.p3|>.keep 14
   replace H:=Hd.twN (r:=(⟨(⟨2,M.sp,M.att,(k:Nat),x35,0,0,0⟩:Cj),.slice none 0 0,[],.slice A39 ((C3 dg J6 M.sp M.att ((k:Nat):Int) x35).length) c40,C3 dg J6 M.sp M.att (k:Nat) x35⟩:Bi Cj)) H
   replace H:Hd w0 F0 w [BX (zs2++[(⟨(⟨2,M.sp,M.att,(k:Nat),x35,0,0,0⟩:Cj),.slice none 0 0,[],.slice A39 ((C3 dg J6 M.sp M.att ((k:Nat):Int) x35).length) c40,C3 dg J6 M.sp M.att (k:Nat) x35⟩:Bi Cj)]),Y Ea v45 ((zs2++[(⟨(⟨2,M.sp,M.att,(k:Nat),x35,0,0,0⟩:Cj),.slice none 0 0,[],.slice A39 ((C3 dg J6 M.sp M.att ((k:Nat):Int) x35).length) c40,C3 dg J6 M.sp M.att (k:Nat) x35⟩:Bi Cj)]).map Bv),Y (Ai .i64) (.slice A29 ((Do wd25.c wd25.s wd25.x).length) c30) (Do wd25.c wd25.s wd25.x),blk b [vS1,.int .i64 J6.parts,vM2,vC3,vR4,.int .i64 J6.chunk,.int .i64 J6.window,.int .i64 J6.fuel,vK5,.int .i64 cw7,.int .i64 ct8,.int .i64 co9,.int .i64 ((M.sp:Nat):Int),.int .i64 M.att,.int .i64 ((Az dg J6 M.sp).2),.pointer (some ⟨cb10,0,none⟩),.slice A16 ((ws13.map Prod.fst).length) c17] 164,blk cb10 [.int .u32 1,.int .i32 0,.int .u32 0,.int .u32 1,fv11,.string (AZ (Az dg J6 M.sp).1)] 234,Y (Ao Ag) vS1 J6.us,Y Af vM2 J6.map,Y Af vC3 J6.comb,Y Af vR4 J6.red,Y (Ai .i64) vK5 J6.marks,Y Cq (.slice A16 ((ws13.map Prod.fst).length) c17) (ws13.map Prod.fst),Bm (Cg 239) ws13] []:=by rw [List.map_append];exact H
   replace H:=H.p1
   have hz3:(zs2++[(⟨(⟨2,M.sp,M.att,(k:Nat),x35,0,0,0⟩:Cj),.slice none 0 0,[],.slice A39 ((C3 dg J6 M.sp M.att ((k:Nat):Int) x35).length) c40,C3 dg J6 M.sp M.att (k:Nat) x35⟩:Bi Cj)]).map FV=Dw dg J6 M.sp M.att (M.ws.take k) 0++(D2 dg J6 M.sp M.att wd25 k).take (j+1):=by rw [List.map_append,hz2,WY hx36,←List.append_assoc];rfl
   exact Bj (s:=(j,undef,zs2)) (j+1,v45,zs2++[(⟨(⟨2,M.sp,M.att,(k:Nat),x35,0,0,0⟩:Cj),.slice none 0 0,[],.slice A39 ((C3 dg J6 M.sp M.att ((k:Nat):Int) x35).length) c40,C3 dg J6 M.sp M.att (k:Nat) x35⟩:Bi Cj)]) ⟨rfl,rfl,rfl,rfl,rfl,rfl,rfl,rfl,rfl,rfl,trivial⟩ ⟨H,by (try dsimp only);omega,hz3⟩ (by (try dsimp only);omega)
  refine BH (AR (AR (BI (AU (Z (Ae (V U U (AX (z:=((k+1:Nat):Int)) U U U (by rw [AB (by omega) (by omega)];omega)) (Ad U (Ac ?_)))))))))
  replace H:=H.pick 11 rfl|>.pick 11 rfl|>.pick 11 rfl|>.pick 11 rfl|>.pick 11 rfl|>.pick 11 rfl|>.pick 11 rfl|>.pick 11 rfl|>.pick 11 rfl|>.pick 10 rfl|>.pick 10 rfl|>.keep 11|>.h2 (A:=Y Ea q2 (zs2.map Bv)) (B:=BX zs2)
  have hzk:zs2.map FV=Dw dg J6 M.sp M.att (M.ws.take (k+1)) 0:=by rw [hz2,List.take_of_length_le (l:=D2 dg J6 M.sp M.att wd25 k) (by rw [Mc];omega),WZ hm27]
  exact Bj (s:=(k,undef,zs)) (k+1,q2,zs2) ⟨rfl,rfl,rfl,rfl,rfl,rfl,trivial⟩ ⟨H,by (try dsimp only);omega,hzk⟩ (by (try dsimp only);omega)
 refine BH (AR (AR (BI (Z (Aa (Ae (Ah 2 U (Ac (Z (Am (Aq U U ?_)))))))))))
 replace H:=H.h2 (A:=Y Ea q (zs.map Bv)) (B:=BX zs)
 replace H:=Hd.twI H
 replace H:=H.h1 (A:=Y Is q zs)|>.p9|>.p9|>.p9|>.p9|>.p9|>.p9|>.p9|>.p9|>.p9
 replace H:=Ix b J M vS1 vM2 vC3 vR4 vK5 J6 cw7 ct8 co9 cb10 fv11 (.slice A16 ((ws13.map Prod.fst).length) c17) ws13 ⟨hsj14,hws15⟩ H
 replace H:=H.h1 (A:=Ce b J M)|>.p1
 exact Ak ⟨zs,rfl,by rw [hz,List.take_of_length_le (by omega)];exact P5 hsj14 dg M.sp M.att M.ws 0⟩ H
theorem ZS (b:Nat) (vS:Value) (vM:Value) (vC:Value) (vR:Value) (vK:Value) (J2:AC) (C:Cf) (ep:Int) (pv:Value) (kb:Nat) (tv:Value) (ov:Bool) (mb:Nat) (M:BJ) (hC:C1 C) (hJ:B5 C.J) (hsj:Bb J2 C.J) (hM:FW M):
    Cn Tryz.prog 143 [.pointer (some ⟨b,0,none⟩),.agg #[.int .i64 ((M.sp:Nat):Int),.int .i64 M.att,.pointer (some ⟨mb,0,none⟩)]] [Ce mb C.J M] [blk b [vS,.int .i64 J2.parts,vM,vC,vR,.int .i64 J2.chunk,.int .i64 J2.window,.int .i64 J2.fuel,vK,.int .i64 C.w,.int .i64 C.t,.int .i64 C.o,.int .i64 ep,pv,.map (some kb),tv,.int .u32 (BC ov)] 210,Ab (Ao Ag) vS J2.us,Ab Af vM J2.map,Ab Af vC J2.comb,Ab Af vR J2.red,Ab (Ai .i64) vK J2.marks,gl] (fun v Bs=>∃ zs:List (Bi Ci),Bs=[Y CZ v zs,Ce mb C.J M]∧(zs.map C0=F8 dg C M)):=by
 intro w0 F0 H
 refine enter Tryz.func143 U U (Nat.le_of_ble_eq_true U) (Aa (Ae (Cm U U U U H (fun b1 w H=>(Ad U (Ac (Z ?_)))))))
 replace H:Hd _ _ _ [blk b1 [.int .i64 ((M.sp:Nat):Int),.int .i64 M.att,.pointer (some ⟨mb,0,none⟩)] 215,Ce mb C.J M] [blk b [vS,.int .i64 J2.parts,vM,vC,vR,.int .i64 J2.chunk,.int .i64 J2.window,.int .i64 J2.fuel,vK,.int .i64 C.w,.int .i64 C.t,.int .i64 C.o,.int .i64 ep,pv,.map (some kb),tv,.int .u32 (BC ov)] 210,Ab (Ao Ag) vS J2.us,Ab Af vM J2.map,Ab Af vC J2.comb,Ab Af vR J2.red,Ab (Ai .i64) vK J2.marks,gl]:=H
 refine Hs (σ:=Nat×Value) (fun (bb,uv)=>[(0,.pointer (some ⟨b,0,none⟩)),(3,.pointer (some ⟨b1,0,none⟩)),(5,.pointer (some ⟨bb,0,none⟩))]) (fun (bb,uv) w=>(Hd w0 F0 w [blk bb [.int .i64 4,.int .i64 ((M.sp:Nat):Int),.int .i64 M.att,.int .i64 0,.int .i64 0,.int .i64 0,.int .i64 0,.int .i64 0,uv,.slice none 0 0] 64,Y (Ai .i64) uv (Br dg C.J M.sp M.att),blk b1 [.int .i64 ((M.sp:Nat):Int),.int .i64 M.att,.pointer (some ⟨mb,0,none⟩)] 215,Ce mb C.J M] [blk b [vS,.int .i64 J2.parts,vM,vC,vR,.int .i64 J2.chunk,.int .i64 J2.window,.int .i64 J2.fuel,vK,.int .i64 C.w,.int .i64 C.t,.int .i64 C.o,.int .i64 ep,pv,.map (some kb),tv,.int .u32 (BC ov)] 210,Ab (Ao Ag) vS J2.us,Ab Af vM J2.map,Ab Af vC J2.comb,Ab Af vR J2.red,Ab (Ai .i64) vK J2.marks,gl])) ?_ ?_
 ·refine B1 (.e 0 (.e 1 (.e 2 (.e 3 (.e 4 (.e 5 (.b 6 8 (.e 7 (.m 8 (.m 9 .z))) (.m 6 (.e 7 (.m 9 .z)))))))))) (fun w=>∃ Ar,Hd w0 F0 w (blk b1 [.int .i64 ((M.sp:Nat):Int),.int .i64 M.att,.pointer (some ⟨mb,0,none⟩)] 215::Ce mb C.J M::Ar) [blk b [vS,.int .i64 J2.parts,vM,vC,vR,.int .i64 J2.chunk,.int .i64 J2.window,.int .i64 J2.fuel,vK,.int .i64 C.w,.int .i64 C.t,.int .i64 C.o,.int .i64 ep,pv,.map (some kb),tv,.int .u32 (BC ov)] 210,Ab (Ao Ag) vS J2.us,Ab Af vM J2.map,Ab Af vC J2.comb,Ab Af vR J2.red,Ab (Ai .i64) vK J2.marks,gl]) mo (by kernel_rfl) (fun w H=>⟨_,H⟩) H (fun w H=>(Ap U U U (fun w ⟨Ar,H⟩=>Aj U Ld U) (Ap U U U (fun w ⟨Ar,H⟩=>Al U AA U (H.cellI 0 U U)) (Ap U U U (fun w ⟨Ar,H⟩=>Aj U Le U) (Ap U U U (fun w ⟨Ar,H⟩=>Al U AA U (H.cellI 0 U U)) ?_)))))
  refine Ap U U U (fun w ⟨Ar,H⟩=>Aj U Il U) (Ap U U U (fun w ⟨Ar,H⟩=>Al U Fs U (H.cellI 0 U U)) ?_)
  refine Hu U U ?_ ?_
  ·replace H:=H.p1
   refine sc (PH mb C.J M (by first |assumption|omega)) H l0 U U (Au LH U U) ?_
   rintro v2 _ w rfl H
   obtain ⟨A3,c4,rfl,hc5,hm6,hp7⟩:=H.fA 0 rfl
   replace H:Hd _ _ _ [Y (Ai .i64) (.slice A3 ((Br dg C.J M.sp M.att).length) c4) (Br dg C.J M.sp M.att),Ce mb C.J M,blk b1 [.int .i64 ((M.sp:Nat):Int),.int .i64 M.att,.pointer (some ⟨mb,0,none⟩)] 215] [blk b [vS,.int .i64 J2.parts,vM,vC,vR,.int .i64 J2.chunk,.int .i64 J2.window,.int .i64 J2.fuel,vK,.int .i64 C.w,.int .i64 C.t,.int .i64 C.o,.int .i64 ep,pv,.map (some kb),tv,.int .u32 (BC ov)] 210,Ab (Ao Ag) vS J2.us,Ab Af vM J2.map,Ab Af vC J2.comb,Ab Af vR J2.red,Ab (Ai .i64) vK J2.marks,gl]:=H
   replace H:=H.p1.p2
   refine AJ ⟨_,H⟩ (Ap U U U (fun w ⟨Ar,H⟩=>CQ (parts:=[(0,.const (.int .i64 4)),(1,.tmp 10),(2,.tmp 12),(8,.tmp 15)]) (vs:=[.int .i64 4,.int .i64 ((M.sp:Nat):Int),.int .i64 M.att,.slice A3 ((Br dg C.J M.sp M.att).length) c4]) (cs:=[.int .i64 4,.int .i64 ((M.sp:Nat):Int),.int .i64 M.att,.int .i64 0,.int .i64 0,.int .i64 0,.int .i64 0,.int .i64 0,.slice A3 ((Br dg C.J M.sp M.att).length) c4,.slice none 0 0]) U Gx U U) (AO U (Dk U U U Ib H (fun b8 w H=>?_))))
   replace H:=H.h1 (A:=blk b8 [.int .i64 0,.int .i64 0,.int .i64 0,.int .i64 0,.int .i64 0,.int .i64 0,.int .i64 0,.int .i64 0,.slice none 0 0,.slice none 0 0] 64)|>.p2|>.p2
   refine AJ ⟨_,H⟩ (AO U ?_)
   replace H:=H.p2
   refine BD U U U EG U U H U (Nat.le_of_ble_eq_true U) (fun u hu=>by simp [Value.cells] at hu;rcases hu with rfl|rfl|rfl|rfl|rfl|rfl|rfl|rfl|rfl|rfl<;>rfl) (fun w H=>?_)
   replace H:=H.h1 (A:=blk b8 [.int .i64 4,.int .i64 ((M.sp:Nat):Int),.int .i64 M.att,.int .i64 0,.int .i64 0,.int .i64 0,.int .i64 0,.int .i64 0,.slice A3 ((Br dg C.J M.sp M.att).length) c4,.slice none 0 0] 64)|>.p2|>.p2
   refine AJ ⟨_,H⟩ (BK ?_)
   replace H:=H.p3.p3
   exact Ek (b8,.slice A3 ((Br dg C.J M.sp M.att).length) c4) ⟨rfl,rfl,rfl,trivial⟩ H
  refine Dk U U U Ib H (fun b9 w H=>?_)
  replace H:=H.h1 (A:=blk b9 [.int .i64 0,.int .i64 0,.int .i64 0,.int .i64 0,.int .i64 0,.int .i64 0,.int .i64 0,.int .i64 0,.slice none 0 0,.slice none 0 0] 64)|>.p2|>.p2
  refine AJ ⟨_,H⟩ (AO U ?_)
  replace H:=H.p1
  refine sc (PH mb C.J M (by first |assumption|omega)) H l0 U U (Au LH U U) ?_
  rintro v10 _ w rfl H
  obtain ⟨A11,c12,rfl,hc13,hm14,hp15⟩:=H.fA 0 rfl
  replace H:Hd _ _ _ [Y (Ai .i64) (.slice A11 ((Br dg C.J M.sp M.att).length) c12) (Br dg C.J M.sp M.att),Ce mb C.J M,blk b1 [.int .i64 ((M.sp:Nat):Int),.int .i64 M.att,.pointer (some ⟨mb,0,none⟩)] 215,blk b9 [.int .i64 0,.int .i64 0,.int .i64 0,.int .i64 0,.int .i64 0,.int .i64 0,.int .i64 0,.int .i64 0,.slice none 0 0,.slice none 0 0] 64] [blk b [vS,.int .i64 J2.parts,vM,vC,vR,.int .i64 J2.chunk,.int .i64 J2.window,.int .i64 J2.fuel,vK,.int .i64 C.w,.int .i64 C.t,.int .i64 C.o,.int .i64 ep,pv,.map (some kb),tv,.int .u32 (BC ov)] 210,Ab (Ao Ag) vS J2.us,Ab Af vM J2.map,Ab Af vC J2.comb,Ab Af vR J2.red,Ab (Ai .i64) vK J2.marks,gl]:=H
  replace H:=H.p1.p2
  refine AJ ⟨_,H⟩ (Ap U U U (fun w ⟨Ar,H⟩=>CQ (parts:=[(0,.const (.int .i64 4)),(1,.tmp 10),(2,.tmp 12),(8,.tmp 15)]) (vs:=[.int .i64 4,.int .i64 ((M.sp:Nat):Int),.int .i64 M.att,.slice A11 ((Br dg C.J M.sp M.att).length) c12]) (cs:=[.int .i64 4,.int .i64 ((M.sp:Nat):Int),.int .i64 M.att,.int .i64 0,.int .i64 0,.int .i64 0,.int .i64 0,.int .i64 0,.slice A11 ((Br dg C.J M.sp M.att).length) c12,.slice none 0 0]) U Gx U U) (AO U ?_))
  replace H:=H.p3
  refine BD U U U EG U U H U (Nat.le_of_ble_eq_true U) (fun u hu=>by simp [Value.cells] at hu;rcases hu with rfl|rfl|rfl|rfl|rfl|rfl|rfl|rfl|rfl|rfl<;>rfl) (fun w H=>?_)
  replace H:=H.h1 (A:=blk b9 [.int .i64 4,.int .i64 ((M.sp:Nat):Int),.int .i64 M.att,.int .i64 0,.int .i64 0,.int .i64 0,.int .i64 0,.int .i64 0,.slice A11 ((Br dg C.J M.sp M.att).length) c12,.slice none 0 0] 64)|>.p2|>.p2
  refine AJ ⟨_,H⟩ (BK ?_)
  replace H:=H.p3.p3
  exact Ek (b9,.slice A11 ((Br dg C.J M.sp M.att).length) c12) ⟨rfl,rfl,rfl,trivial⟩ H
 rintro ⟨bb,uv⟩ w H
 refine Hs (σ:=Int×Int×Value×List Int) (fun (kd,wy,sv,se)=>[(0,.pointer (some ⟨b,0,none⟩)),(3,.pointer (some ⟨b1,0,none⟩)),(5,.pointer (some ⟨bb,0,none⟩))]) (fun (kd,wy,sv,se) w=>(Hd w0 F0 w [blk bb [.int .i64 kd,.int .i64 ((M.sp:Nat):Int),.int .i64 M.att,.int .i64 0,.int .i64 0,.int .i64 0,.int .i64 0,.int .i64 wy,sv,.slice none 0 0] 64,Y (Ai .i64) sv se,blk b1 [.int .i64 ((M.sp:Nat):Int),.int .i64 M.att,.pointer (some ⟨mb,0,none⟩)] 215,Ce mb C.J M] [blk b [vS,.int .i64 J2.parts,vM,vC,vR,.int .i64 J2.chunk,.int .i64 J2.window,.int .i64 J2.fuel,vK,.int .i64 C.w,.int .i64 C.t,.int .i64 C.o,.int .i64 ep,pv,.map (some kb),tv,.int .u32 (BC ov)] 210,Ab (Ao Ag) vS J2.us,Ab Af vM J2.map,Ab Af vC J2.comb,Ab Af vR J2.red,Ab (Ai .i64) vK J2.marks,gl])∧((⟨0,0,⟨kd,M.sp,M.att,0,0,0,0,wy,se,[]⟩⟩:Es)=doneL dg C.J M)) ?_ ?_
 ·refine Aa ?_
  obtain ⟨A16,c17,rfl,hc18,hm19,hp20⟩:=H.fA 1 rfl
  replace H:Hd _ _ _ [blk bb [.int .i64 4,.int .i64 ((M.sp:Nat):Int),.int .i64 M.att,.int .i64 0,.int .i64 0,.int .i64 0,.int .i64 0,.int .i64 0,.slice A16 ((Br dg C.J M.sp M.att).length) c17,.slice none 0 0] 64,Y (Ai .i64) (.slice A16 ((Br dg C.J M.sp M.att).length) c17) (Br dg C.J M.sp M.att),blk b1 [.int .i64 ((M.sp:Nat):Int),.int .i64 M.att,.pointer (some ⟨mb,0,none⟩)] 215,Ce mb C.J M] [blk b [vS,.int .i64 J2.parts,vM,vC,vR,.int .i64 J2.chunk,.int .i64 J2.window,.int .i64 J2.fuel,vK,.int .i64 C.w,.int .i64 C.t,.int .i64 C.o,.int .i64 ep,pv,.map (some kb),tv,.int .u32 (BC ov)] 210,Ab (Ao Ag) vS J2.us,Ab Af vM J2.map,Ab Af vC J2.comb,Ab Af vR J2.red,Ab (Ai .i64) vK J2.marks,gl]:=H
  refine Ae (V U U (Aj U Il U) (V U U (Al U Fs U (H.cellI 2 U U)) ?_))
  replace H:=H.p3
  refine sc (PI mb C.J M) H l0 U U (Au JK U U) ?_
  rintro _ _ w ⟨rfl,rfl⟩ H
  refine V U U (Dq U U U) (Ac (Z ?_))
  refine Aw U (fun h21=>?_) (fun h21=>?_)
  ·replace H:=H.p3.p3.p2
   refine B1 (.e 0 (.e 1 (.e 2 (.e 3 (.e 4 (.e 5 (.m 6 (.e 7 (.m 8 .z))))))))) (fun w=>∃ Ar,Hd w0 F0 w (Ce mb C.J M::Y (Ai .i64) (.slice A16 ((Br dg C.J M.sp M.att).length) c17) (Br dg C.J M.sp M.att)::blk b1 [.int .i64 ((M.sp:Nat):Int),.int .i64 M.att,.pointer (some ⟨mb,0,none⟩)] 215::Ar) [blk b [vS,.int .i64 J2.parts,vM,vC,vR,.int .i64 J2.chunk,.int .i64 J2.window,.int .i64 J2.fuel,vK,.int .i64 C.w,.int .i64 C.t,.int .i64 C.o,.int .i64 ep,pv,.map (some kb),tv,.int .u32 (BC ov)] 210,Ab (Ao Ag) vS J2.us,Ab Af vM J2.map,Ab Af vC J2.comb,Ab Af vR J2.red,Ab (Ai .i64) vK J2.marks,gl]) mo (by kernel_rfl) (fun w H=>⟨_,H⟩) H (fun w H=>(Ap U U U (fun w ⟨Ar,H⟩=>Aj U Ld U) (Ap U U U (fun w ⟨Ar,H⟩=>Al U AA U (H.cellI 2 U U)) (Ap U U U (fun w ⟨Ar,H⟩=>Aj U Le U) ?_))))
   refine Ap U U U (fun w ⟨Ar,H⟩=>Al U AA U (H.cellI 2 U U)) (Ap U U U (fun w ⟨Ar,H⟩=>Aj U Il U) (Ap U U U (fun w ⟨Ar,H⟩=>Al U Fs U (H.cellI 2 U U)) (AO U (sc (PI mb C.J M) H l0 U U (Au JK U U) ?_))))
   rintro _ _ w ⟨rfl,rfl⟩ H
   refine AJ ⟨_,H⟩ (Ap U U U (fun w ⟨Ar,H⟩=>CQ (parts:=[(0,.const (.int .i64 5)),(1,.tmp 22),(2,.tmp 24),(7,.tmp 27)]) (vs:=[.int .i64 5,.int .i64 ((M.sp:Nat):Int),.int .i64 M.att,.int .i64 ((Az dg C.J M.sp).2)]) (cs:=[.int .i64 5,.int .i64 ((M.sp:Nat):Int),.int .i64 M.att,.int .i64 0,.int .i64 0,.int .i64 0,.int .i64 0,.int .i64 ((Az dg C.J M.sp).2),.slice none 0 0,.slice none 0 0]) U Gx U U) (AO U ?_))
   replace H:=H.p3
   refine BD U U U EG U U H U (Nat.le_of_ble_eq_true U) (fun u hu=>by simp [Value.cells] at hu;rcases hu with rfl|rfl|rfl|rfl|rfl|rfl|rfl|rfl|rfl|rfl<;>rfl) (fun w H=>?_)
   replace H:=H.h1 (A:=blk bb [.int .i64 5,.int .i64 ((M.sp:Nat):Int),.int .i64 M.att,.int .i64 0,.int .i64 0,.int .i64 0,.int .i64 0,.int .i64 ((Az dg C.J M.sp).2),.slice none 0 0,.slice none 0 0] 64)|>.p3|>.p3|>.p3
   refine AJ ⟨_,H⟩ (BK ?_)
   replace H:=H.newnil (Ai .i64)|>.p3|>.p1|>.p4|>.k4
   exact Ek (5,(Az dg C.J M.sp).2,.slice none 0 0,[]) ⟨rfl,rfl,rfl,trivial⟩ ⟨H,by unfold doneL;rw [if_pos h21]⟩
  refine Ax ?_
  replace H:=H.p3.p3.p3
  exact Ek (4,0,.slice A16 ((Br dg C.J M.sp M.att).length) c17,Br dg C.J M.sp M.att) ⟨rfl,rfl,rfl,trivial⟩ ⟨H,by unfold doneL;rw [if_neg h21]⟩
 rintro ⟨kd,wy,sv,se⟩ w ⟨H,hd⟩
 refine Aa ?_
 obtain ⟨A22,c23,rfl,hc24,hm25,hp26⟩:=H.fA 1 rfl
 replace H:Hd _ _ _ [blk bb [.int .i64 kd,.int .i64 ((M.sp:Nat):Int),.int .i64 M.att,.int .i64 0,.int .i64 0,.int .i64 0,.int .i64 0,.int .i64 wy,.slice A22 se.length c23,.slice none 0 0] 64,Y (Ai .i64) (.slice A22 se.length c23) se,blk b1 [.int .i64 ((M.sp:Nat):Int),.int .i64 M.att,.pointer (some ⟨mb,0,none⟩)] 215,Ce mb C.J M] [blk b [vS,.int .i64 J2.parts,vM,vC,vR,.int .i64 J2.chunk,.int .i64 J2.window,.int .i64 J2.fuel,vK,.int .i64 C.w,.int .i64 C.t,.int .i64 C.o,.int .i64 ep,pv,.map (some kb),tv,.int .u32 (BC ov)] 210,Ab (Ao Ag) vS J2.us,Ab Af vM J2.map,Ab Af vC J2.comb,Ab Af vR J2.red,Ab (Ai .i64) vK J2.marks,gl]:=H
 refine Ae (V U U (Bn (cs:=[.int .i64 kd,.int .i64 ((M.sp:Nat):Int),.int .i64 M.att,.int .i64 0,.int .i64 0,.int .i64 0,.int .i64 0,.int .i64 wy,.slice A22 se.length c23,.slice none 0 0]) U EG U U (H.cellsI 0 U U)) (V U U (CQ (parts:=[(2,.tmp 29)]) (vs:=[.agg #[.int .i64 kd,.int .i64 ((M.sp:Nat):Int),.int .i64 M.att,.int .i64 0,.int .i64 0,.int .i64 0,.int .i64 0,.int .i64 wy,.slice A22 se.length c23,.slice none 0 0]]) (cs:=[.int .i64 0,.int .i64 0,.int .i64 kd,.int .i64 ((M.sp:Nat):Int),.int .i64 M.att,.int .i64 0,.int .i64 0,.int .i64 0,.int .i64 0,.int .i64 wy,.slice A22 se.length c23,.slice none 0 0]) U I9 U U) (BW (parts:=[(0,.tmp 30)]) (vs:=[.agg #[.int .i64 0,.int .i64 0,.int .i64 kd,.int .i64 ((M.sp:Nat):Int),.int .i64 M.att,.int .i64 0,.int .i64 0,.int .i64 0,.int .i64 0,.int .i64 wy,.slice A22 se.length c23,.slice none 0 0]]) (cs:=[.int .i64 0,.int .i64 0,.int .i64 kd,.int .i64 ((M.sp:Nat):Int),.int .i64 M.att,.int .i64 0,.int .i64 0,.int .i64 0,.int .i64 0,.int .i64 wy,.slice A22 se.length c23,.slice none 0 0]) U U U EE Hn U (by decide) (by decide) U U H (fun b27 w H=>?_))))
 replace H:=H.h1 (A:=blk b27 [.int .i64 0,.int .i64 0,.int .i64 kd,.int .i64 ((M.sp:Nat):Int),.int .i64 M.att,.int .i64 0,.int .i64 0,.int .i64 0,.int .i64 0,.int .i64 wy,.slice A22 se.length c23,.slice none 0 0] 121)
 refine Ad U (Ac (Z (Aa (Aa ?_))))
 replace H:Hd w0 F0 w [Y Da (.slice (some ⟨b27,0,none⟩) 1 1) [(⟨⟨0,0,⟨kd,((M.sp:Nat):Int),M.att,0,0,0,0,wy⟩⟩,⟨A22,se.length,c23⟩,⟨none,0,0⟩⟩:EU Ci)],blk bb [.int .i64 kd,.int .i64 ((M.sp:Nat):Int),.int .i64 M.att,.int .i64 0,.int .i64 0,.int .i64 0,.int .i64 0,.int .i64 wy,.slice A22 se.length c23,.slice none 0 0] 64,Y (Ai .i64) (.slice A22 se.length c23) se,blk b1 [.int .i64 ((M.sp:Nat):Int),.int .i64 M.att,.pointer (some ⟨mb,0,none⟩)] 215,Ce mb C.J M] [blk b [vS,.int .i64 J2.parts,vM,vC,vR,.int .i64 J2.chunk,.int .i64 J2.window,.int .i64 J2.fuel,vK,.int .i64 C.w,.int .i64 C.t,.int .i64 C.o,.int .i64 ep,pv,.map (some kb),tv,.int .u32 (BC ov)] 210,Ab (Ao Ag) vS J2.us,Ab Af vM J2.map,Ab Af vC J2.comb,Ab Af vR J2.red,Ab (Ai .i64) vK J2.marks,gl]:=H.turn (fun F h=>Hr h rfl (by decide) rfl)
 obtain ⟨z0,hz0⟩:∃ z:Bi Ci,z=(⟨⟨0,0,⟨kd,M.sp,M.att,0,0,0,0,wy⟩⟩,.slice A22 se.length c23,se,.slice none 0 0,[]⟩:Bi Ci):=⟨_,rfl⟩
 replace H:Hd w0 F0 w [Y Da (.slice (some ⟨b27,0,none⟩) 1 1) ([z0].map Bv),blk bb [.int .i64 kd,.int .i64 ((M.sp:Nat):Int),.int .i64 M.att,.int .i64 0,.int .i64 0,.int .i64 0,.int .i64 0,.int .i64 wy,.slice A22 se.length c23,.slice none 0 0] 64,Y (Ai .i64) (.slice A22 se.length c23) se,blk b1 [.int .i64 ((M.sp:Nat):Int),.int .i64 M.att,.pointer (some ⟨mb,0,none⟩)] 215,Ce mb C.J M] [blk b [vS,.int .i64 J2.parts,vM,vC,vR,.int .i64 J2.chunk,.int .i64 J2.window,.int .i64 J2.fuel,vK,.int .i64 C.w,.int .i64 C.t,.int .i64 C.o,.int .i64 ep,pv,.map (some kb),tv,.int .u32 (BC ov)] 210,Ab (Ao Ag) vS J2.us,Ab Af vM J2.map,Ab Af vC J2.comb,Ab Af vR J2.red,Ab (Ai .i64) vK J2.marks,gl]:=by rw [hz0];exact H
 refine Ae (V U U (Aj U Il U) (V U U (Al U Fs U (H.cellI 3 U U)) ?_))
 replace H:=H.p4
 refine sc (V9 mb C.J M (by first |assumption|omega) (by first |assumption|omega)) H l0 U U (Au US U U) ?_
 rintro v30 _ w ⟨zs28,rfl,hf29⟩ H
 replace H:=H.h1 (A:=Y Is v30 zs28)
 obtain ⟨A31,c32,rfl,hc33,hm34,hp35⟩:=H.fA 0 rfl
 replace H:=Hd.twO H
 replace H:=H.h2 (A:=Y Ea (.slice A31 zs28.length c32) (zs28.map Bv)) (B:=BX zs28)
 have hzl4:=VP hM hf29
 have hzf:(zs28.map Bv).length=zs28.length:=List.length_map ..
 refine V U U (Bf U Zk U) (Ad U (Ac (Z (AS ?_))))
 replace H:=H.h4 (D:=Y Da (.slice (some ⟨b27,0,none⟩) 1 1) (([z0]++(zs28.take 0).map (lf C)).map Bv))|>.p5|>.p2|>.p4|>.p3|>.k5
 refine BQ (σ:=Nat×Value) (fun (k,q)=>[(0,.pointer (some ⟨b,0,none⟩)),(6,q),(34,.slice A31 zs28.length c32),(35,.int .i64 ((zs28.length:Nat):Int)),(36,.int .i64 ((k:Nat):Int))]) (fun (k,q) w=>(Hd w0 F0 w [Y Ea (.slice A31 zs28.length c32) (zs28.map Bv),Y Da q (([z0]++(zs28.take k).map (lf C)).map Bv),BX zs28,Y (Ai .i64) (.slice A22 se.length c23) se,Ce mb C.J M] [blk b [vS,.int .i64 J2.parts,vM,vC,vR,.int .i64 J2.chunk,.int .i64 J2.window,.int .i64 J2.fuel,vK,.int .i64 C.w,.int .i64 C.t,.int .i64 C.o,.int .i64 ep,pv,.map (some kb),tv,.int .u32 (BC ov)] 210,Ab (Ao Ag) vS J2.us,Ab Af vM J2.map,Ab Af vC J2.comb,Ab Af vR J2.red,Ab (Ai .i64) vK J2.marks,gl])∧(k≤(zs28.map Bv).length)) (fun (k,q)=>(zs28.map Bv).length - k) (0,.slice (some ⟨b27,0,none⟩) 1 1) ⟨rfl,rfl,rfl,rfl,rfl,trivial⟩ ⟨H,Nat.zero_le _⟩ ?_
 rintro ⟨k,q⟩ w ⟨H,hk⟩
 have hlt9:(([z0]++(zs28.take k).map (lf C)).map Bv).length≤k+1:=by simp only [List.length_map,List.length_append,List.length_cons,List.length_nil,List.length_take];omega
 refine Aa (Ae (V U U (Bd U U U) (Ac (Z (Aa ?_)))))
 refine Aw U (fun h36=>?_) (fun h36=>?_)
 ·refine Ax (Z (Aa (AS (Aa (Ae ?_)))))
  obtain ⟨x37,hx38⟩:∃ z9,(zs28.map Bv)[k]?=some z9:=⟨_,List.getElem?_eq_getElem (show k<(zs28.map Bv).length by omega)⟩
  have th39:=H.thA 0 rfl hx38
  refine V U U (A0 (p:=AQ A31+k*10) U Mx U U (by omega) (by omega) th39 U) (V U U (Bn (cs:=[.int .i64 x37.h.kind,.int .i64 x37.h.sp,.int .i64 x37.h.att,.int .i64 x37.h.part,.int .i64 x37.h.seq,.int .i64 x37.h.next,.int .i64 x37.h.ep,.int .i64 x37.h.why,.slice x37.hs.A x37.hs.n x37.hs.c,.slice x37.hp.A x37.hp.n x37.hp.c]) U EG U U (H.elsA 0 U hx38 U)) (Dk U U U Ib H (fun b40 w H=>(BD U U U EG U U H U (Nat.le_of_ble_eq_true U) (fun u hu=>by simp [Value.cells] at hu;rcases hu with rfl|rfl|rfl|rfl|rfl|rfl|rfl|rfl|rfl|rfl<;>rfl) (fun w H=>?_)))))
  replace H:=H.h3 (A:=blk b40 [.int .i64 x37.h.kind,.int .i64 x37.h.sp,.int .i64 x37.h.att,.int .i64 x37.h.part,.int .i64 x37.h.seq,.int .i64 x37.h.next,.int .i64 x37.h.ep,.int .i64 x37.h.why,.slice x37.hs.A x37.hs.n x37.hs.c,.slice x37.hp.A x37.hp.n x37.hp.c] 64) (C:=Y Da q (([z0]++(zs28.take k).map (lf C)).map Bv))
  refine Ac (Z ?_)
  obtain ⟨m9,hm9,hxe9⟩:=VO hx38
  have hp64:AP x37.h.part:=by rw [hxe9];exact W7 hM hf29 hm9
  replace H:=H.p5.p5.p5.p4.p4
  refine B1 (.e 0 (.e 1 (.e 2 (.e 3 (.e 4 (.e 5 (.e 6 (.e 8 (.m 7 (.e 9 (.m 10 (.m 11 (.e 12 .z))))))))))))) (fun w=>∃ Ar,Hd w0 F0 w (blk b40 [.int .i64 x37.h.kind,.int .i64 x37.h.sp,.int .i64 x37.h.att,.int .i64 x37.h.part,.int .i64 x37.h.seq,.int .i64 x37.h.next,.int .i64 x37.h.ep,.int .i64 x37.h.why,.slice x37.hs.A x37.hs.n x37.hs.c,.slice x37.hp.A x37.hp.n x37.hp.c] 64::Y Ea (.slice A31 zs28.length c32) (zs28.map Bv)::BX zs28::Y (Ai .i64) (.slice A22 se.length c23) se::Ce mb C.J M::Ar) [blk b [vS,.int .i64 J2.parts,vM,vC,vR,.int .i64 J2.chunk,.int .i64 J2.window,.int .i64 J2.fuel,vK,.int .i64 C.w,.int .i64 C.t,.int .i64 C.o,.int .i64 ep,pv,.map (some kb),tv,.int .u32 (BC ov)] 210,Ab (Ao Ag) vS J2.us,Ab Af vM J2.map,Ab Af vC J2.comb,Ab Af vR J2.red,Ab (Ai .i64) vK J2.marks,gl]) mo (by kernel_rfl) (fun w H=>⟨_,H⟩) H (fun w H=>?_)
  refine At U (At U (Ap U U U (fun w ⟨Ar,H⟩=>AF U U) (Ap U U U (fun w ⟨Ar,H⟩=>Aj U Ik U) (Ap U U U (fun w ⟨Ar,H⟩=>Bn (cs:=[vS,.int .i64 J2.parts,vM,vC,vR,.int .i64 J2.chunk,.int .i64 J2.window,.int .i64 J2.fuel,vK,.int .i64 C.w,.int .i64 C.t,.int .i64 C.o]) U DX U U (H.cellsRI 0 U U)) (Ap U U U (fun w ⟨Ar,H⟩=>Aj U JB U) (Ap U U U (fun w ⟨Ar,H⟩=>Al U AA U (H.cellI 0 U U)) (Ap U U U (fun w ⟨Ar,H⟩=>Bn (cs:=[.int .i64 x37.h.kind,.int .i64 x37.h.sp,.int .i64 x37.h.att,.int .i64 x37.h.part,.int .i64 x37.h.seq,.int .i64 x37.h.next,.int .i64 x37.h.ep,.int .i64 x37.h.why,.slice x37.hs.A x37.hs.n x37.hs.c,.slice x37.hp.A x37.hp.n x37.hp.c]) U EG U U (H.cellsI 0 U U)) (AO U (sc (Lx vS vM vC vR vK (Co J2 C) x37.h.part (by first |assumption|omega)) H (lR 1 U (lR 2 U (lR 3 U (lR 4 U (lR 5 U l0))))) U U (Au LJ U U) ?_)))))))))
  rintro _ _ w ⟨rfl,rfl⟩ H
  refine AJ ⟨_,H⟩ (Ap U U U (fun w ⟨Ar,H⟩=>CQ (parts:=[(1,.tmp 47),(2,.tmp 48)]) (vs:=[.int .i64 (Du (Co J2 C) x37.h.part),.agg #[.int .i64 x37.h.kind,.int .i64 x37.h.sp,.int .i64 x37.h.att,.int .i64 x37.h.part,.int .i64 x37.h.seq,.int .i64 x37.h.next,.int .i64 x37.h.ep,.int .i64 x37.h.why,.slice x37.hs.A x37.hs.n x37.hs.c,.slice x37.hp.A x37.hp.n x37.hp.c]]) (cs:=[.int .i64 0,.int .i64 (Du (Co J2 C) x37.h.part),.int .i64 x37.h.kind,.int .i64 x37.h.sp,.int .i64 x37.h.att,.int .i64 x37.h.part,.int .i64 x37.h.seq,.int .i64 x37.h.next,.int .i64 x37.h.ep,.int .i64 x37.h.why,.slice x37.hs.A x37.hs.n x37.hs.c,.slice x37.hp.A x37.hp.n x37.hp.c]) U I9 U U) (AO U (BW (parts:=[(0,.tmp 49)]) (vs:=[.agg #[.int .i64 0,.int .i64 (Du (Co J2 C) x37.h.part),.int .i64 x37.h.kind,.int .i64 x37.h.sp,.int .i64 x37.h.att,.int .i64 x37.h.part,.int .i64 x37.h.seq,.int .i64 x37.h.next,.int .i64 x37.h.ep,.int .i64 x37.h.why,.slice x37.hs.A x37.hs.n x37.hs.c,.slice x37.hp.A x37.hp.n x37.hp.c]]) (cs:=[.int .i64 0,.int .i64 (Du (Co J2 C) x37.h.part),.int .i64 x37.h.kind,.int .i64 x37.h.sp,.int .i64 x37.h.att,.int .i64 x37.h.part,.int .i64 x37.h.seq,.int .i64 x37.h.next,.int .i64 x37.h.ep,.int .i64 x37.h.why,.slice x37.hs.A x37.hs.n x37.hs.c,.slice x37.hp.A x37.hp.n x37.hp.c]) U U U EE Hn U (by decide) (by decide) U U H (fun b41 w H=>?_))))
  replace H:=H.h1 (A:=blk b41 [.int .i64 0,.int .i64 (Du (Co J2 C) x37.h.part),.int .i64 x37.h.kind,.int .i64 x37.h.sp,.int .i64 x37.h.att,.int .i64 x37.h.part,.int .i64 x37.h.seq,.int .i64 x37.h.next,.int .i64 x37.h.ep,.int .i64 x37.h.why,.slice x37.hs.A x37.hs.n x37.hs.c,.slice x37.hp.A x37.hp.n x37.hp.c] 121)|>.p5|>.p5|>.p5|>.p5|>.p5
  refine AJ ⟨_,H⟩ (AO U ?_)
  replace H:=H.p6
  refine CA (xs:=([z0]++(zs28.take k).map (lf C)).map Bv) (ys:=[(⟨⟨0,Du (Co J2 C) x37.h.part,⟨x37.h.kind,x37.h.sp,x37.h.att,x37.h.part,x37.h.seq,x37.h.next,x37.h.ep,x37.h.why⟩⟩,⟨x37.hs.A,x37.hs.n,x37.hs.c⟩,⟨x37.hp.A,x37.hp.n,x37.hp.c⟩⟩:EU Ci)]) U U U EE Hn U (by decide) U U H (by first |omega|(simp only [List.length_append,List.length_cons,List.length_nil,List.length_map];omega)) (fun F hA hR=>Cp (hA _ (List.mem_of_getElem? (i:=5) U)) U (by decide) (AV.flat_eq.2 U)) (fun v42 w H=>?_)
  replace H:=H.h1 (A:=Y Da v42 ((([z0]++(zs28.take k).map (lf C)).map Bv)++[(⟨⟨0,Du (Co J2 C) x37.h.part,⟨x37.h.kind,x37.h.sp,x37.h.att,x37.h.part,x37.h.seq,x37.h.next,x37.h.ep,x37.h.why⟩⟩,⟨x37.hs.A,x37.hs.n,x37.hs.c⟩,⟨x37.hp.A,x37.hp.n,x37.hp.c⟩⟩:EU Ci)]))|>.p5|>.p5|>.p5|>.p5|>.p5
  refine AJ ⟨_,H⟩ (At U (BK (AU (Z (Ae (V U U (AX (z:=((k+1:Nat):Int)) U U U (by rw [AB (by omega) (by omega)];omega)) (Ad U (Ac ?_))))))))
  replace H:=H.p4.p4.p4.p5.p5.k5
  replace H:Hd w0 F0 w [Y Ea (.slice A31 zs28.length c32) (zs28.map Bv),Y Da v42 (([z0]++(zs28.take (k+1)).map (lf C)).map Bv),BX zs28,Y (Ai .i64) (.slice A22 se.length c23) se,Ce mb C.J M] [blk b [vS,.int .i64 J2.parts,vM,vC,vR,.int .i64 J2.chunk,.int .i64 J2.window,.int .i64 J2.fuel,vK,.int .i64 C.w,.int .i64 C.t,.int .i64 C.o,.int .i64 ep,pv,.map (some kb),tv,.int .u32 (BC ov)] 210,Ab (Ao Ag) vS J2.us,Ab Af vM J2.map,Ab Af vC J2.comb,Ab Af vR J2.red,Ab (Ai .i64) vK J2.marks,gl]:=by rw [(IP hsj).home,hxe9] at H;rw [Pr hm9,←List.append_assoc,List.map_append];exact H
  exact Bj (s:=(k,undef)) (k+1,v42) ⟨rfl,rfl,rfl,rfl,rfl,trivial⟩ ⟨H,by (try dsimp only);omega⟩ (by (try dsimp only);omega)
 refine BH (AR (AR (BI (Z (Aa (Ae (Ah 2 U (Ac (Z (Am (Aq U U ?_)))))))))))
 replace H:=H.h2 (B:=Y Da q (([z0]++(zs28.take k).map (lf C)).map Bv))
 replace H:Hd w0 F0 w [Y Ea (.slice A31 zs28.length c32) (zs28.map Bv),Y Da q ((z0::zs28.map (lf C)).map Bv),BX zs28,Y (Ai .i64) (.slice A22 se.length c23) se,Ce mb C.J M] [blk b [vS,.int .i64 J2.parts,vM,vC,vR,.int .i64 J2.chunk,.int .i64 J2.window,.int .i64 J2.fuel,vK,.int .i64 C.w,.int .i64 C.t,.int .i64 C.o,.int .i64 ep,pv,.map (some kb),tv,.int .u32 (BC ov)] 210,Ab (Ao Ag) vS J2.us,Ab Af vM J2.map,Ab Af vC J2.comb,Ab Af vR J2.red,Ab (Ai .i64) vK J2.marks,gl]:=by rw [List.take_of_length_le (l:=zs28) (by omega)] at H;exact H
 replace H:=H.p4.p2.p3.p4.k4
 rw [←Y4 C] at H
 subst hz0
 replace H:=H.newnil Ag|>.p1
 replace H:=Hd.twC (r:=(⟨⟨0,0,⟨kd,M.sp,M.att,0,0,0,0,wy⟩⟩,.slice A22 se.length c23,se,.slice none 0 0,[]⟩:Bi Ci)) H
 replace H:Hd _ _ _ [BX ((⟨⟨0,0,⟨kd,M.sp,M.att,0,0,0,0,wy⟩⟩,.slice A22 se.length c23,se,.slice none 0 0,[]⟩:Bi Ci)::zs28.map (lf C)),Y Da q (((⟨⟨0,0,⟨kd,M.sp,M.att,0,0,0,0,wy⟩⟩,.slice A22 se.length c23,se,.slice none 0 0,[]⟩:Bi Ci)::zs28.map (lf C)).map Bv),Ce mb C.J M] [blk b [vS,.int .i64 J2.parts,vM,vC,vR,.int .i64 J2.chunk,.int .i64 J2.window,.int .i64 J2.fuel,vK,.int .i64 C.w,.int .i64 C.t,.int .i64 C.o,.int .i64 ep,pv,.map (some kb),tv,.int .u32 (BC ov)] 210,Ab (Ao Ag) vS J2.us,Ab Af vM J2.map,Ab Af vC J2.comb,Ab Af vR J2.red,Ab (Ai .i64) vK J2.marks,gl]:=H
 replace H:=H.p1
 replace H:=Hd.twI H
 replace H:=H.h1 (A:=Y CZ q ((⟨⟨0,0,⟨kd,M.sp,M.att,0,0,0,0,wy⟩⟩,.slice A22 se.length c23,se,.slice none 0 0,[]⟩:Bi Ci)::zs28.map (lf C)))
 exact Ak ⟨((⟨⟨0,0,⟨kd,M.sp,M.att,0,0,0,0,wy⟩⟩,.slice A22 se.length c23,se,.slice none 0 0,[]⟩:Bi Ci)::zs28.map (lf C)),rfl,YY hd hf29⟩ H
end Go.Proofs.YthgehekecfpikaaGreatDoor.X
