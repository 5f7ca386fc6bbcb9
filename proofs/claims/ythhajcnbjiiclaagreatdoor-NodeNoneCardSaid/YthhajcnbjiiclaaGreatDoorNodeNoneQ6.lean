/- NodeNone: texts WK1, ND1, RE1, RE0, RE2, RE3, RE4, RE5, joined by a program of ours; what nothing names is left out. -/
import Derived.Test.YthhajcnbjiiclaaGreatDoorNodeNoneQ5
set_option linter.unusedVariables false
set_option linter.unusedSimpArgs false
set_option maxHeartbeats 8000000
namespace Go.Proofs.YthhajcnbjiiclaaGreatDoor.X
open Go
def Gi (e:Nat) (C:Cf) (R:AV):SP:=ex fun vS2:Value=>ex fun vM2:Value=>ex fun vC2:Value=>ex fun vR2:Value=>ex fun vK2:Value=>ex fun J2:AS=>ex fun sb:Nat=>BV [BT ((Bj J2 C.J)),EA e vS2 vM2 vC2 vR2 vK2 J2 C.w C.t C.o sb R]
theorem aL (e:Nat) (C:Cf) (R:AV) {w0 w:World} {F0:AU} {As Rs:List SP} (H:Hd w0 F0 w (Gi e C R::As) Rs):∃ vS2:Value,∃ vM2:Value,∃ vC2:Value,∃ vR2:Value,∃ vK2:Value,∃ J2:AS,∃ sb:Nat,((Bj J2 C.J))∧Hd w0 F0 w ([EA e vS2 vM2 vC2 vR2 vK2 J2 C.w C.t C.o sb R]++As) Rs:=by
 obtain ⟨vS2,H⟩:=Hd.exA H
 obtain ⟨vM2,H⟩:=Hd.exA H
 obtain ⟨vC2,H⟩:=Hd.exA H
 obtain ⟨vR2,H⟩:=Hd.exA H
 obtain ⟨vK2,H⟩:=Hd.exA H
 obtain ⟨J2,H⟩:=Hd.exA H
 obtain ⟨sb,H⟩:=Hd.exA H
 exact ⟨vS2,vM2,vC2,vR2,vK2,J2,sb,H.stA.puA⟩
theorem RS (e:Nat) (C:Cf) (R:AV) (vS2:Value) (vM2:Value) (vC2:Value) (vR2:Value) (vK2:Value) (J2:AS) (sb:Nat) {w0 w:World} {F0:AU} {As Rs:List SP} (hp:(Bj J2 C.J)) (H:Hd w0 F0 w ([EA e vS2 vM2 vC2 vR2 vK2 J2 C.w C.t C.o sb R]++As) Rs):Hd w0 F0 w (Gi e C R::As) Rs:=by
 have H1:=(show Hd w0 F0 w ([BT ((Bj J2 C.J)),EA e vS2 vM2 vC2 vR2 vK2 J2 C.w C.t C.o sb R]++As) Rs from H.puI hp).stI
 replace H1:=Hd.exI (A:=fun sb:Nat=>BV [BT ((Bj J2 C.J)),EA e vS2 vM2 vC2 vR2 vK2 J2 C.w C.t C.o sb R]) sb H1
 replace H1:=Hd.exI (A:=fun J2:AS=>ex fun sb:Nat=>BV [BT ((Bj J2 C.J)),EA e vS2 vM2 vC2 vR2 vK2 J2 C.w C.t C.o sb R]) J2 H1
 replace H1:=Hd.exI (A:=fun vK2:Value=>ex fun J2:AS=>ex fun sb:Nat=>BV [BT ((Bj J2 C.J)),EA e vS2 vM2 vC2 vR2 vK2 J2 C.w C.t C.o sb R]) vK2 H1
 replace H1:=Hd.exI (A:=fun vR2:Value=>ex fun vK2:Value=>ex fun J2:AS=>ex fun sb:Nat=>BV [BT ((Bj J2 C.J)),EA e vS2 vM2 vC2 vR2 vK2 J2 C.w C.t C.o sb R]) vR2 H1
 replace H1:=Hd.exI (A:=fun vC2:Value=>ex fun vR2:Value=>ex fun vK2:Value=>ex fun J2:AS=>ex fun sb:Nat=>BV [BT ((Bj J2 C.J)),EA e vS2 vM2 vC2 vR2 vK2 J2 C.w C.t C.o sb R]) vC2 H1
 replace H1:=Hd.exI (A:=fun vM2:Value=>ex fun vC2:Value=>ex fun vR2:Value=>ex fun vK2:Value=>ex fun J2:AS=>ex fun sb:Nat=>BV [BT ((Bj J2 C.J)),EA e vS2 vM2 vC2 vR2 vK2 J2 C.w C.t C.o sb R]) vM2 H1
 replace H1:=Hd.exI (A:=fun vS2:Value=>ex fun vM2:Value=>ex fun vC2:Value=>ex fun vR2:Value=>ex fun vK2:Value=>ex fun J2:AS=>ex fun sb:Nat=>BV [BT ((Bj J2 C.J)),EA e vS2 vM2 vC2 vR2 vK2 J2 C.w C.t C.o sb R]) vS2 H1
 exact H1
def CS (C:Cf) (rl:List (Nat×AV)):SP:=BK (fun e:Nat×AV=>Gi e.1 C e.2) rl
def Dt (J:AS) (tl:List (Nat×Cu)):SP:=BK (fun e:Nat×Cu=>C8 e.1 J e.2) tl
theorem dF {tl:List (Nat×Cu)} {ts:List Cu} (htl:tl.map Prod.snd=ts) {k:Nat} {x:J0} (hx:(tl.map BG)[k]?=some x):∃ e,tl[k]?=some e∧ts[k]?=some e.2∧x=BG e:=by
 rw [List.getElem?_map] at hx
 obtain ⟨e,he,rfl⟩:=Option.map_eq_some_iff.1 hx
 exact ⟨e,he,by rw [←htl,List.getElem?_map,he];rfl,rfl⟩
def Ch (b:Nat) (C:Cf) (W:Fs):SP:=ex fun vS:Value=>ex fun vM:Value=>ex fun vC:Value=>ex fun vR:Value=>ex fun vK:Value=>ex fun J2:AS=>ex fun pv:Value=>ex fun kb:Nat=>ex fun tv:Value=>ex fun rl:List (Nat×AV)=>ex fun tl:List (Nat×Cu)=>BV [BT ((Bj J2 C.J)∧(rl.map Prod.snd=W.rs)∧(tl.map Prod.snd=W.ts)),blk b [vS,.int .i64 J2.parts,vM,vC,vR,.int .i64 J2.chunk,.int .i64 J2.window,.int .i64 J2.fuel,vK,.int .i64 C.w,.int .i64 C.t,.int .i64 C.o,.int .i64 W.ep,pv,.map (some kb),tv,.int .u32 (Cp W.over)] 103,Y (At Ag) vS J2.us,Y Af vM J2.map,Y Af vC J2.comb,Y Af vR J2.red,Y (Ai .i64) vK J2.marks,Y (Ai .i64) pv (rl.map Bt),B5 Co kb (rl.map Cz),CS C rl,Y Dl tv (tl.map BG),Dt C.J tl]
theorem SO (b:Nat) (C:Cf) (W:Fs) {w0 w:World} {F0:AU} {As Rs:List SP} (H:Hd w0 F0 w (Ch b C W::As) Rs):∃ vS:Value,∃ vM:Value,∃ vC:Value,∃ vR:Value,∃ vK:Value,∃ J2:AS,∃ pv:Value,∃ kb:Nat,∃ tv:Value,∃ rl:List (Nat×AV),∃ tl:List (Nat×Cu),((Bj J2 C.J)∧(rl.map Prod.snd=W.rs)∧(tl.map Prod.snd=W.ts))∧Hd w0 F0 w ([blk b [vS,.int .i64 J2.parts,vM,vC,vR,.int .i64 J2.chunk,.int .i64 J2.window,.int .i64 J2.fuel,vK,.int .i64 C.w,.int .i64 C.t,.int .i64 C.o,.int .i64 W.ep,pv,.map (some kb),tv,.int .u32 (Cp W.over)] 103,Y (At Ag) vS J2.us,Y Af vM J2.map,Y Af vC J2.comb,Y Af vR J2.red,Y (Ai .i64) vK J2.marks,Y (Ai .i64) pv (rl.map Bt),B5 Co kb (rl.map Cz),CS C rl,Y Dl tv (tl.map BG),Dt C.J tl]++As) Rs:=by
 obtain ⟨vS,H⟩:=Hd.exA H
 obtain ⟨vM,H⟩:=Hd.exA H
 obtain ⟨vC,H⟩:=Hd.exA H
 obtain ⟨vR,H⟩:=Hd.exA H
 obtain ⟨vK,H⟩:=Hd.exA H
 obtain ⟨J2,H⟩:=Hd.exA H
 obtain ⟨pv,H⟩:=Hd.exA H
 obtain ⟨kb,H⟩:=Hd.exA H
 obtain ⟨tv,H⟩:=Hd.exA H
 obtain ⟨rl,H⟩:=Hd.exA H
 obtain ⟨tl,H⟩:=Hd.exA H
 exact ⟨vS,vM,vC,vR,vK,J2,pv,kb,tv,rl,tl,H.stA.puA⟩
theorem NO (b:Nat) (C:Cf) (W:Fs) (vS:Value) (vM:Value) (vC:Value) (vR:Value) (vK:Value) (J2:AS) (pv:Value) (kb:Nat) (tv:Value) (rl:List (Nat×AV)) (tl:List (Nat×Cu)) {w0 w:World} {F0:AU} {As Rs:List SP} (hp:(Bj J2 C.J)∧(rl.map Prod.snd=W.rs)∧(tl.map Prod.snd=W.ts)) (H:Hd w0 F0 w ([blk b [vS,.int .i64 J2.parts,vM,vC,vR,.int .i64 J2.chunk,.int .i64 J2.window,.int .i64 J2.fuel,vK,.int .i64 C.w,.int .i64 C.t,.int .i64 C.o,.int .i64 W.ep,pv,.map (some kb),tv,.int .u32 (Cp W.over)] 103,Y (At Ag) vS J2.us,Y Af vM J2.map,Y Af vC J2.comb,Y Af vR J2.red,Y (Ai .i64) vK J2.marks,Y (Ai .i64) pv (rl.map Bt),B5 Co kb (rl.map Cz),CS C rl,Y Dl tv (tl.map BG),Dt C.J tl]++As) Rs):Hd w0 F0 w (Ch b C W::As) Rs:=by
 have H1:=(show Hd w0 F0 w ([BT ((Bj J2 C.J)∧(rl.map Prod.snd=W.rs)∧(tl.map Prod.snd=W.ts)),blk b [vS,.int .i64 J2.parts,vM,vC,vR,.int .i64 J2.chunk,.int .i64 J2.window,.int .i64 J2.fuel,vK,.int .i64 C.w,.int .i64 C.t,.int .i64 C.o,.int .i64 W.ep,pv,.map (some kb),tv,.int .u32 (Cp W.over)] 103,Y (At Ag) vS J2.us,Y Af vM J2.map,Y Af vC J2.comb,Y Af vR J2.red,Y (Ai .i64) vK J2.marks,Y (Ai .i64) pv (rl.map Bt),B5 Co kb (rl.map Cz),CS C rl,Y Dl tv (tl.map BG),Dt C.J tl]++As) Rs from H.puI hp).stI
 replace H1:=Hd.exI (A:=fun tl:List (Nat×Cu)=>BV [BT ((Bj J2 C.J)∧(rl.map Prod.snd=W.rs)∧(tl.map Prod.snd=W.ts)),blk b [vS,.int .i64 J2.parts,vM,vC,vR,.int .i64 J2.chunk,.int .i64 J2.window,.int .i64 J2.fuel,vK,.int .i64 C.w,.int .i64 C.t,.int .i64 C.o,.int .i64 W.ep,pv,.map (some kb),tv,.int .u32 (Cp W.over)] 103,Y (At Ag) vS J2.us,Y Af vM J2.map,Y Af vC J2.comb,Y Af vR J2.red,Y (Ai .i64) vK J2.marks,Y (Ai .i64) pv (rl.map Bt),B5 Co kb (rl.map Cz),CS C rl,Y Dl tv (tl.map BG),Dt C.J tl]) tl H1
 replace H1:=Hd.exI (A:=fun rl:List (Nat×AV)=>ex fun tl:List (Nat×Cu)=>BV [BT ((Bj J2 C.J)∧(rl.map Prod.snd=W.rs)∧(tl.map Prod.snd=W.ts)),blk b [vS,.int .i64 J2.parts,vM,vC,vR,.int .i64 J2.chunk,.int .i64 J2.window,.int .i64 J2.fuel,vK,.int .i64 C.w,.int .i64 C.t,.int .i64 C.o,.int .i64 W.ep,pv,.map (some kb),tv,.int .u32 (Cp W.over)] 103,Y (At Ag) vS J2.us,Y Af vM J2.map,Y Af vC J2.comb,Y Af vR J2.red,Y (Ai .i64) vK J2.marks,Y (Ai .i64) pv (rl.map Bt),B5 Co kb (rl.map Cz),CS C rl,Y Dl tv (tl.map BG),Dt C.J tl]) rl H1
 replace H1:=Hd.exI (A:=fun tv:Value=>ex fun rl:List (Nat×AV)=>ex fun tl:List (Nat×Cu)=>BV [BT ((Bj J2 C.J)∧(rl.map Prod.snd=W.rs)∧(tl.map Prod.snd=W.ts)),blk b [vS,.int .i64 J2.parts,vM,vC,vR,.int .i64 J2.chunk,.int .i64 J2.window,.int .i64 J2.fuel,vK,.int .i64 C.w,.int .i64 C.t,.int .i64 C.o,.int .i64 W.ep,pv,.map (some kb),tv,.int .u32 (Cp W.over)] 103,Y (At Ag) vS J2.us,Y Af vM J2.map,Y Af vC J2.comb,Y Af vR J2.red,Y (Ai .i64) vK J2.marks,Y (Ai .i64) pv (rl.map Bt),B5 Co kb (rl.map Cz),CS C rl,Y Dl tv (tl.map BG),Dt C.J tl]) tv H1
 replace H1:=Hd.exI (A:=fun kb:Nat=>ex fun tv:Value=>ex fun rl:List (Nat×AV)=>ex fun tl:List (Nat×Cu)=>BV [BT ((Bj J2 C.J)∧(rl.map Prod.snd=W.rs)∧(tl.map Prod.snd=W.ts)),blk b [vS,.int .i64 J2.parts,vM,vC,vR,.int .i64 J2.chunk,.int .i64 J2.window,.int .i64 J2.fuel,vK,.int .i64 C.w,.int .i64 C.t,.int .i64 C.o,.int .i64 W.ep,pv,.map (some kb),tv,.int .u32 (Cp W.over)] 103,Y (At Ag) vS J2.us,Y Af vM J2.map,Y Af vC J2.comb,Y Af vR J2.red,Y (Ai .i64) vK J2.marks,Y (Ai .i64) pv (rl.map Bt),B5 Co kb (rl.map Cz),CS C rl,Y Dl tv (tl.map BG),Dt C.J tl]) kb H1
 replace H1:=Hd.exI (A:=fun pv:Value=>ex fun kb:Nat=>ex fun tv:Value=>ex fun rl:List (Nat×AV)=>ex fun tl:List (Nat×Cu)=>BV [BT ((Bj J2 C.J)∧(rl.map Prod.snd=W.rs)∧(tl.map Prod.snd=W.ts)),blk b [vS,.int .i64 J2.parts,vM,vC,vR,.int .i64 J2.chunk,.int .i64 J2.window,.int .i64 J2.fuel,vK,.int .i64 C.w,.int .i64 C.t,.int .i64 C.o,.int .i64 W.ep,pv,.map (some kb),tv,.int .u32 (Cp W.over)] 103,Y (At Ag) vS J2.us,Y Af vM J2.map,Y Af vC J2.comb,Y Af vR J2.red,Y (Ai .i64) vK J2.marks,Y (Ai .i64) pv (rl.map Bt),B5 Co kb (rl.map Cz),CS C rl,Y Dl tv (tl.map BG),Dt C.J tl]) pv H1
 replace H1:=Hd.exI (A:=fun J2:AS=>ex fun pv:Value=>ex fun kb:Nat=>ex fun tv:Value=>ex fun rl:List (Nat×AV)=>ex fun tl:List (Nat×Cu)=>BV [BT ((Bj J2 C.J)∧(rl.map Prod.snd=W.rs)∧(tl.map Prod.snd=W.ts)),blk b [vS,.int .i64 J2.parts,vM,vC,vR,.int .i64 J2.chunk,.int .i64 J2.window,.int .i64 J2.fuel,vK,.int .i64 C.w,.int .i64 C.t,.int .i64 C.o,.int .i64 W.ep,pv,.map (some kb),tv,.int .u32 (Cp W.over)] 103,Y (At Ag) vS J2.us,Y Af vM J2.map,Y Af vC J2.comb,Y Af vR J2.red,Y (Ai .i64) vK J2.marks,Y (Ai .i64) pv (rl.map Bt),B5 Co kb (rl.map Cz),CS C rl,Y Dl tv (tl.map BG),Dt C.J tl]) J2 H1
 replace H1:=Hd.exI (A:=fun vK:Value=>ex fun J2:AS=>ex fun pv:Value=>ex fun kb:Nat=>ex fun tv:Value=>ex fun rl:List (Nat×AV)=>ex fun tl:List (Nat×Cu)=>BV [BT ((Bj J2 C.J)∧(rl.map Prod.snd=W.rs)∧(tl.map Prod.snd=W.ts)),blk b [vS,.int .i64 J2.parts,vM,vC,vR,.int .i64 J2.chunk,.int .i64 J2.window,.int .i64 J2.fuel,vK,.int .i64 C.w,.int .i64 C.t,.int .i64 C.o,.int .i64 W.ep,pv,.map (some kb),tv,.int .u32 (Cp W.over)] 103,Y (At Ag) vS J2.us,Y Af vM J2.map,Y Af vC J2.comb,Y Af vR J2.red,Y (Ai .i64) vK J2.marks,Y (Ai .i64) pv (rl.map Bt),B5 Co kb (rl.map Cz),CS C rl,Y Dl tv (tl.map BG),Dt C.J tl]) vK H1
 replace H1:=Hd.exI (A:=fun vR:Value=>ex fun vK:Value=>ex fun J2:AS=>ex fun pv:Value=>ex fun kb:Nat=>ex fun tv:Value=>ex fun rl:List (Nat×AV)=>ex fun tl:List (Nat×Cu)=>BV [BT ((Bj J2 C.J)∧(rl.map Prod.snd=W.rs)∧(tl.map Prod.snd=W.ts)),blk b [vS,.int .i64 J2.parts,vM,vC,vR,.int .i64 J2.chunk,.int .i64 J2.window,.int .i64 J2.fuel,vK,.int .i64 C.w,.int .i64 C.t,.int .i64 C.o,.int .i64 W.ep,pv,.map (some kb),tv,.int .u32 (Cp W.over)] 103,Y (At Ag) vS J2.us,Y Af vM J2.map,Y Af vC J2.comb,Y Af vR J2.red,Y (Ai .i64) vK J2.marks,Y (Ai .i64) pv (rl.map Bt),B5 Co kb (rl.map Cz),CS C rl,Y Dl tv (tl.map BG),Dt C.J tl]) vR H1
 replace H1:=Hd.exI (A:=fun vC:Value=>ex fun vR:Value=>ex fun vK:Value=>ex fun J2:AS=>ex fun pv:Value=>ex fun kb:Nat=>ex fun tv:Value=>ex fun rl:List (Nat×AV)=>ex fun tl:List (Nat×Cu)=>BV [BT ((Bj J2 C.J)∧(rl.map Prod.snd=W.rs)∧(tl.map Prod.snd=W.ts)),blk b [vS,.int .i64 J2.parts,vM,vC,vR,.int .i64 J2.chunk,.int .i64 J2.window,.int .i64 J2.fuel,vK,.int .i64 C.w,.int .i64 C.t,.int .i64 C.o,.int .i64 W.ep,pv,.map (some kb),tv,.int .u32 (Cp W.over)] 103,Y (At Ag) vS J2.us,Y Af vM J2.map,Y Af vC J2.comb,Y Af vR J2.red,Y (Ai .i64) vK J2.marks,Y (Ai .i64) pv (rl.map Bt),B5 Co kb (rl.map Cz),CS C rl,Y Dl tv (tl.map BG),Dt C.J tl]) vC H1
 replace H1:=Hd.exI (A:=fun vM:Value=>ex fun vC:Value=>ex fun vR:Value=>ex fun vK:Value=>ex fun J2:AS=>ex fun pv:Value=>ex fun kb:Nat=>ex fun tv:Value=>ex fun rl:List (Nat×AV)=>ex fun tl:List (Nat×Cu)=>BV [BT ((Bj J2 C.J)∧(rl.map Prod.snd=W.rs)∧(tl.map Prod.snd=W.ts)),blk b [vS,.int .i64 J2.parts,vM,vC,vR,.int .i64 J2.chunk,.int .i64 J2.window,.int .i64 J2.fuel,vK,.int .i64 C.w,.int .i64 C.t,.int .i64 C.o,.int .i64 W.ep,pv,.map (some kb),tv,.int .u32 (Cp W.over)] 103,Y (At Ag) vS J2.us,Y Af vM J2.map,Y Af vC J2.comb,Y Af vR J2.red,Y (Ai .i64) vK J2.marks,Y (Ai .i64) pv (rl.map Bt),B5 Co kb (rl.map Cz),CS C rl,Y Dl tv (tl.map BG),Dt C.J tl]) vM H1
 replace H1:=Hd.exI (A:=fun vS:Value=>ex fun vM:Value=>ex fun vC:Value=>ex fun vR:Value=>ex fun vK:Value=>ex fun J2:AS=>ex fun pv:Value=>ex fun kb:Nat=>ex fun tv:Value=>ex fun rl:List (Nat×AV)=>ex fun tl:List (Nat×Cu)=>BV [BT ((Bj J2 C.J)∧(rl.map Prod.snd=W.rs)∧(tl.map Prod.snd=W.ts)),blk b [vS,.int .i64 J2.parts,vM,vC,vR,.int .i64 J2.chunk,.int .i64 J2.window,.int .i64 J2.fuel,vK,.int .i64 C.w,.int .i64 C.t,.int .i64 C.o,.int .i64 W.ep,pv,.map (some kb),tv,.int .u32 (Cp W.over)] 103,Y (At Ag) vS J2.us,Y Af vM J2.map,Y Af vC J2.comb,Y Af vR J2.red,Y (Ai .i64) vK J2.marks,Y (Ai .i64) pv (rl.map Bt),B5 Co kb (rl.map Cz),CS C rl,Y Dl tv (tl.map BG),Dt C.J tl]) vS H1
 exact H1
theorem eT (b:Nat) (vS:Value) (vM:Value) (vC:Value) (vR:Value) (vK:Value) (J2:AS) (C:Cf) (ep:Int) (pv:Value) (kb:Nat) (tv:Value) (ov:Bool):
    Cn Tryz.prog 135 [.pointer (some ⟨b,16,none⟩)] [] [blk b [vS,.int .i64 J2.parts,vM,vC,vR,.int .i64 J2.chunk,.int .i64 J2.window,.int .i64 J2.fuel,vK,.int .i64 C.w,.int .i64 C.t,.int .i64 C.o,.int .i64 ep,pv,.map (some kb),tv,.int .u32 (Cp ov)] 103] (fun v Bs=>v=.bool ov∧Bs=[]):=by
 intro w0 F0 H
 refine enter Tryz.func135 U U (Nat.le_of_ble_eq_true U) (Aa (Ad (Ac U (Ab (Z (Aa (Ad (Ac U (V U U (AH U U) (V U U (Aj U Jf U) (V U U (KY LV U U (H.cellRI 0 U U)) (V U U (CG U U U) (Ac U (Ab (Z (Am (Aq U U ?_)))))))))))))))))
 replace H:Hd _ _ _ [] [blk b [vS,.int .i64 J2.parts,vM,vC,vR,.int .i64 J2.chunk,.int .i64 J2.window,.int .i64 J2.fuel,vK,.int .i64 C.w,.int .i64 C.t,.int .i64 C.o,.int .i64 ep,pv,.map (some kb),tv,.int .u32 (Cp ov)] 103]:=H
 exact Al ⟨congrArg Value.bool (YY ov),rfl⟩ H
theorem eS (b:Nat) (C:Cf) (W:Fs):
    Cn Tryz.prog 82 [.pointer (some ⟨b,0,none⟩)] [Ch b C W] [] (fun v Bs=>v=.bool W.over∧Bs=[Ch b C W]):=by
 intro w0 F0 H
 obtain ⟨vS1,vM2,vC3,vR4,vK5,J6,pv7,kb8,tv9,rl10,tl11,⟨hsj12,hrl13,htl14⟩,H⟩:=SO b C W H
 replace H:Hd _ _ _ [blk b [vS1,.int .i64 J6.parts,vM2,vC3,vR4,.int .i64 J6.chunk,.int .i64 J6.window,.int .i64 J6.fuel,vK5,.int .i64 C.w,.int .i64 C.t,.int .i64 C.o,.int .i64 W.ep,pv7,.map (some kb8),tv9,.int .u32 (Cp W.over)] 103,Y (At Ag) vS1 J6.us,Y Af vM2 J6.map,Y Af vC3 J6.comb,Y Af vR4 J6.red,Y (Ai .i64) vK5 J6.marks,Y (Ai .i64) pv7 (rl10.map Bt),B5 Co kb8 (rl10.map Cz),CS C rl10,Y Dl tv9 (tl11.map BG),Dt C.J tl11] []:=H
 obtain ⟨A15,c16,rfl,hc17,hm18,hp19⟩:=H.fA 6 rfl
 obtain ⟨A20,c21,rfl,hc22,hm23,hp24⟩:=H.fA 9 rfl
 refine enter Tryz.func82 U U (Nat.le_of_ble_eq_true U) (Aa (Ad (Ac U (Ab (Z (Aa (Ad (Ac U (V U U (Hz U NE U U) (Ah 2 U (V U U (AH U U) (V U U (Aj U US U) (sc (eT b vS1 vM2 vC3 vR4 vK5 J6 C W.ep (.slice A15 ((rl10.map Bt).length) c16) kb8 (.slice A20 ((tl11.map BG).length) c21) W.over) H (lA 0 U (fun _ h=>h) l0) U U (Av Mt U U) ?_)))))))))))))
 rintro _ _ w ⟨rfl,rfl⟩ H
 refine Ah 2 U (Ab (Z (Am (Aq U U ?_))))
 replace H:=NO b C W vS1 vM2 vC3 vR4 vK5 J6 (.slice A15 ((rl10.map Bt).length) c16) kb8 (.slice A20 ((tl11.map BG).length) c21) rl10 tl11 ⟨hsj12,hrl13,htl14⟩ H
 replace H:=H.h1 (A:=Ch b C W)
 exact Al ⟨rfl,rfl⟩ H
def Dm (b:Nat) (C:Cf) (N:Da):SP:=ex fun vS:Value=>ex fun vM:Value=>ex fun vC:Value=>ex fun vR:Value=>ex fun vK:Value=>ex fun J2:AS=>ex fun d:Nat=>ex fun hv:Value=>ex fun zs:List (Bk BB)=>ex fun wb:Nat=>BV [BT ((Bj J2 C.J)∧(zs.map BZ=N.held)),blk b [vS,.int .i64 J2.parts,vM,vC,vR,.int .i64 J2.chunk,.int .i64 J2.window,.int .i64 J2.fuel,vK,.int .i64 C.w,.int .i64 C.t,.int .i64 C.o,.int .i64 N.id,.bool N.up,.pointer (some ⟨d,0,none⟩),hv,.pointer none,.pointer (some ⟨wb,0,none⟩)] 93,Y (At Ag) vS J2.us,Y Af vM J2.map,Y Af vC J2.comb,Y Af vR J2.red,Y (Ai .i64) vK J2.marks,BP d N.b N.n,Y BO hv zs,Ch wb (Bw J2 C) N.W]
theorem Jv (b:Nat) (C:Cf) (N:Da) {w0 w:World} {F0:AU} {As Rs:List SP} (H:Hd w0 F0 w (Dm b C N::As) Rs):∃ vS:Value,∃ vM:Value,∃ vC:Value,∃ vR:Value,∃ vK:Value,∃ J2:AS,∃ d:Nat,∃ hv:Value,∃ zs:List (Bk BB),∃ wb:Nat,((Bj J2 C.J)∧(zs.map BZ=N.held))∧Hd w0 F0 w ([blk b [vS,.int .i64 J2.parts,vM,vC,vR,.int .i64 J2.chunk,.int .i64 J2.window,.int .i64 J2.fuel,vK,.int .i64 C.w,.int .i64 C.t,.int .i64 C.o,.int .i64 N.id,.bool N.up,.pointer (some ⟨d,0,none⟩),hv,.pointer none,.pointer (some ⟨wb,0,none⟩)] 93,Y (At Ag) vS J2.us,Y Af vM J2.map,Y Af vC J2.comb,Y Af vR J2.red,Y (Ai .i64) vK J2.marks,BP d N.b N.n,Y BO hv zs,Ch wb (Bw J2 C) N.W]++As) Rs:=by
 obtain ⟨vS,H⟩:=Hd.exA H
 obtain ⟨vM,H⟩:=Hd.exA H
 obtain ⟨vC,H⟩:=Hd.exA H
 obtain ⟨vR,H⟩:=Hd.exA H
 obtain ⟨vK,H⟩:=Hd.exA H
 obtain ⟨J2,H⟩:=Hd.exA H
 obtain ⟨d,H⟩:=Hd.exA H
 obtain ⟨hv,H⟩:=Hd.exA H
 obtain ⟨zs,H⟩:=Hd.exA H
 obtain ⟨wb,H⟩:=Hd.exA H
 exact ⟨vS,vM,vC,vR,vK,J2,d,hv,zs,wb,H.stA.puA⟩
theorem IG (b:Nat) (C:Cf) (N:Da) (vS:Value) (vM:Value) (vC:Value) (vR:Value) (vK:Value) (J2:AS) (d:Nat) (hv:Value) (zs:List (Bk BB)) (wb:Nat) {w0 w:World} {F0:AU} {As Rs:List SP} (hp:(Bj J2 C.J)∧(zs.map BZ=N.held)) (H:Hd w0 F0 w ([blk b [vS,.int .i64 J2.parts,vM,vC,vR,.int .i64 J2.chunk,.int .i64 J2.window,.int .i64 J2.fuel,vK,.int .i64 C.w,.int .i64 C.t,.int .i64 C.o,.int .i64 N.id,.bool N.up,.pointer (some ⟨d,0,none⟩),hv,.pointer none,.pointer (some ⟨wb,0,none⟩)] 93,Y (At Ag) vS J2.us,Y Af vM J2.map,Y Af vC J2.comb,Y Af vR J2.red,Y (Ai .i64) vK J2.marks,BP d N.b N.n,Y BO hv zs,Ch wb (Bw J2 C) N.W]++As) Rs):Hd w0 F0 w (Dm b C N::As) Rs:=by
 have H1:=(show Hd w0 F0 w ([BT ((Bj J2 C.J)∧(zs.map BZ=N.held)),blk b [vS,.int .i64 J2.parts,vM,vC,vR,.int .i64 J2.chunk,.int .i64 J2.window,.int .i64 J2.fuel,vK,.int .i64 C.w,.int .i64 C.t,.int .i64 C.o,.int .i64 N.id,.bool N.up,.pointer (some ⟨d,0,none⟩),hv,.pointer none,.pointer (some ⟨wb,0,none⟩)] 93,Y (At Ag) vS J2.us,Y Af vM J2.map,Y Af vC J2.comb,Y Af vR J2.red,Y (Ai .i64) vK J2.marks,BP d N.b N.n,Y BO hv zs,Ch wb (Bw J2 C) N.W]++As) Rs from H.puI hp).stI
 replace H1:=Hd.exI (A:=fun wb:Nat=>BV [BT ((Bj J2 C.J)∧(zs.map BZ=N.held)),blk b [vS,.int .i64 J2.parts,vM,vC,vR,.int .i64 J2.chunk,.int .i64 J2.window,.int .i64 J2.fuel,vK,.int .i64 C.w,.int .i64 C.t,.int .i64 C.o,.int .i64 N.id,.bool N.up,.pointer (some ⟨d,0,none⟩),hv,.pointer none,.pointer (some ⟨wb,0,none⟩)] 93,Y (At Ag) vS J2.us,Y Af vM J2.map,Y Af vC J2.comb,Y Af vR J2.red,Y (Ai .i64) vK J2.marks,BP d N.b N.n,Y BO hv zs,Ch wb (Bw J2 C) N.W]) wb H1
 replace H1:=Hd.exI (A:=fun zs:List (Bk BB)=>ex fun wb:Nat=>BV [BT ((Bj J2 C.J)∧(zs.map BZ=N.held)),blk b [vS,.int .i64 J2.parts,vM,vC,vR,.int .i64 J2.chunk,.int .i64 J2.window,.int .i64 J2.fuel,vK,.int .i64 C.w,.int .i64 C.t,.int .i64 C.o,.int .i64 N.id,.bool N.up,.pointer (some ⟨d,0,none⟩),hv,.pointer none,.pointer (some ⟨wb,0,none⟩)] 93,Y (At Ag) vS J2.us,Y Af vM J2.map,Y Af vC J2.comb,Y Af vR J2.red,Y (Ai .i64) vK J2.marks,BP d N.b N.n,Y BO hv zs,Ch wb (Bw J2 C) N.W]) zs H1
 replace H1:=Hd.exI (A:=fun hv:Value=>ex fun zs:List (Bk BB)=>ex fun wb:Nat=>BV [BT ((Bj J2 C.J)∧(zs.map BZ=N.held)),blk b [vS,.int .i64 J2.parts,vM,vC,vR,.int .i64 J2.chunk,.int .i64 J2.window,.int .i64 J2.fuel,vK,.int .i64 C.w,.int .i64 C.t,.int .i64 C.o,.int .i64 N.id,.bool N.up,.pointer (some ⟨d,0,none⟩),hv,.pointer none,.pointer (some ⟨wb,0,none⟩)] 93,Y (At Ag) vS J2.us,Y Af vM J2.map,Y Af vC J2.comb,Y Af vR J2.red,Y (Ai .i64) vK J2.marks,BP d N.b N.n,Y BO hv zs,Ch wb (Bw J2 C) N.W]) hv H1
 replace H1:=Hd.exI (A:=fun d:Nat=>ex fun hv:Value=>ex fun zs:List (Bk BB)=>ex fun wb:Nat=>BV [BT ((Bj J2 C.J)∧(zs.map BZ=N.held)),blk b [vS,.int .i64 J2.parts,vM,vC,vR,.int .i64 J2.chunk,.int .i64 J2.window,.int .i64 J2.fuel,vK,.int .i64 C.w,.int .i64 C.t,.int .i64 C.o,.int .i64 N.id,.bool N.up,.pointer (some ⟨d,0,none⟩),hv,.pointer none,.pointer (some ⟨wb,0,none⟩)] 93,Y (At Ag) vS J2.us,Y Af vM J2.map,Y Af vC J2.comb,Y Af vR J2.red,Y (Ai .i64) vK J2.marks,BP d N.b N.n,Y BO hv zs,Ch wb (Bw J2 C) N.W]) d H1
 replace H1:=Hd.exI (A:=fun J2:AS=>ex fun d:Nat=>ex fun hv:Value=>ex fun zs:List (Bk BB)=>ex fun wb:Nat=>BV [BT ((Bj J2 C.J)∧(zs.map BZ=N.held)),blk b [vS,.int .i64 J2.parts,vM,vC,vR,.int .i64 J2.chunk,.int .i64 J2.window,.int .i64 J2.fuel,vK,.int .i64 C.w,.int .i64 C.t,.int .i64 C.o,.int .i64 N.id,.bool N.up,.pointer (some ⟨d,0,none⟩),hv,.pointer none,.pointer (some ⟨wb,0,none⟩)] 93,Y (At Ag) vS J2.us,Y Af vM J2.map,Y Af vC J2.comb,Y Af vR J2.red,Y (Ai .i64) vK J2.marks,BP d N.b N.n,Y BO hv zs,Ch wb (Bw J2 C) N.W]) J2 H1
 replace H1:=Hd.exI (A:=fun vK:Value=>ex fun J2:AS=>ex fun d:Nat=>ex fun hv:Value=>ex fun zs:List (Bk BB)=>ex fun wb:Nat=>BV [BT ((Bj J2 C.J)∧(zs.map BZ=N.held)),blk b [vS,.int .i64 J2.parts,vM,vC,vR,.int .i64 J2.chunk,.int .i64 J2.window,.int .i64 J2.fuel,vK,.int .i64 C.w,.int .i64 C.t,.int .i64 C.o,.int .i64 N.id,.bool N.up,.pointer (some ⟨d,0,none⟩),hv,.pointer none,.pointer (some ⟨wb,0,none⟩)] 93,Y (At Ag) vS J2.us,Y Af vM J2.map,Y Af vC J2.comb,Y Af vR J2.red,Y (Ai .i64) vK J2.marks,BP d N.b N.n,Y BO hv zs,Ch wb (Bw J2 C) N.W]) vK H1
 replace H1:=Hd.exI (A:=fun vR:Value=>ex fun vK:Value=>ex fun J2:AS=>ex fun d:Nat=>ex fun hv:Value=>ex fun zs:List (Bk BB)=>ex fun wb:Nat=>BV [BT ((Bj J2 C.J)∧(zs.map BZ=N.held)),blk b [vS,.int .i64 J2.parts,vM,vC,vR,.int .i64 J2.chunk,.int .i64 J2.window,.int .i64 J2.fuel,vK,.int .i64 C.w,.int .i64 C.t,.int .i64 C.o,.int .i64 N.id,.bool N.up,.pointer (some ⟨d,0,none⟩),hv,.pointer none,.pointer (some ⟨wb,0,none⟩)] 93,Y (At Ag) vS J2.us,Y Af vM J2.map,Y Af vC J2.comb,Y Af vR J2.red,Y (Ai .i64) vK J2.marks,BP d N.b N.n,Y BO hv zs,Ch wb (Bw J2 C) N.W]) vR H1
 replace H1:=Hd.exI (A:=fun vC:Value=>ex fun vR:Value=>ex fun vK:Value=>ex fun J2:AS=>ex fun d:Nat=>ex fun hv:Value=>ex fun zs:List (Bk BB)=>ex fun wb:Nat=>BV [BT ((Bj J2 C.J)∧(zs.map BZ=N.held)),blk b [vS,.int .i64 J2.parts,vM,vC,vR,.int .i64 J2.chunk,.int .i64 J2.window,.int .i64 J2.fuel,vK,.int .i64 C.w,.int .i64 C.t,.int .i64 C.o,.int .i64 N.id,.bool N.up,.pointer (some ⟨d,0,none⟩),hv,.pointer none,.pointer (some ⟨wb,0,none⟩)] 93,Y (At Ag) vS J2.us,Y Af vM J2.map,Y Af vC J2.comb,Y Af vR J2.red,Y (Ai .i64) vK J2.marks,BP d N.b N.n,Y BO hv zs,Ch wb (Bw J2 C) N.W]) vC H1
 replace H1:=Hd.exI (A:=fun vM:Value=>ex fun vC:Value=>ex fun vR:Value=>ex fun vK:Value=>ex fun J2:AS=>ex fun d:Nat=>ex fun hv:Value=>ex fun zs:List (Bk BB)=>ex fun wb:Nat=>BV [BT ((Bj J2 C.J)∧(zs.map BZ=N.held)),blk b [vS,.int .i64 J2.parts,vM,vC,vR,.int .i64 J2.chunk,.int .i64 J2.window,.int .i64 J2.fuel,vK,.int .i64 C.w,.int .i64 C.t,.int .i64 C.o,.int .i64 N.id,.bool N.up,.pointer (some ⟨d,0,none⟩),hv,.pointer none,.pointer (some ⟨wb,0,none⟩)] 93,Y (At Ag) vS J2.us,Y Af vM J2.map,Y Af vC J2.comb,Y Af vR J2.red,Y (Ai .i64) vK J2.marks,BP d N.b N.n,Y BO hv zs,Ch wb (Bw J2 C) N.W]) vM H1
 replace H1:=Hd.exI (A:=fun vS:Value=>ex fun vM:Value=>ex fun vC:Value=>ex fun vR:Value=>ex fun vK:Value=>ex fun J2:AS=>ex fun d:Nat=>ex fun hv:Value=>ex fun zs:List (Bk BB)=>ex fun wb:Nat=>BV [BT ((Bj J2 C.J)∧(zs.map BZ=N.held)),blk b [vS,.int .i64 J2.parts,vM,vC,vR,.int .i64 J2.chunk,.int .i64 J2.window,.int .i64 J2.fuel,vK,.int .i64 C.w,.int .i64 C.t,.int .i64 C.o,.int .i64 N.id,.bool N.up,.pointer (some ⟨d,0,none⟩),hv,.pointer none,.pointer (some ⟨wb,0,none⟩)] 93,Y (At Ag) vS J2.us,Y Af vM J2.map,Y Af vC J2.comb,Y Af vR J2.red,Y (Ai .i64) vK J2.marks,BP d N.b N.n,Y BO hv zs,Ch wb (Bw J2 C) N.W]) vS H1
 exact H1
theorem Js  :
    Cn Tryz.prog 22 [.pointer none] [] [] (fun v Bs=>v=.bool false∧Bs=[]):=by
 intro w0 F0 H
 refine enter Tryz.func22 U U (Nat.le_of_ble_eq_true U) (Aa (Ad (Ac U (Ab (Z (Aa (Ad (Ac U (V U U (Hz U F7 U U) (Ah 8 U (Ab (Z (Am (Aq U U ?_))))))))))))))
 replace H:Hd _ _ _ [] []:=H
 exact Al ⟨rfl,rfl⟩ H
theorem QY (b:Nat) (vS:Value) (vM:Value) (vC:Value) (vR:Value) (vK:Value) (J2:AS) (C:Cf) (id:Int) (up:Bool) (d:Nat) (hv:Value) (wb:Nat):
    Cn Tryz.prog 22 [.pointer (some ⟨b,0,none⟩)] [] [blk b [vS,.int .i64 J2.parts,vM,vC,vR,.int .i64 J2.chunk,.int .i64 J2.window,.int .i64 J2.fuel,vK,.int .i64 C.w,.int .i64 C.t,.int .i64 C.o,.int .i64 id,.bool up,.pointer (some ⟨d,0,none⟩),hv,.pointer none,.pointer (some ⟨wb,0,none⟩)] 93] (fun v Bs=>v=.bool up∧Bs=[]):=by
 intro w0 F0 H
 refine enter Tryz.func22 U U (Nat.le_of_ble_eq_true U) (Aa (Ad (Ac U (Ab (Z (Aa (Ad (Ac U (V U U (Hz U F7 U U) (Ah 2 U (V U U (AH U U) (V U U (Aj U FQ U) (V U U (Aj U U6 U) (V U U (An U D4 U (H.cellRI 0 U U)) (Ah 2 U (Ab (Z (Am (Aq U U ?_)))))))))))))))))))
 replace H:Hd _ _ _ [] [blk b [vS,.int .i64 J2.parts,vM,vC,vR,.int .i64 J2.chunk,.int .i64 J2.window,.int .i64 J2.fuel,vK,.int .i64 C.w,.int .i64 C.t,.int .i64 C.o,.int .i64 id,.bool up,.pointer (some ⟨d,0,none⟩),hv,.pointer none,.pointer (some ⟨wb,0,none⟩)] 93]:=H
 exact Al ⟨rfl,rfl⟩ H
theorem Ya  :
    Cn Tryz.prog 23 [.pointer none] [] [] (fun v Bs=>v=.pointer none∧Bs=[]):=by
 intro w0 F0 H
 refine enter Tryz.func23 U U (Nat.le_of_ble_eq_true U) (Aa (Ad (Ac U (Ab (Z (Aa (Aa (Ad (Ac U (V U U (C1 U F7 U U) (Ab (Z (Ct U (Aa (Ad (Ac U (Ab (Z (Am (Az (Aq U U ?_)))))))))))))))))))))
 replace H:Hd _ _ _ [] []:=H
 exact Al ⟨rfl,rfl⟩ H
theorem Yb (b:Nat) (vS:Value) (vM:Value) (vC:Value) (vR:Value) (vK:Value) (J2:AS) (C:Cf) (id:Int) (up:Bool) (d:Nat) (hv:Value) (wb:Nat):
    Cn Tryz.prog 23 [.pointer (some ⟨b,0,none⟩)] [] [blk b [vS,.int .i64 J2.parts,vM,vC,vR,.int .i64 J2.chunk,.int .i64 J2.window,.int .i64 J2.fuel,vK,.int .i64 C.w,.int .i64 C.t,.int .i64 C.o,.int .i64 id,.bool up,.pointer (some ⟨d,0,none⟩),hv,.pointer none,.pointer (some ⟨wb,0,none⟩)] 93] (fun v Bs=>v=.pointer (some ⟨d,0,none⟩)∧Bs=[]):=by
 intro w0 F0 H
 refine enter Tryz.func23 U U (Nat.le_of_ble_eq_true U) (Aa (Ad (Ac U (Ab (Z (Aa (Aa (Ad (Ac U (V U U (C1 U F7 U U) (Ab (Z (Cq U (AB (Z (Aa (Ad (Ac U (V U U (AH U U) (V U U (Aj U FQ U) (V U U (Aj U Iw U) (V U U (An U I0 U (H.cellRI 0 U U)) (Ac U (Ab (Z (Am (Aq U U ?_)))))))))))))))))))))))))))
 replace H:Hd _ _ _ [] [blk b [vS,.int .i64 J2.parts,vM,vC,vR,.int .i64 J2.chunk,.int .i64 J2.window,.int .i64 J2.fuel,vK,.int .i64 C.w,.int .i64 C.t,.int .i64 C.o,.int .i64 id,.bool up,.pointer (some ⟨d,0,none⟩),hv,.pointer none,.pointer (some ⟨wb,0,none⟩)] 93]:=H
 exact Al ⟨rfl,rfl⟩ H
theorem Yi  :
    Cn Tryz.prog 34 [.pointer none] [] [] (fun v Bs=>v=.pointer none∧Bs=[]):=by
 intro w0 F0 H
 refine enter Tryz.func34 U U (Nat.le_of_ble_eq_true U) (Aa (Ad (Ac U (Ab (Z (Aa (Aa (Ad (Ac U (V U U (C1 U F7 U U) (Ab (Z (Ct U (Aa (Ad (Ac U (Ab (Z (Am (Az (Aq U U ?_)))))))))))))))))))))
 replace H:Hd _ _ _ [] []:=H
 exact Al ⟨rfl,rfl⟩ H
theorem Yj (b:Nat) (vS:Value) (vM:Value) (vC:Value) (vR:Value) (vK:Value) (J2:AS) (C:Cf) (id:Int) (up:Bool) (d:Nat) (hv:Value) (wb:Nat):
    Cn Tryz.prog 34 [.pointer (some ⟨b,0,none⟩)] [] [blk b [vS,.int .i64 J2.parts,vM,vC,vR,.int .i64 J2.chunk,.int .i64 J2.window,.int .i64 J2.fuel,vK,.int .i64 C.w,.int .i64 C.t,.int .i64 C.o,.int .i64 id,.bool up,.pointer (some ⟨d,0,none⟩),hv,.pointer none,.pointer (some ⟨wb,0,none⟩)] 93] (fun v Bs=>v=.pointer none∧Bs=[]):=by
 intro w0 F0 H
 refine enter Tryz.func34 U U (Nat.le_of_ble_eq_true U) (Aa (Ad (Ac U (Ab (Z (Aa (Aa (Ad (Ac U (V U U (C1 U F7 U U) (Ab (Z (Cq U (AB (Z (Aa (Ad (Ac U (V U U (AH U U) (V U U (Aj U Pz U) (V U U (An U Sv U (H.cellRI 0 U U)) (Ac U (Ab (Z (Am (Aq U U ?_))))))))))))))))))))))))))
 replace H:Hd _ _ _ [] [blk b [vS,.int .i64 J2.parts,vM,vC,vR,.int .i64 J2.chunk,.int .i64 J2.window,.int .i64 J2.fuel,vK,.int .i64 C.w,.int .i64 C.t,.int .i64 C.o,.int .i64 id,.bool up,.pointer (some ⟨d,0,none⟩),hv,.pointer none,.pointer (some ⟨wb,0,none⟩)] 93]:=H
 exact Al ⟨rfl,rfl⟩ H
theorem Yp  :
    Cn Tryz.prog 13 [.pointer none] [] [] (fun v Bs=>v=.pointer none∧Bs=[]):=by
 intro w0 F0 H
 refine enter Tryz.func13 U U (Nat.le_of_ble_eq_true U) (Aa (Ad (Ac U (Ab (Z (Aa (Aa (Ad (Ac U (V U U (C1 U F7 U U) (Ab (Z (Ct U (Aa (Ad (Ac U (Ab (Z (Am (Az (Aq U U ?_)))))))))))))))))))))
 replace H:Hd _ _ _ [] []:=H
 exact Al ⟨rfl,rfl⟩ H
theorem Yg  :
    Cn Tryz.prog 25 [.pointer none] [] [] (fun v Bs=>v=.int .i64 0∧Bs=[]):=by
 intro w0 F0 H
 refine enter Tryz.func25 U U (Nat.le_of_ble_eq_true U) (Aa (Ad (Ac U (Ab (Z (Aa (Aa (Ad (Ac U (V U U (C1 U F7 U U) (Ab (Z (Ct U (Aa (Ad (Ac U (Ab (Z (Am (Az (Aq U U ?_)))))))))))))))))))))
 replace H:Hd _ _ _ [] []:=H
 exact Al ⟨rfl,rfl⟩ H
theorem Yh (b:Nat) (C:Cf) (N:Da):
    Cn Tryz.prog 25 [.pointer (some ⟨b,0,none⟩)] [Dm b C N] [] (fun v Bs=>v=.int .i64 ((N.held.length:Nat):Int)∧Bs=[Dm b C N]):=by
 intro w0 F0 H
 obtain ⟨vS1,vM2,vC3,vR4,vK5,J6,d7,hv8,zs9,wb10,⟨hsj11,hzs12⟩,H⟩:=Jv b C N H
 replace H:Hd _ _ _ [blk b [vS1,.int .i64 J6.parts,vM2,vC3,vR4,.int .i64 J6.chunk,.int .i64 J6.window,.int .i64 J6.fuel,vK5,.int .i64 C.w,.int .i64 C.t,.int .i64 C.o,.int .i64 N.id,.bool N.up,.pointer (some ⟨d7,0,none⟩),hv8,.pointer none,.pointer (some ⟨wb10,0,none⟩)] 93,Y (At Ag) vS1 J6.us,Y Af vM2 J6.map,Y Af vC3 J6.comb,Y Af vR4 J6.red,Y (Ai .i64) vK5 J6.marks,BP d7 N.b N.n,Y BO hv8 zs9,Ch wb10 (Bw J6 C) N.W] []:=H
 obtain ⟨A13,c14,rfl,hc15,hm16,hp17⟩:=H.fA 7 rfl
 refine enter Tryz.func25 U U (Nat.le_of_ble_eq_true U) (Aa (Ad (Ac U (Ab (Z (Aa (Aa (Ad (Ac U (V U U (C1 U F7 U U) (Ab (Z (Cq U (AB (Z (Aa (Ad (Ac U (V U U (AH U U) (V U U (Aj U FQ U) (V U U (Aj U Ix U) (V U U (An U H_ U (H.cellI 0 U U)) (V U U (Bn U Hb U) (Ac U (Ab (Z (Am (Aq U U ?_))))))))))))))))))))))))))))
 have e:N.held.length=zs9.length:=by rw [←hzs12,List.length_map]
 replace H:=IG b C N vS1 vM2 vC3 vR4 vK5 J6 d7 (.slice A13 zs9.length c14) zs9 wb10 ⟨hsj11,hzs12⟩ H
 replace H:=H.h1 (A:=Dm b C N)
 exact Al ⟨by rw [e]<;>rfl,rfl⟩ H
theorem IM (n:Int) (l:Int) (m:Int):
    Cn Tryz.prog 157 [.int .i64 n,.int .i64 l,.int .i64 m] [] [] (fun v Bs=>v=.bool (decide (l≤n∧n≤m))∧Bs=[]):=by
 intro w0 F0 H
 refine enter Tryz.func157 U U (Nat.le_of_ble_eq_true U) (Aa (Ad (Ac U (Ab (Z (Aa (Ad (Ah 2 U (V U U (C4 U U U) (Ac U ?_))))))))))
 refine AR (d:=10) U (fun h1=>?_) (fun h1=>?_)
 ·exact Ah 2 U (V U U (CD U U U) (Ah 2 U (Ab (Z (Am (Aq U U (Al ⟨congrArg Value.bool (decide_eq_decide.2 (by omega)),rfl⟩ H)))))))
 exact Ah 5 U (Ab (Z (Am (Aq U U (Al ⟨congrArg Value.bool (decide_eq_false (by omega)).symm,rfl⟩ H)))))
theorem K6 (n:Int):
    Cn Tryz.prog 101 [.int .i64 n] [] [] (fun v Bs=>v=.bool (decide (0≤n∧n≤5))∧Bs=[]):=by
 intro w0 F0 H
 refine enter Tryz.func101 U U (Nat.le_of_ble_eq_true U) (Aa (Ad (Ac U (Ab (Z (Aa (Ad (Ac U (sc (IM n 0 5) H l0 U U (Av IA U U) ?_)))))))))
 rintro _ _ w ⟨rfl,rfl⟩ H
 exact Ac U (Ab (Z (Am (Aq U U (Al ⟨rfl,rfl⟩ H)))))
theorem JD (n:Int):
    Cn Tryz.prog 105 [.int .i64 n] [] [] (fun v Bs=>v=.bool (decide (0≤n∧n≤3))∧Bs=[]):=by
 intro w0 F0 H
 refine enter Tryz.func105 U U (Nat.le_of_ble_eq_true U) (Aa (Ad (Ac U (Ab (Z (Aa (Ad (Ac U (sc (IM n 0 3) H l0 U U (Av IA U U) ?_)))))))))
 rintro _ _ w ⟨rfl,rfl⟩ H
 exact Ac U (Ab (Z (Am (Aq U U (Al ⟨rfl,rfl⟩ H)))))
theorem RO (n:Int):
    Cn Tryz.prog 102 [.int .i64 n] [] [] (fun v Bs=>v=.bool (decide (1≤n∧n≤3))∧Bs=[]):=by
 intro w0 F0 H
 refine enter Tryz.func102 U U (Nat.le_of_ble_eq_true U) (Aa (Ad (Ac U (Ab (Z (Aa (Ad (Ac U (sc (IM n 1 3) H l0 U U (Av IA U U) ?_)))))))))
 rintro _ _ w ⟨rfl,rfl⟩ H
 exact Ac U (Ab (Z (Am (Aq U U (Al ⟨rfl,rfl⟩ H)))))
theorem VC (f:FuncId) (cap:List Value) (Ex:List SP) (p:Int→Bool) (hkf:AK Tryz.prog f) (hp:∀ x,Cn Tryz.prog f ([.int .i64 x]++cap) [] Ex (fun v Bs=>v=.bool (p x)∧Bs=[])) (v:Value) (xs:List Int):
    Cn Tryz.prog 197 [v,.func (.func f) #[] (cap).toArray] [] (Ae (Ai .i64) v xs::Ex) (fun v Bs=>v=.int .i64 (Fj p xs)∧Bs=[]):=by
 intro w0 F0 H
 obtain ⟨A1,c2,rfl,hc3,hm4,hp5⟩:=H.fR 0 rfl
 refine enter Tryz.func197 U U (Nat.le_of_ble_eq_true U) (Aa (Ad (Ac U (Ab (Z ?_)))))
 replace H:Hd _ _ _ [] (Ae (Ai .i64) (.slice A1 xs.length c2) xs::Ex):=H
 refine Aa (Aa (Ad (Ac U (V U U (Bn U EC U) (Ac U (Ab (Z (AX (B1 (σ:=Nat) (fun k=>[(0,.slice A1 xs.length c2),(1,.func (.func f) #[] (cap).toArray),(7,.int .i64 ((xs.length:Nat):Int)),(8,.int .i64 ((k:Nat):Int))]) (fun k w=>(Hd w0 F0 w [] (Ae (Ai .i64) (.slice A1 xs.length c2) xs::Ex))∧(k≤xs.length)∧(∀ y∈xs.take k,p y=false)) (fun k=>xs.length - k) 0 ⟨rfl,rfl,rfl,rfl,trivial⟩ ⟨H,by omega,by simp⟩ ?_)))))))))
 rintro k w ⟨H,hk,hn⟩
 refine Aa (Ad (V U U (Br U U U) (Ab (Z (Aa ?_)))))
 refine AC U (fun h6=>?_) (fun h6=>?_)
 ·refine AB (Z (Aa (AX (Aa (Ad (Ah 2 U (Ab (Z (Aa (Ad (Ah 3 U ?_)))))))))))
  obtain ⟨x7,hx8⟩:∃ z9,xs[k]?=some z9:=⟨_,List.getElem?_eq_getElem (show k<xs.length by omega)⟩
  have th9:=H.thR 0 rfl hx8
  refine V U U (Bi (p:=A_ A1+k*1) U DA U U (by omega) (by omega) th9 U) (V U U (An U AE U (H.elR 0 U hx8 (q:=0) U U)) (sc (hp x7) H (fun S hS F hA hR=>hR S (List.mem_cons_of_mem _ hS)) U U (Gv (vs:=[.int .i64 x7]) (fs:=#[]) (cs:=cap.toArray) hkf U U U) ?_))
  rintro _ _ w ⟨rfl,rfl⟩ H
  refine Ab (Z ?_)
  refine Dx (b:=p x7) U (fun h10=>?_) (fun h10=>?_)
  ·exact Aa (Ad (Ah 2 U (Ab (Z (Am (AY (Az (Az (AY (Az (Aq U U (Al ⟨by rw [Kh hn hx8 h10]<;>rfl,rfl⟩ H))))))))))))
  exact AB (Bb (Z (Ad (V U U (Be (z:=((k+1:Nat):Int)) U U U (by rw [AI (by omega) (by omega)];omega)) (Ac U (Ab (Bo (s:=k) (k+1) ⟨rfl,rfl,rfl,rfl,trivial⟩ ⟨H,by omega,Lu hn hx8 h10⟩ (by (try dsimp only);omega))))))))
 refine BW (A8 (A8 (BX (Z (Aa (Ad (Ac U (Ab (Z (Am (Aq U U ?_)))))))))))
 have hn2:∀ y∈xs,p y=false:=by rw [←GJ (xs:=xs) (k:=k) (by omega)];exact hn
 exact Al ⟨by rw [Je hn2]<;>rfl,rfl⟩ H
theorem T0 (f:FuncId) (cap:List Value) (Ex:List SP) (p:Int→Bool) (hkf:AK Tryz.prog f) (hp:∀ x,Cn Tryz.prog f ([.int .i64 x]++cap) [] Ex (fun v Bs=>v=.bool (p x)∧Bs=[])) (v:Value) (xs:List Int):
    Cn Tryz.prog 144 [v,.func (.func f) #[] (cap).toArray] [] (Ae (Ai .i64) v xs::Ex) (fun v Bs=>v=.bool (xs.any p)∧Bs=[]):=by
 intro w0 F0 H
 refine enter Tryz.func144 U U (Nat.le_of_ble_eq_true U) (Aa (Ad (Ac U (Ab (Z (Aa (Ad (Ah 2 U (sc (VC f cap Ex p hkf hp v xs) H MB U U (Av Wn U U) ?_)))))))))
 rintro _ _ w ⟨rfl,rfl⟩ H
 exact V U U (C4 U U U) (Ac U (Ab (Z (Am (Aq U U (Al ⟨congrArg Value.bool (Ki p xs),rfl⟩ H))))))
theorem ZR (x:Int):
    Cn Tryz.prog 158 [.int .i64 x] [] [] (fun v Bs=>v=.bool (!decide (0≤x∧x≤40))∧Bs=[]):=by
 intro w0 F0 H
 refine enter Tryz.func158 U U (Nat.le_of_ble_eq_true U) (Aa (Ad (Ac U (Ab (Z (Aa (Ad (Ac U (sc (IM x 0 40) H l0 U U (Av IA U U) ?_)))))))))
 rintro _ _ w ⟨rfl,rfl⟩ H
 exact V U U (D3 U U) (Ac U (Ab (Z (Am (Aq U U (Al ⟨congrArg Value.bool (by grind),rfl⟩ H))))))
theorem ZS (vxs:Value) (xs:List Int):
    Cn Tryz.prog 103 [vxs] [] [Ae (Ai .i64) vxs xs] (fun v Bs=>v=.bool (decide (GQ xs))∧Bs=[]):=by
 intro w0 F0 H
 obtain ⟨A1,c2,rfl,hc3,hm4,hp5⟩:=H.fR 0 rfl
 refine enter Tryz.func103 U U (Nat.le_of_ble_eq_true U) (Aa (Ad (Ac U (Ab (Z ?_)))))
 replace H:Hd _ _ _ [] [Ae (Ai .i64) (.slice A1 xs.length c2) xs]:=H
 refine Aa (Ad (Ac U (V U U (Bn U EC U) (V U U (CD U U U) (Ac U ?_)))))
 refine AR (d:=6) U (fun h6=>?_) (fun h6=>?_)
 ·refine Ac U (sc (T0 158 [] [] (fun x=>!decide (0≤x∧x≤40)) Wb (fun x=>ZR x) (.slice A1 xs.length c2) xs) H (lR 0 U l0) U U (Av V_ U U) ?_)
  rintro _ _ w ⟨rfl,rfl⟩ H
  refine V U U (Ek U U U) (Ah 2 U (Ab (Z (Am (Aq U U ?_)))))
  have e:(!(xs.any (fun x=>!decide (0≤x∧x≤40))))=decide (GQ xs):=TV (by omega)
  exact Al ⟨congrArg Value.bool e,rfl⟩ H
 exact Ah 5 U (Ab (Z (Am (Aq U U (Al ⟨congrArg Value.bool (decide_eq_false (fun h=>by unfold GQ at h;have:=h.1;omega)).symm,rfl⟩ H)))))
theorem ZW (vxs:Value) (xs:List Int):
    Cn Tryz.prog 106 [vxs] [] [Ae (Ai .i64) vxs xs] (fun v Bs=>v=.bool (decide (ED (-1) xs))∧Bs=[]):=by
 intro w0 F0 H
 obtain ⟨A1,c2,rfl,hc3,hm4,hp5⟩:=H.fR 0 rfl
 refine enter Tryz.func106 U U (Nat.le_of_ble_eq_true U) (Aa (Ad (Ac U (Ab (Z ?_)))))
 replace H:Hd _ _ _ [] [Ae (Ai .i64) (.slice A1 xs.length c2) xs]:=H
 refine Aa (Ad (Ac U (Ab (Z (Aa (Aa (Ad (Ac U (V U U (Bn U EC U) (Ac U (Ab (Z (AX (B1 (σ:=Nat×Int) (fun (j,last)=>[(3,.int .i64 last),(6,.slice A1 xs.length c2),(7,.int .i64 ((xs.length:Nat):Int)),(8,.int .i64 ((j:Nat):Int))]) (fun (j,last) w=>(Hd w0 F0 w [] [Ae (Ai .i64) (.slice A1 xs.length c2) xs])∧(j≤xs.length)∧(ED last (xs.drop j)↔ED (-1) xs)) (fun (j,last)=>xs.length - j) (0, -1) ⟨rfl,rfl,rfl,rfl,trivial⟩ ⟨H,Nat.zero_le _,Iff.rfl⟩ ?_))))))))))))))
 rintro ⟨j,last⟩ w ⟨H,hj,hm⟩
 refine Aa (Ad (V U U (Br U U U) (Ab (Z (Aa ?_)))))
 refine AC U (fun h6=>?_) (fun h6=>?_)
 ·refine AB (Z (Aa (AX (Aa (Ad ?_)))))
  obtain ⟨x7,hx8⟩:∃ z9,xs[j]?=some z9:=⟨_,List.getElem?_eq_getElem (show j<xs.length by omega)⟩
  have th9:=H.thR 0 rfl hx8
  refine V U U (Bi (p:=A_ A1+j*1) U DA U U (by omega) (by omega) th9 U) (V U U (An U AE U (H.elR 0 U hx8 (q:=0) U U)) (Ac U (Ab (Z (Aa (Aa (Ad (Ac U (sc (K6 x7) H l0 U U (Av Kv U U) ?_)))))))))
  rintro _ _ w ⟨rfl,rfl⟩ H
  refine V U U (D3 U U) (Ac U ?_)
  refine AR (d:=15) U (fun h10=>?_) (fun h10=>?_)
  ·refine Ah 4 U (Ab (Z (Ct U (Aa (Ad (Ac U (Ab (Z (Am (Az (AY (Az (Az (AY (Az (Aq U U ?_))))))))))))))))
   have e:¬ ED (-1) xs:=fun g=>by have g:=hm.2 g;rw [Fv hx8,NG] at g;unfold Bq at g;omega
   exact Al ⟨congrArg Value.bool (decide_eq_false e).symm,rfl⟩ H
  refine Ah 2 U (V U U (CD U U U) (Ac U (Ab (Z ?_))))
  refine AC U (fun h11=>?_) (fun h11=>?_)
  ·refine Aa (Ad (Ac U (Ab (Z (Am (Az (AY (Az (Az (AY (Az (Aq U U ?_))))))))))))
   have e:¬ ED (-1) xs:=fun g=>by have g:=hm.2 g;rw [Fv hx8,NG] at g;unfold Bq at g;omega
   exact Al ⟨congrArg Value.bool (decide_eq_false e).symm,rfl⟩ H
  refine AB (Z (Ad (Ah 2 U (Ab (Bb (Z (Ad (V U U (Be (z:=((j+1:Nat):Int)) U U U (by rw [AI (by omega) (by omega)];omega)) (Ac U (Ab ?_))))))))))
  have hm2:ED x7 (xs.drop (j+1))↔ED (-1) xs:=by rw [←hm,Fv hx8,NG];unfold Bq;exact ⟨fun g=>⟨by omega,by omega,g⟩,fun g=>g.2.2⟩
  exact Bo (s:=(j,last)) (j+1,x7) ⟨rfl,rfl,rfl,rfl,trivial⟩ ⟨H,by (try dsimp only);omega,hm2⟩ (by (try dsimp only);omega)
 refine BW (A8 (A8 (BX (Z (Aa (Ad (Ac U (Ab (Z (Am (Aq U U ?_)))))))))))
 have e:ED (-1) xs:=hm.1 (by rw [List.drop_eq_nil_of_le (by omega)];trivial)
 exact Al ⟨congrArg Value.bool (decide_eq_true e).symm,rfl⟩ H
theorem ZU (k:Int) (p:Int) (s:Int) (a:Int) (y:Int) (vs:Value) (vp:Value):
    Cn Tryz.prog 104 [.agg #[.int .i64 k,.int .i64 p,.int .i64 s,.int .i64 a,.int .i64 y,vs,vp]] [] [] (fun v Bs=>v=.bool (decide (EJ ⟨k,p,s,a,y,[],[]⟩))∧Bs=[]):=by
 intro w0 F0 H
 refine enter Tryz.func104 U U (Nat.le_of_ble_eq_true U) (Aa (Ad (CT U U U U H (fun b1 w H=>(Ac U (Ab (Z ?_)))))))
 replace H:Hd _ _ _ [blk b1 [.int .i64 k,.int .i64 p,.int .i64 s,.int .i64 a,.int .i64 y,vs,vp] 69] []:=H
 refine Aa (Aa (Ad (V U U (Aj U Hp U) (V U U (An U AE U (H.cellI 0 U U)) (sc (IM y 1 6) H l0 U U (Av IA U U) ?_)))))
 rintro _ _ w ⟨rfl,rfl⟩ H
 refine V U U (D3 U U) (Ab (Z ?_))
 refine AC U (fun h2=>?_) (fun h2=>?_)
 ·refine Aa (Ad (Ac U (Ab (Z (Am (Az (Aq U U ?_)))))))
  replace H:=H.nil
  replace H:Hd _ _ _ [] []:=H
  exact Al ⟨congrArg Value.bool (decide_eq_false (by (try simp only [EJ,Bq] at *);first |omega|grind)).symm,rfl⟩ H
 refine AB (Z (Aa (Ad (V U U (Aj U GW U) (V U U (An U AE U (H.cellI 0 U U)) (V U U (Bg U U U) (Ac U ?_)))))))
 refine AR (d:=10) U (fun h3=>?_) (fun h3=>?_)
 ·refine V U U (Aj U Gc U) (V U U (An U AE U (H.cellI 0 U U)) (sc (K6 s) H l0 U U (Av Kv U U) ?_))
  rintro _ _ w ⟨rfl,rfl⟩ H
  refine Ah 2 U ?_
  refine AR (d:=15) U (fun h4=>?_) (fun h4=>?_)
  ·refine V U U (Aj U Gw U) (V U U (An U AE U (H.cellI 0 U U)) (V U U (Bg U U U) (Ah 2 U ?_)))
   refine AR (d:=20) U (fun h5=>?_) (fun h5=>?_)
   ·refine Ah 12 U (Ah 3 U (Ab (Z (Am (Aq U U ?_)))))
    replace H:=H.nil
    replace H:Hd _ _ _ [] []:=H
    exact Al ⟨congrArg Value.bool (decide_eq_true (by (try simp only [EJ,Bq] at *);first |omega|grind)).symm,rfl⟩ H
   refine V U U (Aj U GW U) (V U U (An U AE U (H.cellI 0 U U)) (V U U (Bg U U U) (Ac U ?_)))
   refine AR (d:=24) U (fun h6=>?_) (fun h6=>?_)
   ·refine V U U (Aj U Gw U) (V U U (An U AE U (H.cellI 0 U U)) (sc (JD p) H l0 U U (Av Jn U U) ?_))
    rintro _ _ w ⟨rfl,rfl⟩ H
    refine Ah 2 U ?_
    refine AR (d:=29) U (fun h7=>?_) (fun h7=>?_)
    ·refine V U U (Aj U Gc U) (V U U (An U AE U (H.cellI 0 U U)) (V U U (Bg U U U) (Ah 3 U (Ab (Z (Am (Aq U U ?_)))))))
     replace H:=H.nil
     replace H:Hd _ _ _ [] []:=H
     exact Al ⟨congrArg Value.bool (decide_eq_decide.2 (by (try simp only [EJ,Bq] at *);first |omega|grind)),rfl⟩ H
    refine Ah 6 U (Ab (Z (Am (Aq U U ?_))))
    replace H:=H.nil
    replace H:Hd _ _ _ [] []:=H
    exact Al ⟨congrArg Value.bool (decide_eq_false (by (try simp only [EJ,Bq] at *);first |omega|grind)).symm,rfl⟩ H
   refine Ah 11 U (Ab (Z (Am (Aq U U ?_))))
   replace H:=H.nil
   replace H:Hd _ _ _ [] []:=H
   exact Al ⟨congrArg Value.bool (decide_eq_false (by (try simp only [EJ,Bq] at *);first |omega|grind)).symm,rfl⟩ H
  refine Ah 5 U (V U U (Aj U GW U) (V U U (An U AE U (H.cellI 0 U U)) (V U U (Bg U U U) (Ac U ?_))))
  refine AR (d:=24) U (fun h8=>?_) (fun h8=>?_)
  ·refine V U U (Aj U Gw U) (V U U (An U AE U (H.cellI 0 U U)) (sc (JD p) H l0 U U (Av Jn U U) ?_))
   rintro _ _ w ⟨rfl,rfl⟩ H
   refine Ah 2 U ?_
   refine AR (d:=29) U (fun h9=>?_) (fun h9=>?_)
   ·refine V U U (Aj U Gc U) (V U U (An U AE U (H.cellI 0 U U)) (V U U (Bg U U U) (Ah 3 U (Ab (Z (Am (Aq U U ?_)))))))
    replace H:=H.nil
    replace H:Hd _ _ _ [] []:=H
    exact Al ⟨congrArg Value.bool (decide_eq_decide.2 (by (try simp only [EJ,Bq] at *);first |omega|grind)),rfl⟩ H
   refine Ah 6 U (Ab (Z (Am (Aq U U ?_))))
   replace H:=H.nil
   replace H:Hd _ _ _ [] []:=H
   exact Al ⟨congrArg Value.bool (decide_eq_false (by (try simp only [EJ,Bq] at *);first |omega|grind)).symm,rfl⟩ H
  refine Ah 11 U (Ab (Z (Am (Aq U U ?_))))
  replace H:=H.nil
  replace H:Hd _ _ _ [] []:=H
  exact Al ⟨congrArg Value.bool (decide_eq_false (by (try simp only [EJ,Bq] at *);first |omega|grind)).symm,rfl⟩ H
 refine Ah 10 U (V U U (Aj U GW U) (V U U (An U AE U (H.cellI 0 U U)) (V U U (Bg U U U) (Ac U ?_))))
 refine AR (d:=24) U (fun h10=>?_) (fun h10=>?_)
 ·refine V U U (Aj U Gw U) (V U U (An U AE U (H.cellI 0 U U)) (sc (JD p) H l0 U U (Av Jn U U) ?_))
  rintro _ _ w ⟨rfl,rfl⟩ H
  refine Ah 2 U ?_
  refine AR (d:=29) U (fun h11=>?_) (fun h11=>?_)
  ·refine V U U (Aj U Gc U) (V U U (An U AE U (H.cellI 0 U U)) (V U U (Bg U U U) (Ah 3 U (Ab (Z (Am (Aq U U ?_)))))))
   replace H:=H.nil
   replace H:Hd _ _ _ [] []:=H
   exact Al ⟨congrArg Value.bool (decide_eq_decide.2 (by (try simp only [EJ,Bq] at *);first |omega|grind)),rfl⟩ H
  refine Ah 6 U (Ab (Z (Am (Aq U U ?_))))
  replace H:=H.nil
  replace H:Hd _ _ _ [] []:=H
  exact Al ⟨congrArg Value.bool (decide_eq_false (by (try simp only [EJ,Bq] at *);first |omega|grind)).symm,rfl⟩ H
 refine Ah 11 U (Ab (Z (Am (Aq U U ?_))))
 replace H:=H.nil
 replace H:Hd _ _ _ [] []:=H
 exact Al ⟨congrArg Value.bool (decide_eq_false (by (try simp only [EJ,Bq] at *);first |omega|grind)).symm,rfl⟩ H
theorem RN (k:Int) (p:Int) (s:Int) (a:Int) (y:Int) (vs:Value) (vp:Value) (set:List Int) (prs:List Ap):
    Cn Tryz.prog 56 [.agg #[.int .i64 k,.int .i64 p,.int .i64 s,.int .i64 a,.int .i64 y,vs,vp]] [] [Ae (Ai .i64) vs set,Ae Ag vp prs] (fun v Bs=>v=.bool (decide (Ck (⟨k,p,s,a,y,set,prs⟩:Ba)))∧Bs=[]):=by
 intro w0 F0 H
 obtain ⟨A1,c2,rfl,hc3,hm4,hp5⟩:=H.fR 0 rfl
 obtain ⟨A6,c7,rfl,hc8,hm9,hp10⟩:=H.fR 1 rfl
 refine enter Tryz.func56 U U (Nat.le_of_ble_eq_true U) (Aa (Ad (CT U U U U H (fun b11 w H=>(Ac U (Ab (Z ?_)))))))
 replace H:Hd _ _ _ [blk b11 [.int .i64 k,.int .i64 p,.int .i64 s,.int .i64 a,.int .i64 y,.slice A1 set.length c2,.slice A6 prs.length c7] 69] [Ae (Ai .i64) (.slice A1 set.length c2) set,Ae Ag (.slice A6 prs.length c7) prs]:=H
 refine Hj (σ:=Nat) (fun bb=>[(1,.pointer (some ⟨bb,0,none⟩))]) (fun bb w=>(Hd w0 F0 w [blk bb [.int .i64 k,.int .i64 p,.int .i64 s,.int .i64 a,.int .i64 y,.slice A1 set.length c2,.slice A6 prs.length c7] 69] [Ae (Ai .i64) (.slice A1 set.length c2) set,Ae Ag (.slice A6 prs.length c7) prs])∧(¬ Dc (⟨k,p,s,a,y,set,prs⟩:Ba))) ?_ ?_
 ·refine Aa (Ad (V U U (Aj U D8 U) (V U U (An U AE U (H.cellI 0 U U)) (V U U (CG U U U) (Ac U ?_)))))
  refine AR (d:=7) U (fun h12=>?_) (fun h12=>?_)
  ·refine V U U (Aj U D8 U) (V U U (An U AE U (H.cellI 0 U U)) (V U U (CG U U U) (Ah 2 U ?_)))
   refine AR (d:=12) U (fun h13=>?_) (fun h13=>?_)
   ·refine V U U (Aj U Gd U) (V U U (An U DY U (H.cellI 0 U U)) (V U U (Bn U EC U) (V U U (CW U U U) (Ah 2 U ?_))))
    refine AR (d:=18) U (fun h14=>?_) (fun h14=>?_)
    ·refine Ah 12 U (Ah 8 U (Ab (Z (Ct U (Aa (Ad (Ac U (Ab (Z (Am (Az (Aq U U ?_))))))))))))
     replace H:=H.nil
     have e:¬ Ck (⟨k,p,s,a,y,set,prs⟩:Ba):=fun g=>g.1 (by unfold Dc;dsimp only;omega)
     exact Al ⟨congrArg Value.bool (decide_eq_false e).symm,rfl⟩ H
    refine V U U (Aj U D8 U) (V U U (An U AE U (H.cellI 0 U U)) (V U U (CG U U U) (Ac U ?_)))
    refine AR (d:=22) U (fun h15=>?_) (fun h15=>?_)
    ·refine V U U (Aj U FP U) (V U U (An U DG U (H.cellI 0 U U)) (V U U (Bn U Do U) (V U U (CW U U U) (Ah 3 U ?_))))
     refine AR (d:=29) U (fun h16=>?_) (fun h16=>?_)
     ·refine Ah 9 U (Ab (Z (Ct U (Aa (Ad (Ac U (Ab (Z (Am (Az (Aq U U ?_)))))))))))
      replace H:=H.nil
      have e:¬ Ck (⟨k,p,s,a,y,set,prs⟩:Ba):=fun g=>g.1 (by unfold Dc;dsimp only;omega)
      exact Al ⟨congrArg Value.bool (decide_eq_false e).symm,rfl⟩ H
     refine V U U (Aj U D8 U) (V U U (An U AE U (H.cellI 0 U U)) (V U U (CG U U U) (Ac U ?_)))
     refine AR (d:=33) U (fun h17=>?_) (fun h17=>?_)
     ·refine V U U (Aj U Hp U) (V U U (An U AE U (H.cellI 0 U U)) (V U U (CG U U U) (Ah 2 U (Ab (Z ?_)))))
      refine AC U (fun h18=>?_) (fun h18=>?_)
      ·refine Aa (Ad (Ac U (Ab (Z (Am (Az (Aq U U ?_)))))))
       replace H:=H.nil
       have e:¬ Ck (⟨k,p,s,a,y,set,prs⟩:Ba):=fun g=>g.1 (by unfold Dc;dsimp only;omega)
       exact Al ⟨congrArg Value.bool (decide_eq_false e).symm,rfl⟩ H
      exact AB (Dh b11 ⟨rfl,trivial⟩ ⟨H,fun h=>by unfold Dc at h;dsimp only at h;omega⟩)
     exact Ah 5 U (Ab (Z (Cq U (AB (Dh b11 ⟨rfl,trivial⟩ ⟨H,fun h=>by unfold Dc at h;dsimp only at h;omega⟩)))))
    refine Ah 7 U (V U U (Aj U D8 U) (V U U (An U AE U (H.cellI 0 U U)) (V U U (CG U U U) (Ac U ?_))))
    refine AR (d:=33) U (fun h19=>?_) (fun h19=>?_)
    ·refine V U U (Aj U Hp U) (V U U (An U AE U (H.cellI 0 U U)) (V U U (CG U U U) (Ah 2 U (Ab (Z ?_)))))
     refine AC U (fun h20=>?_) (fun h20=>?_)
     ·refine Aa (Ad (Ac U (Ab (Z (Am (Az (Aq U U ?_)))))))
      replace H:=H.nil
      have e:¬ Ck (⟨k,p,s,a,y,set,prs⟩:Ba):=fun g=>g.1 (by unfold Dc;dsimp only;omega)
      exact Al ⟨congrArg Value.bool (decide_eq_false e).symm,rfl⟩ H
     exact AB (Dh b11 ⟨rfl,trivial⟩ ⟨H,fun h=>by unfold Dc at h;dsimp only at h;omega⟩)
    exact Ah 5 U (Ab (Z (Cq U (AB (Dh b11 ⟨rfl,trivial⟩ ⟨H,fun h=>by unfold Dc at h;dsimp only at h;omega⟩)))))
   refine Ah 6 U (V U U (Aj U D8 U) (V U U (An U AE U (H.cellI 0 U U)) (V U U (CG U U U) (Ac U ?_))))
   refine AR (d:=22) U (fun h21=>?_) (fun h21=>?_)
   ·refine V U U (Aj U FP U) (V U U (An U DG U (H.cellI 0 U U)) (V U U (Bn U Do U) (V U U (CW U U U) (Ah 3 U ?_))))
    refine AR (d:=29) U (fun h22=>?_) (fun h22=>?_)
    ·refine Ah 9 U (Ab (Z (Ct U (Aa (Ad (Ac U (Ab (Z (Am (Az (Aq U U ?_)))))))))))
     replace H:=H.nil
     have e:¬ Ck (⟨k,p,s,a,y,set,prs⟩:Ba):=fun g=>g.1 (by unfold Dc;dsimp only;omega)
     exact Al ⟨congrArg Value.bool (decide_eq_false e).symm,rfl⟩ H
    refine V U U (Aj U D8 U) (V U U (An U AE U (H.cellI 0 U U)) (V U U (CG U U U) (Ac U ?_)))
    refine AR (d:=33) U (fun h23=>?_) (fun h23=>?_)
    ·refine V U U (Aj U Hp U) (V U U (An U AE U (H.cellI 0 U U)) (V U U (CG U U U) (Ah 2 U (Ab (Z ?_)))))
     refine AC U (fun h24=>?_) (fun h24=>?_)
     ·refine Aa (Ad (Ac U (Ab (Z (Am (Az (Aq U U ?_)))))))
      replace H:=H.nil
      have e:¬ Ck (⟨k,p,s,a,y,set,prs⟩:Ba):=fun g=>g.1 (by unfold Dc;dsimp only;omega)
      exact Al ⟨congrArg Value.bool (decide_eq_false e).symm,rfl⟩ H
     exact AB (Dh b11 ⟨rfl,trivial⟩ ⟨H,fun h=>by unfold Dc at h;dsimp only at h;omega⟩)
    exact Ah 5 U (Ab (Z (Cq U (AB (Dh b11 ⟨rfl,trivial⟩ ⟨H,fun h=>by unfold Dc at h;dsimp only at h;omega⟩)))))
   refine Ah 7 U (V U U (Aj U D8 U) (V U U (An U AE U (H.cellI 0 U U)) (V U U (CG U U U) (Ac U ?_))))
   refine AR (d:=33) U (fun h25=>?_) (fun h25=>?_)
   ·refine V U U (Aj U Hp U) (V U U (An U AE U (H.cellI 0 U U)) (V U U (CG U U U) (Ah 2 U (Ab (Z ?_)))))
    refine AC U (fun h26=>?_) (fun h26=>?_)
    ·refine Aa (Ad (Ac U (Ab (Z (Am (Az (Aq U U ?_)))))))
     replace H:=H.nil
     have e:¬ Ck (⟨k,p,s,a,y,set,prs⟩:Ba):=fun g=>g.1 (by unfold Dc;dsimp only;omega)
     exact Al ⟨congrArg Value.bool (decide_eq_false e).symm,rfl⟩ H
    exact AB (Dh b11 ⟨rfl,trivial⟩ ⟨H,fun h=>by unfold Dc at h;dsimp only at h;omega⟩)
   exact Ah 5 U (Ab (Z (Cq U (AB (Dh b11 ⟨rfl,trivial⟩ ⟨H,fun h=>by unfold Dc at h;dsimp only at h;omega⟩)))))
  refine Ah 11 U (V U U (Aj U D8 U) (V U U (An U AE U (H.cellI 0 U U)) (V U U (CG U U U) (Ac U ?_))))
  refine AR (d:=22) U (fun h27=>?_) (fun h27=>?_)
  ·refine V U U (Aj U FP U) (V U U (An U DG U (H.cellI 0 U U)) (V U U (Bn U Do U) (V U U (CW U U U) (Ah 3 U ?_))))
   refine AR (d:=29) U (fun h28=>?_) (fun h28=>?_)
   ·refine Ah 9 U (Ab (Z (Ct U (Aa (Ad (Ac U (Ab (Z (Am (Az (Aq U U ?_)))))))))))
    replace H:=H.nil
    have e:¬ Ck (⟨k,p,s,a,y,set,prs⟩:Ba):=fun g=>g.1 (by unfold Dc;dsimp only;omega)
    exact Al ⟨congrArg Value.bool (decide_eq_false e).symm,rfl⟩ H
   refine V U U (Aj U D8 U) (V U U (An U AE U (H.cellI 0 U U)) (V U U (CG U U U) (Ac U ?_)))
   refine AR (d:=33) U (fun h29=>?_) (fun h29=>?_)
   ·refine V U U (Aj U Hp U) (V U U (An U AE U (H.cellI 0 U U)) (V U U (CG U U U) (Ah 2 U (Ab (Z ?_)))))
    refine AC U (fun h30=>?_) (fun h30=>?_)
    ·refine Aa (Ad (Ac U (Ab (Z (Am (Az (Aq U U ?_)))))))
     replace H:=H.nil
     have e:¬ Ck (⟨k,p,s,a,y,set,prs⟩:Ba):=fun g=>g.1 (by unfold Dc;dsimp only;omega)
     exact Al ⟨congrArg Value.bool (decide_eq_false e).symm,rfl⟩ H
    exact AB (Dh b11 ⟨rfl,trivial⟩ ⟨H,fun h=>by unfold Dc at h;dsimp only at h;omega⟩)
   exact Ah 5 U (Ab (Z (Cq U (AB (Dh b11 ⟨rfl,trivial⟩ ⟨H,fun h=>by unfold Dc at h;dsimp only at h;omega⟩)))))
  refine Ah 7 U (V U U (Aj U D8 U) (V U U (An U AE U (H.cellI 0 U U)) (V U U (CG U U U) (Ac U ?_))))
  refine AR (d:=33) U (fun h31=>?_) (fun h31=>?_)
  ·refine V U U (Aj U Hp U) (V U U (An U AE U (H.cellI 0 U U)) (V U U (CG U U U) (Ah 2 U (Ab (Z ?_)))))
   refine AC U (fun h32=>?_) (fun h32=>?_)
   ·refine Aa (Ad (Ac U (Ab (Z (Am (Az (Aq U U ?_)))))))
    replace H:=H.nil
    have e:¬ Ck (⟨k,p,s,a,y,set,prs⟩:Ba):=fun g=>g.1 (by unfold Dc;dsimp only;omega)
    exact Al ⟨congrArg Value.bool (decide_eq_false e).symm,rfl⟩ H
   exact AB (Dh b11 ⟨rfl,trivial⟩ ⟨H,fun h=>by unfold Dc at h;dsimp only at h;omega⟩)
  exact Ah 5 U (Ab (Z (Cq U (AB (Dh b11 ⟨rfl,trivial⟩ ⟨H,fun h=>by unfold Dc at h;dsimp only at h;omega⟩)))))
 rintro bb w ⟨H,ho⟩
 refine Hj (σ:=Nat×Bool) (fun (bb,nn)=>[(1,.pointer (some ⟨bb,0,none⟩)),(3,.bool nn)]) (fun (bb,nn) w=>(Hd w0 F0 w [blk bb [.int .i64 k,.int .i64 p,.int .i64 s,.int .i64 a,.int .i64 y,.slice A1 set.length c2,.slice A6 prs.length c7] 69] [Ae (Ai .i64) (.slice A1 set.length c2) set,Ae Ag (.slice A6 prs.length c7) prs])∧(nn=decide (p=0∧s=0∧a=0))) ?_ ?_
 ·refine Ad (V U U (Aj U Gw U) (V U U (An U AE U (H.cellI 0 U U)) (V U U (Bg U U U) (Ac U ?_))))
  refine AR (d:=42) U (fun h33=>?_) (fun h33=>?_)
  ·refine V U U (Aj U Gc U) (V U U (An U AE U (H.cellI 0 U U)) (V U U (Bg U U U) (Ah 2 U ?_)))
   refine AR (d:=47) U (fun h34=>?_) (fun h34=>?_)
   ·exact V U U (Aj U GW U) (V U U (An U AE U (H.cellI 0 U U)) (V U U (Bg U U U) (Ah 2 U (Ab (Dh (bb,decide (a=0)) ⟨rfl,rfl,trivial⟩ ⟨H,by (try dsimp only);exact decide_eq_decide.2 (by omega)⟩)))))
   exact Ah 5 U (Ab (Dh (bb,false) ⟨rfl,rfl,trivial⟩ ⟨H,by (try dsimp only);exact (decide_eq_false (by omega)).symm⟩))
  exact Ah 10 U (Ab (Dh (bb,false) ⟨rfl,rfl,trivial⟩ ⟨H,by (try dsimp only);exact (decide_eq_false (by omega)).symm⟩))
 rintro ⟨bb,nn⟩ w ⟨H,hnn⟩
 refine Aa (Aa (Ad (V U U (Aj U D8 U) (V U U (An U AE U (H.cellI 0 U U)) (Ab (Z (AX (Aa (Ad (V U U (Bg U U U) (Ac U (Ab (Z ?_)))))))))))))
 refine AC U (fun h35=>?_) (fun h35=>?_)
 ·refine Aa (Ad (V U U (Aj U Gw U) (V U U (An U AE U (H.cellI 0 U U)) (V U U (Bg U U U) (Ac U ?_)))))
  refine AR (d:=59) U (fun h36=>?_) (fun h36=>?_)
  ·refine V U U (Aj U Gc U) (V U U (An U AE U (H.cellI 0 U U)) (sc (K6 s) H l0 U U (Av Kv U U) ?_))
   rintro _ _ w ⟨rfl,rfl⟩ H
   refine Ah 2 U ?_
   refine AR (d:=64) U (fun h37=>?_) (fun h37=>?_)
   ·refine V U U (Aj U GW U) (V U U (An U AE U (H.cellI 0 U U)) (sc (RO a) H l0 U U (Av PY U U) ?_))
    rintro _ _ w ⟨rfl,rfl⟩ H
    refine Ah 2 U ?_
    refine AR (d:=69) U (fun h38=>?_) (fun h38=>?_)
    ·refine V U U (Aj U Gd U) (V U U (An U DY U (H.cellI 0 U U)) (sc (ZS (.slice A1 set.length c2) set) H (lR 0 U l0) U U (Av VT U U) ?_))
     rintro _ _ w ⟨rfl,rfl⟩ H
     refine Ah 2 U (Ab (Z (Am (AY (Az (Aq U U ?_))))))
     replace H:=H.nil
     have e:=KJ (r:=(⟨k,p,s,a,y,set,prs⟩:Ba)) (by dsimp only;omega) ho
     try dsimp only at e
     unfold Bq at e
     have e2:(GQ set)↔Ck (⟨k,p,s,a,y,set,prs⟩:Ba):=⟨fun g=>e.2 (by first |exact g|exact ⟨by omega,g⟩|exact ⟨by omega,by omega,g⟩|exact ⟨by omega,by omega,by omega,g⟩|exact ⟨by omega,by omega,by omega,by omega,g⟩),fun g=>by have g:=e.1 g;first |exact g|exact g.2|exact g.2.2|exact g.2.2.2|exact g.2.2.2.2⟩
     replace H:Hd _ _ _ [] [Ae (Ai .i64) (.slice A1 set.length c2) set,Ae Ag (.slice A6 prs.length c7) prs]:=H
     exact Al ⟨congrArg Value.bool (decide_eq_decide.2 e2),rfl⟩ H
    refine Ah 5 U (Ab (Z (Am (AY (Az (Aq U U ?_))))))
    replace H:=H.nil
    have e:=KJ (r:=(⟨k,p,s,a,y,set,prs⟩:Ba)) (by dsimp only;omega) ho
    try dsimp only at e
    unfold Bq at e
    have e2:¬ Ck (⟨k,p,s,a,y,set,prs⟩:Ba):=fun g=>by have g:=e.1 g;first |omega|(exact absurd g (by assumption))|(exact absurd g.2.2.2 (by assumption))|(exact absurd g.2.2.2.2 (by assumption))
    replace H:Hd _ _ _ [] [Ae (Ai .i64) (.slice A1 set.length c2) set,Ae Ag (.slice A6 prs.length c7) prs]:=H
    exact Al ⟨congrArg Value.bool (decide_eq_false e2).symm,rfl⟩ H
   refine Ah 10 U (Ab (Z (Am (AY (Az (Aq U U ?_))))))
   replace H:=H.nil
   have e:=KJ (r:=(⟨k,p,s,a,y,set,prs⟩:Ba)) (by dsimp only;omega) ho
   try dsimp only at e
   unfold Bq at e
   have e2:¬ Ck (⟨k,p,s,a,y,set,prs⟩:Ba):=fun g=>by have g:=e.1 g;first |omega|(exact absurd g (by assumption))|(exact absurd g.2.2.2 (by assumption))|(exact absurd g.2.2.2.2 (by assumption))
   replace H:Hd _ _ _ [] [Ae (Ai .i64) (.slice A1 set.length c2) set,Ae Ag (.slice A6 prs.length c7) prs]:=H
   exact Al ⟨congrArg Value.bool (decide_eq_false e2).symm,rfl⟩ H
  refine Ah 12 U (Ah 3 U (Ab (Z (Am (AY (Az (Aq U U ?_)))))))
  replace H:=H.nil
  have e:=KJ (r:=(⟨k,p,s,a,y,set,prs⟩:Ba)) (by dsimp only;omega) ho
  try dsimp only at e
  unfold Bq at e
  have e2:¬ Ck (⟨k,p,s,a,y,set,prs⟩:Ba):=fun g=>by have g:=e.1 g;first |omega|(exact absurd g (by assumption))|(exact absurd g.2.2.2 (by assumption))|(exact absurd g.2.2.2.2 (by assumption))
  exact Al ⟨congrArg Value.bool (decide_eq_false e2).symm,rfl⟩ H
 refine Aa (Aa (Ad (V U U (Bg U U U) (Ac U (Ab (Z ?_))))))
 refine AC U (fun h39=>?_) (fun h39=>?_)
 ·refine AB (Z ?_)
  refine AC U (fun h40=>?_) (fun h40=>?_)
  ·refine Aa (Ad (Ah 2 U (Ab (Z (Am (AY (Az (Aq U U ?_))))))))
   replace H:=H.nil
   have e:=QQ (r:=(⟨k,p,s,a,y,set,prs⟩:Ba)) (by dsimp only;omega) ho
   try dsimp only at e
   rw [hnn]
   exact Al ⟨congrArg Value.bool (decide_eq_decide.2 e.symm),rfl⟩ H
  exact absurd h39 h40
 refine Ad (V U U (Bg U U U) (Ac U (Ab (Z ?_))))
 refine AC U (fun h41=>?_) (fun h41=>?_)
 ·refine Aa (Ad (Ah 2 U (Ab (Z (Am (AY (Az (Aq U U ?_))))))))
  replace H:=H.nil
  have e:=QQ (r:=(⟨k,p,s,a,y,set,prs⟩:Ba)) (by dsimp only;omega) ho
  try dsimp only at e
  rw [hnn]
  exact Al ⟨congrArg Value.bool (decide_eq_decide.2 e.symm),rfl⟩ H
 refine Aa (Ad (V U U (Bg U U U) (Ac U (Ab (Z ?_)))))
 refine AC U (fun h42=>?_) (fun h42=>?_)
 ·refine Aa (Ad (V U U (BD (cs:=[.int .i64 k,.int .i64 p,.int .i64 s,.int .i64 a,.int .i64 y,.slice A1 set.length c2,.slice A6 prs.length c7]) U EZ U U (H.cellsI 0 U U)) (sc (ZU k p s a y (.slice A1 set.length c2) (.slice A6 prs.length c7)) H l0 U U (Av VU U U) ?_)))
  rintro _ _ w ⟨rfl,rfl⟩ H
  replace H:=H.h1 (A:=blk bb [.int .i64 k,.int .i64 p,.int .i64 s,.int .i64 a,.int .i64 y,.slice A1 set.length c2,.slice A6 prs.length c7] 69)
  refine Ac U (Ab (Z (Am (AY (Az (Aq U U ?_))))))
  replace H:=H.nil
  have e:=XV (r:=(⟨k,p,s,a,y,set,prs⟩:Ba)) (by dsimp only;omega) ho
  try dsimp only at e
  have e2:(EJ ⟨k,p,s,a,y,[],[]⟩)↔Ck (⟨k,p,s,a,y,set,prs⟩:Ba):=⟨fun g=>e.2 (by first |exact g|exact ⟨by omega,g⟩|exact ⟨by omega,by omega,g⟩|exact ⟨by omega,by omega,by omega,g⟩|exact ⟨by omega,by omega,by omega,by omega,g⟩),fun g=>by have g:=e.1 g;first |exact g|exact g.2|exact g.2.2|exact g.2.2.2|exact g.2.2.2.2⟩
  exact Al ⟨congrArg Value.bool (decide_eq_decide.2 e2),rfl⟩ H
 refine Aa (Ad (V U U (Bg U U U) (Ac U (Ab (Z ?_)))))
 refine AC U (fun h43=>?_) (fun h43=>?_)
 ·refine Aa (Ad (V U U (Aj U Gw U) (V U U (An U AE U (H.cellI 0 U U)) (sc (JD p) H l0 U U (Av Jn U U) ?_))))
  rintro _ _ w ⟨rfl,rfl⟩ H
  refine Ac U ?_
  refine AR (d:=87) U (fun h44=>?_) (fun h44=>?_)
  ·refine V U U (Aj U Gc U) (V U U (An U AE U (H.cellI 0 U U)) (sc (K6 s) H l0 U U (Av Kv U U) ?_))
   rintro _ _ w ⟨rfl,rfl⟩ H
   refine Ah 2 U ?_
   refine AR (d:=92) U (fun h45=>?_) (fun h45=>?_)
   ·refine V U U (Aj U GW U) (V U U (An U AE U (H.cellI 0 U U)) (sc (RO a) H l0 U U (Av PY U U) ?_))
    rintro _ _ w ⟨rfl,rfl⟩ H
    refine Ah 2 U ?_
    refine AR (d:=97) U (fun h46=>?_) (fun h46=>?_)
    ·refine V U U (Aj U FP U) (V U U (An U DG U (H.cellI 0 U U)) (V U U (Bn U Do U) (V U U (CD U U U) (Ah 2 U ?_))))
     refine AR (d:=103) U (fun h47=>?_) (fun h47=>?_)
     ·refine V U U (Aj U FP U) (V U U (An U DG U (H.cellI 0 U U)) (sc (Rj (.slice A6 prs.length c7) prs) H (lR 1 U l0) U U (Av Qn U U) ?_))
      rintro _ _ w ⟨rfl,rfl⟩ H
      refine Ah 2 U (Ab (Z (Am (AY (Az (Aq U U ?_))))))
      replace H:=H.nil
      have e:=Jr (r:=(⟨k,p,s,a,y,set,prs⟩:Ba)) (by dsimp only;omega) ho
      try dsimp only at e
      unfold Bq at e
      have e2:(Hs prs)↔Ck (⟨k,p,s,a,y,set,prs⟩:Ba):=⟨fun g=>e.2 (by first |exact g|exact ⟨by omega,g⟩|exact ⟨by omega,by omega,g⟩|exact ⟨by omega,by omega,by omega,g⟩|exact ⟨by omega,by omega,by omega,by omega,g⟩),fun g=>by have g:=e.1 g;first |exact g|exact g.2|exact g.2.2|exact g.2.2.2|exact g.2.2.2.2⟩
      replace H:Hd _ _ _ [] [Ae (Ai .i64) (.slice A1 set.length c2) set,Ae Ag (.slice A6 prs.length c7) prs]:=H
      exact Al ⟨congrArg Value.bool (decide_eq_decide.2 e2),rfl⟩ H
     refine Ah 5 U (Ab (Z (Am (AY (Az (Aq U U ?_))))))
     replace H:=H.nil
     have e:=Jr (r:=(⟨k,p,s,a,y,set,prs⟩:Ba)) (by dsimp only;omega) ho
     try dsimp only at e
     unfold Bq at e
     have e2:¬ Ck (⟨k,p,s,a,y,set,prs⟩:Ba):=fun g=>by have g:=e.1 g;first |omega|(exact absurd g (by assumption))|(exact absurd g.2.2.2 (by assumption))|(exact absurd g.2.2.2.2 (by assumption))
     replace H:Hd _ _ _ [] [Ae (Ai .i64) (.slice A1 set.length c2) set,Ae Ag (.slice A6 prs.length c7) prs]:=H
     exact Al ⟨congrArg Value.bool (decide_eq_false e2).symm,rfl⟩ H
    refine Ah 11 U (Ab (Z (Am (AY (Az (Aq U U ?_))))))
    replace H:=H.nil
    have e:=Jr (r:=(⟨k,p,s,a,y,set,prs⟩:Ba)) (by dsimp only;omega) ho
    try dsimp only at e
    unfold Bq at e
    have e2:¬ Ck (⟨k,p,s,a,y,set,prs⟩:Ba):=fun g=>by have g:=e.1 g;first |omega|(exact absurd g (by assumption))|(exact absurd g.2.2.2 (by assumption))|(exact absurd g.2.2.2.2 (by assumption))
    replace H:Hd _ _ _ [] [Ae (Ai .i64) (.slice A1 set.length c2) set,Ae Ag (.slice A6 prs.length c7) prs]:=H
    exact Al ⟨congrArg Value.bool (decide_eq_false e2).symm,rfl⟩ H
   refine Ah 12 U (Ah 4 U (Ab (Z (Am (AY (Az (Aq U U ?_)))))))
   replace H:=H.nil
   have e:=Jr (r:=(⟨k,p,s,a,y,set,prs⟩:Ba)) (by dsimp only;omega) ho
   try dsimp only at e
   unfold Bq at e
   have e2:¬ Ck (⟨k,p,s,a,y,set,prs⟩:Ba):=fun g=>by have g:=e.1 g;first |omega|(exact absurd g (by assumption))|(exact absurd g.2.2.2 (by assumption))|(exact absurd g.2.2.2.2 (by assumption))
   replace H:Hd _ _ _ [] [Ae (Ai .i64) (.slice A1 set.length c2) set,Ae Ag (.slice A6 prs.length c7) prs]:=H
   exact Al ⟨congrArg Value.bool (decide_eq_false e2).symm,rfl⟩ H
  refine Ah 12 U (Ah 9 U (Ab (Z (Am (AY (Az (Aq U U ?_)))))))
  replace H:=H.nil
  have e:=Jr (r:=(⟨k,p,s,a,y,set,prs⟩:Ba)) (by dsimp only;omega) ho
  try dsimp only at e
  unfold Bq at e
  have e2:¬ Ck (⟨k,p,s,a,y,set,prs⟩:Ba):=fun g=>by have g:=e.1 g;first |omega|(exact absurd g (by assumption))|(exact absurd g.2.2.2 (by assumption))|(exact absurd g.2.2.2.2 (by assumption))
  replace H:Hd _ _ _ [] [Ae (Ai .i64) (.slice A1 set.length c2) set,Ae Ag (.slice A6 prs.length c7) prs]:=H
  exact Al ⟨congrArg Value.bool (decide_eq_false e2).symm,rfl⟩ H
 refine Aa (Ad (V U U (Bg U U U) (Ac U (Ab (Z ?_)))))
 refine AC U (fun h48=>?_) (fun h48=>?_)
 ·refine Aa (Ad (V U U (Aj U Gw U) (V U U (An U AE U (H.cellI 0 U U)) (sc (JD p) H l0 U U (Av Jn U U) ?_))))
  rintro _ _ w ⟨rfl,rfl⟩ H
  refine Ac U ?_
  refine AR (d:=113) U (fun h49=>?_) (fun h49=>?_)
  ·refine V U U (Aj U Gc U) (V U U (An U AE U (H.cellI 0 U U)) (V U U (Bg U U U) (Ah 2 U ?_)))
   refine AR (d:=118) U (fun h50=>?_) (fun h50=>?_)
   ·refine V U U (Aj U GW U) (V U U (An U AE U (H.cellI 0 U U)) (V U U (Bg U U U) (Ah 2 U ?_)))
    refine AR (d:=123) U (fun h51=>?_) (fun h51=>?_)
    ·refine V U U (Aj U Gd U) (V U U (An U DY U (H.cellI 0 U U)) (sc (ZW (.slice A1 set.length c2) set) H (lR 0 U l0) U U (Av VV U U) ?_))
     rintro _ _ w ⟨rfl,rfl⟩ H
     refine Ah 2 U (Ab (Z (Am (AY (Az (Aq U U ?_))))))
     replace H:=H.nil
     have e:=KK (r:=(⟨k,p,s,a,y,set,prs⟩:Ba)) (by dsimp only;omega) ho
     try dsimp only at e
     unfold Bq at e
     have e2:(ED (-1) set)↔Ck (⟨k,p,s,a,y,set,prs⟩:Ba):=⟨fun g=>e.2 (by first |exact g|exact ⟨by omega,g⟩|exact ⟨by omega,by omega,g⟩|exact ⟨by omega,by omega,by omega,g⟩|exact ⟨by omega,by omega,by omega,by omega,g⟩),fun g=>by have g:=e.1 g;first |exact g|exact g.2|exact g.2.2|exact g.2.2.2|exact g.2.2.2.2⟩
     replace H:Hd _ _ _ [] [Ae (Ai .i64) (.slice A1 set.length c2) set,Ae Ag (.slice A6 prs.length c7) prs]:=H
     exact Al ⟨congrArg Value.bool (decide_eq_decide.2 e2),rfl⟩ H
    refine Ah 5 U (Ab (Z (Am (AY (Az (Aq U U ?_))))))
    replace H:=H.nil
    have e:=KK (r:=(⟨k,p,s,a,y,set,prs⟩:Ba)) (by dsimp only;omega) ho
    try dsimp only at e
    unfold Bq at e
    have e2:¬ Ck (⟨k,p,s,a,y,set,prs⟩:Ba):=fun g=>by have g:=e.1 g;first |omega|(exact absurd g (by assumption))|(exact absurd g.2.2.2 (by assumption))|(exact absurd g.2.2.2.2 (by assumption))
    replace H:Hd _ _ _ [] [Ae (Ai .i64) (.slice A1 set.length c2) set,Ae Ag (.slice A6 prs.length c7) prs]:=H
    exact Al ⟨congrArg Value.bool (decide_eq_false e2).symm,rfl⟩ H
   refine Ah 10 U (Ab (Z (Am (AY (Az (Aq U U ?_))))))
   replace H:=H.nil
   have e:=KK (r:=(⟨k,p,s,a,y,set,prs⟩:Ba)) (by dsimp only;omega) ho
   try dsimp only at e
   unfold Bq at e
   have e2:¬ Ck (⟨k,p,s,a,y,set,prs⟩:Ba):=fun g=>by have g:=e.1 g;first |omega|(exact absurd g (by assumption))|(exact absurd g.2.2.2 (by assumption))|(exact absurd g.2.2.2.2 (by assumption))
   replace H:Hd _ _ _ [] [Ae (Ai .i64) (.slice A1 set.length c2) set,Ae Ag (.slice A6 prs.length c7) prs]:=H
   exact Al ⟨congrArg Value.bool (decide_eq_false e2).symm,rfl⟩ H
  refine Ah 12 U (Ah 3 U (Ab (Z (Am (AY (Az (Aq U U ?_)))))))
  replace H:=H.nil
  have e:=KK (r:=(⟨k,p,s,a,y,set,prs⟩:Ba)) (by dsimp only;omega) ho
  try dsimp only at e
  unfold Bq at e
  have e2:¬ Ck (⟨k,p,s,a,y,set,prs⟩:Ba):=fun g=>by have g:=e.1 g;first |omega|(exact absurd g (by assumption))|(exact absurd g.2.2.2 (by assumption))|(exact absurd g.2.2.2.2 (by assumption))
  replace H:Hd _ _ _ [] [Ae (Ai .i64) (.slice A1 set.length c2) set,Ae Ag (.slice A6 prs.length c7) prs]:=H
  exact Al ⟨congrArg Value.bool (decide_eq_false e2).symm,rfl⟩ H
 refine AB (Bb (Z (Aa (Ad (Ac U (Ab (Z (Am (Aq U U ?_)))))))))
 replace H:=H.nil
 have e:¬ Ck (⟨k,p,s,a,y,set,prs⟩:Ba):=XY (by dsimp only;omega) (by dsimp only;omega) (by dsimp only;omega) (by dsimp only;omega) (by dsimp only;omega) (by dsimp only;omega)
 exact Al ⟨congrArg Value.bool (decide_eq_false e).symm,rfl⟩ H
theorem ZQ (k:Int) (p:Int) (s:Int) (a:Int) (y:Int) (vs:Value) (vp:Value) (set:List Int) (prs:List Ap) (hm:JZ (⟨k,p,s,a,y,set,prs⟩:Ba)):
    Cn Tryz.prog 133 [.agg #[.int .i64 k,.int .i64 p,.int .i64 s,.int .i64 a,.int .i64 y,vs,vp]] [] [Ae (Ai .i64) vs set,Ae Ag vp prs] (fun v Bs=>Bs=[Y AP v (CC (⟨k,p,s,a,y,set,prs⟩:Ba))]):=by
 intro w0 F0 H
 obtain ⟨A1,c2,rfl,hc3,hm4,hp5⟩:=H.fR 0 rfl
 obtain ⟨A6,c7,rfl,hc8,hm9,hp10⟩:=H.fR 1 rfl
 have h1:=hm.kind
 have h2:=hm.part
 have h3:=hm.sp
 have h4:=hm.att
 have h5:=hm.why
 have h6:=hm.set
 have h7:=hm.pairs
 unfold Bq at h1 h2 h3 h4 h5
 dsimp only at h1 h2 h3 h4 h5 h6 h7
 refine enter Tryz.func133 U U (Nat.le_of_ble_eq_true U) (Aa (Ad (CT U U U U H (fun b11 w H=>(Ac U (Ab (Z ?_)))))))
 replace H:Hd _ _ _ [blk b11 [.int .i64 k,.int .i64 p,.int .i64 s,.int .i64 a,.int .i64 y,.slice A1 set.length c2,.slice A6 prs.length c7] 69] [Ae (Ai .i64) (.slice A1 set.length c2) set,Ae Ag (.slice A6 prs.length c7) prs]:=H
 refine Aa (Ad (Ac U (Ab (Z (Aa (Aa (Ad (V U U (Aj U D8 U) (V U U (An U AE U (H.cellI 0 U U)) (V U U (Aj U Gw U) (V U U (An U AE U (H.cellI 0 U U)) (V U U (Aj U Gc U) (V U U (An U AE U (H.cellI 0 U U)) (V U U (Aj U GW U) (V U U (An U AE U (H.cellI 0 U U)) (V U U (Aj U Hp U) (V U U (An U AE U (H.cellI 0 U U)) (V U U (Aj U Gd U) (V U U (An U DY U (H.cellI 0 U U)) (V U U (Bn U EC U) (Cb (parts:=[(0,.tmp 11),(1,.tmp 13),(2,.tmp 15),(3,.tmp 17),(4,.tmp 19),(5,.tmp 22)]) (vs:=[.int .i64 k,.int .i64 p,.int .i64 s,.int .i64 a,.int .i64 y,.int .i64 ((set.length:Nat):Int)]) (cs:=[.int .i64 k,.int .i64 p,.int .i64 s,.int .i64 a,.int .i64 y,.int .i64 ((set.length:Nat):Int)]) U U U DA E2 U (by decide) (by decide) U U H (fun b12 w H=>?_))))))))))))))))))))))
 replace H:=H.h1 (A:=blk b12 [.int .i64 k,.int .i64 p,.int .i64 s,.int .i64 a,.int .i64 y,.int .i64 ((set.length:Nat):Int)] 3)
 refine V U U (Bn U EC U) (Ac U (Ab (Z (AX ?_))))
 replace H:Hd w0 F0 w [Y (Ai .i64) (.slice (some ⟨b12,0,none⟩) 6 6) [k,p,s,a,y,((set.length:Nat):Int)],blk b11 [.int .i64 k,.int .i64 p,.int .i64 s,.int .i64 a,.int .i64 y,.slice A1 set.length c2,.slice A6 prs.length c7] 69] [Ae (Ai .i64) (.slice A1 set.length c2) set,Ae Ag (.slice A6 prs.length c7) prs]:=H.turn (fun F h=>Il h rfl (by decide) rfl)
 replace H:=H.newnil AP|>.tellK (ys:=B0 (([k,p,s,a,y,(set.length:Int)]).take 0)) (by rfl)
 refine B1 (σ:=Nat×Value) (fun (i,q)=>[(1,.pointer (some ⟨b11,0,none⟩)),(2,.slice none 0 0),(3,q),(23,.slice (some ⟨b12,0,none⟩) 6 6),(24,.int .i64 6),(25,.int .i64 ((i:Nat):Int))]) (fun (i,q) w=>(Hd w0 F0 w [Y AP q (B0 (([k,p,s,a,y,(set.length:Int)]).take i)),Y (Ai .i64) (.slice (some ⟨b12,0,none⟩) 6 6) [k,p,s,a,y,((set.length:Nat):Int)],blk b11 [.int .i64 k,.int .i64 p,.int .i64 s,.int .i64 a,.int .i64 y,.slice A1 set.length c2,.slice A6 prs.length c7] 69] [Ae (Ai .i64) (.slice A1 set.length c2) set,Ae Ag (.slice A6 prs.length c7) prs])∧(i≤6)) (fun (i,q)=>6 - i) (0,.slice none 0 0) ⟨rfl,rfl,rfl,rfl,rfl,rfl,trivial⟩ ⟨H,Nat.zero_le _⟩ ?_
 rintro ⟨i,q⟩ w ⟨H,hi⟩
 have hbl:=Hv (([k,p,s,a,y,(set.length:Int)]).take i)
 have htl:(([k,p,s,a,y,(set.length:Int)]).take i).length≤6:=by rw [List.length_take];simp only [List.length_cons,List.length_nil];omega
 refine Aa (Ad (V U U (Br U U U) (Ab (Z (Aa ?_)))))
 refine AC U (fun h13=>?_) (fun h13=>?_)
 ·refine AB (Z (Aa (AX (Aa ?_))))
  have hi6:i<([k,p,s,a,y,((set.length:Nat):Int)]).length:=by simp only [List.length_cons,List.length_nil];omega
  refine Ad ?_
  obtain ⟨x14,hx15⟩:∃ z9,[k,p,s,a,y,((set.length:Nat):Int)][i]?=some z9:=⟨_,List.getElem?_eq_getElem (show i<[k,p,s,a,y,((set.length:Nat):Int)].length by omega)⟩
  have th16:=H.thA 1 rfl hx15
  refine V U U (Bi (p:=A_ (some ⟨b12,0,none⟩)+i*1) U DA U U (by omega) (by omega) th16 U) (V U U (An U AE U (H.elA 1 U hx15 (q:=0) U U)) (Ac U (Ab (Z ?_))))
  have hx0:0≤x14∧x14<9223372036854775808:=by have hq:=Cx hx15;simp only [List.mem_cons,List.not_mem_nil,or_false] at hq;rcases hq with rfl|rfl|rfl|rfl|rfl|rfl<;>omega
  obtain ⟨n17,rfl⟩:∃ z:Nat,x14=(z:Int):=⟨(x14).toNat,by omega⟩
  refine Ad (Ah 2 U (sc (J_ q (B0 (([k,p,s,a,y,(set.length:Int)]).take i)) n17 (by first |assumption|omega|(rw [List.length_append];omega)) (by first |assumption|omega|(rw [List.length_append];omega))) H (lA 0 U B3 l0) U U (Av Kw U U) ?_))
  rintro v18 _ w rfl H
  refine Ac U (Ab (Bb (Z ?_)))
  replace H:Hd _ _ _ [Y AP v18 ((B0 (([k,p,s,a,y,(set.length:Int)]).take i))++B2 n17),Y AP q (B0 (([k,p,s,a,y,(set.length:Int)]).take i)),Y (Ai .i64) (.slice (some ⟨b12,0,none⟩) 6 6) [k,p,s,a,y,((set.length:Nat):Int)],blk b11 [.int .i64 k,.int .i64 p,.int .i64 s,.int .i64 a,.int .i64 y,.slice A1 set.length c2,.slice A6 prs.length c7] 69] [Ae (Ai .i64) (.slice A1 set.length c2) set,Ae Ag (.slice A6 prs.length c7) prs]:=H
  refine Ad (V U U (Be (z:=((i+1:Nat):Int)) U U U (by rw [AI (by omega) (by omega)];omega)) (Ac U (Ab ?_)))
  replace H:=H.p3.p3.p2.k3.tellK (ys:=B0 (([k,p,s,a,y,(set.length:Int)]).take (i+1))) (by rw [El hx15,Q6,Int.toNat_natCast])
  exact Bo (s:=(i,undef)) (i+1,v18) ⟨rfl,rfl,rfl,rfl,rfl,rfl,trivial⟩ ⟨H,by (try dsimp only);omega⟩ (by (try dsimp only);omega)
 refine BW (A8 (A8 (BX (Z (Aa (Aa (Ad (V U U (Aj U Gd U) (V U U (An U DY U (H.cellI 2 U U)) (V U U (Bn U EC U) (Ac U (Ab (Z (AX ?_))))))))))))))
 replace H:=H.sel 3 [0,2] [1] rfl (by kernel_rfl)
 replace H:Hd _ _ _ [Y AP q (B0 (([k,p,s,a,y,(set.length:Int)]).take i)),blk b11 [.int .i64 k,.int .i64 p,.int .i64 s,.int .i64 a,.int .i64 y,.slice A1 set.length c2,.slice A6 prs.length c7] 69] [Ae (Ai .i64) (.slice A1 set.length c2) set,Ae Ag (.slice A6 prs.length c7) prs]:=H
 replace H:=H.tellK (ys:=B0 ([k,p,s,a,y,(set.length:Int)]++set.take 0)) (by rw [List.take_zero,List.append_nil,List.take_of_length_le (show ([k,p,s,a,y,(set.length:Int)]).length≤i by simp only [List.length_cons,List.length_nil];omega)])
 refine B1 (σ:=Nat×Value) (fun (j,q2)=>[(1,.pointer (some ⟨b11,0,none⟩)),(2,.slice none 0 0),(3,q2),(34,.slice A1 set.length c2),(35,.int .i64 ((set.length:Nat):Int)),(36,.int .i64 ((j:Nat):Int))]) (fun (j,q2) w=>(Hd w0 F0 w [Y AP q2 (B0 ([k,p,s,a,y,(set.length:Int)]++set.take j)),blk b11 [.int .i64 k,.int .i64 p,.int .i64 s,.int .i64 a,.int .i64 y,.slice A1 set.length c2,.slice A6 prs.length c7] 69] [Ae (Ai .i64) (.slice A1 set.length c2) set,Ae Ag (.slice A6 prs.length c7) prs])∧(j≤set.length)) (fun (j,q2)=>set.length - j) (0,q) ⟨rfl,rfl,rfl,rfl,rfl,rfl,trivial⟩ ⟨H,Nat.zero_le _⟩ ?_
 rintro ⟨j,q2⟩ w ⟨H,hj⟩
 have hbl2:(B0 ([k,p,s,a,y,(set.length:Int)]++set.take j)).length≤8*(6+set.length):=by rw [Hv,List.length_append,List.length_take];simp only [List.length_cons,List.length_nil];omega
 refine Aa (Ad (V U U (Br U U U) (Ab (Z (Aa ?_)))))
 refine AC U (fun h19=>?_) (fun h19=>?_)
 ·refine AB (Z (Aa (AX (Aa (Ad ?_)))))
  obtain ⟨x20,hx21⟩:∃ z9,set[j]?=some z9:=⟨_,List.getElem?_eq_getElem (show j<set.length by omega)⟩
  have th22:=H.thR 0 rfl hx21
  refine V U U (Bi (p:=A_ A1+j*1) U DA U U (by omega) (by omega) th22 U) (V U U (An U AE U (H.elR 0 U hx21 (q:=0) U U)) (Ac U (Ab (Z ?_))))
  have hx0:0≤x20∧x20<9223372036854775808:=by have:=hm.sets _ (Cx hx21);unfold Bq at this;omega
  obtain ⟨n23,rfl⟩:∃ z:Nat,x20=(z:Int):=⟨(x20).toNat,by omega⟩
  refine Ad (Ah 2 U (sc (J_ q2 (B0 ([k,p,s,a,y,(set.length:Int)]++set.take j)) n23 (by first |assumption|omega|(rw [List.length_append];omega)) (by first |assumption|omega|(rw [List.length_append];omega))) H (lA 0 U B3 l0) U U (Av Kw U U) ?_))
  rintro v24 _ w rfl H
  refine Ac U (Ab (Bb (Z ?_)))
  replace H:Hd _ _ _ [Y AP v24 ((B0 ([k,p,s,a,y,(set.length:Int)]++set.take j))++B2 n23),Y AP q2 (B0 ([k,p,s,a,y,(set.length:Int)]++set.take j)),blk b11 [.int .i64 k,.int .i64 p,.int .i64 s,.int .i64 a,.int .i64 y,.slice A1 set.length c2,.slice A6 prs.length c7] 69] [Ae (Ai .i64) (.slice A1 set.length c2) set,Ae Ag (.slice A6 prs.length c7) prs]:=H
  refine Ad (V U U (Be (z:=((j+1:Nat):Int)) U U U (by rw [AI (by omega) (by omega)];omega)) (Ac U (Ab ?_)))
  replace H:=H.p2.p1.k2.tellK (ys:=B0 ([k,p,s,a,y,(set.length:Int)]++set.take (j+1))) (by rw [El hx21,←List.append_assoc,Q6,Int.toNat_natCast])
  exact Bo (s:=(j,undef)) (j+1,v24) ⟨rfl,rfl,rfl,rfl,rfl,rfl,trivial⟩ ⟨H,by (try dsimp only);omega⟩ (by (try dsimp only);omega)
 refine BW (A8 (A8 (BX (Z (Aa (Ad (Ac U (V U U (Aj U FP U) (V U U (An U DG U (H.cellI 1 U U)) (V U U (Bn U Do U) (sc (J_ q2 (B0 ([k,p,s,a,y,(set.length:Int)]++set.take j)) prs.length (by first |assumption|omega|(rw [List.length_append];omega)) (by first |assumption|omega|(rw [List.length_append];omega))) H (lA 0 U B3 l0) U U (Av Kw U U) ?_)))))))))))
 rintro v25 _ w rfl H
 refine Ac U (Ab (Z ?_))
 replace H:Hd _ _ _ [Y AP v25 ((B0 ([k,p,s,a,y,(set.length:Int)]++set.take j))++B2 prs.length),Y AP q2 (B0 ([k,p,s,a,y,(set.length:Int)]++set.take j)),blk b11 [.int .i64 k,.int .i64 p,.int .i64 s,.int .i64 a,.int .i64 y,.slice A1 set.length c2,.slice A6 prs.length c7] 69] [Ae (Ai .i64) (.slice A1 set.length c2) set,Ae Ag (.slice A6 prs.length c7) prs]:=H
 refine Aa (Aa (Ad (V U U (Aj U FP U) (V U U (An U DG U (H.cellI 2 U U)) (V U U (Bn U Do U) (Ac U (Ab (Z (AX ?_)))))))))
 replace H:=H.p2.p1.k2.tellK (ys:=B0 ([k,p,s,a,y,(set.length:Int)]++set)++(B2 prs.length++B9 (prs.take 0))) (by rw [List.take_zero,List.take_of_length_le (show set.length≤j by omega),show B9 ([]:List Ap)=[] from rfl,List.append_nil])
 refine B1 (σ:=Nat×Value) (fun (l,q3)=>[(2,.slice none 0 0),(3,q3),(50,.slice A6 prs.length c7),(51,.int .i64 ((prs.length:Nat):Int)),(52,.int .i64 ((l:Nat):Int))]) (fun (l,q3) w=>(Hd w0 F0 w [Y AP q3 (B0 ([k,p,s,a,y,(set.length:Int)]++set)++(B2 prs.length++B9 (prs.take l))),blk b11 [.int .i64 k,.int .i64 p,.int .i64 s,.int .i64 a,.int .i64 y,.slice A1 set.length c2,.slice A6 prs.length c7] 69] [Ae (Ai .i64) (.slice A1 set.length c2) set,Ae Ag (.slice A6 prs.length c7) prs])∧(l≤prs.length)) (fun (l,q3)=>prs.length - l) (0,v25) ⟨rfl,rfl,rfl,rfl,rfl,trivial⟩ ⟨H,Nat.zero_le _⟩ ?_
 rintro ⟨l,q3⟩ w ⟨H,hl⟩
 have hpk:=KV (ps:=prs.take l) (fun q hq=>by have:=hm.prs q (List.mem_of_mem_take hq);unfold C2 at this;omega)
 have hpl:(prs.take l).length≤l:=by rw [List.length_take];omega
 have hbl3:(B0 ([k,p,s,a,y,(set.length:Int)]++set)++(B2 prs.length++B9 (prs.take l))).length=8*(6+set.length)+8+(B9 (prs.take l)).length:=by rw [List.length_append,Hv,List.length_append,List.length_append,EF];simp only [List.length_cons,List.length_nil];omega
 refine Aa (Ad (V U U (Br U U U) (Ab (Z (Aa ?_)))))
 refine AC U (fun h26=>?_) (fun h26=>?_)
 ·refine AB (Z (Aa (AX (Aa (Ad ?_)))))
  obtain ⟨x27,hx28⟩:∃ z9,prs[l]?=some z9:=⟨_,List.getElem?_eq_getElem (show l<prs.length by omega)⟩
  have th29:=H.thR 1 rfl hx28
  refine V U U (Bi (p:=A_ A6+l*2) U BJ U U (by omega) (by omega) th29 U) (V U U (BD (cs:=[.string x27.key,.string x27.val]) U CB U U (H.elsR 1 U hx28 U)) (Dz U U U De H (fun b30 w H=>(Bx U U U CB U U H U (Nat.le_of_ble_eq_true U) (fun u hu=>by simp [Value.cells] at hu;rcases hu with rfl|rfl<;>rfl) (fun w H=>?_)))))
  replace H:Hd _ _ _ [blk b30 [.string x27.key,.string x27.val] 122,Y AP q3 (B0 ([k,p,s,a,y,(set.length:Int)]++set)++(B2 prs.length++B9 (prs.take l))),blk b11 [.int .i64 k,.int .i64 p,.int .i64 s,.int .i64 a,.int .i64 y,.slice A1 set.length c2,.slice A6 prs.length c7] 69] [Ae (Ai .i64) (.slice A1 set.length c2) set,Ae Ag (.slice A6 prs.length c7) prs]:=H
  refine Ab (Z ?_)
  have hxs:=hm.prs _ (Cx hx28)
  unfold C2 at hxs
  have htk:=GK x27.key
  refine Cc (.e 0 (.e 1 (.e 2 (.e 4 (.e 5 (.m 3 (.m 6 (.e 7 .z)))))))) (fun w=>∃ Ar,Hd w0 F0 w (blk b30 [.string x27.key,.string x27.val] 122::Y AP q3 (B0 ([k,p,s,a,y,(set.length:Int)]++set)++(B2 prs.length++B9 (prs.take l)))::blk b11 [.int .i64 k,.int .i64 p,.int .i64 s,.int .i64 a,.int .i64 y,.slice A1 set.length c2,.slice A6 prs.length c7] 69::Ar) [Ae (Ai .i64) (.slice A1 set.length c2) set,Ae Ag (.slice A6 prs.length c7) prs]) mo (by kernel_rfl) (fun w H=>⟨_,H⟩) H (fun w H=>(Au U (Ao U U U (fun w ⟨Ar,H⟩=>Aj U FN U) (Ao U U U (fun w ⟨Ar,H⟩=>An U Cg U (H.cellI 0 U U)) (Ao U U U (fun w ⟨Ar,H⟩=>Aj U Jg U) (Ao U U U (fun w ⟨Ar,H⟩=>An U Cg U (H.cellI 0 U U)) (AO U (sc (LQ q3 (B0 ([k,p,s,a,y,(set.length:Int)]++set)++(B2 prs.length++B9 (prs.take l))) x27.key (by first |assumption|omega|(rw [List.length_append];omega)) (by first |assumption|omega|(rw [List.length_append];omega))) H (lA 1 U B3 l0) U U (Av Ms U U) ?_))))))))
  rintro v31 _ w rfl H
  replace H:=H.h1 (A:=Y AP v31 ((B0 ([k,p,s,a,y,(set.length:Int)]++set)++(B2 prs.length++B9 (prs.take l)))++Cr x27.key))|>.p3|>.p3|>.p3
  refine AG ⟨_,H⟩ (AO U (sc (LQ v31 ((B0 ([k,p,s,a,y,(set.length:Int)]++set)++(B2 prs.length++B9 (prs.take l)))++Cr x27.key) x27.val (by first |assumption|omega|(rw [List.length_append];omega)) (by first |assumption|omega|(rw [List.length_append];omega))) H (lA 3 U B3 l0) U U (Av Ms U U) ?_))
  rintro v32 _ w rfl H
  replace H:=H.h1 (A:=Y AP v32 (((B0 ([k,p,s,a,y,(set.length:Int)]++set)++(B2 prs.length++B9 (prs.take l)))++Cr x27.key)++Cr x27.val))|>.p3|>.p3|>.p3
  refine AG ⟨_,H⟩ (Au U (BN (Bb (Z (Ad (V U U (Be (z:=((l+1:Nat):Int)) U U U (by rw [AI (by omega) (by omega)];omega)) (Ac U (Ab ?_))))))))
  replace H:=H.p2.p3.k2.tellK (ys:=B0 ([k,p,s,a,y,(set.length:Int)]++set)++(B2 prs.length++B9 (prs.take (l+1)))) (by rw [El hx28,MX];simp only [List.append_assoc])
  exact Bo (s:=(l,undef)) (l+1,v32) ⟨rfl,rfl,rfl,rfl,rfl,trivial⟩ ⟨H,by (try dsimp only);omega⟩ (by (try dsimp only);omega)
 refine BW (A8 (A8 (BX (Z (Aa (Ad (Ah 2 U (Ab (Z (Am (Aq U U ?_)))))))))))
 replace H:=H.k1
 replace H:Hd _ _ _ [Y AP q3 (B0 ([k,p,s,a,y,(set.length:Int)]++set)++(B2 prs.length++B9 (prs.take l)))] [Ae (Ai .i64) (.slice A1 set.length c2) set,Ae Ag (.slice A6 prs.length c7) prs]:=H
 replace H:=H.tellK (ys:=CC (⟨k,p,s,a,y,set,prs⟩:Ba)) (by rw [List.take_of_length_le (show prs.length≤l by omega)];rfl)|>.h1 (A:=Y AP q3 (CC (⟨k,p,s,a,y,set,prs⟩:Ba)))
 exact Al U H
theorem ZT (vr:Value) (recs:List AW) (hrl:recs.length≤60):
    Cn Tryz.prog 79 [vr] [] [Ae BI vr recs] (fun v Bs=>Bs=[Y AP v (Fm (recs.map AW.p))]):=by
 intro w0 F0 H
 obtain ⟨A1,c2,rfl,hc3,hm4,hp5⟩:=H.fR 0 rfl
 refine enter Tryz.func79 U U (Nat.le_of_ble_eq_true U) (Aa (Ad (Ac U (Ab (Z ?_)))))
 replace H:Hd _ _ _ [] [Ae BI (.slice A1 recs.length c2) recs]:=H
 refine Aa (Ad (Ac U (Ab (Z (Aa (Aa (Ad (Ac U (V U U (Bn U LB U) (Ac U (Ab (Z (AX ?_)))))))))))))
 replace H:=H.newnil AP|>.tellK (ys:=Cw ((recs.take 0).map AW.p)) (by rfl)
 refine B1 (σ:=Nat×Value) (fun (k,q)=>[(3,q),(6,.slice A1 recs.length c2),(7,.int .i64 ((recs.length:Nat):Int)),(8,.int .i64 ((k:Nat):Int))]) (fun (k,q) w=>(Hd w0 F0 w [Y AP q (Cw ((recs.take k).map AW.p))] [Ae BI (.slice A1 recs.length c2) recs])∧(k≤recs.length)∧(∀ r∈(recs.take k).map AW.p,Ck r)) (fun (k,q)=>recs.length - k) (0,.slice none 0 0) ⟨rfl,rfl,rfl,rfl,trivial⟩ ⟨H,Nat.zero_le _,fun r h=>by cases h⟩ ?_
 rintro ⟨k,q⟩ w ⟨H,hk,hmk⟩
 have hlb:=Xy hmk
 have hlk:((recs.take k).map AW.p).length≤k:=by rw [List.length_map,List.length_take];omega
 refine Aa (Ad (V U U (Br U U U) (Ab (Z (Aa ?_)))))
 refine AC U (fun h6=>?_) (fun h6=>?_)
 ·refine AB (Z (Aa (AX (Aa (Ad ?_)))))
  obtain ⟨⟨a9,a10,a11,a12,a13,sv14,se15,pv16,pr17⟩,hx8⟩:∃ z9,recs[k]?=some z9:=⟨_,List.getElem?_eq_getElem (show k<recs.length by omega)⟩
  obtain ⟨A18,c19,A20,c21,rfl,rfl,m22,m23,m24,m25⟩:=H.nestRr 0 rfl hx8
  have th26:=H.thRr 0 rfl hx8
  refine V U U (Bi (p:=A_ A1+k*7) U IW U U (by omega) (by omega) th26 U) (V U U (BD (cs:=[.int .i64 a9,.int .i64 a10,.int .i64 a11,.int .i64 a12,.int .i64 a13,.slice A18 se15.length c19,.slice A20 pr17.length c21]) U EZ U U (H.elsRr 0 U hx8 U)) (Dz U U U He H (fun b27 w H=>(Bx U U U EZ U U H U (Nat.le_of_ble_eq_true U) (fun u hu=>by simp [Value.cells] at hu;rcases hu with rfl|rfl|rfl|rfl|rfl|rfl|rfl<;>rfl) (fun w H=>?_)))))
  replace H:Hd _ _ _ [blk b27 [.int .i64 a9,.int .i64 a10,.int .i64 a11,.int .i64 a12,.int .i64 a13,.slice A18 se15.length c19,.slice A20 pr17.length c21] 69,Y AP q (Cw ((recs.take k).map AW.p))] [Ae BI (.slice A1 recs.length c2) recs]:=H
  refine Ab (Z (Aa (Aa (Ad (V U U (BD (cs:=[.int .i64 a9,.int .i64 a10,.int .i64 a11,.int .i64 a12,.int .i64 a13,.slice A18 se15.length c19,.slice A20 pr17.length c21]) U EZ U U (H.cellsI 0 U U)) (sc (RN a9 a10 a11 a12 a13 (.slice A18 se15.length c19) (.slice A20 pr17.length c21) se15 pr17) H (lX (fun F hA hR=>HX (hR _ (List.mem_of_getElem? (i:=0) U)) hx8) (lX (fun F hA hR=>Ld (hR _ (List.mem_of_getElem? (i:=0) U)) hx8) l0)) U U (Av Qm U U) ?_))))))
  rintro _ _ w ⟨rfl,rfl⟩ H
  refine V U U (D3 U U) (Ab (Z ?_))
  refine AC U (fun h28=>?_) (fun h28=>?_)
  ·refine Aa (Ad (Ac U (Ab (Z (Am (Az (AY (Az (Az (AY (Az (Aq U U ?_))))))))))))
   replace H:=H.nil|>.newnil AP|>.tellK (ys:=Fm (recs.map AW.p)) (by exact if_neg (fun g=>h28 (g _ (List.mem_map_of_mem (Cx hx8)))))|>.h1 (A:=Y AP (.slice none 0 0) (Fm (recs.map AW.p)))
   exact Al U H
  refine AB (Z ?_)
  have hmx:Ck (AW.p (⟨a9,a10,a11,a12,a13,.slice A18 se15.length c19,se15,.slice A20 pr17.length c21,pr17⟩:AW)):=Classical.not_not.1 h28
  have hmr:=KI hmx
  have hbo:=LO hmr
  have hso:(DF (CC (AW.p (⟨a9,a10,a11,a12,a13,.slice A18 se15.length c19,se15,.slice A20 pr17.length c21,pr17⟩:AW)))).size≤10000:=by rw [IY];exact hbo
  have hso2:=hso
  simp only [AW.p] at hso2
  have hmn:∀ r∈(recs.take (k+1)).map AW.p,Ck r:=by rw [El hx8,List.map_append];exact fun r hr=>(List.mem_append.1 hr).elim (hmk r) (fun g=>by rw [List.mem_singleton.1 g];exact hmx)
  refine Ad (Ac U (V U U (BD (cs:=[.int .i64 a9,.int .i64 a10,.int .i64 a11,.int .i64 a12,.int .i64 a13,.slice A18 se15.length c19,.slice A20 pr17.length c21]) U EZ U U (H.cellsI 0 U U)) (sc (ZQ a9 a10 a11 a12 a13 (.slice A18 se15.length c19) (.slice A20 pr17.length c21) se15 pr17 (by first |assumption|omega|(rw [List.length_append];omega))) H (lX (fun F hA hR=>HX (hR _ (List.mem_of_getElem? (i:=0) U)) hx8) (lX (fun F hA hR=>Ld (hR _ (List.mem_of_getElem? (i:=0) U)) hx8) l0)) U U (Av V4 U U) ?_)))
  rintro v29 _ w rfl H
  obtain ⟨A30,c31,rfl,hc32,hm33,hp34⟩:=H.fA 0 rfl
  refine V U U (H.read fun F hA hR=>RD U Fe HE CP U U (B3 F (hA _ (List.mem_of_getElem? (i:=0) U)))) ?_
  replace H:Hd _ _ _ [Y AP (.slice A30 ((CC (⟨a9,a10,a11,a12,a13,se15,pr17⟩:Ba)).length) c31) (CC (⟨a9,a10,a11,a12,a13,se15,pr17⟩:Ba)),blk b27 [.int .i64 a9,.int .i64 a10,.int .i64 a11,.int .i64 a12,.int .i64 a13,.slice A18 se15.length c19,.slice A20 pr17.length c21] 69,Y AP q (Cw ((recs.take k).map AW.p))] [Ae BI (.slice A1 recs.length c2) recs]:=H
  refine sc (LQ q (Cw ((recs.take k).map AW.p)) (DF (CC (⟨a9,a10,a11,a12,a13,se15,pr17⟩:Ba))) (by first |assumption|omega|(rw [List.length_append];omega)) (by first |assumption|omega|(rw [List.length_append];omega))) H (lA 2 U B3 l0) U U (Av Ms U U) ?_
  rintro v35 _ w rfl H
  replace H:=H.h1 (A:=Y AP v35 ((Cw ((recs.take k).map AW.p))++Cr (DF (CC (⟨a9,a10,a11,a12,a13,se15,pr17⟩:Ba)))))
  refine Ac U (Ab (Bb (Z (Ad (V U U (Be (z:=((k+1:Nat):Int)) U U U (by rw [AI (by omega) (by omega)];omega)) (Ac U (Ab ?_)))))))
  replace H:=H.k1.tellK (ys:=Cw ((recs.take (k+1)).map AW.p)) (by rw [El hx8,List.map_append];exact Qs _ _)
  exact Bo (s:=(k,undef)) (k+1,v35) ⟨rfl,rfl,rfl,rfl,trivial⟩ ⟨H,by (try dsimp only);omega,hmn⟩ (by (try dsimp only);omega)
 refine BW (A8 (A8 (BX (Z (Aa (Ad (Ah 2 U (Ab (Z (Am (Aq U U ?_)))))))))))
 replace H:Hd _ _ _ [Y AP q (Cw ((recs.take k).map AW.p))] [Ae BI (.slice A1 recs.length c2) recs]:=H
 have hkk:recs.take k=recs:=List.take_of_length_le (by omega)
 rw [hkk] at H hmk
 replace H:=H.tellK (ys:=Fm (recs.map AW.p)) (by exact if_pos hmk)
 replace H:Hd _ _ _ [Y AP q (Fm (recs.map AW.p))] [Ae BI (.slice A1 recs.length c2) recs]:=H
 exact Al U H
theorem HA (r:Nat) (vb:Value) (bs:List UInt8) (s:CY) (hb:bs.length≤1000000) (ha:AL s.at_):
    Cn Tryz.prog 98 [.pointer (some ⟨r,0,none⟩)] [blk r [vb,.int .i64 s.at_,.bool s.bad] 115] [Ae AP vb bs] (fun v Bs=>v=.int .i64 ((Ak bs s).1)∧Bs=[blk r [vb,.int .i64 (((Ak bs s).2).at_),.bool (((Ak bs s).2).bad)] 115]):=by
 intro w0 F0 H
 refine enter Tryz.func98 U U (Nat.le_of_ble_eq_true U) (Aa (Ad (Ac U (Ab (Z (Aa (Cc (.e 0 (.e 1 (.e 2 (.e 3 (.e 4 (.e 5 (.e 6 (.e 7 (.m 8 (.e 9 (.e 10 (.e 11 (.e 12 (.e 13 (.e 14 (.e 15 .z)))))))))))))))) (fun w=>∃ Ar,Hd w0 F0 w (blk r [vb,.int .i64 s.at_,.bool s.bad] 115::Ar) [Ae AP vb bs]) mo (by kernel_rfl) (fun w H=>⟨_,H⟩) H (fun w H=>(Au U (Ao U U U (fun w ⟨Ar,H⟩=>AH U U) (Ao U U U (fun w ⟨Ar,H⟩=>Aj U L5 U) (Ao U U U (fun w ⟨Ar,H⟩=>An U Gl U (H.cellI 0 U U)) (Au U (Ao U U U (fun w ⟨Ar,H⟩=>AH U U) (Ao U U U (fun w ⟨Ar,H⟩=>Aj U HO U) (Ao U U U (fun w ⟨Ar,H⟩=>An U AE U (H.cellI 0 U U)) (AO U (sc (Ni vb bs s.at_ (by first |assumption|omega) (by first |assumption|omega)) H (lR 0 U l0) U U (Av MA U U) ?_))))))))))))))))))
 rintro _ _ w ⟨rfl,rfl⟩ H
 replace H:Hd _ _ _ [blk r [vb,.int .i64 s.at_,.bool s.bad] 115] [Ae AP vb bs]:=H
 refine AG ⟨_,H⟩ (Au U (Au U (Au U (Au U (Au U (Au U (Au U (BN (Z (Aa (Ad (Ah 2 U (V U U (AH U U) (V U U (Aj U Hn U) (V U U (An U D4 U (H.cellI 0 U U)) (Ac U ?_))))))))))))))))
 refine G5 (d:=24) (b:=s.bad) U (fun h1=>?_) (fun h1=>?_)
 ·refine Ah 3 U (V U U (AH U U) (V U U (Aj U Hn U) (Bx U U U D4 U U H U (Nat.le_of_ble_eq_true U) (fun u hu=>by simp [Value.cells] at hu;subst hu;rfl) (fun w H=>?_))))
  replace H:=H.h1 (A:=blk r [vb,.int .i64 s.at_,.bool true] 115)
  refine Ab (Z (Aa (Aa (Ad (Ac U (Ab (Z ?_)))))))
  refine Dx (b:=(BU bs s.at_).2.2) U (fun h2=>?_) (fun h2=>?_)
  ·refine Ad (Ah 2 U (V U U (AH U U) (V U U (Aj U HO U) (Bx U U U AE U U H U (Nat.le_of_ble_eq_true U) (fun u hu=>by simp [Value.cells] at hu;subst hu;rfl) (fun w H=>?_)))))
   replace H:=H.h1 (A:=blk r [vb,.int .i64 ((BU bs s.at_).2.1),.bool true] 115)
   refine Ab (Z (Aa (Ad (Ah 2 U (Ab (Z (Am (Aq U U ?_))))))))
   have e:Ak bs s=((BU bs s.at_).1,⟨(BU bs s.at_).2.1,true⟩):=by unfold Ak;grind
   exact Al ⟨by rw [e]<;>rfl,by rw [e]<;>rfl⟩ H
  refine AB (Z (Aa (Ad (Ah 2 U (Ab (Z (Am (Aq U U ?_))))))))
  have e:Ak bs s=((BU bs s.at_).1,⟨s.at_,true⟩):=by unfold Ak;grind
  exact Al ⟨by rw [e]<;>rfl,by rw [e]<;>rfl⟩ H
 refine Ac U (V U U (Ek U U U) (Ac U (V U U (AH U U) (V U U (Aj U Hn U) (Bx U U U D4 U U H U (Nat.le_of_ble_eq_true U) (fun u hu=>by simp [Value.cells] at hu;subst hu;rfl) (fun w H=>?_))))))
 replace H:=H.h1 (A:=blk r [vb,.int .i64 s.at_,.bool (!((BU bs s.at_).2.2))] 115)
 refine Ab (Z (Aa (Aa (Ad (Ac U (Ab (Z ?_)))))))
 refine Dx (b:=(BU bs s.at_).2.2) U (fun h3=>?_) (fun h3=>?_)
 ·refine Ad (Ah 2 U (V U U (AH U U) (V U U (Aj U HO U) (Bx U U U AE U U H U (Nat.le_of_ble_eq_true U) (fun u hu=>by simp [Value.cells] at hu;subst hu;rfl) (fun w H=>?_)))))
  replace H:=H.h1 (A:=blk r [vb,.int .i64 ((BU bs s.at_).2.1),.bool (!((BU bs s.at_).2.2))] 115)
  refine Ab (Z (Aa (Ad (Ah 2 U (Ab (Z (Am (Aq U U ?_))))))))
  have e:Ak bs s=((BU bs s.at_).1,⟨(BU bs s.at_).2.1,!((BU bs s.at_).2.2)⟩):=by unfold Ak;grind
  exact Al ⟨by rw [e]<;>rfl,by rw [e]<;>rfl⟩ H
 refine AB (Z (Aa (Ad (Ah 2 U (Ab (Z (Am (Aq U U ?_))))))))
 have e:Ak bs s=((BU bs s.at_).1,⟨s.at_,!((BU bs s.at_).2.2)⟩):=by unfold Ak;grind
 exact Al ⟨by rw [e]<;>rfl,by rw [e]<;>rfl⟩ H
theorem Nh (r:Nat) (vb:Value) (bs:List UInt8) (s:CY) (hb:bs.length≤1000000) (ha:AL s.at_):
    Cn Tryz.prog 100 [.pointer (some ⟨r,0,none⟩)] [blk r [vb,.int .i64 s.at_,.bool s.bad] 115] [Ae AP vb bs] (fun v Bs=>v=.string ((AM bs s).1)∧Bs=[blk r [vb,.int .i64 (((AM bs s).2).at_),.bool (((AM bs s).2).bad)] 115]):=by
 intro w0 F0 H
 refine enter Tryz.func100 U U (Nat.le_of_ble_eq_true U) (Aa (Ad (Ac U (Ab (Z (Aa (Cc (.e 0 (.e 1 (.e 2 (.e 3 (.e 4 (.e 5 (.e 6 (.e 7 (.m 8 (.e 9 (.e 10 (.e 11 (.e 12 (.e 13 (.e 14 (.e 15 .z)))))))))))))))) (fun w=>∃ Ar,Hd w0 F0 w (blk r [vb,.int .i64 s.at_,.bool s.bad] 115::Ar) [Ae AP vb bs]) mo (by kernel_rfl) (fun w H=>⟨_,H⟩) H (fun w H=>(Au U (Ao U U U (fun w ⟨Ar,H⟩=>AH U U) (Ao U U U (fun w ⟨Ar,H⟩=>Aj U L5 U) (Ao U U U (fun w ⟨Ar,H⟩=>An U Gl U (H.cellI 0 U U)) (Au U (Ao U U U (fun w ⟨Ar,H⟩=>AH U U) (Ao U U U (fun w ⟨Ar,H⟩=>Aj U HO U) (Ao U U U (fun w ⟨Ar,H⟩=>An U AE U (H.cellI 0 U U)) (AO U (sc (K_ vb bs s.at_ (by first |assumption|omega) (by first |assumption|omega)) H (lR 0 U l0) U U (Av Kz U U) ?_))))))))))))))))))
 rintro _ _ w ⟨rfl,rfl⟩ H
 replace H:Hd _ _ _ [blk r [vb,.int .i64 s.at_,.bool s.bad] 115] [Ae AP vb bs]:=H
 refine AG ⟨_,H⟩ (Au U (Au U (Au U (Au U (Au U (Au U (Au U (BN (Z (Aa (Ad (Ah 2 U (V U U (AH U U) (V U U (Aj U Hn U) (V U U (An U D4 U (H.cellI 0 U U)) (Ac U ?_))))))))))))))))
 refine G5 (d:=24) (b:=s.bad) U (fun h1=>?_) (fun h1=>?_)
 ·refine Ah 3 U (V U U (AH U U) (V U U (Aj U Hn U) (Bx U U U D4 U U H U (Nat.le_of_ble_eq_true U) (fun u hu=>by simp [Value.cells] at hu;subst hu;rfl) (fun w H=>?_))))
  replace H:=H.h1 (A:=blk r [vb,.int .i64 s.at_,.bool true] 115)
  refine Ab (Z (Aa (Aa (Ad (Ac U (Ab (Z ?_)))))))
  refine Dx (b:=(Ax bs s.at_).2.2) U (fun h2=>?_) (fun h2=>?_)
  ·refine Ad (Ah 2 U (V U U (AH U U) (V U U (Aj U HO U) (Bx U U U AE U U H U (Nat.le_of_ble_eq_true U) (fun u hu=>by simp [Value.cells] at hu;subst hu;rfl) (fun w H=>?_)))))
   replace H:=H.h1 (A:=blk r [vb,.int .i64 ((Ax bs s.at_).2.1),.bool true] 115)
   refine Ab (Z (Aa (Ad (Ah 2 U (Ab (Z (Am (Aq U U ?_))))))))
   have e:AM bs s=((Ax bs s.at_).1,⟨(Ax bs s.at_).2.1,true⟩):=by unfold AM;grind
   exact Al ⟨by rw [e]<;>rfl,by rw [e]<;>rfl⟩ H
  refine AB (Z (Aa (Ad (Ah 2 U (Ab (Z (Am (Aq U U ?_))))))))
  have e:AM bs s=((Ax bs s.at_).1,⟨s.at_,true⟩):=by unfold AM;grind
  exact Al ⟨by rw [e]<;>rfl,by rw [e]<;>rfl⟩ H
 refine Ac U (V U U (Ek U U U) (Ac U (V U U (AH U U) (V U U (Aj U Hn U) (Bx U U U D4 U U H U (Nat.le_of_ble_eq_true U) (fun u hu=>by simp [Value.cells] at hu;subst hu;rfl) (fun w H=>?_))))))
 replace H:=H.h1 (A:=blk r [vb,.int .i64 s.at_,.bool (!((Ax bs s.at_).2.2))] 115)
 refine Ab (Z (Aa (Aa (Ad (Ac U (Ab (Z ?_)))))))
 refine Dx (b:=(Ax bs s.at_).2.2) U (fun h3=>?_) (fun h3=>?_)
 ·refine Ad (Ah 2 U (V U U (AH U U) (V U U (Aj U HO U) (Bx U U U AE U U H U (Nat.le_of_ble_eq_true U) (fun u hu=>by simp [Value.cells] at hu;subst hu;rfl) (fun w H=>?_)))))
  replace H:=H.h1 (A:=blk r [vb,.int .i64 ((Ax bs s.at_).2.1),.bool (!((Ax bs s.at_).2.2))] 115)
  refine Ab (Z (Aa (Ad (Ah 2 U (Ab (Z (Am (Aq U U ?_))))))))
  have e:AM bs s=((Ax bs s.at_).1,⟨(Ax bs s.at_).2.1,!((Ax bs s.at_).2.2)⟩):=by unfold AM;grind
  exact Al ⟨by rw [e]<;>rfl,by rw [e]<;>rfl⟩ H
 refine AB (Z (Aa (Ad (Ah 2 U (Ab (Z (Am (Aq U U ?_))))))))
 have e:AM bs s=((Ax bs s.at_).1,⟨s.at_,!((Ax bs s.at_).2.2)⟩):=by unfold AM;grind
 exact Al ⟨by rw [e]<;>rfl,by rw [e]<;>rfl⟩ H
theorem RP (r:Nat) (vb:Value) (bs:List UInt8) (s:CY) (m:Int) (hb:bs.length≤1000000) (ha:AL s.at_):
    Cn Tryz.prog 99 [.pointer (some ⟨r,0,none⟩),.int .i64 m] [blk r [vb,.int .i64 s.at_,.bool s.bad] 115] [Ae AP vb bs] (fun v Bs=>v=.int .i64 ((Ay bs m s).1)∧Bs=[blk r [vb,.int .i64 (((Ay bs m s).2).at_),.bool (((Ay bs m s).2).bad)] 115]):=by
 intro w0 F0 H
 refine enter Tryz.func99 U U (Nat.le_of_ble_eq_true U) (Aa (Ad (Ac U (Ab (Z (Aa (Ad (Ac U (sc (HA r vb bs s (by first |assumption|omega) (by first |assumption|omega)) H (lR 0 U l0) U U (Av Hq U U) ?_)))))))))
 rintro _ _ w ⟨rfl,rfl⟩ H
 have h641:=GD (b:=bs) (s:=s) (by omega) (by assumption)
 refine Ac U (Ab (Z ?_))
 replace H:Hd _ _ _ [blk r [vb,.int .i64 (((Ak bs s).2).at_),.bool (((Ak bs s).2).bad)] 115] [Ae AP vb bs]:=H
 refine Aa (Aa (Ad (Ah 2 U (sc (IM ((Ak bs s).1) 0 m) H l0 U U (Av IA U U) ?_))))
 rintro _ _ w ⟨rfl,rfl⟩ H
 refine V U U (D3 U U) (Ab (Z ?_))
 refine AC U (fun h2=>?_) (fun h2=>?_)
 ·refine Aa (Ad (Ac U (V U U (AH U U) (V U U (Aj U Hn U) (Bx U U U D4 U U H U (Nat.le_of_ble_eq_true U) (fun u hu=>by simp [Value.cells] at hu;subst hu;rfl) (fun w H=>?_))))))
  replace H:Hd _ _ _ [blk r [vb,.int .i64 (((Ak bs s).2).at_),.bool true] 115] [Ae AP vb bs]:=H
  refine Ab (Z (Aa (Ad (Ac U (Ab (Z (Am (Az (Aq U U ?_)))))))))
  have e:Ay bs m s=(0,⟨(Ak bs s).2.at_,true⟩):=if_neg (by unfold Bq;omega)
  exact Al ⟨by rw [e]<;>rfl,by rw [e]<;>rfl⟩ H
 refine AB (Z (Aa (Ad (Ah 2 U (Ab (Z (Am (Aq U U ?_))))))))
 have e:Ay bs m s=Ak bs s:=if_pos (by unfold Bq;omega)
 replace H:Hd _ _ _ [blk r [vb,.int .i64 (((Ak bs s).2).at_),.bool (((Ak bs s).2).bad)] 115] [Ae AP vb bs]:=H
 exact Al ⟨by rw [e]<;>rfl,by rw [e]<;>rfl⟩ H
theorem Z2 (r:Nat) (vb:Value) (bs:List UInt8) (s:CY) (hb:bs.length≤1000000) (ha:AL s.at_):
    Cn Tryz.prog 55 [.pointer (some ⟨r,0,none⟩)] [blk r [vb,.int .i64 s.at_,.bool s.bad] 115] [Ae AP vb bs] (fun v Bs=>∃ u:Value,∃ u2:Value,v=.agg #[.int .i64 ((AF bs s).1.kind),.int .i64 ((AF bs s).1.part),.int .i64 ((AF bs s).1.sp),.int .i64 ((AF bs s).1.att),.int .i64 ((AF bs s).1.why),u,u2]∧Bs=[Y (Ai .i64) u ((AF bs s).1.set),Y Ag u2 ((AF bs s).1.pairs),blk r [vb,.int .i64 (((AF bs s).2).at_),.bool (((AF bs s).2).bad)] 115]):=by
 intro w0 F0 H
 refine enter Tryz.func55 U U (Nat.le_of_ble_eq_true U) (Aa (Ad (Dz U U U He H (fun b1 w H=>(Ab (Z ?_))))))
 replace H:Hd _ _ _ [blk b1 [.int .i64 0,.int .i64 0,.int .i64 0,.int .i64 0,.int .i64 0,.slice none 0 0,.slice none 0 0] 69,blk r [vb,.int .i64 s.at_,.bool s.bad] 115] [Ae AP vb bs]:=H
 refine Aa (Ad (Ac U ?_))
 replace H:=H.p1
 refine sc (HA r vb bs s (by first |assumption|omega) (by first |assumption|omega)) H (lR 0 U l0) U U (Av Hq U U) ?_
 rintro _ _ w ⟨rfl,rfl⟩ H
 replace H:=H.h1 (A:=blk r [vb,.int .i64 (((Ak bs s).2).at_),.bool (((Ak bs s).2).bad)] 115)
 have h642:=GD (b:=bs) (s:=s) (by omega) (by assumption)
 refine Ac U (sc (HA r vb bs ((Ak bs s).2) (by first |assumption|omega) (by first |assumption|omega)) H (lR 0 U l0) U U (Av Hq U U) ?_)
 rintro _ _ w ⟨rfl,rfl⟩ H
 replace H:=H.h1 (A:=blk r [vb,.int .i64 (((Ak bs ((Ak bs s).2)).2).at_),.bool (((Ak bs ((Ak bs s).2)).2).bad)] 115)
 have h643:=GD (b:=bs) (s:=(Ak bs s).2) (by omega) (by assumption)
 refine Ac U (sc (HA r vb bs ((Ak bs ((Ak bs s).2)).2) (by first |assumption|omega) (by first |assumption|omega)) H (lR 0 U l0) U U (Av Hq U U) ?_)
 rintro _ _ w ⟨rfl,rfl⟩ H
 replace H:=H.h1 (A:=blk r [vb,.int .i64 (((Ak bs ((Ak bs ((Ak bs s).2)).2)).2).at_),.bool (((Ak bs ((Ak bs ((Ak bs s).2)).2)).2).bad)] 115)
 have h644:=GD (b:=bs) (s:=(Ak bs ((Ak bs s).2)).2) (by omega) (by assumption)
 refine Ac U (sc (HA r vb bs ((Ak bs ((Ak bs ((Ak bs s).2)).2)).2) (by first |assumption|omega) (by first |assumption|omega)) H (lR 0 U l0) U U (Av Hq U U) ?_)
 rintro _ _ w ⟨rfl,rfl⟩ H
 replace H:=H.h1 (A:=blk r [vb,.int .i64 (((Ak bs ((Ak bs ((Ak bs ((Ak bs s).2)).2)).2)).2).at_),.bool (((Ak bs ((Ak bs ((Ak bs ((Ak bs s).2)).2)).2)).2).bad)] 115)
 have h645:=GD (b:=bs) (s:=(Ak bs ((Ak bs ((Ak bs s).2)).2)).2) (by omega) (by assumption)
 refine Ac U (sc (HA r vb bs ((Ak bs ((Ak bs ((Ak bs ((Ak bs s).2)).2)).2)).2) (by first |assumption|omega) (by first |assumption|omega)) H (lR 0 U l0) U U (Av Hq U U) ?_)
 rintro _ _ w ⟨rfl,rfl⟩ H
 have h646:=GD (b:=bs) (s:=(Ak bs ((Ak bs ((Ak bs ((Ak bs s).2)).2)).2)).2) (by omega) (by assumption)
 refine V U U (Di (parts:=[(0,.tmp 6),(1,.tmp 8),(2,.tmp 10),(3,.tmp 12),(4,.tmp 14)]) (vs:=[.int .i64 ((Ak bs s).1),.int .i64 ((Ak bs ((Ak bs s).2)).1),.int .i64 ((Ak bs ((Ak bs ((Ak bs s).2)).2)).1),.int .i64 ((Ak bs ((Ak bs ((Ak bs ((Ak bs s).2)).2)).2)).1),.int .i64 ((Ak bs ((Ak bs ((Ak bs ((Ak bs ((Ak bs s).2)).2)).2)).2)).1)]) (cs:=[.int .i64 ((Ak bs s).1),.int .i64 ((Ak bs ((Ak bs s).2)).1),.int .i64 ((Ak bs ((Ak bs ((Ak bs s).2)).2)).1),.int .i64 ((Ak bs ((Ak bs ((Ak bs ((Ak bs s).2)).2)).2)).1),.int .i64 ((Ak bs ((Ak bs ((Ak bs ((Ak bs ((Ak bs s).2)).2)).2)).2)).1),.slice none 0 0,.slice none 0 0]) U Om U U) (Dz U U U He H (fun b7 w H=>(Bx U U U EZ U U H U (Nat.le_of_ble_eq_true U) (fun u hu=>by simp [Value.cells] at hu;rcases hu with rfl|rfl|rfl|rfl|rfl|rfl|rfl<;>rfl) (fun w H=>?_))))
 replace H:=H.h2 (A:=blk b7 [.int .i64 ((Ak bs s).1),.int .i64 ((Ak bs ((Ak bs s).2)).1),.int .i64 ((Ak bs ((Ak bs ((Ak bs s).2)).2)).1),.int .i64 ((Ak bs ((Ak bs ((Ak bs ((Ak bs s).2)).2)).2)).1),.int .i64 ((Ak bs ((Ak bs ((Ak bs ((Ak bs ((Ak bs s).2)).2)).2)).2)).1),.slice none 0 0,.slice none 0 0] 69) (B:=blk r [vb,.int .i64 (((Ak bs ((Ak bs ((Ak bs ((Ak bs ((Ak bs s).2)).2)).2)).2)).2).at_),.bool (((Ak bs ((Ak bs ((Ak bs ((Ak bs ((Ak bs s).2)).2)).2)).2)).2).bad)] 115)
 refine Ab (Z (Aa (Aa ?_)))
 replace H:=H.h2 (B:=blk r [vb,.int .i64 ((Aw bs 5 s).at_),.bool ((Aw bs 5 s).bad)] 115)
 have h65:AL (Aw bs 5 s).at_:=KS (by omega) 5 ha
 refine Ad (Ac U ?_)
 replace H:=H.p1
 refine sc (RP r vb bs (Aw bs 5 s) 6 (by first |assumption|omega) (by first |assumption|omega)) H (lR 0 U l0) U U (Av Qr U U) ?_
 rintro _ _ w ⟨rfl,rfl⟩ H
 replace H:=H.h1 (A:=blk r [vb,.int .i64 (((Ay bs 6 (Aw bs 5 s)).2).at_),.bool (((Ay bs 6 (Aw bs 5 s)).2).bad)] 115)
 have h648:=J9 (b:=bs) (s:=Aw bs 5 s) (m:=6) (by omega) (by assumption)
 refine Ac U (Ab (Z (AX ?_)))
 have hci:=OB (b:=bs) (s:=(Aw bs 5 s)) (m:=6) (by omega)
 have h6c:AL (Ay bs 6 (Aw bs 5 s)).2.at_:=J9 (by omega) h65
 replace H:=H.newnil (Ai .i64)|>.tellK (ys:=(Bf bs 0 (Ay bs 6 (Aw bs 5 s)).2).1) (by rfl)|>.sel 4 [1,0,2,3] [] rfl (by kernel_rfl)
 replace H:Hd _ _ _ [blk r [vb,.int .i64 (((Bf bs 0 (Ay bs 6 (Aw bs 5 s)).2).2).at_),.bool (((Bf bs 0 (Ay bs 6 (Aw bs 5 s)).2).2).bad)] 115,Y (Ai .i64) (.slice none 0 0) ((Bf bs 0 (Ay bs 6 (Aw bs 5 s)).2).1),blk b7 [.int .i64 ((Ak bs s).1),.int .i64 ((Ak bs ((Ak bs s).2)).1),.int .i64 ((Ak bs ((Ak bs ((Ak bs s).2)).2)).1),.int .i64 ((Ak bs ((Ak bs ((Ak bs ((Ak bs s).2)).2)).2)).1),.int .i64 ((Ak bs ((Ak bs ((Ak bs ((Ak bs ((Ak bs s).2)).2)).2)).2)).1),.slice none 0 0,.slice none 0 0] 69,blk b1 [.int .i64 0,.int .i64 0,.int .i64 0,.int .i64 0,.int .i64 0,.slice none 0 0,.slice none 0 0] 69] [Ae AP vb bs]:=H
 refine B1 (σ:=Nat×Value) (fun (i,q)=>[(0,.pointer (some ⟨r,0,none⟩)),(2,.pointer (some ⟨b1,0,none⟩)),(3,.pointer (some ⟨b7,0,none⟩)),(17,.int .i64 ((Ay bs 6 (Aw bs 5 s)).1)),(18,.int .i64 ((i:Nat):Int))]) (fun (i,q) w=>(Hd w0 F0 w [blk r [vb,.int .i64 (((Bf bs i (Ay bs 6 (Aw bs 5 s)).2).2).at_),.bool (((Bf bs i (Ay bs 6 (Aw bs 5 s)).2).2).bad)] 115,Y (Ai .i64) q ((Bf bs i (Ay bs 6 (Aw bs 5 s)).2).1),blk b7 [.int .i64 ((Ak bs s).1),.int .i64 ((Ak bs ((Ak bs s).2)).1),.int .i64 ((Ak bs ((Ak bs ((Ak bs s).2)).2)).1),.int .i64 ((Ak bs ((Ak bs ((Ak bs ((Ak bs s).2)).2)).2)).1),.int .i64 ((Ak bs ((Ak bs ((Ak bs ((Ak bs ((Ak bs s).2)).2)).2)).2)).1),q,.slice none 0 0] 69,blk b1 [.int .i64 0,.int .i64 0,.int .i64 0,.int .i64 0,.int .i64 0,.slice none 0 0,.slice none 0 0] 69] [Ae AP vb bs])∧(((i:Nat):Int)≤(Ay bs 6 (Aw bs 5 s)).1)) (fun (i,q)=>(Ay bs 6 (Aw bs 5 s)).1.toNat - i) (0,.slice none 0 0) ⟨rfl,rfl,rfl,rfl,rfl,trivial⟩ ⟨H,by (try dsimp only);omega⟩ ?_
 rintro ⟨i,q⟩ w ⟨H,hi⟩
 have h6i:AL (Bf bs i (Ay bs 6 (Aw bs 5 s)).2).2.at_:=KS (by omega) i h6c
 have hnl:=Q8 bs (Ay bs 6 (Aw bs 5 s)).2 i
 refine Aa (Ad (V U U (Br U U U) (Ab (Z (Aa ?_)))))
 refine AC U (fun h9=>?_) (fun h9=>?_)
 ·refine AB (Z (Aa (AX ?_)))
  replace H:=H.p3.h4 (B:=blk r [vb,.int .i64 (((Bf bs i (Ay bs 6 (Aw bs 5 s)).2).2).at_),.bool (((Bf bs i (Ay bs 6 (Aw bs 5 s)).2).2).bad)] 115) (C:=Y (Ai .i64) q ((Bf bs i (Ay bs 6 (Aw bs 5 s)).2).1)) (D:=blk b7 [.int .i64 ((Ak bs s).1),.int .i64 ((Ak bs ((Ak bs s).2)).1),.int .i64 ((Ak bs ((Ak bs ((Ak bs s).2)).2)).1),.int .i64 ((Ak bs ((Ak bs ((Ak bs ((Ak bs s).2)).2)).2)).1),.int .i64 ((Ak bs ((Ak bs ((Ak bs ((Ak bs ((Ak bs s).2)).2)).2)).2)).1),q,.slice none 0 0] 69)
  refine Cc (.e 0 (.e 2 (.b 1 3 (.m 3 (.m 4 (.m 5 (.e 6 (.m 7 .z))))) (.b 1 4 (.m 4 (.m 5 (.e 6 (.m 7 .z)))) (.m 1 (.m 5 (.e 6 (.m 7 .z)))))))) (fun w=>∃ Ar,Hd w0 F0 w (blk b1 [.int .i64 0,.int .i64 0,.int .i64 0,.int .i64 0,.int .i64 0,.slice none 0 0,.slice none 0 0] 69::Ar) [Ae AP vb bs]) mo (by kernel_rfl) (fun w H=>⟨_,H⟩) H (fun w H=>(Ao U U U (fun w ⟨Ar,H⟩=>Aj U Gd U) (Au U ?_)))
  refine Gu U U ?_ ?_
  ·refine V U U (An U DY U (H.cellI 3 U U)) (AG ⟨_,H⟩ (AO U ?_))
   replace H:=H.p1
   refine sc (HA r vb bs ((Bf bs i (Ay bs 6 (Aw bs 5 s)).2).2) (by first |assumption|omega) (by first |assumption|omega)) H (lR 0 U l0) U U (Av Hq U U) ?_
   rintro _ _ w ⟨rfl,rfl⟩ H
   replace H:=H.h1 (A:=blk r [vb,.int .i64 (((Ak bs ((Bf bs i (Ay bs 6 (Aw bs 5 s)).2).2)).2).at_),.bool (((Ak bs ((Bf bs i (Ay bs 6 (Aw bs 5 s)).2).2)).2).bad)] 115)
   have h6410:=GD (b:=bs) (s:=(Bf bs i (Ay bs 6 (Aw bs 5 s)).2).2) (by omega) (by assumption)
   replace H:=H.p1
   refine AG ⟨_,H⟩ (AO U (Cb (parts:=[(0,.tmp 23)]) (vs:=[.int .i64 ((Ak bs ((Bf bs i (Ay bs 6 (Aw bs 5 s)).2).2)).1)]) (cs:=[.int .i64 ((Ak bs ((Bf bs i (Ay bs 6 (Aw bs 5 s)).2).2)).1)]) U U U DA E2 U (by decide) (by decide) U U H (fun b11 w H=>?_)))
   replace H:=H.h1 (A:=blk b11 [.int .i64 ((Ak bs ((Bf bs i (Ay bs 6 (Aw bs 5 s)).2).2)).1)] 3)|>.p1
   refine AG ⟨_,H⟩ (AO U ?_)
   replace H:=H.p3
   refine CA (xs:=(Bf bs i (Ay bs 6 (Aw bs 5 s)).2).1) (ys:=[(Ak bs ((Bf bs i (Ay bs 6 (Aw bs 5 s)).2).2)).1]) U U U DA E2 U (by decide) U U H (by first |omega|(simp only [List.length_append,List.length_cons,List.length_nil];omega)) (fun F hA hR=>Cy (hA _ (List.mem_of_getElem? (i:=1) U)) U (by decide) (Bc.flat_eq.2 U)) (fun v12 w H=>?_)
   replace H:=H.h1 (A:=Y (Ai .i64) v12 (((Bf bs i (Ay bs 6 (Aw bs 5 s)).2).1)++[(Ak bs ((Bf bs i (Ay bs 6 (Aw bs 5 s)).2).2)).1]))|>.p1
   refine AG ⟨_,H⟩ (Ao U U U (fun w ⟨Ar,H⟩=>Aj U Gd U) (AO U ?_))
   obtain ⟨A13,c14,rfl,hc15,hm16,hp17⟩:=H.fA 1 rfl
   replace H:=H.p4
   refine Bx U U U DY U U H U (Nat.le_of_ble_eq_true U) (fun u hu=>by simp [Value.cells] at hu;subst hu;rfl) (fun w H=>?_)
   replace H:Hd _ _ _ [blk b7 [.int .i64 ((Ak bs s).1),.int .i64 ((Ak bs ((Ak bs s).2)).1),.int .i64 ((Ak bs ((Ak bs ((Ak bs s).2)).2)).1),.int .i64 ((Ak bs ((Ak bs ((Ak bs ((Ak bs s).2)).2)).2)).1),.int .i64 ((Ak bs ((Ak bs ((Ak bs ((Ak bs ((Ak bs s).2)).2)).2)).2)).1),.slice A13 ((((Bf bs i (Ay bs 6 (Aw bs 5 s)).2).1)++[(Ak bs ((Bf bs i (Ay bs 6 (Aw bs 5 s)).2).2)).1]).length) c14,.slice none 0 0] 69,blk b1 [.int .i64 0,.int .i64 0,.int .i64 0,.int .i64 0,.int .i64 0,.slice none 0 0,.slice none 0 0] 69,Y (Ai .i64) (.slice A13 ((((Bf bs i (Ay bs 6 (Aw bs 5 s)).2).1)++[(Ak bs ((Bf bs i (Ay bs 6 (Aw bs 5 s)).2).2)).1]).length) c14) (((Bf bs i (Ay bs 6 (Aw bs 5 s)).2).1)++[(Ak bs ((Bf bs i (Ay bs 6 (Aw bs 5 s)).2).2)).1]),blk b11 [.int .i64 ((Ak bs ((Bf bs i (Ay bs 6 (Aw bs 5 s)).2).2)).1)] 3,blk r [vb,.int .i64 (((Ak bs ((Bf bs i (Ay bs 6 (Aw bs 5 s)).2).2)).2).at_),.bool (((Ak bs ((Bf bs i (Ay bs 6 (Aw bs 5 s)).2).2)).2).bad)] 115] [Ae AP vb bs]:=H
   replace H:=H.p1
   refine AG ⟨_,H⟩ (BN (Bb (Z (Ad (V U U (Be (z:=((i+1:Nat):Int)) U U U (by rw [AI (by omega) (by omega)];omega)) (Ac U (Ab ?_)))))))
   replace H:=H.p1.p4.p3.k4.tellK (ys:=(Bf bs (i+1) (Ay bs 6 (Aw bs 5 s)).2).1) (by rfl)|>.h2 (A:=Y (Ai .i64) (.slice A13 ((((Bf bs i (Ay bs 6 (Aw bs 5 s)).2).1)++[(Ak bs ((Bf bs i (Ay bs 6 (Aw bs 5 s)).2).2)).1]).length) c14) ((Bf bs (i+1) (Ay bs 6 (Aw bs 5 s)).2).1)) (B:=blk r [vb,.int .i64 (((Bf bs (i+1) (Ay bs 6 (Aw bs 5 s)).2).2).at_),.bool (((Bf bs (i+1) (Ay bs 6 (Aw bs 5 s)).2).2).bad)] 115)|>.p1
   exact Bo (s:=(i,undef)) (i+1,.slice A13 ((((Bf bs i (Ay bs 6 (Aw bs 5 s)).2).1)++[(Ak bs ((Bf bs i (Ay bs 6 (Aw bs 5 s)).2).2)).1]).length) c14) ⟨rfl,rfl,rfl,rfl,rfl,trivial⟩ ⟨H,by (try dsimp only);omega⟩ (by (try dsimp only);omega)
  replace H:=H.p1
  refine sc (HA r vb bs ((Bf bs i (Ay bs 6 (Aw bs 5 s)).2).2) (by first |assumption|omega) (by first |assumption|omega)) H (lR 0 U l0) U U (Av Hq U U) ?_
  rintro _ _ w ⟨rfl,rfl⟩ H
  replace H:=H.h1 (A:=blk r [vb,.int .i64 (((Ak bs ((Bf bs i (Ay bs 6 (Aw bs 5 s)).2).2)).2).at_),.bool (((Ak bs ((Bf bs i (Ay bs 6 (Aw bs 5 s)).2).2)).2).bad)] 115)
  have h6418:=GD (b:=bs) (s:=(Bf bs i (Ay bs 6 (Aw bs 5 s)).2).2) (by omega) (by assumption)
  replace H:=H.p1
  refine AG ⟨_,H⟩ ?_
  refine Gu U U ?_ ?_
  ·refine V U U (An U DY U (H.cellI 3 U U)) (AG ⟨_,H⟩ (AO U (Cb (parts:=[(0,.tmp 23)]) (vs:=[.int .i64 ((Ak bs ((Bf bs i (Ay bs 6 (Aw bs 5 s)).2).2)).1)]) (cs:=[.int .i64 ((Ak bs ((Bf bs i (Ay bs 6 (Aw bs 5 s)).2).2)).1)]) U U U DA E2 U (by decide) (by decide) U U H (fun b19 w H=>?_))))
   replace H:=H.h1 (A:=blk b19 [.int .i64 ((Ak bs ((Bf bs i (Ay bs 6 (Aw bs 5 s)).2).2)).1)] 3)|>.p1
   refine AG ⟨_,H⟩ (AO U ?_)
   replace H:=H.p3
   refine CA (xs:=(Bf bs i (Ay bs 6 (Aw bs 5 s)).2).1) (ys:=[(Ak bs ((Bf bs i (Ay bs 6 (Aw bs 5 s)).2).2)).1]) U U U DA E2 U (by decide) U U H (by first |omega|(simp only [List.length_append,List.length_cons,List.length_nil];omega)) (fun F hA hR=>Cy (hA _ (List.mem_of_getElem? (i:=1) U)) U (by decide) (Bc.flat_eq.2 U)) (fun v20 w H=>?_)
   replace H:=H.h1 (A:=Y (Ai .i64) v20 (((Bf bs i (Ay bs 6 (Aw bs 5 s)).2).1)++[(Ak bs ((Bf bs i (Ay bs 6 (Aw bs 5 s)).2).2)).1]))|>.p1
   refine AG ⟨_,H⟩ (Ao U U U (fun w ⟨Ar,H⟩=>Aj U Gd U) (AO U ?_))
   obtain ⟨A21,c22,rfl,hc23,hm24,hp25⟩:=H.fA 1 rfl
   replace H:=H.p4
   refine Bx U U U DY U U H U (Nat.le_of_ble_eq_true U) (fun u hu=>by simp [Value.cells] at hu;subst hu;rfl) (fun w H=>?_)
   replace H:Hd _ _ _ [blk b7 [.int .i64 ((Ak bs s).1),.int .i64 ((Ak bs ((Ak bs s).2)).1),.int .i64 ((Ak bs ((Ak bs ((Ak bs s).2)).2)).1),.int .i64 ((Ak bs ((Ak bs ((Ak bs ((Ak bs s).2)).2)).2)).1),.int .i64 ((Ak bs ((Ak bs ((Ak bs ((Ak bs ((Ak bs s).2)).2)).2)).2)).1),.slice A21 ((((Bf bs i (Ay bs 6 (Aw bs 5 s)).2).1)++[(Ak bs ((Bf bs i (Ay bs 6 (Aw bs 5 s)).2).2)).1]).length) c22,.slice none 0 0] 69,blk b1 [.int .i64 0,.int .i64 0,.int .i64 0,.int .i64 0,.int .i64 0,.slice none 0 0,.slice none 0 0] 69,Y (Ai .i64) (.slice A21 ((((Bf bs i (Ay bs 6 (Aw bs 5 s)).2).1)++[(Ak bs ((Bf bs i (Ay bs 6 (Aw bs 5 s)).2).2)).1]).length) c22) (((Bf bs i (Ay bs 6 (Aw bs 5 s)).2).1)++[(Ak bs ((Bf bs i (Ay bs 6 (Aw bs 5 s)).2).2)).1]),blk b19 [.int .i64 ((Ak bs ((Bf bs i (Ay bs 6 (Aw bs 5 s)).2).2)).1)] 3,blk r [vb,.int .i64 (((Ak bs ((Bf bs i (Ay bs 6 (Aw bs 5 s)).2).2)).2).at_),.bool (((Ak bs ((Bf bs i (Ay bs 6 (Aw bs 5 s)).2).2)).2).bad)] 115] [Ae AP vb bs]:=H
   replace H:=H.p1
   refine AG ⟨_,H⟩ (BN (Bb (Z (Ad (V U U (Be (z:=((i+1:Nat):Int)) U U U (by rw [AI (by omega) (by omega)];omega)) (Ac U (Ab ?_)))))))
   replace H:=H.p1.p4.p3.k4.tellK (ys:=(Bf bs (i+1) (Ay bs 6 (Aw bs 5 s)).2).1) (by rfl)|>.h2 (A:=Y (Ai .i64) (.slice A21 ((((Bf bs i (Ay bs 6 (Aw bs 5 s)).2).1)++[(Ak bs ((Bf bs i (Ay bs 6 (Aw bs 5 s)).2).2)).1]).length) c22) ((Bf bs (i+1) (Ay bs 6 (Aw bs 5 s)).2).1)) (B:=blk r [vb,.int .i64 (((Bf bs (i+1) (Ay bs 6 (Aw bs 5 s)).2).2).at_),.bool (((Bf bs (i+1) (Ay bs 6 (Aw bs 5 s)).2).2).bad)] 115)|>.p1
   exact Bo (s:=(i,undef)) (i+1,.slice A21 ((((Bf bs i (Ay bs 6 (Aw bs 5 s)).2).1)++[(Ak bs ((Bf bs i (Ay bs 6 (Aw bs 5 s)).2).2)).1]).length) c22) ⟨rfl,rfl,rfl,rfl,rfl,trivial⟩ ⟨H,by (try dsimp only);omega⟩ (by (try dsimp only);omega)
  refine Cb (parts:=[(0,.tmp 23)]) (vs:=[.int .i64 ((Ak bs ((Bf bs i (Ay bs 6 (Aw bs 5 s)).2).2)).1)]) (cs:=[.int .i64 ((Ak bs ((Bf bs i (Ay bs 6 (Aw bs 5 s)).2).2)).1)]) U U U DA E2 U (by decide) (by decide) U U H (fun b26 w H=>?_)
  replace H:=H.h1 (A:=blk b26 [.int .i64 ((Ak bs ((Bf bs i (Ay bs 6 (Aw bs 5 s)).2).2)).1)] 3)|>.p1
  refine AG ⟨_,H⟩ (AO U (V U U (An U DY U (H.cellI 4 U U)) (AG ⟨_,H⟩ (AO U ?_))))
  replace H:=H.p3
  refine CA (xs:=(Bf bs i (Ay bs 6 (Aw bs 5 s)).2).1) (ys:=[(Ak bs ((Bf bs i (Ay bs 6 (Aw bs 5 s)).2).2)).1]) U U U DA E2 U (by decide) U U H (by first |omega|(simp only [List.length_append,List.length_cons,List.length_nil];omega)) (fun F hA hR=>Cy (hA _ (List.mem_of_getElem? (i:=1) U)) U (by decide) (Bc.flat_eq.2 U)) (fun v27 w H=>?_)
  replace H:=H.h1 (A:=Y (Ai .i64) v27 (((Bf bs i (Ay bs 6 (Aw bs 5 s)).2).1)++[(Ak bs ((Bf bs i (Ay bs 6 (Aw bs 5 s)).2).2)).1]))|>.p1
  refine AG ⟨_,H⟩ (Ao U U U (fun w ⟨Ar,H⟩=>Aj U Gd U) (AO U ?_))
  obtain ⟨A28,c29,rfl,hc30,hm31,hp32⟩:=H.fA 1 rfl
  replace H:=H.p4
  refine Bx U U U DY U U H U (Nat.le_of_ble_eq_true U) (fun u hu=>by simp [Value.cells] at hu;subst hu;rfl) (fun w H=>?_)
  replace H:Hd _ _ _ [blk b7 [.int .i64 ((Ak bs s).1),.int .i64 ((Ak bs ((Ak bs s).2)).1),.int .i64 ((Ak bs ((Ak bs ((Ak bs s).2)).2)).1),.int .i64 ((Ak bs ((Ak bs ((Ak bs ((Ak bs s).2)).2)).2)).1),.int .i64 ((Ak bs ((Ak bs ((Ak bs ((Ak bs ((Ak bs s).2)).2)).2)).2)).1),.slice A28 ((((Bf bs i (Ay bs 6 (Aw bs 5 s)).2).1)++[(Ak bs ((Bf bs i (Ay bs 6 (Aw bs 5 s)).2).2)).1]).length) c29,.slice none 0 0] 69,blk b1 [.int .i64 0,.int .i64 0,.int .i64 0,.int .i64 0,.int .i64 0,.slice none 0 0,.slice none 0 0] 69,Y (Ai .i64) (.slice A28 ((((Bf bs i (Ay bs 6 (Aw bs 5 s)).2).1)++[(Ak bs ((Bf bs i (Ay bs 6 (Aw bs 5 s)).2).2)).1]).length) c29) (((Bf bs i (Ay bs 6 (Aw bs 5 s)).2).1)++[(Ak bs ((Bf bs i (Ay bs 6 (Aw bs 5 s)).2).2)).1]),blk b26 [.int .i64 ((Ak bs ((Bf bs i (Ay bs 6 (Aw bs 5 s)).2).2)).1)] 3,blk r [vb,.int .i64 (((Ak bs ((Bf bs i (Ay bs 6 (Aw bs 5 s)).2).2)).2).at_),.bool (((Ak bs ((Bf bs i (Ay bs 6 (Aw bs 5 s)).2).2)).2).bad)] 115] [Ae AP vb bs]:=H
  replace H:=H.p1
  refine AG ⟨_,H⟩ (BN (Bb (Z (Ad (V U U (Be (z:=((i+1:Nat):Int)) U U U (by rw [AI (by omega) (by omega)];omega)) (Ac U (Ab ?_)))))))
  replace H:=H.p1.p4.p3.k4.tellK (ys:=(Bf bs (i+1) (Ay bs 6 (Aw bs 5 s)).2).1) (by rfl)|>.h2 (A:=Y (Ai .i64) (.slice A28 ((((Bf bs i (Ay bs 6 (Aw bs 5 s)).2).1)++[(Ak bs ((Bf bs i (Ay bs 6 (Aw bs 5 s)).2).2)).1]).length) c29) ((Bf bs (i+1) (Ay bs 6 (Aw bs 5 s)).2).1)) (B:=blk r [vb,.int .i64 (((Bf bs (i+1) (Ay bs 6 (Aw bs 5 s)).2).2).at_),.bool (((Bf bs (i+1) (Ay bs 6 (Aw bs 5 s)).2).2).bad)] 115)|>.p1
  exact Bo (s:=(i,undef)) (i+1,.slice A28 ((((Bf bs i (Ay bs 6 (Aw bs 5 s)).2).1)++[(Ak bs ((Bf bs i (Ay bs 6 (Aw bs 5 s)).2).2)).1]).length) c29) ⟨rfl,rfl,rfl,rfl,rfl,trivial⟩ ⟨H,by (try dsimp only);omega⟩ (by (try dsimp only);omega)
 refine BW (A8 (A8 (BX (Z (Aa (Aa ?_))))))
 have hie:i=(Ay bs 6 (Aw bs 5 s)).1.toNat:=by omega
 replace H:=H.p1.h3 (A:=Y (Ai .i64) q ((Bf bs i (Ay bs 6 (Aw bs 5 s)).2).1)) (B:=blk r [vb,.int .i64 (((Bf bs i (Ay bs 6 (Aw bs 5 s)).2).2).at_),.bool (((Bf bs i (Ay bs 6 (Aw bs 5 s)).2).2).bad)] 115) (C:=blk b7 [.int .i64 ((Ak bs s).1),.int .i64 ((Ak bs ((Ak bs s).2)).1),.int .i64 ((Ak bs ((Ak bs ((Ak bs s).2)).2)).1),.int .i64 ((Ak bs ((Ak bs ((Ak bs ((Ak bs s).2)).2)).2)).1),.int .i64 ((Ak bs ((Ak bs ((Ak bs ((Ak bs ((Ak bs s).2)).2)).2)).2)).1),q,.slice none 0 0] 69)
 rw [hie] at H
 replace H:Hd _ _ _ [Y (Ai .i64) q ((AJ bs (Aw bs 5 s)).1),blk r [vb,.int .i64 (((AJ bs (Aw bs 5 s)).2).at_),.bool (((AJ bs (Aw bs 5 s)).2).bad)] 115,blk b7 [.int .i64 ((Ak bs s).1),.int .i64 ((Ak bs ((Ak bs s).2)).1),.int .i64 ((Ak bs ((Ak bs ((Ak bs s).2)).2)).1),.int .i64 ((Ak bs ((Ak bs ((Ak bs ((Ak bs s).2)).2)).2)).1),.int .i64 ((Ak bs ((Ak bs ((Ak bs ((Ak bs ((Ak bs s).2)).2)).2)).2)).1),q,.slice none 0 0] 69,blk b1 [.int .i64 0,.int .i64 0,.int .i64 0,.int .i64 0,.int .i64 0,.slice none 0 0,.slice none 0 0] 69] [Ae AP vb bs]:=H
 have h66:AL ((AJ bs (Aw bs 5 s)).2).at_:=KS (by omega) _ h6c
 refine Ad (Ac U ?_)
 replace H:=H.p1
 refine sc (RP r vb bs ((AJ bs (Aw bs 5 s)).2) 40 (by first |assumption|omega) (by first |assumption|omega)) H (lR 0 U l0) U U (Av Qr U U) ?_
 rintro _ _ w ⟨rfl,rfl⟩ H
 replace H:=H.h1 (A:=blk r [vb,.int .i64 (((Ay bs 40 ((AJ bs (Aw bs 5 s)).2)).2).at_),.bool (((Ay bs 40 ((AJ bs (Aw bs 5 s)).2)).2).bad)] 115)
 have h6433:=J9 (b:=bs) (s:=(AJ bs (Aw bs 5 s)).2) (m:=40) (by omega) (by assumption)
 refine Ac U (Ab (Z (AX ?_)))
 have hck:=OB (b:=bs) (s:=(AJ bs (Aw bs 5 s)).2) (m:=40) (by omega)
 have h7c:AL (Ay bs 40 ((AJ bs (Aw bs 5 s)).2)).2.at_:=J9 (by omega) h66
 replace H:=H.p2.p1.newnil Ag|>.tellK (ys:=(AQ bs 0 (Ay bs 40 ((AJ bs (Aw bs 5 s)).2)).2).1) (by rfl)|>.sel 5 [1,0,2,3,4] [] rfl (by kernel_rfl)
 replace H:Hd _ _ _ [blk r [vb,.int .i64 (((AQ bs 0 (Ay bs 40 ((AJ bs (Aw bs 5 s)).2)).2).2).at_),.bool (((AQ bs 0 (Ay bs 40 ((AJ bs (Aw bs 5 s)).2)).2).2).bad)] 115,Y Ag (.slice none 0 0) ((AQ bs 0 (Ay bs 40 ((AJ bs (Aw bs 5 s)).2)).2).1),blk b7 [.int .i64 ((Ak bs s).1),.int .i64 ((Ak bs ((Ak bs s).2)).1),.int .i64 ((Ak bs ((Ak bs ((Ak bs s).2)).2)).1),.int .i64 ((Ak bs ((Ak bs ((Ak bs ((Ak bs s).2)).2)).2)).1),.int .i64 ((Ak bs ((Ak bs ((Ak bs ((Ak bs ((Ak bs s).2)).2)).2)).2)).1),q,.slice none 0 0] 69,Y (Ai .i64) q ((AJ bs (Aw bs 5 s)).1),blk b1 [.int .i64 0,.int .i64 0,.int .i64 0,.int .i64 0,.int .i64 0,.slice none 0 0,.slice none 0 0] 69] [Ae AP vb bs]:=H
 refine B1 (σ:=Nat×Value) (fun (j,q2)=>[(0,.pointer (some ⟨r,0,none⟩)),(2,.pointer (some ⟨b1,0,none⟩)),(3,.pointer (some ⟨b7,0,none⟩)),(29,.int .i64 ((Ay bs 40 ((AJ bs (Aw bs 5 s)).2)).1)),(30,.int .i64 ((j:Nat):Int))]) (fun (j,q2) w=>(Hd w0 F0 w [blk r [vb,.int .i64 (((AQ bs j (Ay bs 40 ((AJ bs (Aw bs 5 s)).2)).2).2).at_),.bool (((AQ bs j (Ay bs 40 ((AJ bs (Aw bs 5 s)).2)).2).2).bad)] 115,Y Ag q2 ((AQ bs j (Ay bs 40 ((AJ bs (Aw bs 5 s)).2)).2).1),blk b7 [.int .i64 ((Ak bs s).1),.int .i64 ((Ak bs ((Ak bs s).2)).1),.int .i64 ((Ak bs ((Ak bs ((Ak bs s).2)).2)).1),.int .i64 ((Ak bs ((Ak bs ((Ak bs ((Ak bs s).2)).2)).2)).1),.int .i64 ((Ak bs ((Ak bs ((Ak bs ((Ak bs ((Ak bs s).2)).2)).2)).2)).1),q,q2] 69,Y (Ai .i64) q ((AJ bs (Aw bs 5 s)).1),blk b1 [.int .i64 0,.int .i64 0,.int .i64 0,.int .i64 0,.int .i64 0,.slice none 0 0,.slice none 0 0] 69] [Ae AP vb bs])∧(((j:Nat):Int)≤(Ay bs 40 ((AJ bs (Aw bs 5 s)).2)).1)) (fun (j,q2)=>(Ay bs 40 ((AJ bs (Aw bs 5 s)).2)).1.toNat - j) (0,.slice none 0 0) ⟨rfl,rfl,rfl,rfl,rfl,trivial⟩ ⟨H,by (try dsimp only);omega⟩ ?_
 rintro ⟨j,q2⟩ w ⟨H,hj⟩
 have h7i:AL (AQ bs j (Ay bs 40 ((AJ bs (Aw bs 5 s)).2)).2).2.at_:=Rv (by omega) j h7c
 have hpl:=Rw bs (Ay bs 40 ((AJ bs (Aw bs 5 s)).2)).2 j
 refine Aa (Ad (V U U (Br U U U) (Ab (Z (Aa ?_)))))
 refine AC U (fun h34=>?_) (fun h34=>?_)
 ·refine AB (Z (Aa (AX (Aa (Ad (Ac U (sc (Nh r vb bs ((AQ bs j (Ay bs 40 ((AJ bs (Aw bs 5 s)).2)).2).2) (by first |assumption|omega) (by first |assumption|omega)) H (lR 0 U l0) U U (Av Mq U U) ?_)))))))
  rintro _ _ w ⟨rfl,rfl⟩ H
  replace H:=H.h3 (A:=blk r [vb,.int .i64 (((AM bs ((AQ bs j (Ay bs 40 ((AJ bs (Aw bs 5 s)).2)).2).2)).2).at_),.bool (((AM bs ((AQ bs j (Ay bs 40 ((AJ bs (Aw bs 5 s)).2)).2).2)).2).bad)] 115) (B:=Y Ag q2 ((AQ bs j (Ay bs 40 ((AJ bs (Aw bs 5 s)).2)).2).1)) (C:=blk b7 [.int .i64 ((Ak bs s).1),.int .i64 ((Ak bs ((Ak bs s).2)).1),.int .i64 ((Ak bs ((Ak bs ((Ak bs s).2)).2)).1),.int .i64 ((Ak bs ((Ak bs ((Ak bs ((Ak bs s).2)).2)).2)).1),.int .i64 ((Ak bs ((Ak bs ((Ak bs ((Ak bs ((Ak bs s).2)).2)).2)).2)).1),q,q2] 69)
  have h6435:=JS (b:=bs) (s:=(AQ bs j (Ay bs 40 ((AJ bs (Aw bs 5 s)).2)).2).2) (by omega) (by assumption)
  refine Ac U (Ab (Z ?_))
  replace H:=H.p4.p4
  refine Cc (.e 0 (.e 2 (.e 3 (.b 1 4 (.m 4 (.e 5 (.m 6 (.m 7 (.e 8 (.m 9 .z)))))) (.e 5 (.b 1 6 (.m 6 (.m 7 (.e 8 (.m 9 .z)))) (.m 1 (.m 7 (.e 8 (.m 9 .z)))))))))) (fun w=>∃ Ar,Hd w0 F0 w (Y (Ai .i64) q ((AJ bs (Aw bs 5 s)).1)::blk b1 [.int .i64 0,.int .i64 0,.int .i64 0,.int .i64 0,.int .i64 0,.slice none 0 0,.slice none 0 0] 69::Ar) [Ae AP vb bs]) mo (by kernel_rfl) (fun w H=>⟨_,H⟩) H (fun w H=>(Ao U U U (fun w ⟨Ar,H⟩=>Aj U FP U) (Au U (Au U ?_))))
  refine Gu U U ?_ ?_
  ·refine V U U (An U DG U (H.cellI 4 U U)) (AG ⟨_,H⟩ (AO U ?_))
   replace H:=H.p2
   refine sc (Nh r vb bs ((AM bs ((AQ bs j (Ay bs 40 ((AJ bs (Aw bs 5 s)).2)).2).2)).2) (by first |assumption|omega) (by first |assumption|omega)) H (lR 0 U l0) U U (Av Mq U U) ?_
   rintro _ _ w ⟨rfl,rfl⟩ H
   replace H:=H.h1 (A:=blk r [vb,.int .i64 (((AM bs ((AM bs ((AQ bs j (Ay bs 40 ((AJ bs (Aw bs 5 s)).2)).2).2)).2)).2).at_),.bool (((AM bs ((AM bs ((AQ bs j (Ay bs 40 ((AJ bs (Aw bs 5 s)).2)).2).2)).2)).2).bad)] 115)
   have h6436:=JS (b:=bs) (s:=(AM bs ((AQ bs j (Ay bs 40 ((AJ bs (Aw bs 5 s)).2)).2).2)).2) (by omega) (by assumption)
   replace H:=H.p2.p2
   refine AG ⟨_,H⟩ (Ao U U U (fun w ⟨Ar,H⟩=>Di (parts:=[(0,.tmp 36),(1,.tmp 38)]) (vs:=[.string ((AM bs ((AQ bs j (Ay bs 40 ((AJ bs (Aw bs 5 s)).2)).2).2)).1),.string ((AM bs ((AM bs ((AQ bs j (Ay bs 40 ((AJ bs (Aw bs 5 s)).2)).2).2)).2)).1)]) (cs:=[.string ((AM bs ((AQ bs j (Ay bs 40 ((AJ bs (Aw bs 5 s)).2)).2).2)).1),.string ((AM bs ((AM bs ((AQ bs j (Ay bs 40 ((AJ bs (Aw bs 5 s)).2)).2).2)).2)).1)]) U LK U U) (AO U (Cb (parts:=[(0,.tmp 39)]) (vs:=[.agg #[.string ((AM bs ((AQ bs j (Ay bs 40 ((AJ bs (Aw bs 5 s)).2)).2).2)).1),.string ((AM bs ((AM bs ((AQ bs j (Ay bs 40 ((AJ bs (Aw bs 5 s)).2)).2).2)).2)).1)]]) (cs:=[.string ((AM bs ((AQ bs j (Ay bs 40 ((AJ bs (Aw bs 5 s)).2)).2).2)).1),.string ((AM bs ((AM bs ((AQ bs j (Ay bs 40 ((AJ bs (Aw bs 5 s)).2)).2).2)).2)).1)]) U U U BJ De U (by decide) (by decide) U U H (fun b37 w H=>?_))))
   replace H:=H.h1 (A:=blk b37 [.string ((AM bs ((AQ bs j (Ay bs 40 ((AJ bs (Aw bs 5 s)).2)).2).2)).1),.string ((AM bs ((AM bs ((AQ bs j (Ay bs 40 ((AJ bs (Aw bs 5 s)).2)).2).2)).2)).1)] 122)|>.p2|>.p2
   refine AG ⟨_,H⟩ (AO U ?_)
   replace H:=H.p4
   refine CA (xs:=(AQ bs j (Ay bs 40 ((AJ bs (Aw bs 5 s)).2)).2).1) (ys:=[(⟨(AM bs ((AQ bs j (Ay bs 40 ((AJ bs (Aw bs 5 s)).2)).2).2)).1,(AM bs ((AM bs ((AQ bs j (Ay bs 40 ((AJ bs (Aw bs 5 s)).2)).2).2)).2)).1⟩:Ap)]) U U U BJ De U (by decide) U U H (by first |omega|(simp only [List.length_append,List.length_cons,List.length_nil];omega)) (fun F hA hR=>Cy (hA _ (List.mem_of_getElem? (i:=2) U)) U (by decide) (Bc.flat_eq.2 U)) (fun v38 w H=>?_)
   replace H:=H.h1 (A:=Y Ag v38 (((AQ bs j (Ay bs 40 ((AJ bs (Aw bs 5 s)).2)).2).1)++[(⟨(AM bs ((AQ bs j (Ay bs 40 ((AJ bs (Aw bs 5 s)).2)).2).2)).1,(AM bs ((AM bs ((AQ bs j (Ay bs 40 ((AJ bs (Aw bs 5 s)).2)).2).2)).2)).1⟩:Ap)]))|>.p2|>.p2
   refine AG ⟨_,H⟩ (Ao U U U (fun w ⟨Ar,H⟩=>Aj U FP U) (AO U ?_))
   obtain ⟨A39,c40,rfl,hc41,hm42,hp43⟩:=H.fA 2 rfl
   replace H:=H.p5
   refine Bx U U U DG U U H U (Nat.le_of_ble_eq_true U) (fun u hu=>by simp [Value.cells] at hu;subst hu;rfl) (fun w H=>?_)
   replace H:Hd _ _ _ [blk b7 [.int .i64 ((Ak bs s).1),.int .i64 ((Ak bs ((Ak bs s).2)).1),.int .i64 ((Ak bs ((Ak bs ((Ak bs s).2)).2)).1),.int .i64 ((Ak bs ((Ak bs ((Ak bs ((Ak bs s).2)).2)).2)).1),.int .i64 ((Ak bs ((Ak bs ((Ak bs ((Ak bs ((Ak bs s).2)).2)).2)).2)).1),q,.slice A39 ((((AQ bs j (Ay bs 40 ((AJ bs (Aw bs 5 s)).2)).2).1)++[(⟨(AM bs ((AQ bs j (Ay bs 40 ((AJ bs (Aw bs 5 s)).2)).2).2)).1,(AM bs ((AM bs ((AQ bs j (Ay bs 40 ((AJ bs (Aw bs 5 s)).2)).2).2)).2)).1⟩:Ap)]).length) c40] 69,Y (Ai .i64) q ((AJ bs (Aw bs 5 s)).1),blk b1 [.int .i64 0,.int .i64 0,.int .i64 0,.int .i64 0,.int .i64 0,.slice none 0 0,.slice none 0 0] 69,Y Ag (.slice A39 ((((AQ bs j (Ay bs 40 ((AJ bs (Aw bs 5 s)).2)).2).1)++[(⟨(AM bs ((AQ bs j (Ay bs 40 ((AJ bs (Aw bs 5 s)).2)).2).2)).1,(AM bs ((AM bs ((AQ bs j (Ay bs 40 ((AJ bs (Aw bs 5 s)).2)).2).2)).2)).1⟩:Ap)]).length) c40) (((AQ bs j (Ay bs 40 ((AJ bs (Aw bs 5 s)).2)).2).1)++[(⟨(AM bs ((AQ bs j (Ay bs 40 ((AJ bs (Aw bs 5 s)).2)).2).2)).1,(AM bs ((AM bs ((AQ bs j (Ay bs 40 ((AJ bs (Aw bs 5 s)).2)).2).2)).2)).1⟩:Ap)]),blk b37 [.string ((AM bs ((AQ bs j (Ay bs 40 ((AJ bs (Aw bs 5 s)).2)).2).2)).1),.string ((AM bs ((AM bs ((AQ bs j (Ay bs 40 ((AJ bs (Aw bs 5 s)).2)).2).2)).2)).1)] 122,blk r [vb,.int .i64 (((AM bs ((AM bs ((AQ bs j (Ay bs 40 ((AJ bs (Aw bs 5 s)).2)).2).2)).2)).2).at_),.bool (((AM bs ((AM bs ((AQ bs j (Ay bs 40 ((AJ bs (Aw bs 5 s)).2)).2).2)).2)).2).bad)] 115] [Ae AP vb bs]:=H
   replace H:=H.p2.p2
   refine AG ⟨_,H⟩ (BN (Bb (Z (Ad (V U U (Be (z:=((j+1:Nat):Int)) U U U (by rw [AI (by omega) (by omega)];omega)) (Ac U (Ab ?_)))))))
   replace H:=H.p2.p5.p4.k5.tellK (ys:=(AQ bs (j+1) (Ay bs 40 ((AJ bs (Aw bs 5 s)).2)).2).1) (by rfl)|>.h2 (A:=Y Ag (.slice A39 ((((AQ bs j (Ay bs 40 ((AJ bs (Aw bs 5 s)).2)).2).1)++[(⟨(AM bs ((AQ bs j (Ay bs 40 ((AJ bs (Aw bs 5 s)).2)).2).2)).1,(AM bs ((AM bs ((AQ bs j (Ay bs 40 ((AJ bs (Aw bs 5 s)).2)).2).2)).2)).1⟩:Ap)]).length) c40) ((AQ bs (j+1) (Ay bs 40 ((AJ bs (Aw bs 5 s)).2)).2).1)) (B:=blk r [vb,.int .i64 (((AQ bs (j+1) (Ay bs 40 ((AJ bs (Aw bs 5 s)).2)).2).2).at_),.bool (((AQ bs (j+1) (Ay bs 40 ((AJ bs (Aw bs 5 s)).2)).2).2).bad)] 115)|>.p1
   exact Bo (s:=(j,undef)) (j+1,.slice A39 ((((AQ bs j (Ay bs 40 ((AJ bs (Aw bs 5 s)).2)).2).1)++[(⟨(AM bs ((AQ bs j (Ay bs 40 ((AJ bs (Aw bs 5 s)).2)).2).2)).1,(AM bs ((AM bs ((AQ bs j (Ay bs 40 ((AJ bs (Aw bs 5 s)).2)).2).2)).2)).1⟩:Ap)]).length) c40) ⟨rfl,rfl,rfl,rfl,rfl,trivial⟩ ⟨H,by (try dsimp only);omega⟩ (by (try dsimp only);omega)
  replace H:=H.p2
  refine sc (Nh r vb bs ((AM bs ((AQ bs j (Ay bs 40 ((AJ bs (Aw bs 5 s)).2)).2).2)).2) (by first |assumption|omega) (by first |assumption|omega)) H (lR 0 U l0) U U (Av Mq U U) ?_
  rintro _ _ w ⟨rfl,rfl⟩ H
  replace H:=H.h1 (A:=blk r [vb,.int .i64 (((AM bs ((AM bs ((AQ bs j (Ay bs 40 ((AJ bs (Aw bs 5 s)).2)).2).2)).2)).2).at_),.bool (((AM bs ((AM bs ((AQ bs j (Ay bs 40 ((AJ bs (Aw bs 5 s)).2)).2).2)).2)).2).bad)] 115)
  have h6444:=JS (b:=bs) (s:=(AM bs ((AQ bs j (Ay bs 40 ((AJ bs (Aw bs 5 s)).2)).2).2)).2) (by omega) (by assumption)
  replace H:=H.p2.p2
  refine AG ⟨_,H⟩ (Ao U U U (fun w ⟨Ar,H⟩=>Di (parts:=[(0,.tmp 36),(1,.tmp 38)]) (vs:=[.string ((AM bs ((AQ bs j (Ay bs 40 ((AJ bs (Aw bs 5 s)).2)).2).2)).1),.string ((AM bs ((AM bs ((AQ bs j (Ay bs 40 ((AJ bs (Aw bs 5 s)).2)).2).2)).2)).1)]) (cs:=[.string ((AM bs ((AQ bs j (Ay bs 40 ((AJ bs (Aw bs 5 s)).2)).2).2)).1),.string ((AM bs ((AM bs ((AQ bs j (Ay bs 40 ((AJ bs (Aw bs 5 s)).2)).2).2)).2)).1)]) U LK U U) ?_)
  refine Gu U U ?_ ?_
  ·refine V U U (An U DG U (H.cellI 4 U U)) (AG ⟨_,H⟩ (AO U (Cb (parts:=[(0,.tmp 39)]) (vs:=[.agg #[.string ((AM bs ((AQ bs j (Ay bs 40 ((AJ bs (Aw bs 5 s)).2)).2).2)).1),.string ((AM bs ((AM bs ((AQ bs j (Ay bs 40 ((AJ bs (Aw bs 5 s)).2)).2).2)).2)).1)]]) (cs:=[.string ((AM bs ((AQ bs j (Ay bs 40 ((AJ bs (Aw bs 5 s)).2)).2).2)).1),.string ((AM bs ((AM bs ((AQ bs j (Ay bs 40 ((AJ bs (Aw bs 5 s)).2)).2).2)).2)).1)]) U U U BJ De U (by decide) (by decide) U U H (fun b45 w H=>?_))))
   replace H:=H.h1 (A:=blk b45 [.string ((AM bs ((AQ bs j (Ay bs 40 ((AJ bs (Aw bs 5 s)).2)).2).2)).1),.string ((AM bs ((AM bs ((AQ bs j (Ay bs 40 ((AJ bs (Aw bs 5 s)).2)).2).2)).2)).1)] 122)|>.p2|>.p2
   refine AG ⟨_,H⟩ (AO U ?_)
   replace H:=H.p4
   refine CA (xs:=(AQ bs j (Ay bs 40 ((AJ bs (Aw bs 5 s)).2)).2).1) (ys:=[(⟨(AM bs ((AQ bs j (Ay bs 40 ((AJ bs (Aw bs 5 s)).2)).2).2)).1,(AM bs ((AM bs ((AQ bs j (Ay bs 40 ((AJ bs (Aw bs 5 s)).2)).2).2)).2)).1⟩:Ap)]) U U U BJ De U (by decide) U U H (by first |omega|(simp only [List.length_append,List.length_cons,List.length_nil];omega)) (fun F hA hR=>Cy (hA _ (List.mem_of_getElem? (i:=2) U)) U (by decide) (Bc.flat_eq.2 U)) (fun v46 w H=>?_)
   replace H:=H.h1 (A:=Y Ag v46 (((AQ bs j (Ay bs 40 ((AJ bs (Aw bs 5 s)).2)).2).1)++[(⟨(AM bs ((AQ bs j (Ay bs 40 ((AJ bs (Aw bs 5 s)).2)).2).2)).1,(AM bs ((AM bs ((AQ bs j (Ay bs 40 ((AJ bs (Aw bs 5 s)).2)).2).2)).2)).1⟩:Ap)]))|>.p2|>.p2
   refine AG ⟨_,H⟩ (Ao U U U (fun w ⟨Ar,H⟩=>Aj U FP U) (AO U ?_))
   obtain ⟨A47,c48,rfl,hc49,hm50,hp51⟩:=H.fA 2 rfl
   replace H:=H.p5
   refine Bx U U U DG U U H U (Nat.le_of_ble_eq_true U) (fun u hu=>by simp [Value.cells] at hu;subst hu;rfl) (fun w H=>?_)
   replace H:Hd _ _ _ [blk b7 [.int .i64 ((Ak bs s).1),.int .i64 ((Ak bs ((Ak bs s).2)).1),.int .i64 ((Ak bs ((Ak bs ((Ak bs s).2)).2)).1),.int .i64 ((Ak bs ((Ak bs ((Ak bs ((Ak bs s).2)).2)).2)).1),.int .i64 ((Ak bs ((Ak bs ((Ak bs ((Ak bs ((Ak bs s).2)).2)).2)).2)).1),q,.slice A47 ((((AQ bs j (Ay bs 40 ((AJ bs (Aw bs 5 s)).2)).2).1)++[(⟨(AM bs ((AQ bs j (Ay bs 40 ((AJ bs (Aw bs 5 s)).2)).2).2)).1,(AM bs ((AM bs ((AQ bs j (Ay bs 40 ((AJ bs (Aw bs 5 s)).2)).2).2)).2)).1⟩:Ap)]).length) c48] 69,Y (Ai .i64) q ((AJ bs (Aw bs 5 s)).1),blk b1 [.int .i64 0,.int .i64 0,.int .i64 0,.int .i64 0,.int .i64 0,.slice none 0 0,.slice none 0 0] 69,Y Ag (.slice A47 ((((AQ bs j (Ay bs 40 ((AJ bs (Aw bs 5 s)).2)).2).1)++[(⟨(AM bs ((AQ bs j (Ay bs 40 ((AJ bs (Aw bs 5 s)).2)).2).2)).1,(AM bs ((AM bs ((AQ bs j (Ay bs 40 ((AJ bs (Aw bs 5 s)).2)).2).2)).2)).1⟩:Ap)]).length) c48) (((AQ bs j (Ay bs 40 ((AJ bs (Aw bs 5 s)).2)).2).1)++[(⟨(AM bs ((AQ bs j (Ay bs 40 ((AJ bs (Aw bs 5 s)).2)).2).2)).1,(AM bs ((AM bs ((AQ bs j (Ay bs 40 ((AJ bs (Aw bs 5 s)).2)).2).2)).2)).1⟩:Ap)]),blk b45 [.string ((AM bs ((AQ bs j (Ay bs 40 ((AJ bs (Aw bs 5 s)).2)).2).2)).1),.string ((AM bs ((AM bs ((AQ bs j (Ay bs 40 ((AJ bs (Aw bs 5 s)).2)).2).2)).2)).1)] 122,blk r [vb,.int .i64 (((AM bs ((AM bs ((AQ bs j (Ay bs 40 ((AJ bs (Aw bs 5 s)).2)).2).2)).2)).2).at_),.bool (((AM bs ((AM bs ((AQ bs j (Ay bs 40 ((AJ bs (Aw bs 5 s)).2)).2).2)).2)).2).bad)] 115] [Ae AP vb bs]:=H
   replace H:=H.p2.p2
   refine AG ⟨_,H⟩ (BN (Bb (Z (Ad (V U U (Be (z:=((j+1:Nat):Int)) U U U (by rw [AI (by omega) (by omega)];omega)) (Ac U (Ab ?_)))))))
   replace H:=H.p2.p5.p4.k5.tellK (ys:=(AQ bs (j+1) (Ay bs 40 ((AJ bs (Aw bs 5 s)).2)).2).1) (by rfl)|>.h2 (A:=Y Ag (.slice A47 ((((AQ bs j (Ay bs 40 ((AJ bs (Aw bs 5 s)).2)).2).1)++[(⟨(AM bs ((AQ bs j (Ay bs 40 ((AJ bs (Aw bs 5 s)).2)).2).2)).1,(AM bs ((AM bs ((AQ bs j (Ay bs 40 ((AJ bs (Aw bs 5 s)).2)).2).2)).2)).1⟩:Ap)]).length) c48) ((AQ bs (j+1) (Ay bs 40 ((AJ bs (Aw bs 5 s)).2)).2).1)) (B:=blk r [vb,.int .i64 (((AQ bs (j+1) (Ay bs 40 ((AJ bs (Aw bs 5 s)).2)).2).2).at_),.bool (((AQ bs (j+1) (Ay bs 40 ((AJ bs (Aw bs 5 s)).2)).2).2).bad)] 115)|>.p1
   exact Bo (s:=(j,undef)) (j+1,.slice A47 ((((AQ bs j (Ay bs 40 ((AJ bs (Aw bs 5 s)).2)).2).1)++[(⟨(AM bs ((AQ bs j (Ay bs 40 ((AJ bs (Aw bs 5 s)).2)).2).2)).1,(AM bs ((AM bs ((AQ bs j (Ay bs 40 ((AJ bs (Aw bs 5 s)).2)).2).2)).2)).1⟩:Ap)]).length) c48) ⟨rfl,rfl,rfl,rfl,rfl,trivial⟩ ⟨H,by (try dsimp only);omega⟩ (by (try dsimp only);omega)
  refine Cb (parts:=[(0,.tmp 39)]) (vs:=[.agg #[.string ((AM bs ((AQ bs j (Ay bs 40 ((AJ bs (Aw bs 5 s)).2)).2).2)).1),.string ((AM bs ((AM bs ((AQ bs j (Ay bs 40 ((AJ bs (Aw bs 5 s)).2)).2).2)).2)).1)]]) (cs:=[.string ((AM bs ((AQ bs j (Ay bs 40 ((AJ bs (Aw bs 5 s)).2)).2).2)).1),.string ((AM bs ((AM bs ((AQ bs j (Ay bs 40 ((AJ bs (Aw bs 5 s)).2)).2).2)).2)).1)]) U U U BJ De U (by decide) (by decide) U U H (fun b52 w H=>?_)
  replace H:=H.h1 (A:=blk b52 [.string ((AM bs ((AQ bs j (Ay bs 40 ((AJ bs (Aw bs 5 s)).2)).2).2)).1),.string ((AM bs ((AM bs ((AQ bs j (Ay bs 40 ((AJ bs (Aw bs 5 s)).2)).2).2)).2)).1)] 122)|>.p2|>.p2
  refine AG ⟨_,H⟩ (AO U (V U U (An U DG U (H.cellI 5 U U)) (AG ⟨_,H⟩ (AO U ?_))))
  replace H:=H.p4
  refine CA (xs:=(AQ bs j (Ay bs 40 ((AJ bs (Aw bs 5 s)).2)).2).1) (ys:=[(⟨(AM bs ((AQ bs j (Ay bs 40 ((AJ bs (Aw bs 5 s)).2)).2).2)).1,(AM bs ((AM bs ((AQ bs j (Ay bs 40 ((AJ bs (Aw bs 5 s)).2)).2).2)).2)).1⟩:Ap)]) U U U BJ De U (by decide) U U H (by first |omega|(simp only [List.length_append,List.length_cons,List.length_nil];omega)) (fun F hA hR=>Cy (hA _ (List.mem_of_getElem? (i:=2) U)) U (by decide) (Bc.flat_eq.2 U)) (fun v53 w H=>?_)
  replace H:=H.h1 (A:=Y Ag v53 (((AQ bs j (Ay bs 40 ((AJ bs (Aw bs 5 s)).2)).2).1)++[(⟨(AM bs ((AQ bs j (Ay bs 40 ((AJ bs (Aw bs 5 s)).2)).2).2)).1,(AM bs ((AM bs ((AQ bs j (Ay bs 40 ((AJ bs (Aw bs 5 s)).2)).2).2)).2)).1⟩:Ap)]))|>.p2|>.p2
  refine AG ⟨_,H⟩ (Ao U U U (fun w ⟨Ar,H⟩=>Aj U FP U) (AO U ?_))
  obtain ⟨A54,c55,rfl,hc56,hm57,hp58⟩:=H.fA 2 rfl
  replace H:=H.p5
  refine Bx U U U DG U U H U (Nat.le_of_ble_eq_true U) (fun u hu=>by simp [Value.cells] at hu;subst hu;rfl) (fun w H=>?_)
  replace H:Hd _ _ _ [blk b7 [.int .i64 ((Ak bs s).1),.int .i64 ((Ak bs ((Ak bs s).2)).1),.int .i64 ((Ak bs ((Ak bs ((Ak bs s).2)).2)).1),.int .i64 ((Ak bs ((Ak bs ((Ak bs ((Ak bs s).2)).2)).2)).1),.int .i64 ((Ak bs ((Ak bs ((Ak bs ((Ak bs ((Ak bs s).2)).2)).2)).2)).1),q,.slice A54 ((((AQ bs j (Ay bs 40 ((AJ bs (Aw bs 5 s)).2)).2).1)++[(⟨(AM bs ((AQ bs j (Ay bs 40 ((AJ bs (Aw bs 5 s)).2)).2).2)).1,(AM bs ((AM bs ((AQ bs j (Ay bs 40 ((AJ bs (Aw bs 5 s)).2)).2).2)).2)).1⟩:Ap)]).length) c55] 69,Y (Ai .i64) q ((AJ bs (Aw bs 5 s)).1),blk b1 [.int .i64 0,.int .i64 0,.int .i64 0,.int .i64 0,.int .i64 0,.slice none 0 0,.slice none 0 0] 69,Y Ag (.slice A54 ((((AQ bs j (Ay bs 40 ((AJ bs (Aw bs 5 s)).2)).2).1)++[(⟨(AM bs ((AQ bs j (Ay bs 40 ((AJ bs (Aw bs 5 s)).2)).2).2)).1,(AM bs ((AM bs ((AQ bs j (Ay bs 40 ((AJ bs (Aw bs 5 s)).2)).2).2)).2)).1⟩:Ap)]).length) c55) (((AQ bs j (Ay bs 40 ((AJ bs (Aw bs 5 s)).2)).2).1)++[(⟨(AM bs ((AQ bs j (Ay bs 40 ((AJ bs (Aw bs 5 s)).2)).2).2)).1,(AM bs ((AM bs ((AQ bs j (Ay bs 40 ((AJ bs (Aw bs 5 s)).2)).2).2)).2)).1⟩:Ap)]),blk b52 [.string ((AM bs ((AQ bs j (Ay bs 40 ((AJ bs (Aw bs 5 s)).2)).2).2)).1),.string ((AM bs ((AM bs ((AQ bs j (Ay bs 40 ((AJ bs (Aw bs 5 s)).2)).2).2)).2)).1)] 122,blk r [vb,.int .i64 (((AM bs ((AM bs ((AQ bs j (Ay bs 40 ((AJ bs (Aw bs 5 s)).2)).2).2)).2)).2).at_),.bool (((AM bs ((AM bs ((AQ bs j (Ay bs 40 ((AJ bs (Aw bs 5 s)).2)).2).2)).2)).2).bad)] 115] [Ae AP vb bs]:=H
  replace H:=H.p2.p2
  refine AG ⟨_,H⟩ (BN (Bb (Z (Ad (V U U (Be (z:=((j+1:Nat):Int)) U U U (by rw [AI (by omega) (by omega)];omega)) (Ac U (Ab ?_)))))))
  replace H:=H.p2.p5.p4.k5.tellK (ys:=(AQ bs (j+1) (Ay bs 40 ((AJ bs (Aw bs 5 s)).2)).2).1) (by rfl)|>.h2 (A:=Y Ag (.slice A54 ((((AQ bs j (Ay bs 40 ((AJ bs (Aw bs 5 s)).2)).2).1)++[(⟨(AM bs ((AQ bs j (Ay bs 40 ((AJ bs (Aw bs 5 s)).2)).2).2)).1,(AM bs ((AM bs ((AQ bs j (Ay bs 40 ((AJ bs (Aw bs 5 s)).2)).2).2)).2)).1⟩:Ap)]).length) c55) ((AQ bs (j+1) (Ay bs 40 ((AJ bs (Aw bs 5 s)).2)).2).1)) (B:=blk r [vb,.int .i64 (((AQ bs (j+1) (Ay bs 40 ((AJ bs (Aw bs 5 s)).2)).2).2).at_),.bool (((AQ bs (j+1) (Ay bs 40 ((AJ bs (Aw bs 5 s)).2)).2).2).bad)] 115)|>.p1
  exact Bo (s:=(j,undef)) (j+1,.slice A54 ((((AQ bs j (Ay bs 40 ((AJ bs (Aw bs 5 s)).2)).2).1)++[(⟨(AM bs ((AQ bs j (Ay bs 40 ((AJ bs (Aw bs 5 s)).2)).2).2)).1,(AM bs ((AM bs ((AQ bs j (Ay bs 40 ((AJ bs (Aw bs 5 s)).2)).2).2)).2)).1⟩:Ap)]).length) c55) ⟨rfl,rfl,rfl,rfl,rfl,trivial⟩ ⟨H,by (try dsimp only);omega⟩ (by (try dsimp only);omega)
 refine BW (A8 (A8 (BX (Z (Aa ?_)))))
 have hje:j=(Ay bs 40 ((AJ bs (Aw bs 5 s)).2)).1.toNat:=by omega
 replace H:=H.p3.p2.h4 (A:=Y Ag q2 ((AQ bs j (Ay bs 40 ((AJ bs (Aw bs 5 s)).2)).2).1)) (C:=blk r [vb,.int .i64 (((AQ bs j (Ay bs 40 ((AJ bs (Aw bs 5 s)).2)).2).2).at_),.bool (((AQ bs j (Ay bs 40 ((AJ bs (Aw bs 5 s)).2)).2).2).bad)] 115) (D:=blk b7 [.int .i64 ((Ak bs s).1),.int .i64 ((Ak bs ((Ak bs s).2)).1),.int .i64 ((Ak bs ((Ak bs ((Ak bs s).2)).2)).1),.int .i64 ((Ak bs ((Ak bs ((Ak bs ((Ak bs s).2)).2)).2)).1),.int .i64 ((Ak bs ((Ak bs ((Ak bs ((Ak bs ((Ak bs s).2)).2)).2)).2)).1),q,q2] 69)
 rw [hje] at H
 replace H:Hd _ _ _ [Y Ag q2 ((AF bs s).1.pairs),Y (Ai .i64) q ((AF bs s).1.set),blk r [vb,.int .i64 (((AF bs s).2).at_),.bool (((AF bs s).2).bad)] 115,blk b7 [.int .i64 ((Ak bs s).1),.int .i64 ((Ak bs ((Ak bs s).2)).1),.int .i64 ((Ak bs ((Ak bs ((Ak bs s).2)).2)).1),.int .i64 ((Ak bs ((Ak bs ((Ak bs ((Ak bs s).2)).2)).2)).1),.int .i64 ((Ak bs ((Ak bs ((Ak bs ((Ak bs ((Ak bs s).2)).2)).2)).2)).1),q,q2] 69,blk b1 [.int .i64 0,.int .i64 0,.int .i64 0,.int .i64 0,.int .i64 0,.slice none 0 0,.slice none 0 0] 69] [Ae AP vb bs]:=H
 obtain ⟨A59,c60,rfl,hc61,hm62,hp63⟩:=H.fA 0 rfl
 obtain ⟨A64,c65,rfl,hc66,hm67,hp68⟩:=H.fA 1 rfl
 refine Ad (V U U (BD (cs:=[.int .i64 ((Ak bs s).1),.int .i64 ((Ak bs ((Ak bs s).2)).1),.int .i64 ((Ak bs ((Ak bs ((Ak bs s).2)).2)).1),.int .i64 ((Ak bs ((Ak bs ((Ak bs ((Ak bs s).2)).2)).2)).1),.int .i64 ((Ak bs ((Ak bs ((Ak bs ((Ak bs ((Ak bs s).2)).2)).2)).2)).1),.slice A64 (((AF bs s).1.set).length) c65,.slice A59 (((AF bs s).1.pairs).length) c60]) U EZ U U (H.cellsI 3 U U)) ?_)
 replace H:=H.p4
 refine Bx U U U EZ U U H U (Nat.le_of_ble_eq_true U) (fun u hu=>by simp [Value.cells] at hu;rcases hu with rfl|rfl|rfl|rfl|rfl|rfl|rfl<;>rfl) (fun w H=>?_)
 replace H:=H.h1 (A:=blk b1 [.int .i64 ((Ak bs s).1),.int .i64 ((Ak bs ((Ak bs s).2)).1),.int .i64 ((Ak bs ((Ak bs ((Ak bs s).2)).2)).1),.int .i64 ((Ak bs ((Ak bs ((Ak bs ((Ak bs s).2)).2)).2)).1),.int .i64 ((Ak bs ((Ak bs ((Ak bs ((Ak bs ((Ak bs s).2)).2)).2)).2)).1),.slice A64 (((AF bs s).1.set).length) c65,.slice A59 (((AF bs s).1.pairs).length) c60] 69)
 refine Ab (Z (Am (FB (cs:=[.int .i64 ((Ak bs s).1),.int .i64 ((Ak bs ((Ak bs s).2)).1),.int .i64 ((Ak bs ((Ak bs ((Ak bs s).2)).2)).1),.int .i64 ((Ak bs ((Ak bs ((Ak bs ((Ak bs s).2)).2)).2)).1),.int .i64 ((Ak bs ((Ak bs ((Ak bs ((Ak bs ((Ak bs s).2)).2)).2)).2)).1),.slice A64 (((AF bs s).1.set).length) c65,.slice A59 (((AF bs s).1.pairs).length) c60]) U U EZ U (H.cellsI 0 U U) ?_)))
 replace H:=H.p3.p2.p3.k3
 exact Al ⟨(.slice A64 (((AF bs s).1.set).length) c65),(.slice A59 (((AF bs s).1.pairs).length) c60),rfl,rfl⟩ H
theorem ZV (vb:Value) (bs:List UInt8) (hb:bs.length≤1000000):
    Cn Tryz.prog 27 [vb] [] [Ae AP vb bs] (fun v Bs=>∃ u:Value,∃ rs:List AW,v=.tuple #[u,.int .i64 ((CN bs).2)]∧Bs=[Y BI u rs]∧(rs.map AW.p=(CN bs).1)):=by
 intro w0 F0 H
 obtain ⟨A1,c2,rfl,hc3,hm4,hp5⟩:=H.fR 0 rfl
 refine enter Tryz.func27 U U (Nat.le_of_ble_eq_true U) (Aa (Ad (Ah 2 U (Ab (Z ?_)))))
 replace H:Hd _ _ _ [] [Ae AP (.slice A1 bs.length c2) bs]:=H
 refine Aa (Ad (Ac U (Ab (Z (Aa (Ad (Ac U (Ab (Z (AX ?_))))))))))
 replace H:=H.newnil Eg|>.rec0|>.h1 (A:=EM [])|>.p1|>.h1 (A:=Y Eg (.slice none 0 0) (([]:List AW).map C_))
 refine B1 (σ:=Nat×Int×Value×List AW) (fun (k,a,q,al)=>[(0,.slice A1 bs.length c2),(4,q),(5,.int .i64 a)]) (fun (k,a,q,al) w=>(Hd w0 F0 w [Y Eg q (al.map C_),EM al] [Ae AP (.slice A1 bs.length c2) bs])∧((bs.length:Int)+1≤k+a)∧(EL bs k a (al.map AW.p)=CN bs)∧(0≤a∧a≤(bs.length:Int)∧(al.length:Int)≤a)) (fun (k,a,q,al)=>k) (bs.length+1,0,.slice none 0 0,[]) ⟨rfl,rfl,rfl,trivial⟩ ⟨H,by (try dsimp only);omega,rfl,⟨Int.le_refl _,Int.natCast_nonneg _,Int.le_refl _⟩⟩ ?_
 rintro ⟨k,a,q,al⟩ w ⟨H,hk,hg,hin⟩
 have h64:AL a:=by unfold AL;omega
 obtain ⟨k9,hk9⟩:∃ j,k=j+1:=⟨k - 1,by omega⟩
 rw [hk9] at hg
 have hfl:(al.map C_).length=al.length:=List.length_map ..
 refine AX (Aa (Ad (Ah 2 U (sc (K_ (.slice A1 bs.length c2) bs a (by first |assumption|omega) (by first |assumption|omega)) H (lR 0 U l0) U U (Av Kz U U) ?_))))
 rintro _ _ w ⟨rfl,rfl⟩ H
 replace H:=H.h2 (A:=Y Eg q (al.map C_)) (B:=EM al)
 refine Ah 7 U (Ab (Z (Aa (Aa (Ad (Ac U (V U U (Ek U U U) (Ab (Z ?_)))))))))
 refine Dx (b:=!((Ax bs a).2.2)) U (fun h6=>?_) (fun h6=>?_)
 ·refine Aa (Ad (Ah 4 U (Ab (Z (Am (Az (AY (Az (AY (Du U U U ?_))))))))))
  have hno:¬ Fl bs a=true:=fun g=>by
    obtain ⟨g1,g2,g3,g4⟩:=HS.1 g
    first |exact absurd g4 h6|exact absurd g4 (by simpa using h6)|(rw [g2] at h6;cases h6)|omega|(rw [g1] at h6;cases h6)|grind
  have e:CN bs=(al.map AW.p,a):=hg.symm.trans (La hno)
  replace H:Hd _ _ _ [Y Eg q (al.map C_),EM al] [Ae AP (.slice A1 bs.length c2) bs]:=H
  replace H:=H.recI|>.h1 (A:=Y BI q al)
  exact Al ⟨_,al,by rw [e]<;>rfl,rfl,by rw [e]<;>rfl⟩ H
 refine AB (Z (Aa ?_))
 have hok:(Ax bs a).2.2=true:=by simpa using h6
 have hri:=Nf hok
 have hbl:=Gs (Ax bs a).1
 have h064:AL ((⟨0,false⟩:CY).at_):=by unfold AL;decide
 refine Ad (Ac U (Sc U U U CP Fe HE U (by omega) H (fun b7 c8 w hc9 hc10 H=>(V U U (Di (parts:=[(0,.tmp 23)]) (vs:=[.slice (some ⟨b7,0,none⟩) (((Ax bs a).1).size) c8]) (cs:=[.slice (some ⟨b7,0,none⟩) (((Ax bs a).1).size) c8,.int .i64 0,.bool false]) U S8 U U) (CT U U U U H (fun b11 w H=>(Ac U (Ab (Z ?_)))))))))
 replace H:Hd _ _ _ [blk b11 [.slice (some ⟨b7,0,none⟩) (((Ax bs a).1).size) c8,.int .i64 0,.bool false] 115,Y Eg q (al.map C_),EM al] [Ae AP (.slice (some ⟨b7,0,none⟩) (((Ax bs a).1).size) c8) (AA ((Ax bs a).1)),Ae AP (.slice A1 bs.length c2) bs]:=H
 refine Aa (Ad (Ac U ?_))
 replace H:=H.h1 (A:=blk b11 [.slice (some ⟨b7,0,none⟩) (((Ax bs a).1).size) c8,.int .i64 ((⟨0,false⟩:CY).at_),.bool ((⟨0,false⟩:CY).bad)] 115)
 refine sc (Z2 b11 (.slice (some ⟨b7,0,none⟩) (((Ax bs a).1).size) c8) (AA ((Ax bs a).1)) ⟨0,false⟩ (by first |assumption|omega) (by first |assumption|omega)) H (lR 0 U l0) U U (Av Xl U U) ?_
 rintro _ _ w ⟨u12,u13,rfl,rfl⟩ H
 replace H:=H.h3 (A:=Y (Ai .i64) u12 ((AF (AA ((Ax bs a).1)) ⟨0,false⟩).1.set)) (B:=Y Ag u13 ((AF (AA ((Ax bs a).1)) ⟨0,false⟩).1.pairs)) (C:=blk b11 [.slice (some ⟨b7,0,none⟩) (((Ax bs a).1).size) c8,.int .i64 (((AF (AA ((Ax bs a).1)) ⟨0,false⟩).2).at_),.bool (((AF (AA ((Ax bs a).1)) ⟨0,false⟩).2).bad)] 115)
 obtain ⟨A14,c15,rfl,hc16,hm17,hp18⟩:=H.fA 0 rfl
 obtain ⟨A19,c20,rfl,hc21,hm22,hp23⟩:=H.fA 1 rfl
 refine Dz U U U He H (fun b24 w H=>(Bx U U U EZ U U H U (Nat.le_of_ble_eq_true U) (fun u hu=>by simp [Value.cells] at hu;rcases hu with rfl|rfl|rfl|rfl|rfl|rfl|rfl<;>rfl) (fun w H=>?_)))
 replace H:=H.h1 (A:=blk b24 [.int .i64 ((AF (AA ((Ax bs a).1)) ⟨0,false⟩).1.kind),.int .i64 ((AF (AA ((Ax bs a).1)) ⟨0,false⟩).1.part),.int .i64 ((AF (AA ((Ax bs a).1)) ⟨0,false⟩).1.sp),.int .i64 ((AF (AA ((Ax bs a).1)) ⟨0,false⟩).1.att),.int .i64 ((AF (AA ((Ax bs a).1)) ⟨0,false⟩).1.why),.slice A14 (((AF (AA ((Ax bs a).1)) ⟨0,false⟩).1.set).length) c15,.slice A19 (((AF (AA ((Ax bs a).1)) ⟨0,false⟩).1.pairs).length) c20] 69)
 refine Ab (Z (Aa (Aa (Cc (.e 0 (.e 1 (.e 2 (.e 3 (.e 4 (.e 5 (.e 6 (.e 7 (.e 8 (.e 9 (.e 10 (.e 11 (.e 12 (.e 13 (.e 14 (.e 15 (.e 16 (.e 17 (.m 18 (.e 19 (.e 20 .z))))))))))))))))))))) (fun w=>∃ Ar,Hd w0 F0 w (blk b24 [.int .i64 ((AF (AA ((Ax bs a).1)) ⟨0,false⟩).1.kind),.int .i64 ((AF (AA ((Ax bs a).1)) ⟨0,false⟩).1.part),.int .i64 ((AF (AA ((Ax bs a).1)) ⟨0,false⟩).1.sp),.int .i64 ((AF (AA ((Ax bs a).1)) ⟨0,false⟩).1.att),.int .i64 ((AF (AA ((Ax bs a).1)) ⟨0,false⟩).1.why),.slice A14 (((AF (AA ((Ax bs a).1)) ⟨0,false⟩).1.set).length) c15,.slice A19 (((AF (AA ((Ax bs a).1)) ⟨0,false⟩).1.pairs).length) c20] 69::Y (Ai .i64) (.slice A14 (((AF (AA ((Ax bs a).1)) ⟨0,false⟩).1.set).length) c15) ((AF (AA ((Ax bs a).1)) ⟨0,false⟩).1.set)::Y Ag (.slice A19 (((AF (AA ((Ax bs a).1)) ⟨0,false⟩).1.pairs).length) c20) ((AF (AA ((Ax bs a).1)) ⟨0,false⟩).1.pairs)::blk b11 [.slice (some ⟨b7,0,none⟩) (((Ax bs a).1).size) c8,.int .i64 (((AF (AA ((Ax bs a).1)) ⟨0,false⟩).2).at_),.bool (((AF (AA ((Ax bs a).1)) ⟨0,false⟩).2).bad)] 115::Y Eg q (al.map C_)::EM al::Ar) [Ae AP (.slice (some ⟨b7,0,none⟩) (((Ax bs a).1).size) c8) (AA ((Ax bs a).1)),Ae AP (.slice A1 bs.length c2) bs]) mo (by kernel_rfl) (fun w H=>⟨_,H⟩) H (fun w H=>?_)))))
 refine Au U (Ao U U U (fun w ⟨Ar,H⟩=>AH U U) (Ao U U U (fun w ⟨Ar,H⟩=>Aj U Hn U) (Ao U U U (fun w ⟨Ar,H⟩=>An U D4 U (H.cellI 3 U U)) (Au U ?_))))
 refine OK (d:=32) (b:=((AF (AA ((Ax bs a).1)) ⟨0,false⟩).2).bad) U (fun h25=>?_) (fun h25=>?_)
 ·refine Au U (Au U (Au U (Au U (Au U (Au U (Au U (Au U (Au U (Au U (Au U (Au U (Au U (Jb U ⟨_,H⟩ U U (Au U (Au U (BN (Z (Ct U (Aa (Ad (Ah 4 U (Ab (Z (Am (Az (AY (Az (AY (Du U U U ?_)))))))))))))))))))))))))))))
  have hno:¬ Fl bs a=true:=fun g=>by
    obtain ⟨g1,g2,g3,g4⟩:=HS.1 g
    first |exact absurd g4 h25|exact absurd g4 (by simpa using h25)|(rw [g2] at h25;cases h25)|omega|(rw [g1] at h25;cases h25)|grind
  have e:CN bs=(al.map AW.p,a):=hg.symm.trans (La hno)
  replace H:=H.sel 6 [4,5] [0,1,2,3] rfl (by kernel_rfl)
  replace H:Hd _ _ _ [Y Eg q (al.map C_),EM al] [Ae AP (.slice (some ⟨b7,0,none⟩) (((Ax bs a).1).size) c8) (AA ((Ax bs a).1)),Ae AP (.slice A1 bs.length c2) bs]:=H
  replace H:=H.recI|>.h1 (A:=Y BI q al)|>.dropR
  replace H:Hd _ _ _ [Y BI q al] [Ae AP (.slice A1 bs.length c2) bs]:=H
  exact Al ⟨_,al,by rw [e]<;>rfl,rfl,by rw [e]<;>rfl⟩ H
 refine Au U (Ao U U U (fun w ⟨Ar,H⟩=>AH U U) (Ao U U U (fun w ⟨Ar,H⟩=>Aj U HO U) (Ao U U U (fun w ⟨Ar,H⟩=>An U AE U (H.cellI 3 U U)) (Au U (Ao U U U (fun w ⟨Ar,H⟩=>AH U U) (Ao U U U (fun w ⟨Ar,H⟩=>Aj U L5 U) (Ao U U U (fun w ⟨Ar,H⟩=>An U Gl U (H.cellI 3 U U)) (Ao U U U (fun w ⟨Ar,H⟩=>Bn U Fe U) (Ao U U U (fun w ⟨Ar,H⟩=>CG U U U) (Au U (Au U ?_)))))))))))
 refine Ka (d:=44) U (fun h26=>?_) (fun h26=>?_)
 ·refine Au U (Jb U ⟨_,H⟩ U U (Au U (Au U (BN (Z (Ct U (Aa (Ad (Ah 4 U (Ab (Z (Am (Az (AY (Az (AY (Du U U U ?_)))))))))))))))))
  have hno:¬ Fl bs a=true:=fun g=>by
    obtain ⟨g1,g2,g3,g4⟩:=HS.1 g
    first |exact absurd g4 h26|exact absurd g4 (by simpa using h26)|(rw [g2] at h26;cases h26)|omega|(rw [g1] at h26;cases h26)|grind
  have e:CN bs=(al.map AW.p,a):=hg.symm.trans (La hno)
  replace H:=H.sel 6 [4,5] [0,1,2,3] rfl (by kernel_rfl)
  replace H:Hd _ _ _ [Y Eg q (al.map C_),EM al] [Ae AP (.slice (some ⟨b7,0,none⟩) (((Ax bs a).1).size) c8) (AA ((Ax bs a).1)),Ae AP (.slice A1 bs.length c2) bs]:=H
  replace H:=H.recI|>.h1 (A:=Y BI q al)|>.dropR
  replace H:Hd _ _ _ [Y BI q al] [Ae AP (.slice A1 bs.length c2) bs]:=H
  exact Al ⟨_,al,by rw [e]<;>rfl,rfl,by rw [e]<;>rfl⟩ H
 refine Ao U U U (fun w ⟨Ar,H⟩=>BD (cs:=[.int .i64 ((AF (AA ((Ax bs a).1)) ⟨0,false⟩).1.kind),.int .i64 ((AF (AA ((Ax bs a).1)) ⟨0,false⟩).1.part),.int .i64 ((AF (AA ((Ax bs a).1)) ⟨0,false⟩).1.sp),.int .i64 ((AF (AA ((Ax bs a).1)) ⟨0,false⟩).1.att),.int .i64 ((AF (AA ((Ax bs a).1)) ⟨0,false⟩).1.why),.slice A14 (((AF (AA ((Ax bs a).1)) ⟨0,false⟩).1.set).length) c15,.slice A19 (((AF (AA ((Ax bs a).1)) ⟨0,false⟩).1.pairs).length) c20]) U EZ U U (H.cellsI 0 U U)) (AO U (sc (RN ((AF (AA ((Ax bs a).1)) ⟨0,false⟩).1.kind) ((AF (AA ((Ax bs a).1)) ⟨0,false⟩).1.part) ((AF (AA ((Ax bs a).1)) ⟨0,false⟩).1.sp) ((AF (AA ((Ax bs a).1)) ⟨0,false⟩).1.att) ((AF (AA ((Ax bs a).1)) ⟨0,false⟩).1.why) (.slice A14 (((AF (AA ((Ax bs a).1)) ⟨0,false⟩).1.set).length) c15) (.slice A19 (((AF (AA ((Ax bs a).1)) ⟨0,false⟩).1.pairs).length) c20) ((AF (AA ((Ax bs a).1)) ⟨0,false⟩).1.set) ((AF (AA ((Ax bs a).1)) ⟨0,false⟩).1.pairs)) H (lA 1 U B3 (lA 2 U B3 l0)) U U (Av Qm U U) ?_))
 rintro _ _ w ⟨rfl,rfl⟩ H
 refine AG ⟨_,H⟩ (Ao U U U (fun w ⟨Ar,H⟩=>D3 U U) (Au U (BN (Z ?_))))
 refine AC U (fun h27=>?_) (fun h27=>?_)
 ·refine Aa (Ad (Ah 4 U (Ab (Z (Am (Az (AY (Az (AY (Du U U U ?_))))))))))
  have hno:¬ Fl bs a=true:=fun g=>by
    obtain ⟨g1,g2,g3,g4⟩:=HS.1 g
    first |exact absurd g4 h27|exact absurd g4 (by simpa using h27)|(rw [g2] at h27;cases h27)|omega|(rw [g1] at h27;cases h27)|grind
  have e:CN bs=(al.map AW.p,a):=hg.symm.trans (La hno)
  replace H:=H.sel 6 [4,5] [0,1,2,3] rfl (by kernel_rfl)
  replace H:Hd _ _ _ [Y Eg q (al.map C_),EM al] [Ae AP (.slice (some ⟨b7,0,none⟩) (((Ax bs a).1).size) c8) (AA ((Ax bs a).1)),Ae AP (.slice A1 bs.length c2) bs]:=H
  replace H:=H.recI|>.h1 (A:=Y BI q al)|>.dropR
  replace H:Hd _ _ _ [Y BI q al] [Ae AP (.slice A1 bs.length c2) bs]:=H
  exact Al ⟨_,al,by rw [e]<;>rfl,rfl,by rw [e]<;>rfl⟩ H
 refine AB (Z (Aa ?_))
 have hyes:Fl bs a=true:=HS.2 ⟨hok,by first |(simpa using h25)|grind,by first |omega|grind,by first |exact h27|(simpa using h27)|grind⟩
 have hg2:=(Z8 (k:=k9) (out:=al.map AW.p) hyes).symm.trans hg
 have hin2:0≤(Ax bs a).2.1∧(Ax bs a).2.1≤(bs.length:Int)∧((al.length+1:Nat):Int)≤(Ax bs a).2.1:=⟨by omega,by omega,by omega⟩
 refine Ad (Ac U (V U U (BD (cs:=[.int .i64 ((AF (AA ((Ax bs a).1)) ⟨0,false⟩).1.kind),.int .i64 ((AF (AA ((Ax bs a).1)) ⟨0,false⟩).1.part),.int .i64 ((AF (AA ((Ax bs a).1)) ⟨0,false⟩).1.sp),.int .i64 ((AF (AA ((Ax bs a).1)) ⟨0,false⟩).1.att),.int .i64 ((AF (AA ((Ax bs a).1)) ⟨0,false⟩).1.why),.slice A14 (((AF (AA ((Ax bs a).1)) ⟨0,false⟩).1.set).length) c15,.slice A19 (((AF (AA ((Ax bs a).1)) ⟨0,false⟩).1.pairs).length) c20]) U EZ U U (H.cellsI 0 U U)) (Cb (parts:=[(0,.tmp 52)]) (vs:=[.agg #[.int .i64 ((AF (AA ((Ax bs a).1)) ⟨0,false⟩).1.kind),.int .i64 ((AF (AA ((Ax bs a).1)) ⟨0,false⟩).1.part),.int .i64 ((AF (AA ((Ax bs a).1)) ⟨0,false⟩).1.sp),.int .i64 ((AF (AA ((Ax bs a).1)) ⟨0,false⟩).1.att),.int .i64 ((AF (AA ((Ax bs a).1)) ⟨0,false⟩).1.why),.slice A14 (((AF (AA ((Ax bs a).1)) ⟨0,false⟩).1.set).length) c15,.slice A19 (((AF (AA ((Ax bs a).1)) ⟨0,false⟩).1.pairs).length) c20]]) (cs:=[.int .i64 ((AF (AA ((Ax bs a).1)) ⟨0,false⟩).1.kind),.int .i64 ((AF (AA ((Ax bs a).1)) ⟨0,false⟩).1.part),.int .i64 ((AF (AA ((Ax bs a).1)) ⟨0,false⟩).1.sp),.int .i64 ((AF (AA ((Ax bs a).1)) ⟨0,false⟩).1.att),.int .i64 ((AF (AA ((Ax bs a).1)) ⟨0,false⟩).1.why),.slice A14 (((AF (AA ((Ax bs a).1)) ⟨0,false⟩).1.set).length) c15,.slice A19 (((AF (AA ((Ax bs a).1)) ⟨0,false⟩).1.pairs).length) c20]) U U U IW He U (by decide) (by decide) U U H (fun b28 w H=>?_))))
 replace H:=H.p5
 refine CA (xs:=al.map C_) (ys:=[(⟨(AF (AA ((Ax bs a).1)) ⟨0,false⟩).1.kind,(AF (AA ((Ax bs a).1)) ⟨0,false⟩).1.part,(AF (AA ((Ax bs a).1)) ⟨0,false⟩).1.sp,(AF (AA ((Ax bs a).1)) ⟨0,false⟩).1.att,(AF (AA ((Ax bs a).1)) ⟨0,false⟩).1.why,⟨A14,((AF (AA ((Ax bs a).1)) ⟨0,false⟩).1.set).length,c15⟩,⟨A19,((AF (AA ((Ax bs a).1)) ⟨0,false⟩).1.pairs).length,c20⟩⟩:Hg)]) U U U IW He U (by decide) U U H (by first |omega|(simp only [List.length_append,List.length_cons,List.length_nil];omega)) (fun F hA hR=>Cy (hA _ (List.mem_of_getElem? (i:=0) U)) U (by decide) (Bc.flat_eq.2 U)) (fun v29 w H=>(Ac U (Ab (Z ?_))))
 replace H:Hd _ _ _ [Y Eg v29 ((al.map C_)++[(⟨(AF (AA ((Ax bs a).1)) ⟨0,false⟩).1.kind,(AF (AA ((Ax bs a).1)) ⟨0,false⟩).1.part,(AF (AA ((Ax bs a).1)) ⟨0,false⟩).1.sp,(AF (AA ((Ax bs a).1)) ⟨0,false⟩).1.att,(AF (AA ((Ax bs a).1)) ⟨0,false⟩).1.why,⟨A14,((AF (AA ((Ax bs a).1)) ⟨0,false⟩).1.set).length,c15⟩,⟨A19,((AF (AA ((Ax bs a).1)) ⟨0,false⟩).1.pairs).length,c20⟩⟩:Hg)]),blk b28 [.int .i64 ((AF (AA ((Ax bs a).1)) ⟨0,false⟩).1.kind),.int .i64 ((AF (AA ((Ax bs a).1)) ⟨0,false⟩).1.part),.int .i64 ((AF (AA ((Ax bs a).1)) ⟨0,false⟩).1.sp),.int .i64 ((AF (AA ((Ax bs a).1)) ⟨0,false⟩).1.att),.int .i64 ((AF (AA ((Ax bs a).1)) ⟨0,false⟩).1.why),.slice A14 (((AF (AA ((Ax bs a).1)) ⟨0,false⟩).1.set).length) c15,.slice A19 (((AF (AA ((Ax bs a).1)) ⟨0,false⟩).1.pairs).length) c20] 69,blk b24 [.int .i64 ((AF (AA ((Ax bs a).1)) ⟨0,false⟩).1.kind),.int .i64 ((AF (AA ((Ax bs a).1)) ⟨0,false⟩).1.part),.int .i64 ((AF (AA ((Ax bs a).1)) ⟨0,false⟩).1.sp),.int .i64 ((AF (AA ((Ax bs a).1)) ⟨0,false⟩).1.att),.int .i64 ((AF (AA ((Ax bs a).1)) ⟨0,false⟩).1.why),.slice A14 (((AF (AA ((Ax bs a).1)) ⟨0,false⟩).1.set).length) c15,.slice A19 (((AF (AA ((Ax bs a).1)) ⟨0,false⟩).1.pairs).length) c20] 69,Y (Ai .i64) (.slice A14 (((AF (AA ((Ax bs a).1)) ⟨0,false⟩).1.set).length) c15) ((AF (AA ((Ax bs a).1)) ⟨0,false⟩).1.set),Y Ag (.slice A19 (((AF (AA ((Ax bs a).1)) ⟨0,false⟩).1.pairs).length) c20) ((AF (AA ((Ax bs a).1)) ⟨0,false⟩).1.pairs),blk b11 [.slice (some ⟨b7,0,none⟩) (((Ax bs a).1).size) c8,.int .i64 (((AF (AA ((Ax bs a).1)) ⟨0,false⟩).2).at_),.bool (((AF (AA ((Ax bs a).1)) ⟨0,false⟩).2).bad)] 115,EM al] [Ae AP (.slice (some ⟨b7,0,none⟩) (((Ax bs a).1).size) c8) (AA ((Ax bs a).1)),Ae AP (.slice A1 bs.length c2) bs]:=H
 replace H:=H.p6.p5.p5.k4
 replace H:=Hd.recN (r:=(⟨(AF (AA (Ax bs a).1) ⟨0,false⟩).1.kind,(AF (AA (Ax bs a).1) ⟨0,false⟩).1.part,(AF (AA (Ax bs a).1) ⟨0,false⟩).1.sp,(AF (AA (Ax bs a).1) ⟨0,false⟩).1.att,(AF (AA (Ax bs a).1) ⟨0,false⟩).1.why,(.slice A14 (((AF (AA ((Ax bs a).1)) ⟨0,false⟩).1.set).length) c15),(AF (AA (Ax bs a).1) ⟨0,false⟩).1.set,(.slice A19 (((AF (AA ((Ax bs a).1)) ⟨0,false⟩).1.pairs).length) c20),(AF (AA (Ax bs a).1) ⟨0,false⟩).1.pairs⟩:AW)) H
 replace H:=H.h1 (A:=EM (al++[(⟨(AF (AA (Ax bs a).1) ⟨0,false⟩).1.kind,(AF (AA (Ax bs a).1) ⟨0,false⟩).1.part,(AF (AA (Ax bs a).1) ⟨0,false⟩).1.sp,(AF (AA (Ax bs a).1) ⟨0,false⟩).1.att,(AF (AA (Ax bs a).1) ⟨0,false⟩).1.why,(.slice A14 (((AF (AA ((Ax bs a).1)) ⟨0,false⟩).1.set).length) c15),(AF (AA (Ax bs a).1) ⟨0,false⟩).1.set,(.slice A19 (((AF (AA ((Ax bs a).1)) ⟨0,false⟩).1.pairs).length) c20),(AF (AA (Ax bs a).1) ⟨0,false⟩).1.pairs⟩:AW)]))|>.p1|>.tellK (ys:=(al++[(⟨(AF (AA (Ax bs a).1) ⟨0,false⟩).1.kind,(AF (AA (Ax bs a).1) ⟨0,false⟩).1.part,(AF (AA (Ax bs a).1) ⟨0,false⟩).1.sp,(AF (AA (Ax bs a).1) ⟨0,false⟩).1.att,(AF (AA (Ax bs a).1) ⟨0,false⟩).1.why,(.slice A14 (((AF (AA ((Ax bs a).1)) ⟨0,false⟩).1.set).length) c15),(AF (AA (Ax bs a).1) ⟨0,false⟩).1.set,(.slice A19 (((AF (AA ((Ax bs a).1)) ⟨0,false⟩).1.pairs).length) c20),(AF (AA (Ax bs a).1) ⟨0,false⟩).1.pairs⟩:AW)]).map C_) (by rw [List.map_append];rfl)|>.h1 (A:=Y Eg v29 ((al++[(⟨(AF (AA (Ax bs a).1) ⟨0,false⟩).1.kind,(AF (AA (Ax bs a).1) ⟨0,false⟩).1.part,(AF (AA (Ax bs a).1) ⟨0,false⟩).1.sp,(AF (AA (Ax bs a).1) ⟨0,false⟩).1.att,(AF (AA (Ax bs a).1) ⟨0,false⟩).1.why,(.slice A14 (((AF (AA ((Ax bs a).1)) ⟨0,false⟩).1.set).length) c15),(AF (AA (Ax bs a).1) ⟨0,false⟩).1.set,(.slice A19 (((AF (AA ((Ax bs a).1)) ⟨0,false⟩).1.pairs).length) c20),(AF (AA (Ax bs a).1) ⟨0,false⟩).1.pairs⟩:AW)]).map C_))
 replace hg2:EL bs k9 (Ax bs a).2.1 ((al++[(⟨(AF (AA (Ax bs a).1) ⟨0,false⟩).1.kind,(AF (AA (Ax bs a).1) ⟨0,false⟩).1.part,(AF (AA (Ax bs a).1) ⟨0,false⟩).1.sp,(AF (AA (Ax bs a).1) ⟨0,false⟩).1.att,(AF (AA (Ax bs a).1) ⟨0,false⟩).1.why,(.slice A14 (((AF (AA ((Ax bs a).1)) ⟨0,false⟩).1.set).length) c15),(AF (AA (Ax bs a).1) ⟨0,false⟩).1.set,(.slice A19 (((AF (AA ((Ax bs a).1)) ⟨0,false⟩).1.pairs).length) c20),(AF (AA (Ax bs a).1) ⟨0,false⟩).1.pairs⟩:AW)]).map AW.p)=CN bs:=by rw [List.map_append];exact hg2
 replace hin2:0≤(Ax bs a).2.1∧(Ax bs a).2.1≤(bs.length:Int)∧((al++[(⟨(AF (AA (Ax bs a).1) ⟨0,false⟩).1.kind,(AF (AA (Ax bs a).1) ⟨0,false⟩).1.part,(AF (AA (Ax bs a).1) ⟨0,false⟩).1.sp,(AF (AA (Ax bs a).1) ⟨0,false⟩).1.att,(AF (AA (Ax bs a).1) ⟨0,false⟩).1.why,(.slice A14 (((AF (AA ((Ax bs a).1)) ⟨0,false⟩).1.set).length) c15),(AF (AA (Ax bs a).1) ⟨0,false⟩).1.set,(.slice A19 (((AF (AA ((Ax bs a).1)) ⟨0,false⟩).1.pairs).length) c20),(AF (AA (Ax bs a).1) ⟨0,false⟩).1.pairs⟩:AW)]).length:Int)≤(Ax bs a).2.1:=by rw [List.length_append];exact hin2
 refine Ad (Ah 2 U (Ab (Bb ?_)))
 replace H:=H.dropR
 replace H:Hd _ _ _ [Y Eg v29 ((al++[(⟨(AF (AA (Ax bs a).1) ⟨0,false⟩).1.kind,(AF (AA (Ax bs a).1) ⟨0,false⟩).1.part,(AF (AA (Ax bs a).1) ⟨0,false⟩).1.sp,(AF (AA (Ax bs a).1) ⟨0,false⟩).1.att,(AF (AA (Ax bs a).1) ⟨0,false⟩).1.why,(.slice A14 (((AF (AA ((Ax bs a).1)) ⟨0,false⟩).1.set).length) c15),(AF (AA (Ax bs a).1) ⟨0,false⟩).1.set,(.slice A19 (((AF (AA ((Ax bs a).1)) ⟨0,false⟩).1.pairs).length) c20),(AF (AA (Ax bs a).1) ⟨0,false⟩).1.pairs⟩:AW)]).map C_),EM (al++[(⟨(AF (AA (Ax bs a).1) ⟨0,false⟩).1.kind,(AF (AA (Ax bs a).1) ⟨0,false⟩).1.part,(AF (AA (Ax bs a).1) ⟨0,false⟩).1.sp,(AF (AA (Ax bs a).1) ⟨0,false⟩).1.att,(AF (AA (Ax bs a).1) ⟨0,false⟩).1.why,(.slice A14 (((AF (AA ((Ax bs a).1)) ⟨0,false⟩).1.set).length) c15),(AF (AA (Ax bs a).1) ⟨0,false⟩).1.set,(.slice A19 (((AF (AA ((Ax bs a).1)) ⟨0,false⟩).1.pairs).length) c20),(AF (AA (Ax bs a).1) ⟨0,false⟩).1.pairs⟩:AW)])] [Ae AP (.slice A1 bs.length c2) bs]:=H
 exact Bo (s:=(k,a,undef,al)) (k9,(Ax bs a).2.1,v29,al++[(⟨(AF (AA (Ax bs a).1) ⟨0,false⟩).1.kind,(AF (AA (Ax bs a).1) ⟨0,false⟩).1.part,(AF (AA (Ax bs a).1) ⟨0,false⟩).1.sp,(AF (AA (Ax bs a).1) ⟨0,false⟩).1.att,(AF (AA (Ax bs a).1) ⟨0,false⟩).1.why,(.slice A14 (((AF (AA ((Ax bs a).1)) ⟨0,false⟩).1.set).length) c15),(AF (AA (Ax bs a).1) ⟨0,false⟩).1.set,(.slice A19 (((AF (AA ((Ax bs a).1)) ⟨0,false⟩).1.pairs).length) c20),(AF (AA (Ax bs a).1) ⟨0,false⟩).1.pairs⟩:AW)]) ⟨rfl,rfl,rfl,trivial⟩ ⟨H,by (try dsimp only);omega,hg2,hin2⟩ (by (try dsimp only);omega)
end Go.Proofs.YthhajcnbjiiclaaGreatDoor.X
