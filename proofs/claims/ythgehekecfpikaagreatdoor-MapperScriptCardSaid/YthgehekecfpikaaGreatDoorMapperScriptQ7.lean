/- MapperScript: texts M4, XMprA, A1, M5, M6, M7, A2, XAct3, RB2, G1, joined by a program of ours; what nothing names is left out. -/
import Derived.Test.YthgehekecfpikaaGreatDoorMapperScriptQ6
import Derived.KernelRfl
import Derived.Test.YthgehekecfpikaaGreatDoorRows
import Derived.LaidSub
import Derived.Lib.LaidTab
import Derived.Stop.LaidErr
set_option linter.unusedVariables false
set_option linter.unusedSimpArgs false
set_option maxHeartbeats 8000000
namespace Go.Proofs.YthgehekecfpikaaGreatDoor.X
open Go
def D_ (b:Nat) (J:AR) (M:Ca):SP:=ex fun vS:Value=>ex fun vM:Value=>ex fun vC:Value=>ex fun vR:Value=>ex fun vK:Value=>ex fun J2:AR=>ex fun cw:Int=>ex fun ct:Int=>ex fun co:Int=>ex fun cb:Nat=>ex fun fv:Value=>ex fun vw:Value=>ex fun ws:List (Nat×Bh)=>Cz [CH ((BL J2 J)∧(ws.map Prod.snd=M.ws)),blk b [vS,.int .i64 J2.parts,vM,vC,vR,.int .i64 J2.chunk,.int .i64 J2.window,.int .i64 J2.fuel,vK,.int .i64 cw,.int .i64 ct,.int .i64 co,.int .i64 ((M.sp:Nat):Int),.int .i64 M.att,.int .i64 ((AB dg J2 M.sp).2),.pointer (some ⟨cb,0,none⟩),vw] 164,blk cb [.int .u32 1,.int .i32 0,.int .u32 0,.int .u32 1,fv,.string (Bu (AB dg J2 M.sp).1)] 234,Ae (AU Al) vS J2.us,Ae Au vM J2.map,Ae Au vC J2.comb,Ae Au vR J2.red,Ae (AN .i64) vK J2.marks,Ae BW vw (ws.map Prod.fst),BB (BG 239) ws]
theorem HS (b:Nat) (J:AR) (M:Ca) {w0 w:World} {F0:AV} {As Rs:List SP} (H:Hd w0 F0 w (D_ b J M::As) Rs):∃ vS:Value,∃ vM:Value,∃ vC:Value,∃ vR:Value,∃ vK:Value,∃ J2:AR,∃ cw:Int,∃ ct:Int,∃ co:Int,∃ cb:Nat,∃ fv:Value,∃ vw:Value,∃ ws:List (Nat×Bh),((BL J2 J)∧(ws.map Prod.snd=M.ws))∧Hd w0 F0 w ([blk b [vS,.int .i64 J2.parts,vM,vC,vR,.int .i64 J2.chunk,.int .i64 J2.window,.int .i64 J2.fuel,vK,.int .i64 cw,.int .i64 ct,.int .i64 co,.int .i64 ((M.sp:Nat):Int),.int .i64 M.att,.int .i64 ((AB dg J2 M.sp).2),.pointer (some ⟨cb,0,none⟩),vw] 164,blk cb [.int .u32 1,.int .i32 0,.int .u32 0,.int .u32 1,fv,.string (Bu (AB dg J2 M.sp).1)] 234,Ae (AU Al) vS J2.us,Ae Au vM J2.map,Ae Au vC J2.comb,Ae Au vR J2.red,Ae (AN .i64) vK J2.marks,Ae BW vw (ws.map Prod.fst),BB (BG 239) ws]++As) Rs:=by
 obtain ⟨vS,H⟩:=Hd.exA H
 obtain ⟨vM,H⟩:=Hd.exA H
 obtain ⟨vC,H⟩:=Hd.exA H
 obtain ⟨vR,H⟩:=Hd.exA H
 obtain ⟨vK,H⟩:=Hd.exA H
 obtain ⟨J2,H⟩:=Hd.exA H
 obtain ⟨cw,H⟩:=Hd.exA H
 obtain ⟨ct,H⟩:=Hd.exA H
 obtain ⟨co,H⟩:=Hd.exA H
 obtain ⟨cb,H⟩:=Hd.exA H
 obtain ⟨fv,H⟩:=Hd.exA H
 obtain ⟨vw,H⟩:=Hd.exA H
 obtain ⟨ws,H⟩:=Hd.exA H
 exact ⟨vS,vM,vC,vR,vK,J2,cw,ct,co,cb,fv,vw,ws,H.stA.puA⟩
theorem F6 (b:Nat) (J:AR) (M:Ca) (vS:Value) (vM:Value) (vC:Value) (vR:Value) (vK:Value) (J2:AR) (cw:Int) (ct:Int) (co:Int) (cb:Nat) (fv:Value) (vw:Value) (ws:List (Nat×Bh)) {w0 w:World} {F0:AV} {As Rs:List SP} (hp:(BL J2 J)∧(ws.map Prod.snd=M.ws)) (H:Hd w0 F0 w ([blk b [vS,.int .i64 J2.parts,vM,vC,vR,.int .i64 J2.chunk,.int .i64 J2.window,.int .i64 J2.fuel,vK,.int .i64 cw,.int .i64 ct,.int .i64 co,.int .i64 ((M.sp:Nat):Int),.int .i64 M.att,.int .i64 ((AB dg J2 M.sp).2),.pointer (some ⟨cb,0,none⟩),vw] 164,blk cb [.int .u32 1,.int .i32 0,.int .u32 0,.int .u32 1,fv,.string (Bu (AB dg J2 M.sp).1)] 234,Ae (AU Al) vS J2.us,Ae Au vM J2.map,Ae Au vC J2.comb,Ae Au vR J2.red,Ae (AN .i64) vK J2.marks,Ae BW vw (ws.map Prod.fst),BB (BG 239) ws]++As) Rs):Hd w0 F0 w (D_ b J M::As) Rs:=by
 have H1:=(show Hd w0 F0 w ([CH ((BL J2 J)∧(ws.map Prod.snd=M.ws)),blk b [vS,.int .i64 J2.parts,vM,vC,vR,.int .i64 J2.chunk,.int .i64 J2.window,.int .i64 J2.fuel,vK,.int .i64 cw,.int .i64 ct,.int .i64 co,.int .i64 ((M.sp:Nat):Int),.int .i64 M.att,.int .i64 ((AB dg J2 M.sp).2),.pointer (some ⟨cb,0,none⟩),vw] 164,blk cb [.int .u32 1,.int .i32 0,.int .u32 0,.int .u32 1,fv,.string (Bu (AB dg J2 M.sp).1)] 234,Ae (AU Al) vS J2.us,Ae Au vM J2.map,Ae Au vC J2.comb,Ae Au vR J2.red,Ae (AN .i64) vK J2.marks,Ae BW vw (ws.map Prod.fst),BB (BG 239) ws]++As) Rs from H.puI hp).stI
 replace H1:=Hd.exI (A:=fun ws:List (Nat×Bh)=>Cz [CH ((BL J2 J)∧(ws.map Prod.snd=M.ws)),blk b [vS,.int .i64 J2.parts,vM,vC,vR,.int .i64 J2.chunk,.int .i64 J2.window,.int .i64 J2.fuel,vK,.int .i64 cw,.int .i64 ct,.int .i64 co,.int .i64 ((M.sp:Nat):Int),.int .i64 M.att,.int .i64 ((AB dg J2 M.sp).2),.pointer (some ⟨cb,0,none⟩),vw] 164,blk cb [.int .u32 1,.int .i32 0,.int .u32 0,.int .u32 1,fv,.string (Bu (AB dg J2 M.sp).1)] 234,Ae (AU Al) vS J2.us,Ae Au vM J2.map,Ae Au vC J2.comb,Ae Au vR J2.red,Ae (AN .i64) vK J2.marks,Ae BW vw (ws.map Prod.fst),BB (BG 239) ws]) ws H1
 replace H1:=Hd.exI (A:=fun vw:Value=>ex fun ws:List (Nat×Bh)=>Cz [CH ((BL J2 J)∧(ws.map Prod.snd=M.ws)),blk b [vS,.int .i64 J2.parts,vM,vC,vR,.int .i64 J2.chunk,.int .i64 J2.window,.int .i64 J2.fuel,vK,.int .i64 cw,.int .i64 ct,.int .i64 co,.int .i64 ((M.sp:Nat):Int),.int .i64 M.att,.int .i64 ((AB dg J2 M.sp).2),.pointer (some ⟨cb,0,none⟩),vw] 164,blk cb [.int .u32 1,.int .i32 0,.int .u32 0,.int .u32 1,fv,.string (Bu (AB dg J2 M.sp).1)] 234,Ae (AU Al) vS J2.us,Ae Au vM J2.map,Ae Au vC J2.comb,Ae Au vR J2.red,Ae (AN .i64) vK J2.marks,Ae BW vw (ws.map Prod.fst),BB (BG 239) ws]) vw H1
 replace H1:=Hd.exI (A:=fun fv:Value=>ex fun vw:Value=>ex fun ws:List (Nat×Bh)=>Cz [CH ((BL J2 J)∧(ws.map Prod.snd=M.ws)),blk b [vS,.int .i64 J2.parts,vM,vC,vR,.int .i64 J2.chunk,.int .i64 J2.window,.int .i64 J2.fuel,vK,.int .i64 cw,.int .i64 ct,.int .i64 co,.int .i64 ((M.sp:Nat):Int),.int .i64 M.att,.int .i64 ((AB dg J2 M.sp).2),.pointer (some ⟨cb,0,none⟩),vw] 164,blk cb [.int .u32 1,.int .i32 0,.int .u32 0,.int .u32 1,fv,.string (Bu (AB dg J2 M.sp).1)] 234,Ae (AU Al) vS J2.us,Ae Au vM J2.map,Ae Au vC J2.comb,Ae Au vR J2.red,Ae (AN .i64) vK J2.marks,Ae BW vw (ws.map Prod.fst),BB (BG 239) ws]) fv H1
 replace H1:=Hd.exI (A:=fun cb:Nat=>ex fun fv:Value=>ex fun vw:Value=>ex fun ws:List (Nat×Bh)=>Cz [CH ((BL J2 J)∧(ws.map Prod.snd=M.ws)),blk b [vS,.int .i64 J2.parts,vM,vC,vR,.int .i64 J2.chunk,.int .i64 J2.window,.int .i64 J2.fuel,vK,.int .i64 cw,.int .i64 ct,.int .i64 co,.int .i64 ((M.sp:Nat):Int),.int .i64 M.att,.int .i64 ((AB dg J2 M.sp).2),.pointer (some ⟨cb,0,none⟩),vw] 164,blk cb [.int .u32 1,.int .i32 0,.int .u32 0,.int .u32 1,fv,.string (Bu (AB dg J2 M.sp).1)] 234,Ae (AU Al) vS J2.us,Ae Au vM J2.map,Ae Au vC J2.comb,Ae Au vR J2.red,Ae (AN .i64) vK J2.marks,Ae BW vw (ws.map Prod.fst),BB (BG 239) ws]) cb H1
 replace H1:=Hd.exI (A:=fun co:Int=>ex fun cb:Nat=>ex fun fv:Value=>ex fun vw:Value=>ex fun ws:List (Nat×Bh)=>Cz [CH ((BL J2 J)∧(ws.map Prod.snd=M.ws)),blk b [vS,.int .i64 J2.parts,vM,vC,vR,.int .i64 J2.chunk,.int .i64 J2.window,.int .i64 J2.fuel,vK,.int .i64 cw,.int .i64 ct,.int .i64 co,.int .i64 ((M.sp:Nat):Int),.int .i64 M.att,.int .i64 ((AB dg J2 M.sp).2),.pointer (some ⟨cb,0,none⟩),vw] 164,blk cb [.int .u32 1,.int .i32 0,.int .u32 0,.int .u32 1,fv,.string (Bu (AB dg J2 M.sp).1)] 234,Ae (AU Al) vS J2.us,Ae Au vM J2.map,Ae Au vC J2.comb,Ae Au vR J2.red,Ae (AN .i64) vK J2.marks,Ae BW vw (ws.map Prod.fst),BB (BG 239) ws]) co H1
 replace H1:=Hd.exI (A:=fun ct:Int=>ex fun co:Int=>ex fun cb:Nat=>ex fun fv:Value=>ex fun vw:Value=>ex fun ws:List (Nat×Bh)=>Cz [CH ((BL J2 J)∧(ws.map Prod.snd=M.ws)),blk b [vS,.int .i64 J2.parts,vM,vC,vR,.int .i64 J2.chunk,.int .i64 J2.window,.int .i64 J2.fuel,vK,.int .i64 cw,.int .i64 ct,.int .i64 co,.int .i64 ((M.sp:Nat):Int),.int .i64 M.att,.int .i64 ((AB dg J2 M.sp).2),.pointer (some ⟨cb,0,none⟩),vw] 164,blk cb [.int .u32 1,.int .i32 0,.int .u32 0,.int .u32 1,fv,.string (Bu (AB dg J2 M.sp).1)] 234,Ae (AU Al) vS J2.us,Ae Au vM J2.map,Ae Au vC J2.comb,Ae Au vR J2.red,Ae (AN .i64) vK J2.marks,Ae BW vw (ws.map Prod.fst),BB (BG 239) ws]) ct H1
 replace H1:=Hd.exI (A:=fun cw:Int=>ex fun ct:Int=>ex fun co:Int=>ex fun cb:Nat=>ex fun fv:Value=>ex fun vw:Value=>ex fun ws:List (Nat×Bh)=>Cz [CH ((BL J2 J)∧(ws.map Prod.snd=M.ws)),blk b [vS,.int .i64 J2.parts,vM,vC,vR,.int .i64 J2.chunk,.int .i64 J2.window,.int .i64 J2.fuel,vK,.int .i64 cw,.int .i64 ct,.int .i64 co,.int .i64 ((M.sp:Nat):Int),.int .i64 M.att,.int .i64 ((AB dg J2 M.sp).2),.pointer (some ⟨cb,0,none⟩),vw] 164,blk cb [.int .u32 1,.int .i32 0,.int .u32 0,.int .u32 1,fv,.string (Bu (AB dg J2 M.sp).1)] 234,Ae (AU Al) vS J2.us,Ae Au vM J2.map,Ae Au vC J2.comb,Ae Au vR J2.red,Ae (AN .i64) vK J2.marks,Ae BW vw (ws.map Prod.fst),BB (BG 239) ws]) cw H1
 replace H1:=Hd.exI (A:=fun J2:AR=>ex fun cw:Int=>ex fun ct:Int=>ex fun co:Int=>ex fun cb:Nat=>ex fun fv:Value=>ex fun vw:Value=>ex fun ws:List (Nat×Bh)=>Cz [CH ((BL J2 J)∧(ws.map Prod.snd=M.ws)),blk b [vS,.int .i64 J2.parts,vM,vC,vR,.int .i64 J2.chunk,.int .i64 J2.window,.int .i64 J2.fuel,vK,.int .i64 cw,.int .i64 ct,.int .i64 co,.int .i64 ((M.sp:Nat):Int),.int .i64 M.att,.int .i64 ((AB dg J2 M.sp).2),.pointer (some ⟨cb,0,none⟩),vw] 164,blk cb [.int .u32 1,.int .i32 0,.int .u32 0,.int .u32 1,fv,.string (Bu (AB dg J2 M.sp).1)] 234,Ae (AU Al) vS J2.us,Ae Au vM J2.map,Ae Au vC J2.comb,Ae Au vR J2.red,Ae (AN .i64) vK J2.marks,Ae BW vw (ws.map Prod.fst),BB (BG 239) ws]) J2 H1
 replace H1:=Hd.exI (A:=fun vK:Value=>ex fun J2:AR=>ex fun cw:Int=>ex fun ct:Int=>ex fun co:Int=>ex fun cb:Nat=>ex fun fv:Value=>ex fun vw:Value=>ex fun ws:List (Nat×Bh)=>Cz [CH ((BL J2 J)∧(ws.map Prod.snd=M.ws)),blk b [vS,.int .i64 J2.parts,vM,vC,vR,.int .i64 J2.chunk,.int .i64 J2.window,.int .i64 J2.fuel,vK,.int .i64 cw,.int .i64 ct,.int .i64 co,.int .i64 ((M.sp:Nat):Int),.int .i64 M.att,.int .i64 ((AB dg J2 M.sp).2),.pointer (some ⟨cb,0,none⟩),vw] 164,blk cb [.int .u32 1,.int .i32 0,.int .u32 0,.int .u32 1,fv,.string (Bu (AB dg J2 M.sp).1)] 234,Ae (AU Al) vS J2.us,Ae Au vM J2.map,Ae Au vC J2.comb,Ae Au vR J2.red,Ae (AN .i64) vK J2.marks,Ae BW vw (ws.map Prod.fst),BB (BG 239) ws]) vK H1
 replace H1:=Hd.exI (A:=fun vR:Value=>ex fun vK:Value=>ex fun J2:AR=>ex fun cw:Int=>ex fun ct:Int=>ex fun co:Int=>ex fun cb:Nat=>ex fun fv:Value=>ex fun vw:Value=>ex fun ws:List (Nat×Bh)=>Cz [CH ((BL J2 J)∧(ws.map Prod.snd=M.ws)),blk b [vS,.int .i64 J2.parts,vM,vC,vR,.int .i64 J2.chunk,.int .i64 J2.window,.int .i64 J2.fuel,vK,.int .i64 cw,.int .i64 ct,.int .i64 co,.int .i64 ((M.sp:Nat):Int),.int .i64 M.att,.int .i64 ((AB dg J2 M.sp).2),.pointer (some ⟨cb,0,none⟩),vw] 164,blk cb [.int .u32 1,.int .i32 0,.int .u32 0,.int .u32 1,fv,.string (Bu (AB dg J2 M.sp).1)] 234,Ae (AU Al) vS J2.us,Ae Au vM J2.map,Ae Au vC J2.comb,Ae Au vR J2.red,Ae (AN .i64) vK J2.marks,Ae BW vw (ws.map Prod.fst),BB (BG 239) ws]) vR H1
 replace H1:=Hd.exI (A:=fun vC:Value=>ex fun vR:Value=>ex fun vK:Value=>ex fun J2:AR=>ex fun cw:Int=>ex fun ct:Int=>ex fun co:Int=>ex fun cb:Nat=>ex fun fv:Value=>ex fun vw:Value=>ex fun ws:List (Nat×Bh)=>Cz [CH ((BL J2 J)∧(ws.map Prod.snd=M.ws)),blk b [vS,.int .i64 J2.parts,vM,vC,vR,.int .i64 J2.chunk,.int .i64 J2.window,.int .i64 J2.fuel,vK,.int .i64 cw,.int .i64 ct,.int .i64 co,.int .i64 ((M.sp:Nat):Int),.int .i64 M.att,.int .i64 ((AB dg J2 M.sp).2),.pointer (some ⟨cb,0,none⟩),vw] 164,blk cb [.int .u32 1,.int .i32 0,.int .u32 0,.int .u32 1,fv,.string (Bu (AB dg J2 M.sp).1)] 234,Ae (AU Al) vS J2.us,Ae Au vM J2.map,Ae Au vC J2.comb,Ae Au vR J2.red,Ae (AN .i64) vK J2.marks,Ae BW vw (ws.map Prod.fst),BB (BG 239) ws]) vC H1
 replace H1:=Hd.exI (A:=fun vM:Value=>ex fun vC:Value=>ex fun vR:Value=>ex fun vK:Value=>ex fun J2:AR=>ex fun cw:Int=>ex fun ct:Int=>ex fun co:Int=>ex fun cb:Nat=>ex fun fv:Value=>ex fun vw:Value=>ex fun ws:List (Nat×Bh)=>Cz [CH ((BL J2 J)∧(ws.map Prod.snd=M.ws)),blk b [vS,.int .i64 J2.parts,vM,vC,vR,.int .i64 J2.chunk,.int .i64 J2.window,.int .i64 J2.fuel,vK,.int .i64 cw,.int .i64 ct,.int .i64 co,.int .i64 ((M.sp:Nat):Int),.int .i64 M.att,.int .i64 ((AB dg J2 M.sp).2),.pointer (some ⟨cb,0,none⟩),vw] 164,blk cb [.int .u32 1,.int .i32 0,.int .u32 0,.int .u32 1,fv,.string (Bu (AB dg J2 M.sp).1)] 234,Ae (AU Al) vS J2.us,Ae Au vM J2.map,Ae Au vC J2.comb,Ae Au vR J2.red,Ae (AN .i64) vK J2.marks,Ae BW vw (ws.map Prod.fst),BB (BG 239) ws]) vM H1
 replace H1:=Hd.exI (A:=fun vS:Value=>ex fun vM:Value=>ex fun vC:Value=>ex fun vR:Value=>ex fun vK:Value=>ex fun J2:AR=>ex fun cw:Int=>ex fun ct:Int=>ex fun co:Int=>ex fun cb:Nat=>ex fun fv:Value=>ex fun vw:Value=>ex fun ws:List (Nat×Bh)=>Cz [CH ((BL J2 J)∧(ws.map Prod.snd=M.ws)),blk b [vS,.int .i64 J2.parts,vM,vC,vR,.int .i64 J2.chunk,.int .i64 J2.window,.int .i64 J2.fuel,vK,.int .i64 cw,.int .i64 ct,.int .i64 co,.int .i64 ((M.sp:Nat):Int),.int .i64 M.att,.int .i64 ((AB dg J2 M.sp).2),.pointer (some ⟨cb,0,none⟩),vw] 164,blk cb [.int .u32 1,.int .i32 0,.int .u32 0,.int .u32 1,fv,.string (Bu (AB dg J2 M.sp).1)] 234,Ae (AU Al) vS J2.us,Ae Au vM J2.map,Ae Au vC J2.comb,Ae Au vR J2.red,Ae (AN .i64) vK J2.marks,Ae BW vw (ws.map Prod.fst),BB (BG 239) ws]) vS H1
 exact H1
theorem WB (vS:Value) (vM:Value) (vC:Value) (vR:Value) (vK:Value) (C:Cf) (s:Int) (att:Int) (hgo:¬ (Dm C∧0≤s∧s<((C.J.us.length:Nat):Int)∧1≤att∧att≤C.t)):
    Cn Tryz.prog 27 [.agg #[vS,.int .i64 C.J.parts,vM,vC,vR,.int .i64 C.J.chunk,.int .i64 C.J.window,.int .i64 C.J.fuel,vK,.int .i64 C.w,.int .i64 C.t,.int .i64 C.o],.int .i64 s,.int .i64 att] [] [Af (AU Al) vS C.J.us,Af Au vM C.J.map,Af Au vC C.J.comb,Af Au vR C.J.red,Af (AN .i64) vK C.J.marks] (fun v Bs=>v=.tuple #[.pointer none,.int .i64 2]∧Bs=[]):=by
 intro w0 F0 H
 obtain ⟨A1,c2,rfl,hc3,hm4,hp5⟩:=H.fR 0 rfl
 obtain ⟨A6,c7,rfl,hc8,hm9,hp10⟩:=H.fR 1 rfl
 obtain ⟨A11,c12,rfl,hc13,hm14,hp15⟩:=H.fR 2 rfl
 obtain ⟨A16,c17,rfl,hc18,hm19,hp20⟩:=H.fR 3 rfl
 obtain ⟨A21,c22,rfl,hc23,hm24,hp25⟩:=H.fR 4 rfl
 refine enter Tryz.func27 U U (Nat.le_of_ble_eq_true U) (Z (Ac (B4 U U U U H (fun b26 w H=>(B4 U U U U H (fun b27 w H=>(Ad 2 U (Aa (Y (Z (Z (Ac (V U U (Bp (cs:=[.slice A1 C.J.us.length c2,.int .i64 C.J.parts,.slice A6 C.J.map.length c7,.slice A11 C.J.comb.length c12,.slice A16 C.J.red.length c17,.int .i64 C.J.chunk,.int .i64 C.J.window,.int .i64 C.J.fuel,.slice A21 C.J.marks.length c22,.int .i64 C.w,.int .i64 C.t,.int .i64 C.o]) U Ej U U (H.cellsI 1 U U)) (sc (P_ (.slice A1 C.J.us.length c2) (.slice A6 C.J.map.length c7) (.slice A11 C.J.comb.length c12) (.slice A16 C.J.red.length c17) (.slice A21 C.J.marks.length c22) C) H (lR 0 U (lR 1 U (lR 2 U (lR 3 U (lR 4 U l0))))) U U (At Pp U U) ?_))))))))))))))
 rintro _ _ w ⟨rfl,rfl⟩ H
 refine V U U (CX U U) (Ab U ?_)
 refine AD (d:=16) U (fun h28=>?_) (fun h28=>?_)
 ·refine Ad 12 U (Ad 9 U (Aa (Y (BM U (Z (Ac (Ad 2 U (Aa (Y (Ai (Ao (Bg U U U ?_))))))))))))
  replace H:=H.nil
  exact Ag ⟨rfl,rfl⟩ H
 refine V U U (Aj U Aw U (H.cellI 0 U U)) (V U U (AQ U U U) (Ad 2 U ?_))
 refine AD (d:=20) U (fun h29=>?_) (fun h29=>?_)
 ·refine Ad 12 U (Ad 5 U (Aa (Y (BM U (Z (Ac (Ad 2 U (Aa (Y (Ai (Ao (Bg U U U ?_))))))))))))
  replace H:=H.nil
  exact Ag ⟨rfl,rfl⟩ H
 refine V U U (Aj U Aw U (H.cellI 0 U U)) (V U U (Ah U CP U) (V U U (Ah U C4 U) (V U U (Aj U CM U (H.cellI 1 U U)) (V U U (AO U D4 U) (V U U (BN U U U) (Ad 2 U ?_))))))
 refine AD (d:=28) U (fun h30=>?_) (fun h30=>?_)
 ·refine Ad 9 U (Aa (Y (BM U (Z (Ac (Ad 2 U (Aa (Y (Ai (Ao (Bg U U U ?_)))))))))))
  replace H:=H.nil
  exact Ag ⟨rfl,rfl⟩ H
 refine Ab U (V U U (AQ U U U) (Ad 2 U ?_))
 refine AD (d:=32) U (fun h31=>?_) (fun h31=>?_)
 ·refine Ad 5 U (Aa (Y (BM U (Z (Ac (Ad 2 U (Aa (Y (Ai (Ao (Bg U U U ?_)))))))))))
  replace H:=H.nil
  exact Ag ⟨rfl,rfl⟩ H
 refine Ab U (V U U (Ah U HK U) (V U U (Aj U Aw U (H.cellI 1 U U)) (V U U (BP U U U) (Ab U (Aa (Y ?_))))))
 refine Aq U (fun h32=>?_) (fun h32=>?_)
 ·refine Z (Ac (Ad 2 U (Aa (Y (Ai (Ao (Bg U U U ?_)))))))
  replace H:=H.nil
  exact Ag ⟨rfl,rfl⟩ H
 exact absurd ⟨by first |assumption|exact Classical.not_not.1 (by assumption),by omega,by omega,by omega,by omega⟩ hgo
theorem Mn (vS:Value) (vM:Value) (vC:Value) (vR:Value) (vK:Value) (C:Cf) (s:Nat) (att:Int) (hC:Dm C) (hO:B3 C.J) (hgo:s<C.J.us.length∧1≤att∧att≤C.t):
    Cn Tryz.prog 27 [.agg #[vS,.int .i64 C.J.parts,vM,vC,vR,.int .i64 C.J.chunk,.int .i64 C.J.window,.int .i64 C.J.fuel,vK,.int .i64 C.w,.int .i64 C.t,.int .i64 C.o],.int .i64 ((s:Nat):Int),.int .i64 att] [] [Af (AU Al) vS C.J.us,Af Au vM C.J.map,Af Au vC C.J.comb,Af Au vR C.J.red,Af (AN .i64) vK C.J.marks,gl] (fun v Bs=>∃ b:Nat,v=.tuple #[.pointer (some ⟨b,0,none⟩),.int .i64 0]∧Bs=[D_ b C.J (Df dg C.J s att)]):=by
 intro w0 F0 H
 obtain ⟨A1,c2,rfl,hc3,hm4,hp5⟩:=H.fR 0 rfl
 obtain ⟨A6,c7,rfl,hc8,hm9,hp10⟩:=H.fR 1 rfl
 obtain ⟨A11,c12,rfl,hc13,hm14,hp15⟩:=H.fR 2 rfl
 obtain ⟨A16,c17,rfl,hc18,hm19,hp20⟩:=H.fR 3 rfl
 obtain ⟨A21,c22,rfl,hc23,hm24,hp25⟩:=H.fR 4 rfl
 refine enter Tryz.func27 U U (Nat.le_of_ble_eq_true U) (Z (Ac (B4 U U U U H (fun b26 w H=>(B4 U U U U H (fun b27 w H=>(Ad 2 U (Aa (Y (Z (Z (Ac (V U U (Bp (cs:=[.slice A1 C.J.us.length c2,.int .i64 C.J.parts,.slice A6 C.J.map.length c7,.slice A11 C.J.comb.length c12,.slice A16 C.J.red.length c17,.int .i64 C.J.chunk,.int .i64 C.J.window,.int .i64 C.J.fuel,.slice A21 C.J.marks.length c22,.int .i64 C.w,.int .i64 C.t,.int .i64 C.o]) U Ej U U (H.cellsI 1 U U)) (sc (P_ (.slice A1 C.J.us.length c2) (.slice A6 C.J.map.length c7) (.slice A11 C.J.comb.length c12) (.slice A16 C.J.red.length c17) (.slice A21 C.J.marks.length c22) C) H (lR 0 U (lR 1 U (lR 2 U (lR 3 U (lR 4 U l0))))) U U (At Pp U U) ?_))))))))))))))
 rintro _ _ w ⟨rfl,rfl⟩ H
 refine V U U (CX U U) (Ab U ?_)
 refine AD (d:=16) U (fun h28=>?_) (fun h28=>?_)
 ·first |exact (h28 hC).elim|(exfalso;omega)
 refine V U U (Aj U Aw U (H.cellI 0 U U)) (V U U (AQ U U U) (Ad 2 U ?_))
 refine AD (d:=20) U (fun h29=>?_) (fun h29=>?_)
 ·first |exact (h29 hC).elim|(exfalso;omega)
 refine V U U (Aj U Aw U (H.cellI 0 U U)) (V U U (Ah U CP U) (V U U (Ah U C4 U) (V U U (Aj U CM U (H.cellI 1 U U)) (V U U (AO U D4 U) (V U U (BN U U U) (Ad 2 U ?_))))))
 refine AD (d:=28) U (fun h30=>?_) (fun h30=>?_)
 ·first |exact (h30 hC).elim|(exfalso;omega)
 refine Ab U (V U U (AQ U U U) (Ad 2 U ?_))
 refine AD (d:=32) U (fun h31=>?_) (fun h31=>?_)
 ·first |exact (h31 hC).elim|(exfalso;omega)
 refine Ab U (V U U (Ah U HK U) (V U U (Aj U Aw U (H.cellI 1 U U)) (V U U (BP U U U) (Ab U (Aa (Y ?_))))))
 refine Aq U (fun h32=>?_) (fun h32=>?_)
 ·first |exact (h32 hC).elim|(exfalso;omega)
 refine Av (Y (Z (Ac (V U U (Bp (cs:=[.slice A1 C.J.us.length c2,.int .i64 C.J.parts,.slice A6 C.J.map.length c7,.slice A11 C.J.comb.length c12,.slice A16 C.J.red.length c17,.int .i64 C.J.chunk,.int .i64 C.J.window,.int .i64 C.J.fuel,.slice A21 C.J.marks.length c22,.int .i64 C.w,.int .i64 C.t,.int .i64 C.o]) U Ej U U (H.cellsI 1 U U)) (sc (XA (.slice A1 C.J.us.length c2) (.slice A6 C.J.map.length c7) (.slice A11 C.J.comb.length c12) (.slice A16 C.J.red.length c17) (.slice A21 C.J.marks.length c22) C (by first |assumption|omega)) H (lR 0 U (lR 1 U (lR 2 U (lR 3 U (lR 4 U l0))))) U U (At Wc U U) ?_)))))
 rintro _ _ w ⟨J33,vS34,vM35,vC36,vR37,vK38,rfl,rfl,hf39⟩ H
 have hsj:=hf39
 have hJ:B3 J33:=hsj.symm.ok hO
 have hs:s<J33.us.length:=by have:=hsj.len;omega
 have hpt:=hJ.parts
 have hwi:=hJ.window1
 have hcl:(BO dg J33 s att).length≤1000:=by rw [Lo];split<;>omega
 obtain ⟨A40,c41,rfl,hc42,hm43,hp44⟩:=H.fA 0 rfl
 obtain ⟨A45,c46,rfl,hc47,hm48,hp49⟩:=H.fA 1 rfl
 obtain ⟨A50,c51,rfl,hc52,hm53,hp54⟩:=H.fA 2 rfl
 obtain ⟨A55,c56,rfl,hc57,hm58,hp59⟩:=H.fA 3 rfl
 obtain ⟨A60,c61,rfl,hc62,hm63,hp64⟩:=H.fA 4 rfl
 replace H:=H.p6
 refine By U U U Ej U U H U (Nat.le_of_ble_eq_true U) (fun u hu=>by simp [Value.cells] at hu;rcases hu with rfl|rfl|rfl|rfl|rfl|rfl|rfl|rfl|rfl|rfl|rfl|rfl<;>rfl) (fun w H=>(Aa (Y (Z (Ac (V U U (Bp (cs:=[.slice A40 J33.us.length c41,.int .i64 J33.parts,.slice A45 J33.map.length c46,.slice A50 J33.comb.length c51,.slice A55 J33.red.length c56,.int .i64 J33.chunk,.int .i64 J33.window,.int .i64 J33.fuel,.slice A60 J33.marks.length c61,.int .i64 C.w,.int .i64 C.t,.int .i64 C.o]) U Ej U U (H.cellsI 0 U U)) (V U U (Aj U Aw U (H.cellI 6 U U)) (Ab U (V U U (CV (parts:=[(0,.tmp 40),(1,.tmp 41),(2,.tmp 42)]) (vs:=[.agg #[.slice A40 J33.us.length c41,.int .i64 J33.parts,.slice A45 J33.map.length c46,.slice A50 J33.comb.length c51,.slice A55 J33.red.length c56,.int .i64 J33.chunk,.int .i64 J33.window,.int .i64 J33.fuel,.slice A60 J33.marks.length c61,.int .i64 C.w,.int .i64 C.t,.int .i64 C.o],.int .i64 ((s:Nat):Int),.int .i64 att]) (cs:=[.slice A40 J33.us.length c41,.int .i64 J33.parts,.slice A45 J33.map.length c46,.slice A50 J33.comb.length c51,.slice A55 J33.red.length c56,.int .i64 J33.chunk,.int .i64 J33.window,.int .i64 J33.fuel,.slice A60 J33.marks.length c61,.int .i64 C.w,.int .i64 C.t,.int .i64 C.o,.int .i64 ((s:Nat):Int),.int .i64 att,.int .i64 0,.pointer none,.slice none 0 0]) U SA U U) (B4 U U U U H (fun b65 w H=>(Do U U U bI H (fun b66 w H=>(By U U U Ho U U H U (Nat.le_of_ble_eq_true U) (fun u hu=>by simp [Value.cells] at hu;subst hu;rfl) (fun w H=>(Aa (Y (Z ?_))))))))))))))))))
 replace H:=H.p8.p8.p8.p8.p8.p8.p8.p7
 refine BD (.e 0 (.e 1 (.m 2 (.e 3 (.e 4 (.m 5 .z)))))) (fun w=>∃ Ar,Hd w0 F0 w (blk b66 [.pointer (some ⟨b65,0,none⟩)] 44::blk b26 [.slice A40 J33.us.length c41,.int .i64 J33.parts,.slice A45 J33.map.length c46,.slice A50 J33.comb.length c51,.slice A55 J33.red.length c56,.int .i64 J33.chunk,.int .i64 J33.window,.int .i64 J33.fuel,.slice A60 J33.marks.length c61,.int .i64 C.w,.int .i64 C.t,.int .i64 C.o] 28::Ae (AU Al) (.slice A40 J33.us.length c41) J33.us::Ae Au (.slice A45 J33.map.length c46) J33.map::Ae Au (.slice A50 J33.comb.length c51) J33.comb::Ae Au (.slice A55 J33.red.length c56) J33.red::Ae (AN .i64) (.slice A60 J33.marks.length c61) J33.marks::blk b27 [.int .i64 ((s:Nat):Int)] 3::Ar) [Af (AU Al) (.slice A1 C.J.us.length c2) C.J.us,Af Au (.slice A6 C.J.map.length c7) C.J.map,Af Au (.slice A11 C.J.comb.length c12) C.J.comb,Af Au (.slice A16 C.J.red.length c17) C.J.red,Af (AN .i64) (.slice A21 C.J.marks.length c22) C.J.marks,gl]) mo (by kernel_rfl) (fun w H=>⟨_,H⟩) H (fun w H=>(Ak U U U (fun w ⟨Ar,H⟩=>Aj U Ho U (H.cellI 0 U U)) (Ak U U U (fun w ⟨Ar,H⟩=>Hh (fs:=#[]) (cs:=#[.pointer (some ⟨b26,0,none⟩),.pointer (some ⟨b27,0,none⟩),.pointer (some ⟨b66,0,none⟩)]) U U U) (AL U (sc (Ww b26 b27 b66) H l0 U U (At PQ U U) ?_)))))
 rintro _ _ w ⟨cb67,rfl,rfl⟩ H
 replace H:=H.p8|>.p8|>.p8|>.p8|>.p8|>.p8|>.p8|>.p8
 refine AH ⟨_,H⟩ (Ak U U U (fun w ⟨Ar,H⟩=>AI U U) (Ak U U U (fun w ⟨Ar,H⟩=>Ah U Jx U) (AL U ?_)))
 replace H:=H.p9
 refine By U U U DA U U H U (Nat.le_of_ble_eq_true U) (fun u hu=>by simp [Value.cells] at hu;subst hu;rfl) (fun w H=>?_)
 replace H:=H.p8|>.p8|>.p8|>.p8|>.p8|>.p8|>.p8|>.p8
 refine AH ⟨_,H⟩ (Bx (Y (Z (Z (Ac (V U U (Aj U Ho U (H.cellI 0 U U)) ?_))))))
 replace H:=H.p8.p9
 refine sc (Wr b65 b26 b27 b66 cb67 (.slice A40 J33.us.length c41) (.slice A45 J33.map.length c46) (.slice A50 J33.comb.length c51) (.slice A55 J33.red.length c56) (.slice A60 J33.marks.length c61) J33 C.w C.t C.o s att hJ hs) H (lA 1 U (fun _ h=>h) (lA 7 U (fun _ h=>h) (lA 0 U (fun _ h=>h) (lA 2 U BI (lA 3 U BI (lA 4 U BI (lA 5 U BI (lA 6 U BI (lR 5 U l0))))))))) U U (At JU U U) ?_
 rintro v68 _ w rfl H
 obtain ⟨A69,c70,rfl,hc71,hm72,hp73⟩:=H.fA 0 rfl
 refine V U U (AO U EO U) (Ab U (Aa (Y (AK ?_))))
 replace H:=H.p4.p9.p9.p9.p9.p9.p8.p8.p8.k10.newnil BW
 replace H:=Hd.tellK (ys:=([]:List (Nat×Bh)).map Prod.fst) H rfl
 replace H:=Hd.big0 (BG 239) H
 refine Br (σ:=Nat×Value×List (Nat×Bh)) (fun (k,vw,ws)=>[(3,.pointer (some ⟨b26,0,none⟩)),(6,.pointer none),(7,.int .i64 0),(8,.pointer (some ⟨b66,0,none⟩)),(51,.slice A69 ((BO dg J33 s att).length) c70),(52,.int .i64 (((BO dg J33 s att).length:Nat):Int)),(53,.int .i64 ((k:Nat):Int))]) (fun (k,vw,ws) w=>(Hd w0 F0 w [BB (BG 239) ws,Ae BW vw (ws.map Prod.fst),Ae (AN .i64) (.slice A69 ((BO dg J33 s att).length) c70) (BO dg J33 s att),blk cb67 [.int .u32 1,.int .i32 0,.int .u32 0,.int .u32 1,.func (.func 96) #[] #[.pointer (some ⟨b26,0,none⟩),.pointer (some ⟨b27,0,none⟩),.pointer (some ⟨b66,0,none⟩)],.string (Bu (AB dg J33 s).1)] 234,blk b65 [.slice A40 J33.us.length c41,.int .i64 J33.parts,.slice A45 J33.map.length c46,.slice A50 J33.comb.length c51,.slice A55 J33.red.length c56,.int .i64 J33.chunk,.int .i64 J33.window,.int .i64 J33.fuel,.slice A60 J33.marks.length c61,.int .i64 C.w,.int .i64 C.t,.int .i64 C.o,.int .i64 ((s:Nat):Int),.int .i64 att,.int .i64 ((AB dg J33 s).2),.pointer (some ⟨cb67,0,none⟩),vw] 164,Ae (AU Al) (.slice A40 J33.us.length c41) J33.us,Ae Au (.slice A45 J33.map.length c46) J33.map,Ae Au (.slice A50 J33.comb.length c51) J33.comb,Ae Au (.slice A55 J33.red.length c56) J33.red,Ae (AN .i64) (.slice A60 J33.marks.length c61) J33.marks,blk b26 [.slice A40 J33.us.length c41,.int .i64 J33.parts,.slice A45 J33.map.length c46,.slice A50 J33.comb.length c51,.slice A55 J33.red.length c56,.int .i64 J33.chunk,.int .i64 J33.window,.int .i64 J33.fuel,.slice A60 J33.marks.length c61,.int .i64 C.w,.int .i64 C.t,.int .i64 C.o] 28,blk b66 [.pointer (some ⟨b65,0,none⟩)] 44] [Af (AU Al) (.slice A1 C.J.us.length c2) C.J.us,Af Au (.slice A6 C.J.map.length c7) C.J.map,Af Au (.slice A11 C.J.comb.length c12) C.J.comb,Af Au (.slice A16 C.J.red.length c17) C.J.red,Af (AN .i64) (.slice A21 C.J.marks.length c22) C.J.marks,gl])∧(k≤(BO dg J33 s att).length)∧(ws.map Prod.snd=((BO dg J33 s att).take k).map (Hp J33))) (fun (k,vw,ws)=>(BO dg J33 s att).length - k) (0,.slice none 0 0,[]) ⟨rfl,rfl,rfl,rfl,rfl,rfl,rfl,trivial⟩ ⟨H,Nat.zero_le _,rfl⟩ ?_
 rintro ⟨k,vw,ws⟩ w ⟨H,hk,hws⟩
 have hwl:=congrArg List.length hws
 rw [List.length_map,List.length_map,List.length_take] at hwl
 have hwf:(ws.map Prod.fst).length=ws.length:=List.length_map ..
 refine Z (Ac (V U U (AQ U U U) (Aa (Y (Z ?_)))))
 refine Aq U (fun h74=>?_) (fun h74=>?_)
 ·refine Av (Y (Z (AK (Z (Ac ?_)))))
  obtain ⟨x75,hx76⟩:∃ z9,(BO dg J33 s att)[k]?=some z9:=⟨_,List.getElem?_eq_getElem (show k<(BO dg J33 s att).length by omega)⟩
  have th77:=H.thA 2 rfl hx76
  refine V U U (AG (p:=AA A69+k*1) U CZ U U (by omega) (by omega) th77 U) (V U U (Aj U Aw U (H.elA 2 U hx76 (q:=0) U U)) (Ab U (Aa (Y (Z ?_)))))
  have hci:=N0 (Bl hx76)
  refine Ac (Ab U (V U U (Ah U CP U) (V U U (Ah U JD U) (V U U (Aj U Aw U (H.cellI 10 U U)) (sc (aX x75 J33.window (by omega)) H l0 U U (At Wf U U) ?_)))))
  rintro _ _ w ⟨b78,rfl,rfl⟩ H
  refine Ad 5 U (Aa (Y ?_))
  replace H:=H.pick 12 rfl|>.pick 12 rfl|>.pick 12 rfl|>.pick 12 rfl|>.pick 12 rfl|>.pick 12 rfl|>.pick 12 rfl|>.pick 11 rfl|>.pick 11 rfl|>.pick 10 rfl|>.pick 10 rfl
  refine BD (.e 0 (.e 1 (.e 2 (.e 3 (.e 5 (.b 4 6 (.m 6 (.m 7 (.e 8 (.e 9 (.m 10 .z))))) (.m 4 (.m 7 (.e 8 (.e 9 (.m 10 .z))))))))))) (fun w=>∃ Ar,Hd w0 F0 w (blk b78 [.int .i64 x75,.int .i64 J33.window,.int .i64 0,.int .i64 0] 239::BB (BG 239) ws::Ae (AN .i64) (.slice A69 ((BO dg J33 s att).length) c70) (BO dg J33 s att)::blk cb67 [.int .u32 1,.int .i32 0,.int .u32 0,.int .u32 1,.func (.func 96) #[] #[.pointer (some ⟨b26,0,none⟩),.pointer (some ⟨b27,0,none⟩),.pointer (some ⟨b66,0,none⟩)],.string (Bu (AB dg J33 s).1)] 234::Ae (AU Al) (.slice A40 J33.us.length c41) J33.us::Ae Au (.slice A45 J33.map.length c46) J33.map::Ae Au (.slice A50 J33.comb.length c51) J33.comb::Ae Au (.slice A55 J33.red.length c56) J33.red::Ae (AN .i64) (.slice A60 J33.marks.length c61) J33.marks::blk b26 [.slice A40 J33.us.length c41,.int .i64 J33.parts,.slice A45 J33.map.length c46,.slice A50 J33.comb.length c51,.slice A55 J33.red.length c56,.int .i64 J33.chunk,.int .i64 J33.window,.int .i64 J33.fuel,.slice A60 J33.marks.length c61,.int .i64 C.w,.int .i64 C.t,.int .i64 C.o] 28::blk b66 [.pointer (some ⟨b65,0,none⟩)] 44::Ar) [Af (AU Al) (.slice A1 C.J.us.length c2) C.J.us,Af Au (.slice A6 C.J.map.length c7) C.J.map,Af Au (.slice A11 C.J.comb.length c12) C.J.comb,Af Au (.slice A16 C.J.red.length c17) C.J.red,Af (AN .i64) (.slice A21 C.J.marks.length c22) C.J.marks,gl]) mo (by kernel_rfl) (fun w H=>⟨_,H⟩) H (fun w H=>(Ak U U U (fun w ⟨Ar,H⟩=>Aj U Ho U (H.cellI 10 U U)) (Ak U U U (fun w ⟨Ar,H⟩=>Aj U Ho U (H.cellI 10 U U)) (Ak U U U (fun w ⟨Ar,H⟩=>AI U U) (Ak U U U (fun w ⟨Ar,H⟩=>Ah U GH U) (Ap U ?_))))))
  refine Jn U U ?_ ?_
  ·refine V U U (Aj U Gz U (H.cellI 12 U U)) (AH ⟨_,H⟩ (AL U (Bv (parts:=[(0,.tmp 70)]) (vs:=[.pointer (some ⟨b78,0,none⟩)]) (cs:=[.pointer (some ⟨b78,0,none⟩)]) U U U Hj KO U (by decide) (by decide) U U H (fun b79 w H=>?_))))
   replace H:=H.pick 11 rfl|>.pick 11 rfl|>.pick 11 rfl|>.pick 11 rfl|>.pick 11 rfl|>.pick 11 rfl|>.pick 11 rfl|>.pick 11 rfl|>.pick 11 rfl|>.pick 11 rfl|>.pick 11 rfl
   refine AH ⟨_,H⟩ (AL U ?_)
   replace H:=H.pick 12 rfl
   refine BY (xs:=ws.map Prod.fst) (ys:=[b78]) U U U Hj KO U (by decide) U U H (by first |omega|(simp only [List.length_append,List.length_cons,List.length_nil];omega)) (fun F hA hR=>BZ (hA _ (List.mem_of_getElem? (i:=11) U)) U (by decide) (AX.flat_eq.2 U)) (fun v80 w H=>?_)
   replace H:=H.pick 11 rfl|>.pick 11 rfl|>.pick 11 rfl|>.pick 11 rfl|>.pick 11 rfl|>.pick 11 rfl|>.pick 11 rfl|>.pick 11 rfl|>.pick 11 rfl|>.pick 11 rfl|>.pick 11 rfl
   refine AH ⟨_,H⟩ (Ak U U U (fun w ⟨Ar,H⟩=>AI U U) (Ak U U U (fun w ⟨Ar,H⟩=>Ah U GH U) (AL U ?_)))
   obtain ⟨A81,c82,rfl,hc83,hm84,hp85⟩:=H.fA 11 rfl
   replace H:=H.pick 13 rfl
   refine By U U U Gz U U H U (Nat.le_of_ble_eq_true U) (fun u hu=>by simp [Value.cells] at hu;subst hu;rfl) (fun w H=>?_)
   replace H:=H.pick 11 rfl|>.pick 11 rfl|>.pick 11 rfl|>.pick 11 rfl|>.pick 11 rfl|>.pick 11 rfl|>.pick 11 rfl|>.pick 11 rfl|>.pick 11 rfl|>.pick 11 rfl|>.pick 11 rfl
   refine AH ⟨_,H⟩ (Bx (AS (Y (Ac (V U U (AP (z:=((k+1:Nat):Int)) U U U (by rw [Ay (by omega) (by omega)];omega)) (Ab U (Aa ?_)))))))
   replace H:=H.pick 11 rfl|>.p4|>.p4|>.pick 12 rfl|>.p5|>.p5|>.keep 13
   replace H:=Hd.bigN (f:=BG 239) (x:=(b78,(⟨x75,J33.window,0,0⟩:Bh))) H
   replace H:Hd w0 F0 w [BB (BG 239) (ws++[(b78,(⟨x75,J33.window,0,0⟩:Bh))]),Ae BW (.slice A81 (((ws.map Prod.fst)++[b78]).length) c82) ((ws++[(b78,(⟨x75,J33.window,0,0⟩:Bh))]).map Prod.fst),Ae (AN .i64) (.slice A69 ((BO dg J33 s att).length) c70) (BO dg J33 s att),blk cb67 [.int .u32 1,.int .i32 0,.int .u32 0,.int .u32 1,.func (.func 96) #[] #[.pointer (some ⟨b26,0,none⟩),.pointer (some ⟨b27,0,none⟩),.pointer (some ⟨b66,0,none⟩)],.string (Bu (AB dg J33 s).1)] 234,blk b65 [.slice A40 J33.us.length c41,.int .i64 J33.parts,.slice A45 J33.map.length c46,.slice A50 J33.comb.length c51,.slice A55 J33.red.length c56,.int .i64 J33.chunk,.int .i64 J33.window,.int .i64 J33.fuel,.slice A60 J33.marks.length c61,.int .i64 C.w,.int .i64 C.t,.int .i64 C.o,.int .i64 ((s:Nat):Int),.int .i64 att,.int .i64 ((AB dg J33 s).2),.pointer (some ⟨cb67,0,none⟩),.slice A81 (((ws.map Prod.fst)++[b78]).length) c82] 164,Ae (AU Al) (.slice A40 J33.us.length c41) J33.us,Ae Au (.slice A45 J33.map.length c46) J33.map,Ae Au (.slice A50 J33.comb.length c51) J33.comb,Ae Au (.slice A55 J33.red.length c56) J33.red,Ae (AN .i64) (.slice A60 J33.marks.length c61) J33.marks,blk b26 [.slice A40 J33.us.length c41,.int .i64 J33.parts,.slice A45 J33.map.length c46,.slice A50 J33.comb.length c51,.slice A55 J33.red.length c56,.int .i64 J33.chunk,.int .i64 J33.window,.int .i64 J33.fuel,.slice A60 J33.marks.length c61,.int .i64 C.w,.int .i64 C.t,.int .i64 C.o] 28,blk b66 [.pointer (some ⟨b65,0,none⟩)] 44] [Af (AU Al) (.slice A1 C.J.us.length c2) C.J.us,Af Au (.slice A6 C.J.map.length c7) C.J.map,Af Au (.slice A11 C.J.comb.length c12) C.J.comb,Af Au (.slice A16 C.J.red.length c17) C.J.red,Af (AN .i64) (.slice A21 C.J.marks.length c22) C.J.marks,gl]:=by rw [List.map_append];exact H
   exact Bb (s:=(k,undef,ws)) (k+1,.slice A81 (((ws.map Prod.fst)++[b78]).length) c82,ws++[(b78,(⟨x75,J33.window,0,0⟩:Bh))]) ⟨rfl,rfl,rfl,rfl,rfl,rfl,rfl,trivial⟩ ⟨H,by (try dsimp only);omega,by (try dsimp only);rw [List.map_append,hws,DV hx76,List.map_append];rfl⟩ (by (try dsimp only);omega)
  refine Bv (parts:=[(0,.tmp 70)]) (vs:=[.pointer (some ⟨b78,0,none⟩)]) (cs:=[.pointer (some ⟨b78,0,none⟩)]) U U U Hj KO U (by decide) (by decide) U U H (fun b86 w H=>?_)
  replace H:=H.pick 11 rfl|>.pick 11 rfl|>.pick 11 rfl|>.pick 11 rfl|>.pick 11 rfl|>.pick 11 rfl|>.pick 11 rfl|>.pick 11 rfl|>.pick 11 rfl|>.pick 11 rfl|>.pick 11 rfl
  refine AH ⟨_,H⟩ (AL U (V U U (Aj U Gz U (H.cellI 13 U U)) (AH ⟨_,H⟩ (AL U ?_))))
  replace H:=H.pick 12 rfl
  refine BY (xs:=ws.map Prod.fst) (ys:=[b78]) U U U Hj KO U (by decide) U U H (by first |omega|(simp only [List.length_append,List.length_cons,List.length_nil];omega)) (fun F hA hR=>BZ (hA _ (List.mem_of_getElem? (i:=11) U)) U (by decide) (AX.flat_eq.2 U)) (fun v87 w H=>?_)
  replace H:=H.pick 11 rfl|>.pick 11 rfl|>.pick 11 rfl|>.pick 11 rfl|>.pick 11 rfl|>.pick 11 rfl|>.pick 11 rfl|>.pick 11 rfl|>.pick 11 rfl|>.pick 11 rfl|>.pick 11 rfl
  refine AH ⟨_,H⟩ (Ak U U U (fun w ⟨Ar,H⟩=>AI U U) (Ak U U U (fun w ⟨Ar,H⟩=>Ah U GH U) (AL U ?_)))
  obtain ⟨A88,c89,rfl,hc90,hm91,hp92⟩:=H.fA 11 rfl
  replace H:=H.pick 13 rfl
  refine By U U U Gz U U H U (Nat.le_of_ble_eq_true U) (fun u hu=>by simp [Value.cells] at hu;subst hu;rfl) (fun w H=>?_)
  replace H:=H.pick 11 rfl|>.pick 11 rfl|>.pick 11 rfl|>.pick 11 rfl|>.pick 11 rfl|>.pick 11 rfl|>.pick 11 rfl|>.pick 11 rfl|>.pick 11 rfl|>.pick 11 rfl|>.pick 11 rfl
  refine AH ⟨_,H⟩ (Bx (AS (Y (Ac (V U U (AP (z:=((k+1:Nat):Int)) U U U (by rw [Ay (by omega) (by omega)];omega)) (Ab U (Aa ?_)))))))
  replace H:=H.pick 11 rfl|>.p4|>.p4|>.pick 12 rfl|>.p5|>.p5|>.keep 13
  replace H:=Hd.bigN (f:=BG 239) (x:=(b78,(⟨x75,J33.window,0,0⟩:Bh))) H
  replace H:Hd w0 F0 w [BB (BG 239) (ws++[(b78,(⟨x75,J33.window,0,0⟩:Bh))]),Ae BW (.slice A88 (((ws.map Prod.fst)++[b78]).length) c89) ((ws++[(b78,(⟨x75,J33.window,0,0⟩:Bh))]).map Prod.fst),Ae (AN .i64) (.slice A69 ((BO dg J33 s att).length) c70) (BO dg J33 s att),blk cb67 [.int .u32 1,.int .i32 0,.int .u32 0,.int .u32 1,.func (.func 96) #[] #[.pointer (some ⟨b26,0,none⟩),.pointer (some ⟨b27,0,none⟩),.pointer (some ⟨b66,0,none⟩)],.string (Bu (AB dg J33 s).1)] 234,blk b65 [.slice A40 J33.us.length c41,.int .i64 J33.parts,.slice A45 J33.map.length c46,.slice A50 J33.comb.length c51,.slice A55 J33.red.length c56,.int .i64 J33.chunk,.int .i64 J33.window,.int .i64 J33.fuel,.slice A60 J33.marks.length c61,.int .i64 C.w,.int .i64 C.t,.int .i64 C.o,.int .i64 ((s:Nat):Int),.int .i64 att,.int .i64 ((AB dg J33 s).2),.pointer (some ⟨cb67,0,none⟩),.slice A88 (((ws.map Prod.fst)++[b78]).length) c89] 164,Ae (AU Al) (.slice A40 J33.us.length c41) J33.us,Ae Au (.slice A45 J33.map.length c46) J33.map,Ae Au (.slice A50 J33.comb.length c51) J33.comb,Ae Au (.slice A55 J33.red.length c56) J33.red,Ae (AN .i64) (.slice A60 J33.marks.length c61) J33.marks,blk b26 [.slice A40 J33.us.length c41,.int .i64 J33.parts,.slice A45 J33.map.length c46,.slice A50 J33.comb.length c51,.slice A55 J33.red.length c56,.int .i64 J33.chunk,.int .i64 J33.window,.int .i64 J33.fuel,.slice A60 J33.marks.length c61,.int .i64 C.w,.int .i64 C.t,.int .i64 C.o] 28,blk b66 [.pointer (some ⟨b65,0,none⟩)] 44] [Af (AU Al) (.slice A1 C.J.us.length c2) C.J.us,Af Au (.slice A6 C.J.map.length c7) C.J.map,Af Au (.slice A11 C.J.comb.length c12) C.J.comb,Af Au (.slice A16 C.J.red.length c17) C.J.red,Af (AN .i64) (.slice A21 C.J.marks.length c22) C.J.marks,gl]:=by rw [List.map_append];exact H
  exact Bb (s:=(k,undef,ws)) (k+1,.slice A88 (((ws.map Prod.fst)++[b78]).length) c89,ws++[(b78,(⟨x75,J33.window,0,0⟩:Bh))]) ⟨rfl,rfl,rfl,rfl,rfl,rfl,rfl,trivial⟩ ⟨H,by (try dsimp only);omega,by (try dsimp only);rw [List.map_append,hws,DV hx76,List.map_append];rfl⟩ (by (try dsimp only);omega)
 refine Bj (AE (AE (Bk (Y (Z (Ac (V U U (Aj U Ho U (H.cellI 11 U U)) (Ad 2 U (Aa (Y (Ai (Bg U U U ?_))))))))))))
 replace H:=H.p1.p9.p9.p9.p9.p9.p8.p9.k9
 replace H:=F6 b65 C.J (Df dg C.J s att) (.slice A40 J33.us.length c41) (.slice A45 J33.map.length c46) (.slice A50 J33.comb.length c51) (.slice A55 J33.red.length c56) (.slice A60 J33.marks.length c61) J33 C.w C.t C.o cb67 (.func (.func 96) #[] #[.pointer (some ⟨b26,0,none⟩),.pointer (some ⟨b27,0,none⟩),.pointer (some ⟨b66,0,none⟩)]) vw ws ⟨hsj,Xd hsj hws (by omega)⟩ H
 exact Ag ⟨_,rfl,rfl⟩ H
def Eb:List An:=[⟨⟨#[98]⟩,⟨#[49]⟩⟩,⟨⟨#[97]⟩,⟨#[50]⟩⟩]
def CS (u:Value):Cf:=⟨⟨[(u,Eb)],1,DD,[],DD,1,1,9,[]⟩,1,2,1⟩
theorem M5 (u:Value):Dm (CS u):=by
 refine ⟨⟨(show 1≤((1:Nat):Int)∧((1:Nat):Int)≤6 by decide),(show (1:Int)≤1∧(1:Int)≤4 by decide),(show 0≤4 by decide),?_,?_,(show 0<DD.length∧C3 DD<0 by decide+kernel),(show 0<DD.length∧C3 DD<0 by decide+kernel),(show C3 []<0 by decide+kernel),
  (show (1:Int)≤1∧(1:Int)≤7 by decide),(show (1:Int)≤1∧(1:Int)≤4 by decide),(show (1:Int)≤9∧(9:Int)≤2000 by decide)⟩,(show (1:Int)≤1∧(1:Int)≤4 by decide),(show (1:Int)≤2∧(2:Int)≤3 by decide),(show (1:Int)≤1∧(1:Int)≤50 by decide)⟩
 ·intro x hx
  rw [List.mem_singleton.1 hx]
  show FI Eb
  decide
 ·show Ey ((1:Nat):Int) 0 []
  decide
theorem Kx (u:Value):B3 (CS u).J:=⟨(M5 u).1,JM,(fun i h=>by cases h),JM⟩
theorem Zb {J:AR} {u:Value} (h:BL J (CS u).J):∃ a,J=⟨[(a,Eb)],1,DD,[],DD,1,1,9,[]⟩:=by
 obtain ⟨h1,h2⟩:=h
 have hl:J.us.length=1:=by have:=congrArg List.length h1;simpa [CS] using this
 match hu:J.us,hl with
 |[(a,x)],_=>
  rw [hu] at h1
  have h3:[x]=[Eb]:=h1
  simp only [List.cons.injEq,and_true] at h3
  obtain rfl:=h3
  refine ⟨a,h2.trans ?_⟩
  rw [hu]
  rfl
theorem Zc (D:Bc) (a:Value):mapM D ⟨[(a,Eb)],1,DD,[],DD,1,1,9,[]⟩ 0=(Eb,0):=by kernel_rfl
theorem RI (D:Bc) (a:Value):AB D ⟨[(a,Eb)],1,DD,[],DD,1,1,9,[]⟩ 0=([⟨⟨#[97]⟩,⟨#[50]⟩⟩,⟨⟨#[98]⟩,⟨#[49]⟩⟩],0):=by
 unfold AB
 rw [Zc]
 show (srt Eb,(0:Int))=_
 rw [show srt Eb=[⟨⟨#[97]⟩,⟨#[50]⟩⟩,⟨⟨#[98]⟩,⟨#[49]⟩⟩] by decide]
theorem Zf (D:Bc) (a:Value):(BE D ⟨[(a,Eb)],1,DD,[],DD,1,1,9,[]⟩ 0 0).length=2:=by
 unfold BE
 rw [RI]
 kernel_rfl
theorem Kr {D:Bc} {u:Value} (att:Int):BO D (CS u).J 0 att=[CK 2 (CA 1 att)]:=by
 obtain ⟨a,e⟩:=Zb (BL.refl (CS u).J)
 rw [e]
 unfold BO
 rw [RI]
 show [CK ((BE D ⟨[(a,Eb)],1,DD,[],DD,1,1,9,[]⟩ 0 0).length:Nat) (CA 1 att)]=_
 rw [Zf]
 rfl
theorem Ze {D:Bc} {u:Value}:Df D (CS u).J 0 2=⟨0,2,[⟨2,1,0,0⟩]⟩:=by
 unfold Df
 rw [Kr]
 rfl
theorem Zd {D:Bc} {u:Value}:Df D (CS u).J 0 1=⟨0,1,[⟨1,1,0,0⟩]⟩:=by
 unfold Df
 rw [Kr]
 rfl
theorem Za {D:Bc} {u:Value} {M:Ca} (h:M=Df D (CS u).J 0 2):Ez M∧BO D (CS u).J M.sp M.att=[2]∧(Hg D (CS u).J M).length=1∧(D7 M 0 1 2).2=true∧E2 (D7 M 0 1 2).1=true:=by
 refine ⟨by rw [h];exact Mu (Kx u) _ _,?_⟩
 rw [h,Ze]
 refine ⟨Kr 2,rfl,rfl,rfl⟩
theorem Y_ {D:Bc} {u:Value} {M:Ca} (h:M=Df D (CS u).J 0 1):Ez M∧BO D (CS u).J M.sp M.att=[1]∧E2 M=false:=by
 refine ⟨by rw [h];exact Mu (Kx u) _ _,?_⟩
 rw [h,Zd]
 refine ⟨Kr 1,rfl⟩
theorem ZA (u:Value):0<(CS u).J.us.length∧(1:Int)≤2∧2≤(CS u).t:=⟨Nat.zero_lt_one,by decide,show (2:Int)≤2 by decide⟩
theorem Zz (u:Value):0<(CS u).J.us.length∧(1:Int)≤1∧1≤(CS u).t:=⟨Nat.zero_lt_one,by decide,show (1:Int)≤2 by decide⟩
theorem RR  :
    Cn Tryz.prog 93 [] [] [] (fun v Bs=>∃ vS:Value,∃ vP:Value,∃ u:Value,v=.agg #[vS,.int .i64 1,vP,.slice none 0 0,vP,.int .i64 1,.int .i64 1,.int .i64 9,.slice none 0 0,.int .i64 1,.int .i64 2,.int .i64 1]∧Bs=[Ae (AU Al) vS [(u,Eb)],Ae Au vP DD]):=by
 intro w0 F0 H
 refine enter Tryz.func93 U U (Nat.le_of_ble_eq_true U) (Z (Ac (Do U U U Sp H (fun b1 w H=>(Aa (Y (Z (Ac (V U U (CV (parts:=[(0,.const (.int .i64 6))]) (vs:=[.int .i64 6]) (cs:=[.int .i64 6,.int .i64 0,.string ⟨#[]⟩]) U Jg U U) (V U U (CV (parts:=[(0,.const (.int .i64 7))]) (vs:=[.int .i64 7]) (cs:=[.int .i64 7,.int .i64 0,.string ⟨#[]⟩]) U Jg U U) (V U U (CV (parts:=[(0,.const (.int .i64 4))]) (vs:=[.int .i64 4]) (cs:=[.int .i64 4,.int .i64 0,.string ⟨#[]⟩]) U Jg U U) (V U U (CV (parts:=[(0,.const (.int .i64 23))]) (vs:=[.int .i64 23]) (cs:=[.int .i64 23,.int .i64 0,.string ⟨#[]⟩]) U Jg U U) (Bv (parts:=[(0,.tmp 2),(1,.tmp 3),(2,.tmp 4),(3,.tmp 5)]) (vs:=[.agg #[.int .i64 6,.int .i64 0,.string ⟨#[]⟩],.agg #[.int .i64 7,.int .i64 0,.string ⟨#[]⟩],.agg #[.int .i64 4,.int .i64 0,.string ⟨#[]⟩],.agg #[.int .i64 23,.int .i64 0,.string ⟨#[]⟩]]) (cs:=[.int .i64 6,.int .i64 0,.string ⟨#[]⟩,.int .i64 7,.int .i64 0,.string ⟨#[]⟩,.int .i64 4,.int .i64 0,.string ⟨#[]⟩,.int .i64 23,.int .i64 0,.string ⟨#[]⟩]) U U U FO KP U (by decide) (by decide) U U H (fun b2 w H=>(Ab U (Aa (Y (Z (Ac (V U U (CV (parts:=[(0,.const (.string ⟨#[98]⟩)),(1,.const (.string ⟨#[49]⟩))]) (vs:=[.string ⟨#[98]⟩,.string ⟨#[49]⟩]) (cs:=[.string ⟨#[98]⟩,.string ⟨#[49]⟩]) U G4 U U) (V U U (CV (parts:=[(0,.const (.string ⟨#[97]⟩)),(1,.const (.string ⟨#[50]⟩))]) (vs:=[.string ⟨#[97]⟩,.string ⟨#[50]⟩]) (cs:=[.string ⟨#[97]⟩,.string ⟨#[50]⟩]) U G4 U U) (Bv (parts:=[(0,.tmp 7),(1,.tmp 8)]) (vs:=[.agg #[.string ⟨#[98]⟩,.string ⟨#[49]⟩],.agg #[.string ⟨#[97]⟩,.string ⟨#[50]⟩]]) (cs:=[.string ⟨#[98]⟩,.string ⟨#[49]⟩,.string ⟨#[97]⟩,.string ⟨#[50]⟩]) U U U Bq CJ U (by decide) (by decide) U U H (fun b3 w H=>(Bv (parts:=[(0,.tmp 9)]) (vs:=[.slice (some ⟨b3,0,none⟩) 2 2]) (cs:=[.slice (some ⟨b3,0,none⟩) 2 2]) U U U Ei KQ U (by decide) (by decide) U U H (fun b4 w H=>(Ad 2 U (V U U (CV (parts:=[(0,.tmp 10),(1,.const (.int .i64 1)),(2,.tmp 11),(4,.tmp 12),(5,.const (.int .i64 1)),(6,.const (.int .i64 1)),(7,.const (.int .i64 9))]) (vs:=[.slice (some ⟨b4,0,none⟩) 1 1,.int .i64 1,.slice (some ⟨b2,0,none⟩) 4 4,.slice (some ⟨b2,0,none⟩) 4 4,.int .i64 1,.int .i64 1,.int .i64 9]) (cs:=[.slice (some ⟨b4,0,none⟩) 1 1,.int .i64 1,.slice (some ⟨b2,0,none⟩) 4 4,.slice none 0 0,.slice (some ⟨b2,0,none⟩) 4 4,.int .i64 1,.int .i64 1,.int .i64 9,.slice none 0 0]) U SD U U) (V U U (CV (parts:=[(0,.tmp 13),(1,.const (.int .i64 1)),(2,.const (.int .i64 2)),(3,.const (.int .i64 1))]) (vs:=[.agg #[.slice (some ⟨b4,0,none⟩) 1 1,.int .i64 1,.slice (some ⟨b2,0,none⟩) 4 4,.slice none 0 0,.slice (some ⟨b2,0,none⟩) 4 4,.int .i64 1,.int .i64 1,.int .i64 9,.slice none 0 0],.int .i64 1,.int .i64 2,.int .i64 1]) (cs:=[.slice (some ⟨b4,0,none⟩) 1 1,.int .i64 1,.slice (some ⟨b2,0,none⟩) 4 4,.slice none 0 0,.slice (some ⟨b2,0,none⟩) 4 4,.int .i64 1,.int .i64 1,.int .i64 9,.slice none 0 0,.int .i64 1,.int .i64 2,.int .i64 1]) U SE U U) ?_))))))))))))))))))))))))))))
 replace H:=H.p3
 refine By U U U Ej U U H U (Nat.le_of_ble_eq_true U) (fun u hu=>by simp [Value.cells] at hu;rcases hu with rfl|rfl|rfl|rfl|rfl|rfl|rfl|rfl|rfl|rfl|rfl|rfl<;>rfl) (fun w H=>(Aa (Y (Ai (EW (cs:=[.slice (some ⟨b4,0,none⟩) 1 1,.int .i64 1,.slice (some ⟨b2,0,none⟩) 4 4,.slice none 0 0,.slice (some ⟨b2,0,none⟩) 4 4,.int .i64 1,.int .i64 1,.int .i64 9,.slice none 0 0,.int .i64 1,.int .i64 2,.int .i64 1]) U U Ej U (H.cellsI 0 U U) ?_)))))
 replace H:=H.p2
 replace H:Hd w0 F0 w [Ae Al (.slice (some ⟨b3,0,none⟩) 2 2) Eb,blk b1 [.slice (some ⟨b4,0,none⟩) 1 1,.int .i64 1,.slice (some ⟨b2,0,none⟩) 4 4,.slice none 0 0,.slice (some ⟨b2,0,none⟩) 4 4,.int .i64 1,.int .i64 1,.int .i64 9,.slice none 0 0,.int .i64 1,.int .i64 2,.int .i64 1] 28,blk b4 [.slice (some ⟨b3,0,none⟩) 2 2] 35,blk b2 [.int .i64 6,.int .i64 0,.string ⟨#[]⟩,.int .i64 7,.int .i64 0,.string ⟨#[]⟩,.int .i64 4,.int .i64 0,.string ⟨#[]⟩,.int .i64 23,.int .i64 0,.string ⟨#[]⟩] 223] []:=H.turn (fun F h=>Ds h rfl (by decide) rfl)
 replace H:=H.p3
 replace H:Hd w0 F0 w [Ae Au (.slice (some ⟨b2,0,none⟩) 4 4) DD,Ae Al (.slice (some ⟨b3,0,none⟩) 2 2) Eb,blk b1 [.slice (some ⟨b4,0,none⟩) 1 1,.int .i64 1,.slice (some ⟨b2,0,none⟩) 4 4,.slice none 0 0,.slice (some ⟨b2,0,none⟩) 4 4,.int .i64 1,.int .i64 1,.int .i64 9,.slice none 0 0,.int .i64 1,.int .i64 2,.int .i64 1] 28,blk b4 [.slice (some ⟨b3,0,none⟩) 2 2] 35] []:=H.turn (fun F h=>Ds h rfl (by decide) rfl)
 replace H:=H.p1.p3.k3
 replace H:Hd w0 F0 w [Ae F5 (.slice (some ⟨b4,0,none⟩) 1 1) (B1 ([(.slice (some ⟨b3,0,none⟩) 2 2,Eb)]:List (Value×List An))),Ae Al (.slice (some ⟨b3,0,none⟩) 2 2) Eb,Ae Au (.slice (some ⟨b2,0,none⟩) 4 4) DD] []:=H.turn (fun F h=>Ds h rfl (by decide) rfl)
 replace H:=H.p1
 replace H:=Hd.stI (Bs:=[Ae Al (.slice (some ⟨b3,0,none⟩) 2 2) Eb]) H
 replace H:=H.p1|>.hdI|>.h1 (A:=Ae (AU Al) (.slice (some ⟨b4,0,none⟩) 1 1) [(.slice (some ⟨b3,0,none⟩) 2 2,Eb)])
 exact Ag ⟨(.slice (some ⟨b4,0,none⟩) 1 1),(.slice (some ⟨b2,0,none⟩) 4 4),(.slice (some ⟨b3,0,none⟩) 2 2),rfl,rfl⟩ H
theorem Xl (b:Nat) (J:AR) (M:Ca):Cn Tryz.prog 32 [.pointer (some ⟨b,0,none⟩)] [D_ b J M] [] (fun v Bs=>v=.int .i64 ((AB dg J M.sp).2)∧Bs=[D_ b J M]):=by
 intro w0 F0 H
 obtain ⟨vS,vM,vC,vR,vK,J2,cw,ct,co,cb,fv,vw,ws,⟨hsj,hws⟩,H⟩:=HS b J M H
 have H1:Hd w0 F0 w0 ([blk cb [.int .u32 1,.int .i32 0,.int .u32 0,.int .u32 1,fv,.string (Bu (AB dg J2 M.sp).1)] 234]++[blk b [vS,.int .i64 J2.parts,vM,vC,vR,.int .i64 J2.chunk,.int .i64 J2.window,.int .i64 J2.fuel,vK,.int .i64 cw,.int .i64 ct,.int .i64 co,.int .i64 ((M.sp:Nat):Int),.int .i64 M.att,.int .i64 ((AB dg J2 M.sp).2),.pointer (some ⟨cb,0,none⟩),vw] 164,Ae (AU Al) vS J2.us,Ae Au vM J2.map,Ae Au vC J2.comb,Ae Au vR J2.red,Ae (AN .i64) vK J2.marks,Ae BW vw (ws.map Prod.fst),BB (BG 239) ws]) []:=H.pick 1 rfl
 refine (Fz (P2 b vS vM vC vR vK J2 cw ct co M.sp M.att cb fv vw ) H1 (lA 0 U (fun _ h=>h) l0)).mono ?_
 rintro e w ⟨v,rfl,Bs,⟨rfl,rfl⟩,H⟩
 replace H:=H.p1
 have e:=hsj.split dg M.sp
 exact ⟨_,rfl,_,⟨by rw [e],rfl⟩,F6 b J M vS vM vC vR vK J2 cw ct co cb fv vw ws ⟨hsj,hws⟩ (As:=[]) H⟩
theorem Mq (b:Nat) (J:AR) (M:Ca) (hJ:B3 J):Cn Tryz.prog 30 [.pointer (some ⟨b,0,none⟩)] [D_ b J M] [] (fun v Bs=>Bs=[Ae (AN .i64) v (BO dg J M.sp M.att),D_ b J M]):=by
 intro w0 F0 H
 obtain ⟨vS,vM,vC,vR,vK,J2,cw,ct,co,cb,fv,vw,ws,⟨hsj,hws⟩,H⟩:=HS b J M H
 have H1:Hd w0 F0 w0 ([blk cb [.int .u32 1,.int .i32 0,.int .u32 0,.int .u32 1,fv,.string (Bu (AB dg J2 M.sp).1)] 234]++[blk b [vS,.int .i64 J2.parts,vM,vC,vR,.int .i64 J2.chunk,.int .i64 J2.window,.int .i64 J2.fuel,vK,.int .i64 cw,.int .i64 ct,.int .i64 co,.int .i64 ((M.sp:Nat):Int),.int .i64 M.att,.int .i64 ((AB dg J2 M.sp).2),.pointer (some ⟨cb,0,none⟩),vw] 164,Ae (AU Al) vS J2.us,Ae Au vM J2.map,Ae Au vC J2.comb,Ae Au vR J2.red,Ae (AN .i64) vK J2.marks,Ae BW vw (ws.map Prod.fst),BB (BG 239) ws]) []:=H.pick 1 rfl
 refine (Fz (Ws b vS vM vC vR vK J2 cw ct co M.sp M.att cb fv vw  (hsj.symm.ok hJ)) H1 (lA 0 U (fun _ h=>h) l0)).mono ?_
 rintro e w ⟨v,rfl,Bs,rfl,H⟩
 replace H:=H.p9.p9.p9.p9.p9.p9.p9.p8.p9
 replace H:=F6 b J M vS vM vC vR vK J2 cw ct co cb fv vw ws ⟨hsj,hws⟩ (As:=[Ae (AN .i64) v (BO dg J2 M.sp M.att)]) H
 refine ⟨v,rfl,_,rfl,?_⟩
 have e:=Ts hsj dg M.sp M.att
 rw [e] at H
 exact H.pick 1 U
theorem Xk (b:Nat) (J:AR) (M:Ca) (p:Int) (q:Int) (hJ:B3 J):Cn Tryz.prog 41 [.pointer (some ⟨b,0,none⟩),.int .i64 p,.int .i64 q] [D_ b J M] [] (fun v Bs=>Bs=[Ae Al v (BF dg J M.sp M.att p q),D_ b J M]):=by
 intro w0 F0 H
 obtain ⟨vS,vM,vC,vR,vK,J2,cw,ct,co,cb,fv,vw,ws,⟨hsj,hws⟩,H⟩:=HS b J M H
 have H1:Hd w0 F0 w0 ([blk cb [.int .u32 1,.int .i32 0,.int .u32 0,.int .u32 1,fv,.string (Bu (AB dg J2 M.sp).1)] 234]++[blk b [vS,.int .i64 J2.parts,vM,vC,vR,.int .i64 J2.chunk,.int .i64 J2.window,.int .i64 J2.fuel,vK,.int .i64 cw,.int .i64 ct,.int .i64 co,.int .i64 ((M.sp:Nat):Int),.int .i64 M.att,.int .i64 ((AB dg J2 M.sp).2),.pointer (some ⟨cb,0,none⟩),vw] 164,Ae (AU Al) vS J2.us,Ae Au vM J2.map,Ae Au vC J2.comb,Ae Au vR J2.red,Ae (AN .i64) vK J2.marks,Ae BW vw (ws.map Prod.fst),BB (BG 239) ws]) []:=H.pick 1 rfl
 refine (Fz (P1 b vS vM vC vR vK J2 cw ct co M.sp M.att cb fv vw p q (hsj.symm.ok hJ)) H1 (lA 0 U (fun _ h=>h) l0)).mono ?_
 rintro e w ⟨v,rfl,Bs,rfl,H⟩
 replace H:=H.p9.p9.p9.p9.p9.p9.p9.p8.p9
 replace H:=F6 b J M vS vM vC vR vK J2 cw ct co cb fv vw ws ⟨hsj,hws⟩ (As:=[Ae Al v (BF dg J2 M.sp M.att p q)]) H
 refine ⟨v,rfl,_,rfl,?_⟩
 have e:=Tb hsj dg M.sp M.att p q
 rw [e] at H
 exact H.pick 1 U
theorem Mr (b:Nat) (J:AR) (M:Ca) (hM:Ez M):
    Cn Tryz.prog 37 [.pointer (some ⟨b,0,none⟩)] [D_ b J M] [] (fun v Bs=>v=.bool (E2 M)∧Bs=[D_ b J M]):=by
 intro w0 F0 H
 obtain ⟨vS1,vM2,vC3,vR4,vK5,J6,cw7,ct8,co9,cb10,fv11,vw12,ws13,⟨hsj14,hws15⟩,H⟩:=HS b J M H
 have hwf:(ws13.map Prod.fst).length=ws13.length:=List.length_map ..
 have hwl:M.ws.length=ws13.length:=by rw [←hws15];exact List.length_map ..
 obtain ⟨A16,c17,rfl,hc18,hm19,hp20⟩:=H.fA 7 rfl
 refine enter Tryz.func37 U U (Nat.le_of_ble_eq_true U) (Z (Ac (Ab U (Aa (Y (Z (Z (Ac (Ab U (V U U (Dh U Fe U U) (Aa (Y (B0 U (Av (Y (Z (Z (Ac (Ab U (V U U (AI U U) (V U U (Ah U GH U) (V U U (Aj U Gz U (H.cellI 0 U U)) (V U U (AO U KF U) (Ab U (Aa (Y (AK (Br (σ:=Nat) (fun k=>[(10,.slice A16 ((ws13.map Prod.fst).length) c17),(11,.int .i64 (((ws13.map Prod.fst).length:Nat):Int)),(12,.int .i64 ((k:Nat):Int))]) (fun k w=>(Hd w0 F0 w [blk b [vS1,.int .i64 J6.parts,vM2,vC3,vR4,.int .i64 J6.chunk,.int .i64 J6.window,.int .i64 J6.fuel,vK5,.int .i64 cw7,.int .i64 ct8,.int .i64 co9,.int .i64 ((M.sp:Nat):Int),.int .i64 M.att,.int .i64 ((AB dg J6 M.sp).2),.pointer (some ⟨cb10,0,none⟩),.slice A16 ((ws13.map Prod.fst).length) c17] 164,blk cb10 [.int .u32 1,.int .i32 0,.int .u32 0,.int .u32 1,fv11,.string (Bu (AB dg J6 M.sp).1)] 234,Ae (AU Al) vS1 J6.us,Ae Au vM2 J6.map,Ae Au vC3 J6.comb,Ae Au vR4 J6.red,Ae (AN .i64) vK5 J6.marks,Ae BW (.slice A16 ((ws13.map Prod.fst).length) c17) (ws13.map Prod.fst),BB (BG 239) ws13] [])∧(k≤ws13.length)∧((M.ws.take k).all (fun w=>decide (w.x=w.c))=true)) (fun k=>ws13.length - k) 0 ⟨rfl,rfl,rfl,trivial⟩ ⟨H,Nat.zero_le _,rfl⟩ ?_))))))))))))))))))))))))))))
 rintro k w ⟨H,hk,hd⟩
 refine Z (Ac (V U U (AQ U U U) (Aa (Y (Z ?_)))))
 refine Aq U (fun h21=>?_) (fun h21=>?_)
 ·refine Av (Y (Z (AK (Z (Ac ?_)))))
  obtain ⟨x22,hx23⟩:∃ z9,(ws13.map Prod.fst)[k]?=some z9:=⟨_,List.getElem?_eq_getElem (show k<(ws13.map Prod.fst).length by omega)⟩
  have th24:=H.thA 7 rfl hx23
  refine V U U (AG (p:=AA A16+k*1) U Hj U U (by omega) (by omega) th24 U) (V U U (Aj U Ng U (H.elA 7 U hx23 (q:=0) U U)) (Ab U (Aa (Y (Z (Ac (Ab U ?_)))))))
  obtain ⟨wd25,he26⟩:=Hq hx23
  have hm27:M.ws[k]?=some wd25:=by rw [←hws15];exact Hr he26
  have hok_wd25:=hM.1 _ (Bl hm27)
  unfold Fp at hok_wd25
  replace H:=H.p8
  replace H:=Hd.bigO k he26 H
  refine sc (aW x22 wd25.c wd25.s wd25.e wd25.x) H (lA 0 U (fun _ h=>h) l0) U U (At UZ U U) ?_
  rintro _ _ w ⟨rfl,rfl⟩ H
  replace H:=Hd.bigI (f:=BG 239) (x:=(x22,wd25)) k (Gt he26) H
  rw [I_ he26] at H
  refine V U U (CX U U) (Aa (Y ?_))
  refine Aq U (fun h28=>?_) (fun h28=>?_)
  ·refine Z (Ac (Ab U (Aa (Y (Ai (Ax (Ao (Ao (Ax (Ao (Am U U ?_)))))))))))
   have e:E2 M=false:=NA hm27 (by simpa using h28)
   replace H:=H.p8.p8.p8.p8.p8.p8.p8.p8
   replace H:=F6 b J M vS1 vM2 vC3 vR4 vK5 J6 cw7 ct8 co9 cb10 fv11 (.slice A16 ((ws13.map Prod.fst).length) c17) ws13 ⟨hsj14,hws15⟩ H
   exact Ag ⟨by rw [e]<;>rfl,rfl⟩ H
  refine Av (AS (Y (Ac (V U U (AP (z:=((k+1:Nat):Int)) U U U (by rw [Ay (by omega) (by omega)];omega)) (Ab U (Aa ?_))))))
  replace H:=H.p8.p8.p8.p8.p8.p8.p8.p8
  exact Bb (s:=k) (k+1) ⟨rfl,rfl,rfl,trivial⟩ ⟨H,by (try dsimp only);omega,NB hd hm27 (by simpa using h28)⟩ (by (try dsimp only);omega)
 refine Bj (AE (AE (Bk (Y (Z (Ac (Ab U (Aa (Y (Ai (Am U U ?_)))))))))))
 have e:E2 M=true:=by unfold E2;rw [←List.take_of_length_le (show M.ws.length≤k by omega)];exact hd
 replace H:=F6 b J M vS1 vM2 vC3 vR4 vK5 J6 cw7 ct8 co9 cb10 fv11 (.slice A16 ((ws13.map Prod.fst).length) c17) ws13 ⟨hsj14,hws15⟩ H
 exact Ag ⟨by rw [e]<;>rfl,rfl⟩ H
theorem Qk (b:Nat) (J:AR) (M:Ca) (p:Int) (ep:Int) (n:Int) (hM:Ez M):
    Cn Tryz.prog 44 [.pointer (some ⟨b,0,none⟩),.int .i64 p,.int .i64 ep,.int .i64 n] [D_ b J M] [] (fun v Bs=>v=.bool ((D7 M p ep n).2)∧Bs=[D_ b J ((D7 M p ep n).1)]):=by
 intro w0 F0 H
 obtain ⟨vS1,vM2,vC3,vR4,vK5,J6,cw7,ct8,co9,cb10,fv11,vw12,ws13,⟨hsj14,hws15⟩,H⟩:=HS b J M H
 have hwf:(ws13.map Prod.fst).length=ws13.length:=List.length_map ..
 have hwl:M.ws.length=ws13.length:=by rw [←hws15];exact List.length_map ..
 obtain ⟨A16,c17,rfl,hc18,hm19,hp20⟩:=H.fA 7 rfl
 refine enter Tryz.func44 U U (Nat.le_of_ble_eq_true U) (Z (Ac (Ab U (Aa (Y (Z ?_))))))
 by_cases hin21:0≤p∧p<((M.ws.length:Nat):Int)
 ·refine Ac (Ab U (V U U (MN U Fe U U) (Ad 2 U (V U U (BN U U U) (Ad 2 U ?_)))))
  refine AD (d:=15) U (fun h22=>?_) (fun h22=>?_)
  ·refine Ad 2 U (V U U (AI U U) (V U U (Ah U GH U) (V U U (Aj U Gz U (H.cellI 0 U U)) (V U U (AO U KF U) (V U U (AQ U U U) (Ad 2 U ?_))))))
   refine AD (d:=24) U (fun h23=>?_) (fun h23=>?_)
   ·refine Ab U (V U U (AI U U) (V U U (Ah U GH U) (V U U (Aj U Gz U (H.cellI 0 U U)) (Ab U ?_))))
    obtain ⟨x24,hx25⟩:∃ z9,(ws13.map Prod.fst)[(p).toNat]?=some z9:=⟨_,List.getElem?_eq_getElem (show (p).toNat<(ws13.map Prod.fst).length by omega)⟩
    have th26:=H.thA 7 rfl hx25
    refine V U U (AG (p:=AA A16+((p).toNat)*1) U Hj U U (by omega) (by omega) th26 (by omega)) (V U U (Aj U Ng U (H.elA 7 U hx25 (q:=0) U U)) (Ad 2 U ?_))
    obtain ⟨wd27,he28⟩:=Hq hx25
    have hm29:M.ws[(p).toNat]?=some wd27:=by rw [←hws15];exact Hr he28
    have hok_wd27:=hM.1 _ (Bl hm29)
    unfold Fp at hok_wd27
    replace H:=H.p8
    replace H:=Hd.bigO ((p).toNat) he28 H
    refine sc (aV x24 wd27.c wd27.s wd27.e wd27.x ep n) H l0 U U (At U3 U U) ?_
    rintro _ _ w ⟨rfl,rfl⟩ H
    replace H:=Hd.bigI (f:=BG 239) (x:=(x24,Fk wd27 ep n)) ((p).toNat) (Gt he28) H
    replace H:=H.p8
    replace H:=Hd.tellK (ys:=(ws13.set ((p).toNat) (x24,Fk wd27 ep n)).map Prod.fst) H (KM he28).1
    refine Ad 2 U (Aa (Y (Ai (Am U U ?_))))
    have e:=Jc (m:=M) (p:=p) (ep:=ep) (n:=n) (by omega) hm29
    replace H:=H.p8.p8.p8.p8.p8.p8.p8
    replace H:=F6 b J ({ M with ws:=M.ws.set (p).toNat (Fk wd27 ep n) }:Ca) vS1 vM2 vC3 vR4 vK5 J6 cw7 ct8 co9 cb10 fv11 (.slice A16 ((ws13.map Prod.fst).length) c17) (ws13.set ((p).toNat) (x24,Fk wd27 ep n)) ⟨hsj14,(by rw [(KM he28).2,hws15])⟩ H
    exact Ag ⟨by rw [e]<;>rfl,by rw [e]<;>rfl⟩ H
   exfalso;omega
  exfalso;omega
 refine Ac (Ab U (V U U (MN U Fe U U) (Ad 2 U (V U U (BN U U U) (Ad 2 U ?_)))))
 refine AD (d:=15) U (fun h30=>?_) (fun h30=>?_)
 ·refine Ad 2 U (V U U (AI U U) (V U U (Ah U GH U) (V U U (Aj U Gz U (H.cellI 0 U U)) (V U U (AO U KF U) (V U U (AQ U U U) (Ad 2 U ?_))))))
  refine AD (d:=24) U (fun h31=>?_) (fun h31=>?_)
  ·exfalso;omega
  refine Ad 12 U (Aa (Y (Ai (Am U U ?_))))
  have e:=Hy (m:=M) (p:=p) (ep:=ep) (n:=n) (by omega)
  replace H:=F6 b J M vS1 vM2 vC3 vR4 vK5 J6 cw7 ct8 co9 cb10 fv11 (.slice A16 ((ws13.map Prod.fst).length) c17) ws13 ⟨hsj14,hws15⟩ H
  exact Ag ⟨by rw [e]<;>rfl,by rw [e]<;>rfl⟩ H
 refine Ad 12 U (Ad 9 U (Aa (Y (Ai (Am U U ?_)))))
 have e:=Hy (m:=M) (p:=p) (ep:=ep) (n:=n) (by omega)
 replace H:=F6 b J M vS1 vM2 vC3 vR4 vK5 J6 cw7 ct8 co9 cb10 fv11 (.slice A16 ((ws13.map Prod.fst).length) c17) ws13 ⟨hsj14,hws15⟩ H
 exact Ag ⟨by rw [e]<;>rfl,by rw [e]<;>rfl⟩ H
theorem Ql (b:Nat) (J:AR) (M:Ca) (hJ:B3 J) (hM:Ez M):
    Cn Tryz.prog 31 [.pointer (some ⟨b,0,none⟩)] [D_ b J M] [] (fun v Bs=>∃ zs:List (BU BQ),Bs=[Ae Gq v zs,D_ b J M]∧(zs.map C5=Hg dg J M)):=by
 intro w0 F0 H
 obtain ⟨vS1,vM2,vC3,vR4,vK5,J6,cw7,ct8,co9,cb10,fv11,vw12,ws13,⟨hsj14,hws15⟩,H⟩:=HS b J M H
 have hwf:(ws13.map Prod.fst).length=ws13.length:=List.length_map ..
 have hwl:M.ws.length=ws13.length:=by rw [←hws15];exact List.length_map ..
 obtain ⟨A16,c17,rfl,hc18,hm19,hp20⟩:=H.fA 7 rfl
 have hJ2:B3 J6:=hsj14.symm.ok hJ
 have hml:=hM.2
 refine enter Tryz.func31 U U (Nat.le_of_ble_eq_true U) (Z (Ac (Ab U (Aa (Y (Z (Z (Ac (Ab U (V U U (Dh U Fe U U) (Aa (Y (B0 U (Av (Y (Z (Ac (Ab U (Aa (Y (Z (Z (Ac (Ab U (V U U (AI U U) (V U U (Ah U GH U) (V U U (Aj U Gz U (H.cellI 0 U U)) (V U U (AO U KF U) (Ab U (Aa (Y (AK ?_))))))))))))))))))))))))))))))))
 replace H:=H.newnil EU
 replace H:=Hd.tw0 (α:=BQ) H
 replace H:=H.h2 (B:=Ae EU (.slice none 0 0) (([]:List (BU BQ)).map CD))|>.p1
 refine Br (σ:=Nat×Value×List (BU BQ)) (fun (k,q,zs)=>[(0,.pointer (some ⟨b,0,none⟩)),(2,.slice none 0 0),(3,q),(13,.slice A16 ((ws13.map Prod.fst).length) c17),(14,.int .i64 (((ws13.map Prod.fst).length:Nat):Int)),(15,.int .i64 ((k:Nat):Int))]) (fun (k,q,zs) w=>(Hd w0 F0 w [Ae EU q (zs.map CD),Dp zs,blk b [vS1,.int .i64 J6.parts,vM2,vC3,vR4,.int .i64 J6.chunk,.int .i64 J6.window,.int .i64 J6.fuel,vK5,.int .i64 cw7,.int .i64 ct8,.int .i64 co9,.int .i64 ((M.sp:Nat):Int),.int .i64 M.att,.int .i64 ((AB dg J6 M.sp).2),.pointer (some ⟨cb10,0,none⟩),.slice A16 ((ws13.map Prod.fst).length) c17] 164,blk cb10 [.int .u32 1,.int .i32 0,.int .u32 0,.int .u32 1,fv11,.string (Bu (AB dg J6 M.sp).1)] 234,Ae (AU Al) vS1 J6.us,Ae Au vM2 J6.map,Ae Au vC3 J6.comb,Ae Au vR4 J6.red,Ae (AN .i64) vK5 J6.marks,Ae BW (.slice A16 ((ws13.map Prod.fst).length) c17) (ws13.map Prod.fst),BB (BG 239) ws13] [])∧(k≤ws13.length)∧(zs.map C5=C6 dg J6 M.sp M.att (M.ws.take k) 0)) (fun (k,q,zs)=>ws13.length - k) (0,.slice none 0 0,[]) ⟨rfl,rfl,rfl,rfl,rfl,rfl,trivial⟩ ⟨H,Nat.zero_le _,rfl⟩ ?_
 rintro ⟨k,q,zs⟩ w ⟨H,hk,hz⟩
 have hzl:=congrArg List.length hz
 rw [List.length_map] at hzl
 have hpl:=Kb (D:=dg) (J:=J6) (s:=M.sp) (att:=M.att) (ws:=M.ws.take k) 0 (fun x hx=>hM.1 x (List.mem_of_mem_take hx))
 rw [List.length_take] at hpl
 refine Z (Ac (V U U (AQ U U U) (Aa (Y (Z ?_)))))
 refine Aq U (fun h21=>?_) (fun h21=>?_)
 ·refine Av (Y (Z (AK (Z (Ac (Ab U ?_))))))
  obtain ⟨x22,hx23⟩:∃ z9,(ws13.map Prod.fst)[k]?=some z9:=⟨_,List.getElem?_eq_getElem (show k<(ws13.map Prod.fst).length by omega)⟩
  have th24:=H.thA 9 rfl hx23
  refine V U U (AG (p:=AA A16+k*1) U Hj U U (by omega) (by omega) th24 U) (V U U (Aj U Ng U (H.elA 9 U hx23 (q:=0) U U)) (Ad 2 U (Aa (Y (Z (Ac (Ab U ?_)))))))
  obtain ⟨wd25,he26⟩:=Hq hx23
  have hm27:M.ws[k]?=some wd25:=by rw [←hws15];exact Hr he26
  have hok_wd25:=hM.1 _ (Bl hm27)
  unfold Fp at hok_wd25
  replace H:=H.pick 10 rfl|>.h3 (B:=Ae EU q (zs.map CD)) (C:=Dp zs)
  replace H:=Hd.bigO k he26 H
  refine sc (aY x22 wd25.c wd25.s wd25.e wd25.x (by first |omega|decide) (by first |omega|decide)) H (lA 0 U (fun _ h=>h) l0) U U (At UX U U) ?_
  rintro v28 _ w rfl H
  replace H:=H.p2|>.p2
  replace H:=Hd.bigI (f:=BG 239) (x:=(x22,wd25)) k (Gt he26) H
  rw [I_ he26] at H
  obtain ⟨A29,c30,rfl,hc31,hm32,hp33⟩:=H.fA 1 rfl
  refine V U U (AO U EO U) (Ab U (Aa (Y (AK ?_))))
  replace H:=H.pick 11 rfl|>.pick 11 rfl|>.pick 11 rfl|>.pick 11 rfl|>.pick 11 rfl|>.pick 11 rfl|>.pick 11 rfl|>.pick 11 rfl|>.p9|>.pick 11 rfl|>.pick 11 rfl
  have hz0:zs.map C5=C6 dg J6 M.sp M.att (M.ws.take k) 0++(Dz dg J6 M.sp M.att wd25 k).take 0:=by rw [List.take_zero,List.append_nil];exact hz
  refine Br (σ:=Nat×Value×List (BU BQ)) (fun (j,q2,zs2)=>[(0,.pointer (some ⟨b,0,none⟩)),(2,.slice none 0 0),(3,q2),(4,.int .i64 ((k:Nat):Int)),(13,.slice A16 ((ws13.map Prod.fst).length) c17),(14,.int .i64 (((ws13.map Prod.fst).length:Nat):Int)),(15,.int .i64 ((k:Nat):Int)),(21,.slice A29 ((CQ wd25.c wd25.s wd25.x).length) c30),(22,.int .i64 (((CQ wd25.c wd25.s wd25.x).length:Nat):Int)),(23,.int .i64 ((j:Nat):Int))]) (fun (j,q2,zs2) w=>(Hd w0 F0 w [Ae EU q2 (zs2.map CD),Dp zs2,Ae (AN .i64) (.slice A29 ((CQ wd25.c wd25.s wd25.x).length) c30) (CQ wd25.c wd25.s wd25.x),blk b [vS1,.int .i64 J6.parts,vM2,vC3,vR4,.int .i64 J6.chunk,.int .i64 J6.window,.int .i64 J6.fuel,vK5,.int .i64 cw7,.int .i64 ct8,.int .i64 co9,.int .i64 ((M.sp:Nat):Int),.int .i64 M.att,.int .i64 ((AB dg J6 M.sp).2),.pointer (some ⟨cb10,0,none⟩),.slice A16 ((ws13.map Prod.fst).length) c17] 164,blk cb10 [.int .u32 1,.int .i32 0,.int .u32 0,.int .u32 1,fv11,.string (Bu (AB dg J6 M.sp).1)] 234,Ae (AU Al) vS1 J6.us,Ae Au vM2 J6.map,Ae Au vC3 J6.comb,Ae Au vR4 J6.red,Ae (AN .i64) vK5 J6.marks,Ae BW (.slice A16 ((ws13.map Prod.fst).length) c17) (ws13.map Prod.fst),BB (BG 239) ws13] [])∧(j≤(CQ wd25.c wd25.s wd25.x).length)∧(zs2.map C5=C6 dg J6 M.sp M.att (M.ws.take k) 0++(Dz dg J6 M.sp M.att wd25 k).take j)) (fun (j,q2,zs2)=>(CQ wd25.c wd25.s wd25.x).length - j) (0,q,zs) ⟨rfl,rfl,rfl,rfl,rfl,rfl,rfl,rfl,rfl,rfl,trivial⟩ ⟨H,Nat.zero_le _,hz0⟩ ?_
  rintro ⟨j,q2,zs2⟩ w ⟨H,hj,hz2⟩
  have hzl2:=congrArg List.length hz2
  rw [List.length_map,List.length_append,List.length_take,IK] at hzl2
  have hwl2:=Mz hok_wd25
  have htf:(zs2.map CD).length=zs2.length:=List.length_map ..
  refine Z (Ac (V U U (AQ U U U) (Aa (Y (Z ?_)))))
  refine Aq U (fun h34=>?_) (fun h34=>?_)
  ·refine Av (Y (Z (AK (Z (Ac ?_)))))
   obtain ⟨x35,hx36⟩:∃ z9,(CQ wd25.c wd25.s wd25.x)[j]?=some z9:=⟨_,List.getElem?_eq_getElem (show j<(CQ wd25.c wd25.s wd25.x).length by omega)⟩
   have th37:=H.thA 2 rfl hx36
   refine V U U (AG (p:=AA A29+j*1) U CZ U U (by omega) (by omega) th37 U) (V U U (Aj U Aw U (H.elA 2 U hx36 (q:=0) U U)) (Ab U (Aa (Y ?_))))
   replace H:=H.pick 11 rfl|>.pick 11 rfl|>.pick 11 rfl|>.pick 11 rfl|>.pick 11 rfl|>.pick 11 rfl|>.pick 11 rfl|>.pick 11 rfl|>.pick 11 rfl|>.pick 11 rfl|>.pick 11 rfl
   refine BD (.e 0 (.e 1 (.e 2 (.e 3 (.e 4 (.e 5 (.e 6 (.e 7 (.e 8 (.e 9 (.e 10 (.e 11 (.e 12 (.e 13 (.m 14 (.e 15 (.m 16 (.m 17 (.e 18 .z))))))))))))))))))) (fun w=>∃ Ar,Hd w0 F0 w (Dp zs2::Ae (AN .i64) (.slice A29 ((CQ wd25.c wd25.s wd25.x).length) c30) (CQ wd25.c wd25.s wd25.x)::blk b [vS1,.int .i64 J6.parts,vM2,vC3,vR4,.int .i64 J6.chunk,.int .i64 J6.window,.int .i64 J6.fuel,vK5,.int .i64 cw7,.int .i64 ct8,.int .i64 co9,.int .i64 ((M.sp:Nat):Int),.int .i64 M.att,.int .i64 ((AB dg J6 M.sp).2),.pointer (some ⟨cb10,0,none⟩),.slice A16 ((ws13.map Prod.fst).length) c17] 164::blk cb10 [.int .u32 1,.int .i32 0,.int .u32 0,.int .u32 1,fv11,.string (Bu (AB dg J6 M.sp).1)] 234::Ae (AU Al) vS1 J6.us::Ae Au vM2 J6.map::Ae Au vC3 J6.comb::Ae Au vR4 J6.red::Ae (AN .i64) vK5 J6.marks::Ae BW (.slice A16 ((ws13.map Prod.fst).length) c17) (ws13.map Prod.fst)::BB (BG 239) ws13::Ar) []) mo (by kernel_rfl) (fun w H=>⟨_,H⟩) H (fun w H=>(Ap U (Ap U (Ak U U U (fun w ⟨Ar,H⟩=>AI U U) (Ak U U U (fun w ⟨Ar,H⟩=>Ah U Ud U) (Ak U U U (fun w ⟨Ar,H⟩=>Aj U Aw U (H.cellI 2 U U)) (Ap U (Ak U U U (fun w ⟨Ar,H⟩=>AI U U) (Ak U U U (fun w ⟨Ar,H⟩=>Ah U Ox U) (Ak U U U (fun w ⟨Ar,H⟩=>Aj U Aw U (H.cellI 2 U U)) (Ap U (Ap U (Ap U (Ap U (Ap U (AL U ?_))))))))))))))))
   replace H:=H.p3
   refine sc (P1 b vS1 vM2 vC3 vR4 vK5 J6 cw7 ct8 co9 M.sp M.att cb10 fv11 (.slice A16 ((ws13.map Prod.fst).length) c17) ((k:Nat):Int) x35 (by first |assumption|omega)) H (lA 2 U (fun _ h=>h) l0) U U (At PK U U) ?_
   rintro v38 _ w rfl H
   obtain ⟨A39,c40,rfl,hc41,hm42,hp43⟩:=H.fA 0 rfl
   replace H:=H.pick 11 rfl|>.pick 11 rfl|>.pick 11 rfl|>.pick 11 rfl|>.pick 11 rfl|>.pick 11 rfl|>.pick 11 rfl|>.p8|>.pick 11 rfl|>.pick 11 rfl|>.pick 11 rfl
   refine AH ⟨_,H⟩ (Ak U U U (fun w ⟨Ar,H⟩=>CV (parts:=[(0,.const (.int .i64 2)),(1,.tmp 31),(2,.tmp 35),(3,.tmp 36),(4,.tmp 37),(9,.tmp 41)]) (vs:=[.int .i64 2,.int .i64 ((M.sp:Nat):Int),.int .i64 M.att,.int .i64 ((k:Nat):Int),.int .i64 x35,.slice A39 ((BF dg J6 M.sp M.att ((k:Nat):Int) x35).length) c40]) (cs:=[.int .i64 2,.int .i64 ((M.sp:Nat):Int),.int .i64 M.att,.int .i64 ((k:Nat):Int),.int .i64 x35,.int .i64 0,.int .i64 0,.int .i64 0,.slice none 0 0,.slice A39 ((BF dg J6 M.sp M.att ((k:Nat):Int) x35).length) c40]) U NK U U) (AL U (Bv (parts:=[(0,.tmp 42)]) (vs:=[.agg #[.int .i64 2,.int .i64 ((M.sp:Nat):Int),.int .i64 M.att,.int .i64 ((k:Nat):Int),.int .i64 x35,.int .i64 0,.int .i64 0,.int .i64 0,.slice none 0 0,.slice A39 ((BF dg J6 M.sp M.att ((k:Nat):Int) x35).length) c40]]) (cs:=[.int .i64 2,.int .i64 ((M.sp:Nat):Int),.int .i64 M.att,.int .i64 ((k:Nat):Int),.int .i64 x35,.int .i64 0,.int .i64 0,.int .i64 0,.slice none 0 0,.slice A39 ((BF dg J6 M.sp M.att ((k:Nat):Int) x35).length) c40]) U U U Hk KS U (by decide) (by decide) U U H (fun b44 w H=>?_))))
   replace H:=H.pick 11 rfl|>.pick 11 rfl|>.pick 11 rfl|>.pick 11 rfl|>.pick 11 rfl|>.pick 11 rfl|>.pick 11 rfl|>.pick 11 rfl|>.pick 11 rfl|>.pick 11 rfl|>.pick 11 rfl
   refine AH ⟨_,H⟩ (AL U ?_)
   replace H:=H.pick 13 rfl
   refine BY (xs:=zs2.map CD) (ys:=[(⟨⟨2,((M.sp:Nat):Int),M.att,((k:Nat):Int),x35,0,0,0⟩,⟨none,0,0⟩,⟨A39,(BF dg J6 M.sp M.att ((k:Nat):Int) x35).length,c40⟩⟩:GF BQ)]) U U U Hk KS U (by decide) U U H (by first |omega|(simp only [List.length_append,List.length_cons,List.length_nil,List.length_map];omega)) (fun F hA hR=>BZ (hA _ (List.mem_of_getElem? (i:=11) U)) U (by decide) (AX.flat_eq.2 U)) (fun v45 w H=>?_)
   replace H:=H.pick 11 rfl|>.pick 11 rfl|>.pick 11 rfl|>.pick 11 rfl|>.pick 11 rfl|>.pick 11 rfl|>.pick 11 rfl|>.pick 11 rfl|>.pick 11 rfl|>.pick 11 rfl|>.pick 11 rfl
   refine AH ⟨_,H⟩ (Ap U (Bx (AS (Y (Ac (V U U (AP (z:=((j+1:Nat):Int)) U U U (by rw [Ay (by omega) (by omega)];omega)) (Ab U (Aa ?_))))))))
   replace H:=H.newnil (AN .i64)|>.pick 12 rfl|>.p2|>.pick 14 rfl|>.p3|>.keep 14
   replace H:=Hd.twN (r:=(⟨(⟨2,M.sp,M.att,(k:Nat),x35,0,0,0⟩:BQ),.slice none 0 0,[],.slice A39 ((BF dg J6 M.sp M.att ((k:Nat):Int) x35).length) c40,BF dg J6 M.sp M.att (k:Nat) x35⟩:BU BQ)) H
   replace H:Hd w0 F0 w [Dp (zs2++[(⟨(⟨2,M.sp,M.att,(k:Nat),x35,0,0,0⟩:BQ),.slice none 0 0,[],.slice A39 ((BF dg J6 M.sp M.att ((k:Nat):Int) x35).length) c40,BF dg J6 M.sp M.att (k:Nat) x35⟩:BU BQ)]),Ae EU v45 ((zs2++[(⟨(⟨2,M.sp,M.att,(k:Nat),x35,0,0,0⟩:BQ),.slice none 0 0,[],.slice A39 ((BF dg J6 M.sp M.att ((k:Nat):Int) x35).length) c40,BF dg J6 M.sp M.att (k:Nat) x35⟩:BU BQ)]).map CD),Ae (AN .i64) (.slice A29 ((CQ wd25.c wd25.s wd25.x).length) c30) (CQ wd25.c wd25.s wd25.x),blk b [vS1,.int .i64 J6.parts,vM2,vC3,vR4,.int .i64 J6.chunk,.int .i64 J6.window,.int .i64 J6.fuel,vK5,.int .i64 cw7,.int .i64 ct8,.int .i64 co9,.int .i64 ((M.sp:Nat):Int),.int .i64 M.att,.int .i64 ((AB dg J6 M.sp).2),.pointer (some ⟨cb10,0,none⟩),.slice A16 ((ws13.map Prod.fst).length) c17] 164,blk cb10 [.int .u32 1,.int .i32 0,.int .u32 0,.int .u32 1,fv11,.string (Bu (AB dg J6 M.sp).1)] 234,Ae (AU Al) vS1 J6.us,Ae Au vM2 J6.map,Ae Au vC3 J6.comb,Ae Au vR4 J6.red,Ae (AN .i64) vK5 J6.marks,Ae BW (.slice A16 ((ws13.map Prod.fst).length) c17) (ws13.map Prod.fst),BB (BG 239) ws13] []:=by rw [List.map_append];exact H
   replace H:=H.p1
   have hz3:(zs2++[(⟨(⟨2,M.sp,M.att,(k:Nat),x35,0,0,0⟩:BQ),.slice none 0 0,[],.slice A39 ((BF dg J6 M.sp M.att ((k:Nat):Int) x35).length) c40,BF dg J6 M.sp M.att (k:Nat) x35⟩:BU BQ)]).map C5=C6 dg J6 M.sp M.att (M.ws.take k) 0++(Dz dg J6 M.sp M.att wd25 k).take (j+1):=by rw [List.map_append,hz2,QH hx36,←List.append_assoc];rfl
   exact Bb (s:=(j,undef,zs2)) (j+1,v45,zs2++[(⟨(⟨2,M.sp,M.att,(k:Nat),x35,0,0,0⟩:BQ),.slice none 0 0,[],.slice A39 ((BF dg J6 M.sp M.att ((k:Nat):Int) x35).length) c40,BF dg J6 M.sp M.att (k:Nat) x35⟩:BU BQ)]) ⟨rfl,rfl,rfl,rfl,rfl,rfl,rfl,rfl,rfl,rfl,trivial⟩ ⟨H,by (try dsimp only);omega,hz3⟩ (by (try dsimp only);omega)
  refine Bj (AE (AE (Bk (AS (Y (Ac (V U U (AP (z:=((k+1:Nat):Int)) U U U (by rw [Ay (by omega) (by omega)];omega)) (Ab U (Aa ?_)))))))))
  replace H:=H.pick 11 rfl|>.pick 11 rfl|>.pick 11 rfl|>.pick 11 rfl|>.pick 11 rfl|>.pick 11 rfl|>.pick 11 rfl|>.pick 11 rfl|>.pick 11 rfl|>.pick 10 rfl|>.pick 10 rfl|>.keep 11|>.h2 (A:=Ae EU q2 (zs2.map CD)) (B:=Dp zs2)
  have hzk:zs2.map C5=C6 dg J6 M.sp M.att (M.ws.take (k+1)) 0:=by rw [hz2,List.take_of_length_le (l:=Dz dg J6 M.sp M.att wd25 k) (by rw [IK];omega),QJ hm27]
  exact Bb (s:=(k,undef,zs)) (k+1,q2,zs2) ⟨rfl,rfl,rfl,rfl,rfl,rfl,trivial⟩ ⟨H,by (try dsimp only);omega,hzk⟩ (by (try dsimp only);omega)
 refine Bj (AE (AE (Bk (Y (Z (Ac (Ad 2 U (Aa (Y (Ai (Am U U ?_)))))))))))
 replace H:=Hd.twI H
 replace H:=H.p9|>.p9|>.p9|>.p9|>.p9|>.p9|>.p9|>.p9|>.p9
 replace H:=F6 b J M vS1 vM2 vC3 vR4 vK5 J6 cw7 ct8 co9 cb10 fv11 (.slice A16 ((ws13.map Prod.fst).length) c17) ws13 ⟨hsj14,hws15⟩ H
 replace H:=H.p1
 exact Ag ⟨zs,rfl,by rw [hz,List.take_of_length_le (by omega)];exact QO hsj14 dg M.sp M.att M.ws 0⟩ H
theorem Je  :
    Cn Tryz.prog 26 [] [] [gl] (fun v Bs=>v=.bool true∧Bs=[]):=by
 intro w0 F0 H
 refine enter Tryz.func26 U U (Nat.le_of_ble_eq_true U) (Z (Ac (Ab U (Aa (Y (Z (Ac (sc (RR) H l0 U U (At PP U U) ?_))))))))
 rintro _ _ w ⟨vS1,vP2,u3,rfl,rfl⟩ H
 have hgo2:=ZA u3
 have hC2:=M5 u3
 have hO2:=Kx u3
 refine sc (Mn vS1 vP2 (.slice none 0 0) vP2 (.slice none 0 0) (CS u3) 0 2 (by first |assumption|omega) (by first |assumption|omega) (by first |assumption|omega)) H (lA 0 U BI (lA 1 U BI (lX (fun F _ _=>IY _ _ F trivial (by decide)) (lA 1 U BI (lX (fun F _ _=>IY _ _ F trivial (by decide)) (lR 0 U l0)))))) U U (At JT U U) ?_
 rintro _ _ w ⟨b4,rfl,rfl⟩ H
 obtain ⟨M2,hM2⟩:∃ z:Ca,z=Df dg (CS u3).J 0 2:=⟨_,rfl⟩
 rw [←hM2] at H
 obtain ⟨hok2,hc2,hp2,hk2,hd2⟩:=Za hM2
 have hok3:=Qp hok2 (p:=0) (ep:=1) (n:=2) (by unfold AF;omega)
 refine Ad 5 U (Aa (Y ?_))
 replace H:=H.k1
 refine Z (Ac (sc (RR) H l0 U U (At PP U U) ?_))
 rintro _ _ w ⟨vS5,vP6,u7,rfl,rfl⟩ H
 have hgo1:=Zz u7
 have hC1:=M5 u7
 have hO1:=Kx u7
 refine sc (Mn vS5 vP6 (.slice none 0 0) vP6 (.slice none 0 0) (CS u7) 0 1 (by first |assumption|omega) (by first |assumption|omega) (by first |assumption|omega)) H (lA 0 U BI (lA 1 U BI (lX (fun F _ _=>IY _ _ F trivial (by decide)) (lA 1 U BI (lX (fun F _ _=>IY _ _ F trivial (by decide)) (lR 0 U l0)))))) U U (At JT U U) ?_
 rintro _ _ w ⟨b8,rfl,rfl⟩ H
 obtain ⟨M1,hM1⟩:∃ z:Ca,z=Df dg (CS u7).J 0 1:=⟨_,rfl⟩
 rw [←hM1] at H
 obtain ⟨hok1,hc1,hd1⟩:=Y_ hM1
 refine Ad 5 U (Aa (Y ?_))
 replace H:=H.p3.p1.k2
 refine Z (Z (Ac (Ab U (V U U (CL U U U) (Ad 2 U (V U U (CL U U U) (Ad 3 U (V U U (Dh U Fe U U) (Ad 3 U (V U U (Dh U Fe U U) (Ab U (Aa (Y (B0 U (Av (Y (Z (Ac (Ab U ?_)))))))))))))))))))
 replace H:=H.p1
 refine sc (Mq b4 ((CS u3).J) M2 (by first |assumption|omega)) H l0 U U (At JU U U) ?_
 rintro v9 _ w rfl H
 refine Bv (parts:=[(0,.const (.int .i64 2))]) (vs:=[.int .i64 2]) (cs:=[.int .i64 2]) U U U CZ EQ U (by decide) (by decide) U U H (fun b10 w H=>(sc (Kt v9 (.slice (some ⟨b10,0,none⟩) 1 1) (BO dg ((CS u3).J) M2.sp M2.att) [2]) H (lA 1 U BI (lA 0 U (fun F h=>BZ h rfl (by decide) (AX.flat_eq.2 U)) l0)) U U (At JW U U) ?_))
 rintro _ _ w ⟨rfl,rfl⟩ H
 refine Ab U ?_
 refine AD (d:=33) U (fun h11=>?_) (fun h11=>?_)
 ·refine Ab U ?_
  replace H:=H.p3
  refine sc (Mq b8 ((CS u7).J) M1 (by first |assumption|omega)) H l0 U U (At JU U U) ?_
  rintro v12 _ w rfl H
  refine Bv (parts:=[(0,.const (.int .i64 1))]) (vs:=[.int .i64 1]) (cs:=[.int .i64 1]) U U U CZ EQ U (by decide) (by decide) U U H (fun b13 w H=>(sc (Kt v12 (.slice (some ⟨b13,0,none⟩) 1 1) (BO dg ((CS u7).J) M1.sp M1.att) [1]) H (lA 1 U BI (lA 0 U (fun F h=>BZ h rfl (by decide) (AX.flat_eq.2 U)) l0)) U U (At JW U U) ?_))
  rintro _ _ w ⟨rfl,rfl⟩ H
  refine Ad 2 U ?_
  refine AD (d:=39) U (fun h14=>?_) (fun h14=>?_)
  ·refine Ab U ?_
   replace H:=H.p5
   refine sc (Ql b4 ((CS u3).J) M2 (by first |assumption|omega) (by first |assumption|omega)) H l0 U U (At PI U U) ?_
   rintro v17 _ w ⟨zs15,rfl,hf16⟩ H
   have hpl:=congrArg List.length hf16
   rw [List.length_map,hp2] at hpl
   obtain ⟨A18,c19,rfl,hc20,hm21,hp22⟩:=H.fA 0 rfl
   refine V U U (AO U I8 U) (V U U (AT U U U) (Ad 2 U ?_))
   refine AD (d:=45) U (fun h23=>?_) (fun h23=>?_)
   ·refine Ab U ?_
    replace H:=H.p1
    refine sc (Qk b4 ((CS u3).J) M2 0 1 2 (by first |assumption|omega)) H l0 U U (At PN U U) ?_
    rintro _ _ w ⟨rfl,rfl⟩ H
    refine Ad 2 U ?_
    refine EC (d:=49) (b:=(D7 M2 0 1 2).2) U (fun h24=>?_) (fun h24=>?_)
    ·refine Ab U (sc (Mr b4 ((CS u3).J) ((D7 M2 0 1 2).1) (by first |assumption|omega)) H l0 U U (At Mh U U) ?_)
     rintro _ _ w ⟨rfl,rfl⟩ H
     refine Ad 2 U ?_
     refine EC (d:=53) (b:=E2 ((D7 M2 0 1 2).1)) U (fun h25=>?_) (fun h25=>?_)
     ·refine Ab U ?_
      replace H:=H.p4
      refine sc (Mr b8 ((CS u7).J) M1 (by first |assumption|omega)) H l0 U U (At Mh U U) ?_
      rintro _ _ w ⟨rfl,rfl⟩ H
      refine V U U (E9 U U U) (Ad 2 U (Aa (Y ?_)))
      replace H:=H.nil
      exact Ai (Am U U (Ag ⟨congrArg Value.bool (by first |exact decide_eq_true (by omega)|simp [hd1]),rfl⟩ H))
     exact absurd hd2 (by simpa using h25)
    exact absurd hk2 (by simpa using h24)
   exact (h23 (by omega)).elim
  exact (h14 hc1).elim
 exact (h11 hc2).elim
structure Ja where
 x:Int
 y:Int
 z:Int
deriving DecidableEq
def N_ (p:Ja):List Value:=[.int .i64 p.x,.int .i64 p.y,.int .i64 p.z]
def Hc:Kd Ja:=flat N_ 3 (by omega) (fun _=>rfl) (fun _ c h=>by simp [N_] at h;rcases h with rfl|rfl|rfl<;>rfl)
theorem Xq {P:Program} {t i:TypeId} (hs:Ft P t=some [(i,0,1),(i,1,1),(i,2,1)]) (hc:P.cellsOf t=3) (hi:P.underlying i=some (.int .i64)):Gi P t Hc (fun p=>AF p.x∧AF p.y∧AF p.z):=by
 intro H enc w fuel cs x h
 obtain ⟨hl,n,hf⟩:=IF hs h
 rw [hc] at hl
 obtain ⟨y0,h0⟩:=hf 0 _ _ _ rfl
 obtain ⟨y1,h1⟩:=hf 1 _ _ _ rfl
 obtain ⟨y2,h2⟩:=hf 2 _ _ _ rfl
 obtain ⟨a,b,c,rfl⟩:∃ a b c,cs=[a,b,c]:=by
  match cs,hl with
  |[a,b,c],_=>exact ⟨a,b,c,rfl⟩
 obtain ⟨s0,⟨e0⟩,l0⟩:=EK hi enc w n _ _ h0
 obtain ⟨s1,⟨e1⟩,l1⟩:=EK hi enc w n _ _ h1
 obtain ⟨s2,⟨e2⟩,l2⟩:=EK hi enc w n _ _ h2
 exact ⟨⟨s0,s1,s2⟩,rfl,l0,l1,l2⟩
theorem WK (vS vM vC vR vK:Value) (C:Cf) (ss:List (List An)) (gm:∀ i∈C.J.map,AF i.a) (gc:∀ i∈C.J.comb,AF i.a) (gr:∀ i∈C.J.red,AF i.a) (k1:Int) (g1:AF k1) (k2:Int) (g2:AF k2) (va:Value) (acts:List Ja) (wacts:(∀ p∈acts,AF p.x∧AF p.y∧AF p.z)∧acts.length≤9223372036854775807):
    Cn Tryz.prog 4 [.agg #[vS,.int .i64 C.J.parts,vM,vC,vR,.int .i64 C.J.chunk,.int .i64 C.J.window,.int .i64 C.J.fuel,vK,.int .i64 C.w,.int .i64 C.t,.int .i64 C.o],.int .i64 k1,.int .i64 k2,va] [] [Af (AU Al) vS C.J.us,Af (BK Al) vS ss,Af Au vM C.J.map,Af Au vC C.J.comb,Af Au vR C.J.red,Af (AN .i64) vK C.J.marks,Af Hc va acts,gl] (fun v Bs=>v=.bool true∧Bs=[]):=by
 intro w0 F0 H
 obtain ⟨A1,c2,rfl,hc3,hm4,hp5⟩:=H.fR 0 rfl
 obtain ⟨A6,c7,rfl,hc8,hm9,hp10⟩:=H.fR 2 rfl
 obtain ⟨A11,c12,rfl,hc13,hm14,hp15⟩:=H.fR 3 rfl
 obtain ⟨A16,c17,rfl,hc18,hm19,hp20⟩:=H.fR 4 rfl
 obtain ⟨A21,c22,rfl,hc23,hm24,hp25⟩:=H.fR 5 rfl
 obtain ⟨A26,c27,rfl,hc28,hm29,hp30⟩:=H.fR 6 rfl
 refine enter Tryz.func4 U U (Nat.le_of_ble_eq_true U) (Z (Ac (B4 U U U U H (fun b31 w H=>(Ab U (Aa (Y (Z (Z (Ac (V U U (Ah U CP U) (V U U (Bp (cs:=[.slice A1 C.J.us.length c2,.int .i64 C.J.parts,.slice A6 C.J.map.length c7,.slice A11 C.J.comb.length c12,.slice A16 C.J.red.length c17,.int .i64 C.J.chunk,.int .i64 C.J.window,.int .i64 C.J.fuel,.slice A21 C.J.marks.length c22]) U Gc U U (H.cellsI 0 U U)) (sc (Uv (.slice A1 C.J.us.length c2) (.slice A6 C.J.map.length c7) (.slice A11 C.J.comb.length c12) (.slice A16 C.J.red.length c17) (.slice A21 C.J.marks.length c22) C.J) H (lR 0 U (lR 2 U (lR 3 U (lR 4 U (lR 5 U l0))))) U U (At Vj U U) ?_)))))))))))))
 rintro _ _ w ⟨rfl,rfl⟩ H
 refine Ab U ?_
 refine EC (d:=24) (b:=GJ C.J) U (fun h32=>?_) (fun h32=>?_)
 ·refine Ad 4 U (Aa (Y (BM U (Z (Ac (sc (Je) H (lR 7 U l0) U U (At JR U U) ?_))))))
  rintro _ _ w ⟨rfl,rfl⟩ H
  refine Ab U (Aa (Y (Ai (Ao (Am U U ?_)))))
  replace H:=H.nil
  exact Ag ⟨rfl,rfl⟩ H
 refine Ab U (V U U (AO U Nk U) (V U U (BP U U U) (Ab U (Aa (Y ?_)))))
 refine Aq U (fun h33=>?_) (fun h33=>?_)
 ·refine Z (Ac (sc (Je) H (lR 7 U l0) U U (At JR U U) ?_))
  rintro _ _ w ⟨rfl,rfl⟩ H
  refine Ab U (Aa (Y (Ai (Ao (Am U U ?_)))))
  replace H:=H.nil
  exact Ag ⟨rfl,rfl⟩ H
 refine Av (Y (Z ?_))
 by_cases hgo:Dm C∧0≤k1∧k1<((C.J.us.length:Nat):Int)∧1≤k2∧k2≤C.t
 ·refine Ac (V U U (Bp (cs:=[.slice A1 C.J.us.length c2,.int .i64 C.J.parts,.slice A6 C.J.map.length c7,.slice A11 C.J.comb.length c12,.slice A16 C.J.red.length c17,.int .i64 C.J.chunk,.int .i64 C.J.window,.int .i64 C.J.fuel,.slice A21 C.J.marks.length c22,.int .i64 C.w,.int .i64 C.t,.int .i64 C.o]) U Ej U U (H.cellsI 0 U U)) (Ad 2 U ?_))
  have hC:Dm C:=hgo.1
  have hJ:B3 C.J:=⟨hC.1,gm,gc,gr⟩
  have hus:=hJ.us
  have hpt:=hJ.parts
  obtain ⟨m1,rfl⟩:∃ z:Nat,k1=(z:Int):=⟨k1.toNat,by omega⟩
  have hgo2:m1<C.J.us.length∧1≤k2∧k2≤C.t:=⟨by omega,by omega,by omega⟩
  refine sc (Mn (.slice A1 C.J.us.length c2) (.slice A6 C.J.map.length c7) (.slice A11 C.J.comb.length c12) (.slice A16 C.J.red.length c17) (.slice A21 C.J.marks.length c22) C m1 k2 (by first |assumption|omega|(unfold AF;omega)) (by first |assumption|omega|(unfold AF;omega)) (by first |assumption|omega|(unfold AF;omega))) H (lR 0 U (lR 2 U (lR 3 U (lR 4 U (lR 5 U (lR 7 U l0)))))) U U (At JT U U) ?_
  rintro _ _ w ⟨b34,rfl,rfl⟩ H
  obtain ⟨M1,hM1⟩:∃ z:Ca,z=Df dg C.J m1 k2:=⟨_,rfl⟩
  rw [←hM1] at H
  have hok1:Ez M1:=by rw [hM1];exact Mu hJ _ _
  have hcs1:M1.ws.map Bh.c=BO dg C.J M1.sp M1.att:=by rw [hM1];exact Xa _ _ _ _
  refine Ad 5 U (Aa (Y (Z (Ac (V U U (Bp (cs:=[.slice A1 C.J.us.length c2,.int .i64 C.J.parts,.slice A6 C.J.map.length c7,.slice A11 C.J.comb.length c12,.slice A16 C.J.red.length c17,.int .i64 C.J.chunk,.int .i64 C.J.window,.int .i64 C.J.fuel,.slice A21 C.J.marks.length c22,.int .i64 C.w,.int .i64 C.t,.int .i64 C.o]) U Ej U U (H.cellsI 1 U U)) (Ad 2 U (sc (Yh (.slice A1 C.J.us.length c2) (.slice A6 C.J.map.length c7) (.slice A11 C.J.comb.length c12) (.slice A16 C.J.red.length c17) (.slice A21 C.J.marks.length c22) C m1 k2 (by first |assumption|omega|(unfold AF;omega)) (by first |assumption|omega|(unfold AF;omega)) (by first |assumption|omega|(unfold AF;omega))) H (lR 0 U (lR 2 U (lR 3 U (lR 4 U (lR 5 U l0))))) U U (At PC U U) ?_)))))))
  rintro _ _ w ⟨b35,rfl,rfl⟩ H
  rw [←hM1] at H
  refine Ad 5 U (Aa (Y ?_))
  replace H:=H.k2
  refine Z (Z (Ac (Ab U (sc (Qi 0) H l0 U U (At PE U U) ?_))))
  rintro _ _ w ⟨rfl,rfl⟩ H
  refine Ab U (V U U (CL U U U) (Ad 2 U (V U U (Dh U Fe U U) (Ab U (V U U (Dh U KI U U) (V U U (Ke U I7 U U) (Ab U (Aa (Y (B0 U (Av (Y (Z (Z (Ac (Ab U (V U U (Dh U KI U U) (Aa (Y (B0 U (Av (Y (Z (Z (Ac (Ab U (Aa (Y (AK ?_)))))))))))))))))))))))))))))
  replace H:=H.sel 2 [1,0] [] rfl (by kernel_rfl)
  refine Br (σ:=Nat×Ca) (fun (k,M)=>[(3,.slice A26 acts.length c27),(9,.pointer (some ⟨b34,0,none⟩)),(11,.pointer (some ⟨b35,0,none⟩)),(13,.int .i64 ((k:Nat):Int))]) (fun (k,M) w=>(Hd w0 F0 w [D_ b34 C.J M,Eh b35 C M] [Af (AU Al) (.slice A1 C.J.us.length c2) C.J.us,Af (BK Al) (.slice A1 C.J.us.length c2) ss,Af Au (.slice A6 C.J.map.length c7) C.J.map,Af Au (.slice A11 C.J.comb.length c12) C.J.comb,Af Au (.slice A16 C.J.red.length c17) C.J.red,Af (AN .i64) (.slice A21 C.J.marks.length c22) C.J.marks,Af Hc (.slice A26 acts.length c27) acts,gl])∧(k≤acts.length+1)∧(Ez M)∧(M.ws.map Bh.c=BO dg C.J M.sp M.att)) (fun (k,M)=>acts.length+1 - k) (0,M1) ⟨rfl,rfl,rfl,rfl,trivial⟩ ⟨H,by (try dsimp only);omega,hok1,hcs1⟩ ?_
  rintro ⟨k,M⟩ w ⟨H,hk,hok,hcs⟩
  have hcl4:(BO dg C.J M.sp M.att).length≤4:=by rw [Lo];split<;>omega
  have hml4:(M.ws.map Bh.c).length≤4:=by rw [hcs];exact hcl4
  refine Z (Z (Ac (Ad 2 U (V U U (AO U Nk U) (V U U (BX U U U) (Aa (Y ?_)))))))
  refine Aq U (fun h36=>?_) (fun h36=>?_)
  ·refine Av (Y (Z (AK (Z (Ac (Ab U (sc (Mq b34 C.J M (by first |assumption|omega|(unfold AF;omega))) H l0 U U (At JU U U) ?_)))))))
   rintro v37 _ w rfl H
   refine Ab U ?_
   replace H:=H.p1
   refine sc (Ql b34 C.J M (by first |assumption|omega|(unfold AF;omega)) (by first |assumption|omega|(unfold AF;omega))) H l0 U U (At PI U U) ?_
   rintro v40 _ w ⟨zs38,rfl,hf39⟩ H
   have hzl4:=WX hok hf39
   refine Ad 2 U (Aa (Y (Z (BD (.e 0 (.e 2 (.e 3 (.e 4 (.e 5 (.m 1 (.e 6 (.e 7 (.e 8 (.e 9 (.m 10 (.m 11 (.e 12 (.e 13 (.e 14 (.e 15 (.m 16 (.m 17 (.e 18 (.e 19 (.e 20 (.e 22 (.m 21 (.m 23 (.e 24 (.e 25 (.e 26 .z))))))))))))))))))))))))))) (fun w=>∃ Ar,Hd w0 F0 w (Ae Gq v40 zs38::D_ b34 C.J M::Ae (AN .i64) v37 (BO dg C.J M.sp M.att)::Eh b35 C M::Ar) [Af (AU Al) (.slice A1 C.J.us.length c2) C.J.us,Af (BK Al) (.slice A1 C.J.us.length c2) ss,Af Au (.slice A6 C.J.map.length c7) C.J.map,Af Au (.slice A11 C.J.comb.length c12) C.J.comb,Af Au (.slice A16 C.J.red.length c17) C.J.red,Af (AN .i64) (.slice A21 C.J.marks.length c22) C.J.marks,Af Hc (.slice A26 acts.length c27) acts,gl]) mo (by kernel_rfl) (fun w H=>⟨_,H⟩) H (fun w H=>(Ap U (Ap U (Ak U U U (fun w ⟨Ar,H⟩=>AI U U) (Ak U U U (fun w ⟨Ar,H⟩=>Ah U LS U) (Ak U U U (fun w ⟨Ar,H⟩=>Aj U Aw U (Y0 H 3 U)) (AL U ?_)))))))))))
   replace H:=H.p1
   refine sc (Xl b34 C.J M) H l0 U U (At Mf U U) ?_
   rintro _ _ w ⟨rfl,rfl⟩ H
   replace H:=H.p1
   refine AH ⟨_,H⟩ (Ak U U U (fun w ⟨Ar,H⟩=>AT U U U) (Ap U ?_))
   refine G6 (d:=75) U (fun h41=>?_) (fun h41=>?_)
   ·refine Ap U (Ap U (AL U ?_))
    replace H:=H.p3
    refine sc (Yb b35 C M (by first |assumption|omega|(unfold AF;omega))) H l0 U U (At V5 U U) ?_
    rintro v42 _ w rfl H
    replace H:=H.p1|>.p4|>.p4|>.p4
    refine AH ⟨_,H⟩ (AL U (sc (Kt v37 v42 (BO dg C.J M.sp M.att) (M.ws.map Bh.c)) H (lA 2 U BI (lA 4 U BI l0)) U U (At JW U U) ?_))
    rintro _ _ w ⟨rfl,rfl⟩ H
    refine AH ⟨_,H⟩ (Ap U (Ap U ?_))
    refine G6 (d:=81) U (fun h43=>?_) (fun h43=>?_)
    ·refine Ap U (Ap U (AL U ?_))
     replace H:=H.p3
     refine sc (Yn b35 C M (by first |assumption|omega|(unfold AF;omega)) (by first |assumption|omega|(unfold AF;omega))) H l0 U U (At V7 U U) ?_
     rintro v46 _ w ⟨zs44,rfl,hf45⟩ H
     replace H:=H.p1|>.p4|>.p4|>.p4
     refine AH ⟨_,H⟩ (AL U (sc (Zs v40 zs38 v46 zs44) H (lA 0 U BI (lA 4 U BI l0)) U U (At V6 U U) ?_))
     rintro _ _ w ⟨rfl,rfl⟩ H
     refine AH ⟨_,H⟩ (Ap U (Ap U ?_))
     refine G6 (d:=87) U (fun h47=>?_) (fun h47=>?_)
     ·refine Ap U (Ap U (AL U ?_))
      replace H:=H.p1
      refine sc (Mr b34 C.J M (by first |assumption|omega|(unfold AF;omega))) H l0 U U (At Mh U U) ?_
      rintro _ _ w ⟨rfl,rfl⟩ H
      replace H:=H.p1
      refine AH ⟨_,H⟩ (AL U ?_)
      replace H:=H.p3
      refine sc (Yd b35 C M (by first |assumption|omega|(unfold AF;omega))) H l0 U U (At V8 U U) ?_
      rintro _ _ w ⟨rfl,rfl⟩ H
      replace H:=H.p3.p3.p3
      refine AH ⟨_,H⟩ (Ak U U U (fun w ⟨Ar,H⟩=>Yw U I7 U U) (Ap U (Ap U (Bx (Y ?_)))))
      replace H:=H.k4
      refine Z (Ac (Ab U ?_))
      replace H:=H.p2
      refine sc (Qw v37 (BO dg C.J M.sp M.att) (by omega)) H l0 U U (At PJ U U) ?_
      rintro _ _ w rfl H
      refine Aa (Y (Z (Z (Ac (Ab U (Aa (Y (AK ?_))))))))
      obtain ⟨A48,c49,rfl,hc50,hm51,hp52⟩:=H.fA 0 rfl
      replace H:=Hd.twO H
      have hzf:(zs38.map CD).length=zs38.length:=List.length_map ..
      refine Br (σ:=Nat) (fun j=>[(3,.slice A26 acts.length c27),(9,.pointer (some ⟨b34,0,none⟩)),(11,.pointer (some ⟨b35,0,none⟩)),(13,.int .i64 ((k:Nat):Int)),(15,.slice A48 zs38.length c49),(16,.bool (decide ((E2 M)=(E2 M)))),(17,.int .i64 ((j:Nat):Int))]) (fun j w=>(Hd w0 F0 w [Ae EU (.slice A48 zs38.length c49) (zs38.map CD),Dp (zs38.drop j),D_ b34 C.J M,Eh b35 C M] [Af (AU Al) (.slice A1 C.J.us.length c2) C.J.us,Af (BK Al) (.slice A1 C.J.us.length c2) ss,Af Au (.slice A6 C.J.map.length c7) C.J.map,Af Au (.slice A11 C.J.comb.length c12) C.J.comb,Af Au (.slice A16 C.J.red.length c17) C.J.red,Af (AN .i64) (.slice A21 C.J.marks.length c22) C.J.marks,Af Hc (.slice A26 acts.length c27) acts,gl])∧(j≤zs38.length)) (fun j=>zs38.length - j) 0 ⟨rfl,rfl,rfl,rfl,rfl,rfl,rfl,trivial⟩ ⟨H,Nat.zero_le _⟩ ?_
      rintro j w ⟨H,hj⟩
      refine Z (Z (Ac (Ad 2 U (V U U (AO U I8 U) (V U U (AQ U U U) (Aa (Y ?_)))))))
      refine Aq U (fun h53=>?_) (fun h53=>?_)
      ·refine Av (Y (Z (AK (Ac (Ad 2 U ?_)))))
       obtain ⟨x54,hx55⟩:∃ z9,(zs38.map CD)[j]?=some z9:=⟨_,List.getElem?_eq_getElem (show j<(zs38.map CD).length by omega)⟩
       have th56:=H.thA 0 rfl hx55
       refine V U U (AG (p:=AA A48+j*10) U Hk U U (by omega) (by omega) th56 U) (V U U (Bp (cs:=[.int .i64 x54.h.kind,.int .i64 x54.h.sp,.int .i64 x54.h.att,.int .i64 x54.h.part,.int .i64 x54.h.seq,.int .i64 x54.h.next,.int .i64 x54.h.ep,.int .i64 x54.h.why,.slice x54.hs.A x54.hs.n x54.hs.c,.slice x54.hp.A x54.hp.n x54.hp.c]) U Nh U U (H.elsA 0 U hx55 U)) ?_)
       obtain ⟨z9,hz9,hx9⟩:=WW hx55
       obtain ⟨hl8,hl9⟩:=WY hf39 (Bl hz9)
       replace H:=H.p1
       replace H:=Hd.twTake H hz9 hx9
       refine sc (Xy x54 z9.set z9.pairs (by first |assumption|omega|(unfold AF;omega)) (by first |assumption|omega|(unfold AF;omega))) H l0 U U (At V9 U U) ?_
       rintro _ _ w ⟨rfl,rfl⟩ H
       refine Aa (AS (Y (Ac (Ab U (V U U (AP (z:=((j+1:Nat):Int)) U U U (by rw [Ay (by omega) (by omega)];omega)) (Ab U (Aa ?_)))))))
       replace H:=H.p1
       exact Bb (s:=j) (j+1) ⟨rfl,rfl,rfl,rfl,rfl,rfl,rfl,trivial⟩ ⟨H,by (try dsimp only);omega⟩ (by (try dsimp only);omega)
      refine Bj (AE (AE (Bk (Y ?_))))
      replace H:=H.p3.p3.k2
      refine Z (Z (Ac (Ab U (V U U (CX U U) (Aa (Y ?_))))))
      refine Aq U (fun h57=>?_) (fun h57=>?_)
      ·exact (h57 U).elim
      refine Av (Y (Z (Ac (Ad 2 U (V U U (AO U Nk U) (V U U (AQ U U U) (Aa (Y ?_))))))))
      refine Aq U (fun h58=>?_) (fun h58=>?_)
      ·refine Z (Ac (Ad 2 U ?_))
       obtain ⟨x59,hx60⟩:∃ z9,acts[k]?=some z9:=⟨_,List.getElem?_eq_getElem (show k<acts.length by omega)⟩
       have th61:=H.thR 6 rfl hx60
       refine V U U (AG (p:=AA A26+k*3) U RQ U U (by omega) (by omega) th61 U) (V U U (Bp (cs:=[.int .i64 x59.x,.int .i64 x59.y,.int .i64 x59.z]) U R9 U U (H.elsR 6 U hx60 U)) (Do U U U bJ H (fun b62 w H=>(By U U U R9 U U H U (Nat.le_of_ble_eq_true U) (fun u hu=>by simp [Value.cells] at hu;rcases hu with rfl|rfl|rfl<;>rfl) (fun w H=>(Aa (Y (Z ?_))))))))
       have h64:=wacts.1 _ (Bl hx60)
       obtain ⟨h6a,h6b,h6c⟩:=h64
       have hcml:(BF dg C.J M.sp M.att x59.x x59.z).length≤40:=NQ ..
       refine Ac (Ab U (V U U (Ah U JI U) (V U U (Aj U Aw U (H.cellI 0 U U)) (V U U (Ah U JJ U) (V U U (Aj U Aw U (H.cellI 0 U U)) ?_)))))
       replace H:=H.p1
       refine sc (Xk b34 C.J M x59.x x59.z (by first |assumption|omega|(unfold AF;omega))) H l0 U U (At PK U U) ?_
       rintro v63 _ w rfl H
       refine Ab U (Aa (Y (Z (Ac (Ad 2 U (V U U (Ah U JI U) (V U U (Aj U Aw U (H.cellI 2 U U)) (V U U (Ah U JJ U) (V U U (Aj U Aw U (H.cellI 2 U U)) ?_)))))))))
       replace H:=H.p3
       refine sc (X9 b35 C M x59.x x59.z (by first |assumption|omega|(unfold AF;omega))) H l0 U U (At PL U U) ?_
       rintro v64 _ w rfl H
       refine sc (RM v63 v64 (BF dg C.J M.sp M.att x59.x x59.z) (BF dg C.J M.sp M.att x59.x x59.z)) H (lA 2 U BI (lA 0 U BI l0)) U U (At Px U U) ?_
       rintro _ _ w ⟨rfl,rfl⟩ H
       refine Ab U (Aa (Y ?_))
       replace H:=H.p4.p4.p4.p4.k4
       refine Z (Ac (Ab U ?_))
       replace H:=H.p1
       refine sc (Qx v63 (BF dg C.J M.sp M.att x59.x x59.z) (by omega)) H l0 U U (At PM U U) ?_
       rintro _ _ w rfl H
       refine Aa (Y (Z ?_))
       replace H:=H.p2
       refine BD (.e 0 (.e 1 (.e 2 (.e 3 (.e 4 (.e 5 (.e 6 (.e 7 (.e 8 (.e 9 (.e 11 (.e 12 (.e 13 (.e 14 (.e 15 (.e 16 (.e 17 (.m 10 (.m 18 (.e 19 (.e 20 .z))))))))))))))))))))) (fun w=>∃ Ar,Hd w0 F0 w (blk b62 [.int .i64 x59.x,.int .i64 x59.y,.int .i64 x59.z] 66::Ar) [Af (AU Al) (.slice A1 C.J.us.length c2) C.J.us,Af (BK Al) (.slice A1 C.J.us.length c2) ss,Af Au (.slice A6 C.J.map.length c7) C.J.map,Af Au (.slice A11 C.J.comb.length c12) C.J.comb,Af Au (.slice A16 C.J.red.length c17) C.J.red,Af (AN .i64) (.slice A21 C.J.marks.length c22) C.J.marks,Af Hc (.slice A26 acts.length c27) acts,gl]) mo (by kernel_rfl) (fun w H=>⟨_,H⟩) H (fun w H=>(Ap U (Ak U U U (fun w ⟨Ar,H⟩=>CX U U) (Ap U ?_))))
       refine G6 (d:=135) U (fun h65=>?_) (fun h65=>?_)
       ·exact (h65 U).elim
       refine Ap U (Ak U U U (fun w ⟨Ar,H⟩=>Ah U JI U) (Ak U U U (fun w ⟨Ar,H⟩=>Aj U Aw U (H.cellI 0 U U)) (Ak U U U (fun w ⟨Ar,H⟩=>Ah U OP U) (Ak U U U (fun w ⟨Ar,H⟩=>Aj U Aw U (H.cellI 0 U U)) (Ak U U U (fun w ⟨Ar,H⟩=>Ah U JJ U) (Ak U U U (fun w ⟨Ar,H⟩=>Aj U Aw U (H.cellI 0 U U)) (Ap U (Ak U U U (fun w ⟨Ar,H⟩=>Ah U JI U) (Ak U U U (fun w ⟨Ar,H⟩=>Aj U Aw U (H.cellI 0 U U)) (Ak U U U (fun w ⟨Ar,H⟩=>Ah U OP U) (Ak U U U (fun w ⟨Ar,H⟩=>Aj U Aw U (H.cellI 0 U U)) (Ak U U U (fun w ⟨Ar,H⟩=>Ah U JJ U) (Ak U U U (fun w ⟨Ar,H⟩=>Aj U Aw U (H.cellI 0 U U)) (AL U ?_))))))))))))))
       replace H:=H.p2
       refine sc (Qk b34 C.J M x59.x x59.y x59.z (by first |assumption|omega|(unfold AF;omega))) H l0 U U (At PN U U) ?_
       rintro _ _ w ⟨rfl,rfl⟩ H
       obtain ⟨M2,hM2⟩:∃ z:Ca,z=(D7 M x59.x x59.y x59.z).1:=⟨_,rfl⟩
       rw [←hM2] at H
       have hokn:Ez M2:=by rw [hM2];exact Qp hok h6b
       have hcsn:M2.ws.map Bh.c=BO dg C.J M2.sp M2.att:=by rw [hM2,Su,(Nz (M:=M)).1,(Nz (M:=M)).2];exact hcs
       replace H:=H.p1
       refine AH ⟨_,H⟩ (AL U ?_)
       replace H:=H.p2
       refine sc (X7 b35 C M x59.x x59.y x59.z (by first |assumption|omega|(unfold AF;omega))) H l0 U U (At V_ U U) ?_
       rintro _ _ w ⟨rfl,rfl⟩ H
       rw [←hM2] at H
       replace H:=H.p1
       refine AH ⟨_,H⟩ (Ak U U U (fun w ⟨Ar,H⟩=>Ke U I7 U U) (Ap U (Bx (Y ?_))))
       replace H:=H.p2.p2.k2
       refine Aq U (fun h66=>?_) (fun h66=>?_)
       ·exact (h66 U).elim
       refine Av (AS (Y (Ac (Ab U (V U U (AP (z:=((k+1:Nat):Int)) U U U (by rw [Ay (by omega) (by omega)];omega)) (Ab U (Aa ?_)))))))
       replace H:=H.p1
       exact Bb (s:=(k,M)) (k+1,M2) ⟨rfl,rfl,rfl,rfl,trivial⟩ ⟨H,by (try dsimp only);omega,hokn,hcsn⟩ (by (try dsimp only);omega)
      exact Av (AS (Y (Ac (Ab U (V U U (AP (z:=((k+1:Nat):Int)) U U U (by rw [Ay (by omega) (by omega)];omega)) (Ab U (Aa (Bb (s:=(k,M)) (k+1,M) ⟨rfl,rfl,rfl,rfl,trivial⟩ ⟨H,by (try dsimp only);omega,hok,hcs⟩ (by (try dsimp only);omega)))))))))
     exact (h47 (hf39.trans hf45.symm)).elim
    exact (h43 hcs.symm).elim
   exact (h41 U).elim
  refine Bj (AE (AE (Bk (Y ?_))))
  replace H:=H.nil
  refine Z (Ac (sc (Je) H (lR 7 U l0) U U (At JR U U) ?_))
  rintro _ _ w ⟨rfl,rfl⟩ H
  exact Ab U (Aa (Y (Ai (Am U U (Ag ⟨rfl,rfl⟩ H)))))
 refine Ac (V U U (Bp (cs:=[.slice A1 C.J.us.length c2,.int .i64 C.J.parts,.slice A6 C.J.map.length c7,.slice A11 C.J.comb.length c12,.slice A16 C.J.red.length c17,.int .i64 C.J.chunk,.int .i64 C.J.window,.int .i64 C.J.fuel,.slice A21 C.J.marks.length c22,.int .i64 C.w,.int .i64 C.t,.int .i64 C.o]) U Ej U U (H.cellsI 0 U U)) (Ad 2 U (sc (WB (.slice A1 C.J.us.length c2) (.slice A6 C.J.map.length c7) (.slice A11 C.J.comb.length c12) (.slice A16 C.J.red.length c17) (.slice A21 C.J.marks.length c22) C k1 k2 (by first |assumption|omega|(unfold AF;omega))) H (lR 0 U (lR 2 U (lR 3 U (lR 4 U (lR 5 U l0))))) U U (At JT U U) ?_)))
 rintro _ _ w ⟨rfl,rfl⟩ H
 refine Ad 5 U (Aa (Y (Z (Ac (V U U (Bp (cs:=[.slice A1 C.J.us.length c2,.int .i64 C.J.parts,.slice A6 C.J.map.length c7,.slice A11 C.J.comb.length c12,.slice A16 C.J.red.length c17,.int .i64 C.J.chunk,.int .i64 C.J.window,.int .i64 C.J.fuel,.slice A21 C.J.marks.length c22,.int .i64 C.w,.int .i64 C.t,.int .i64 C.o]) U Ej U U (H.cellsI 0 U U)) (Ad 2 U (sc (Yg (.slice A1 C.J.us.length c2) (.slice A6 C.J.map.length c7) (.slice A11 C.J.comb.length c12) (.slice A16 C.J.red.length c17) (.slice A21 C.J.marks.length c22) C k1 k2 (by first |assumption|omega|(unfold AF;omega))) H (lR 0 U (lR 2 U (lR 3 U (lR 4 U (lR 5 U l0))))) U U (At PC U U) ?_)))))))
 rintro _ _ w ⟨rfl,rfl⟩ H
 refine Ad 5 U (Aa (Y ?_))
 replace H:=H.nil
 refine Z (Z (Ac (Ab U (sc (Qi 2) H l0 U U (At PE U U) ?_))))
 rintro _ _ w ⟨rfl,rfl⟩ H
 refine Ab U (V U U (CL U U U) (Ad 2 U (V U U (Dh U Fe U U) (Ab U (V U U (Dh U KI U U) (V U U (Ke U I7 U U) (Ab U (Aa (Y (B0 U (Av (Y (Z (Z (Ac (Ab U (V U U (Dh U KI U U) (Aa (Y (BM U (Z (Ac (sc (Je) H (lR 7 U l0) U U (At JR U U) ?_)))))))))))))))))))))))
 rintro _ _ w ⟨rfl,rfl⟩ H
 exact Ab U (Aa (Y (Ai (Ao (Am U U (Ag ⟨rfl,rfl⟩ H))))))
theorem WM (vS vM vC vR vK:Value) (ss:List (List An)) (map comb red:List Bm) (marks:List Int) (parts chunk window fuel:Int) (wj:((∀ x∈ss,(∀ p∈x,p.key.size≤9223372036854775807∧p.val.size≤9223372036854775807)∧x.length≤9223372036854775807)∧ss.length≤9223372036854775807)∧((∀ p∈map,AF p.op∧AF p.a∧p.s.size≤9223372036854775807)∧map.length≤9223372036854775807)∧((∀ p∈comb,AF p.op∧AF p.a∧p.s.size≤9223372036854775807)∧comb.length≤9223372036854775807)∧((∀ p∈red,AF p.op∧AF p.a∧p.s.size≤9223372036854775807)∧red.length≤9223372036854775807)∧(∀ x∈marks,AF x)∧marks.length≤9223372036854775807) (wn:AF parts∧AF chunk∧AF window∧AF fuel) (cw ct co:Int) (wc:AF cw∧AF ct∧AF co) (k1:Int) (g1:AF k1) (k2:Int) (g2:AF k2) (va:Value) (acts:List Ja) (wacts:(∀ p∈acts,AF p.x∧AF p.y∧AF p.z)∧acts.length≤9223372036854775807):
  Cn Tryz.prog 4 [.agg #[vS,.int .i64 parts,vM,vC,vR,.int .i64 chunk,.int .i64 window,.int .i64 fuel,vK,.int .i64 cw,.int .i64 ct,.int .i64 co],.int .i64 k1,.int .i64 k2,va] [] [Af (BK Al) vS ss,Af Au vM map,Af Au vC comb,Af Au vR red,Af (AN .i64) vK marks,Af Hc va acts,gl] (fun v Bs=>v=.bool true∧Bs=[]):=
 Cn.heads0 fun us hus=>WK vS vM vC vR vK ⟨⟨us,parts,map,comb,red,chunk,window,fuel,marks⟩,cw,ct,co⟩ ss (fun i hi=>(wj.2.1.1 i hi).2.1) (fun i hi=>(wj.2.2.1.1 i hi).2.1) (fun i hi=>(wj.2.2.2.1.1 i hi).2.1) k1 g1 k2 g2 va acts wacts
theorem Nm {P:Program} {W:World} {name:String} {g:Nat} {cs:Array Value} (hg:P.globalNamed name=some g) (h:W.var? P name=some cs):E0 W g:=by
 unfold World.var? at h
 rw [hg] at h
 simp only [Option.bind_some] at h
 show g<W.heap.size
 rcases Nat.lt_or_ge g W.heap.size with h'|h'
 ·exact h'
 ·simp [Array.getElem?_eq_none h'] at h
theorem RZ: "*" ++ "errors.errorString" = "*errors.errorString" :=by decide
theorem QG (u:TypeId) (h:Tryz.prog.typeName? 3 u=some "*errors.errorString"):u=409:=typeName_ptr_named (nm:= "errors.errorString") (by rw [RZ];kernel_rfl) (by kernel_rfl) (by decide) u (by rw [RZ];exact h)
theorem LZ:Tryz.prog.globalNamed "internal/strconv.uint64pow10" =some 2:=by kernel_rfl
theorem Uz:(Tryz.prog.globals[2]?).map (·.type)=some 406:=by kernel_rfl
theorem L0:Tryz.prog.globalNamed "strconv.ErrSyntax" =some 0:=by kernel_rfl
theorem UA:(Tryz.prog.globals[0]?).map (·.type)=some 370:=by kernel_rfl
theorem L1:Tryz.prog.globalNamed "strconv.ErrRange" =some 1:=by kernel_rfl
theorem UB:(Tryz.prog.globals[1]?).map (·.type)=some 370:=by kernel_rfl
theorem PX:Tryz.prog.underlying 370=some (.interface (Tryz.prog.methodsAt 370)):=by kernel_rfl
theorem Wq:Tryz.prog.underlying 406=some (.array 20 270):=by kernel_rfl
theorem Wp:Tryz.prog.underlying 270=some (.int .u64):=by kernel_rfl
theorem PY:Tryz.prog.underlying 409=some (.pointer 411):=by kernel_rfl
theorem PZ:Tryz.prog.underlying 411=some (.struct #[⟨ "s",9,0,false, "", "errors",0⟩]):=by kernel_rfl
theorem P0:Tryz.prog.underlying 9=some (.string):=by kernel_rfl
theorem Wi:Tryz.prog.cellsOf 270=1:=by kernel_rfl
theorem Wj:Tryz.prog.cellsOf 406=20:=by kernel_rfl
theorem PS:Tryz.prog.cellsOf 411=1:=by kernel_rfl
theorem PT:Tryz.prog.cellsOf 9=1:=by kernel_rfl
theorem Ut {W:World} (h:laidMet Tryz.prog Rows.checkOrdersRow.laid W):gl.P W (E0 W):=by
 refine ⟨?_,?_,?_⟩
 ·have h0:laidMet Tryz.prog [("internal/strconv.uint64pow10",Lib.tabData .u64 Lib.pow10Tab)] W:=by
   have e:Rows.checkOrdersRow.laid.filter (fun x=>x.1== "internal/strconv.uint64pow10")=[("internal/strconv.uint64pow10",Lib.tabData .u64 Lib.pow10Tab)]:=by kernel_rfl
   have:=h.filter (fun x=>x.1== "internal/strconv.uint64pow10");rw [e] at this;exact this
  have hv:=Lib.tabIs_of_head LZ Uz Wq Wp Wi Wj h0
  exact ⟨_,LZ,Nm LZ hv,_,hv,rfl⟩
 ·have h0:laidMet Tryz.prog [("strconv.ErrSyntax",Rows.laid_strconv_ErrSyntax)] W:=by
   have e:Rows.checkOrdersRow.laid.filter (fun x=>x.1== "strconv.ErrSyntax")=[("strconv.ErrSyntax",Rows.laid_strconv_ErrSyntax)]:=by kernel_rfl
   have:=h.filter (fun x=>x.1== "strconv.ErrSyntax");rw [e] at this;exact this
  obtain ⟨a0,s0,hv, -⟩:=laid_sentinel h0 L0 UA PX QG PY PZ rfl rfl P0 PS PT
  exact ⟨_,L0,Nm L0 hv,_,hv,_,_,rfl⟩
 ·have h0:laidMet Tryz.prog [("strconv.ErrRange",Rows.laid_strconv_ErrRange)] W:=by
   have e:Rows.checkOrdersRow.laid.filter (fun x=>x.1== "strconv.ErrRange")=[("strconv.ErrRange",Rows.laid_strconv_ErrRange)]:=by kernel_rfl
   have:=h.filter (fun x=>x.1== "strconv.ErrRange");rw [e] at this;exact this
  obtain ⟨a0,s0,hv, -⟩:=laid_sentinel h0 L1 UB PX QG PY PZ rfl rfl P0 PS PT
  exact ⟨_,L1,Nm L1 hv,_,hv,_,_,rfl⟩
end Go.Proofs.YthgehekecfpikaaGreatDoor.X
