/- NodeLives: texts WK3, WK2, WK4, ND6, LW1, LN2, LN4, G1, joined by a program of ours; what nothing names is left out. -/
import Derived.Test.YthhajcnbjiiclaaGreatDoorNodeLivesQ7
import Derived.Test.YthhajcnbjiiclaaGreatDoorRows
import Derived.LaidSub
import Derived.Lib.LaidTab
import Derived.Stop.LaidErr
set_option linter.unusedVariables false
set_option linter.unusedSimpArgs false
set_option maxHeartbeats 8000000
namespace Go.Proofs.YthhajcnbjiiclaaGreatDoor.X
open Go
theorem fO (b:Nat) (vS:Value) (vM:Value) (vC:Value) (vR:Value) (vK:Value) (J2:AR) (C:Cf) (ep:Int) (pv:Value) (kb:Nat) (tv:Value) (ov:Bool) (mb:Nat) (M:Cy) (hC:Dq C) (hJ:C4 C.J) (hsj:Bk J2 C.J) (hM:GS M):
    Cn Tryz.prog 83 [.pointer (some ⟨b,0,none⟩),.agg #[.int .i64 ((M.sp:Nat):Int),.int .i64 M.att,.pointer (some ⟨mb,0,none⟩)]] [Da mb C.J M] [blk b [vS,.int .i64 J2.parts,vM,vC,vR,.int .i64 J2.chunk,.int .i64 J2.window,.int .i64 J2.fuel,vK,.int .i64 C.w,.int .i64 C.t,.int .i64 C.o,.int .i64 ep,pv,.map (some kb),tv,.int .u32 (Cu ov)] 103,Ac (At Ag) vS J2.us,Ac Af vM J2.map,Ac Af vC J2.comb,Ac Af vR J2.red,Ac (Ai .i64) vK J2.marks,gl] (fun v Bs=>∃ zs:List (Bl BE),Bs=[Y BF v zs,Da mb C.J M]∧(zs.map B4=EV dg C M)):=by
 intro w0 F0 H
 refine enter Tryz.func83 U U (Nat.le_of_ble_eq_true U) (Aa (Ae (CZ U U U U H (fun b1 w H=>(Ad U (Ab (Z ?_)))))))
 replace H:Hd _ _ _ [blk b1 [.int .i64 ((M.sp:Nat):Int),.int .i64 M.att,.pointer (some ⟨mb,0,none⟩)] 151,Da mb C.J M] [blk b [vS,.int .i64 J2.parts,vM,vC,vR,.int .i64 J2.chunk,.int .i64 J2.window,.int .i64 J2.fuel,vK,.int .i64 C.w,.int .i64 C.t,.int .i64 C.o,.int .i64 ep,pv,.map (some kb),tv,.int .u32 (Cu ov)] 103,Ac (At Ag) vS J2.us,Ac Af vM J2.map,Ac Af vC J2.comb,Ac Af vR J2.red,Ac (Ai .i64) vK J2.marks,gl]:=H
 refine Hw (σ:=Nat×Value) (fun (bb,uv)=>[(0,.pointer (some ⟨b,0,none⟩)),(3,.pointer (some ⟨b1,0,none⟩)),(5,.pointer (some ⟨bb,0,none⟩))]) (fun (bb,uv) w=>(Hd w0 F0 w [blk bb [.int .i64 4,.int .i64 ((M.sp:Nat):Int),.int .i64 M.att,.int .i64 0,.int .i64 0,.int .i64 0,.int .i64 0,.int .i64 0,uv,.slice none 0 0] 49,Y (Ai .i64) uv (CX dg C.J M.sp M.att),blk b1 [.int .i64 ((M.sp:Nat):Int),.int .i64 M.att,.pointer (some ⟨mb,0,none⟩)] 151,Da mb C.J M] [blk b [vS,.int .i64 J2.parts,vM,vC,vR,.int .i64 J2.chunk,.int .i64 J2.window,.int .i64 J2.fuel,vK,.int .i64 C.w,.int .i64 C.t,.int .i64 C.o,.int .i64 ep,pv,.map (some kb),tv,.int .u32 (Cu ov)] 103,Ac (At Ag) vS J2.us,Ac Af vM J2.map,Ac Af vC J2.comb,Ac Af vR J2.red,Ac (Ai .i64) vK J2.marks,gl])) ?_ ?_
 ·refine Ce (.e 0 (.e 1 (.e 2 (.e 3 (.e 4 (.e 5 (.b 6 8 (.e 7 (.m 8 (.m 9 .z))) (.m 6 (.e 7 (.m 9 .z)))))))))) (fun w=>∃ Ar,Hd w0 F0 w (blk b1 [.int .i64 ((M.sp:Nat):Int),.int .i64 M.att,.pointer (some ⟨mb,0,none⟩)] 151::Da mb C.J M::Ar) [blk b [vS,.int .i64 J2.parts,vM,vC,vR,.int .i64 J2.chunk,.int .i64 J2.window,.int .i64 J2.fuel,vK,.int .i64 C.w,.int .i64 C.t,.int .i64 C.o,.int .i64 ep,pv,.map (some kb),tv,.int .u32 (Cu ov)] 103,Ac (At Ag) vS J2.us,Ac Af vM J2.map,Ac Af vC J2.comb,Ac Af vR J2.red,Ac (Ai .i64) vK J2.marks,gl]) mo (by kernel_rfl) (fun w H=>⟨_,H⟩) H (fun w H=>(Ao U U U (fun w ⟨Ar,H⟩=>Aj U Ps U) (Ao U U U (fun w ⟨Ar,H⟩=>Am U AE U (H.cellI 0 U U)) (Ao U U U (fun w ⟨Ar,H⟩=>Aj U Pt U) (Ao U U U (fun w ⟨Ar,H⟩=>Am U AE U (H.cellI 0 U U)) ?_)))))
  refine Ao U U U (fun w ⟨Ar,H⟩=>Aj U KC U) (Ao U U U (fun w ⟨Ar,H⟩=>Am U LF U (H.cellI 0 U U)) ?_)
  refine Gm U U ?_ ?_
  ·replace H:=H.p1
   refine sc (RE mb C.J M (by first |assumption|omega)) H l0 U U (Av Qn U U) ?_
   rintro v2 _ w rfl H
   obtain ⟨A3,c4,rfl,hc5,hm6,hp7⟩:=H.fA 0 rfl
   replace H:Hd _ _ _ [Y (Ai .i64) (.slice A3 ((CX dg C.J M.sp M.att).length) c4) (CX dg C.J M.sp M.att),Da mb C.J M,blk b1 [.int .i64 ((M.sp:Nat):Int),.int .i64 M.att,.pointer (some ⟨mb,0,none⟩)] 151] [blk b [vS,.int .i64 J2.parts,vM,vC,vR,.int .i64 J2.chunk,.int .i64 J2.window,.int .i64 J2.fuel,vK,.int .i64 C.w,.int .i64 C.t,.int .i64 C.o,.int .i64 ep,pv,.map (some kb),tv,.int .u32 (Cu ov)] 103,Ac (At Ag) vS J2.us,Ac Af vM J2.map,Ac Af vC J2.comb,Ac Af vR J2.red,Ac (Ai .i64) vK J2.marks,gl]:=H
   replace H:=H.p1.p2
   refine AH ⟨_,H⟩ (Ao U U U (fun w ⟨Ar,H⟩=>Dl (parts:=[(0,.const (.int .i64 4)),(1,.tmp 10),(2,.tmp 12),(8,.tmp 15)]) (vs:=[.int .i64 4,.int .i64 ((M.sp:Nat):Int),.int .i64 M.att,.slice A3 ((CX dg C.J M.sp M.att).length) c4]) (cs:=[.int .i64 4,.int .i64 ((M.sp:Nat):Int),.int .i64 M.att,.int .i64 0,.int .i64 0,.int .i64 0,.int .i64 0,.int .i64 0,.slice A3 ((CX dg C.J M.sp M.att).length) c4,.slice none 0 0]) U H0 U U) (AO U (DD U U U Jf H (fun b8 w H=>?_))))
   replace H:=H.h1 (A:=blk b8 [.int .i64 0,.int .i64 0,.int .i64 0,.int .i64 0,.int .i64 0,.int .i64 0,.int .i64 0,.int .i64 0,.slice none 0 0,.slice none 0 0] 49)|>.p2|>.p2
   refine AH ⟨_,H⟩ (AO U ?_)
   replace H:=H.p2
   refine Bx U U U FU U U H U (Nat.le_of_ble_eq_true U) (fun u hu=>by simp [Value.cells] at hu;rcases hu with rfl|rfl|rfl|rfl|rfl|rfl|rfl|rfl|rfl|rfl<;>rfl) (fun w H=>?_)
   replace H:=H.h1 (A:=blk b8 [.int .i64 4,.int .i64 ((M.sp:Nat):Int),.int .i64 M.att,.int .i64 0,.int .i64 0,.int .i64 0,.int .i64 0,.int .i64 0,.slice A3 ((CX dg C.J M.sp M.att).length) c4,.slice none 0 0] 49)|>.p2|>.p2
   refine AH ⟨_,H⟩ (BO ?_)
   replace H:=H.p3.p3
   exact Dk (b8,.slice A3 ((CX dg C.J M.sp M.att).length) c4) ⟨rfl,rfl,rfl,trivial⟩ H
  refine DD U U U Jf H (fun b9 w H=>?_)
  replace H:=H.h1 (A:=blk b9 [.int .i64 0,.int .i64 0,.int .i64 0,.int .i64 0,.int .i64 0,.int .i64 0,.int .i64 0,.int .i64 0,.slice none 0 0,.slice none 0 0] 49)|>.p2|>.p2
  refine AH ⟨_,H⟩ (AO U ?_)
  replace H:=H.p1
  refine sc (RE mb C.J M (by first |assumption|omega)) H l0 U U (Av Qn U U) ?_
  rintro v10 _ w rfl H
  obtain ⟨A11,c12,rfl,hc13,hm14,hp15⟩:=H.fA 0 rfl
  replace H:Hd _ _ _ [Y (Ai .i64) (.slice A11 ((CX dg C.J M.sp M.att).length) c12) (CX dg C.J M.sp M.att),Da mb C.J M,blk b1 [.int .i64 ((M.sp:Nat):Int),.int .i64 M.att,.pointer (some ⟨mb,0,none⟩)] 151,blk b9 [.int .i64 0,.int .i64 0,.int .i64 0,.int .i64 0,.int .i64 0,.int .i64 0,.int .i64 0,.int .i64 0,.slice none 0 0,.slice none 0 0] 49] [blk b [vS,.int .i64 J2.parts,vM,vC,vR,.int .i64 J2.chunk,.int .i64 J2.window,.int .i64 J2.fuel,vK,.int .i64 C.w,.int .i64 C.t,.int .i64 C.o,.int .i64 ep,pv,.map (some kb),tv,.int .u32 (Cu ov)] 103,Ac (At Ag) vS J2.us,Ac Af vM J2.map,Ac Af vC J2.comb,Ac Af vR J2.red,Ac (Ai .i64) vK J2.marks,gl]:=H
  replace H:=H.p1.p2
  refine AH ⟨_,H⟩ (Ao U U U (fun w ⟨Ar,H⟩=>Dl (parts:=[(0,.const (.int .i64 4)),(1,.tmp 10),(2,.tmp 12),(8,.tmp 15)]) (vs:=[.int .i64 4,.int .i64 ((M.sp:Nat):Int),.int .i64 M.att,.slice A11 ((CX dg C.J M.sp M.att).length) c12]) (cs:=[.int .i64 4,.int .i64 ((M.sp:Nat):Int),.int .i64 M.att,.int .i64 0,.int .i64 0,.int .i64 0,.int .i64 0,.int .i64 0,.slice A11 ((CX dg C.J M.sp M.att).length) c12,.slice none 0 0]) U H0 U U) (AO U ?_))
  replace H:=H.p3
  refine Bx U U U FU U U H U (Nat.le_of_ble_eq_true U) (fun u hu=>by simp [Value.cells] at hu;rcases hu with rfl|rfl|rfl|rfl|rfl|rfl|rfl|rfl|rfl|rfl<;>rfl) (fun w H=>?_)
  replace H:=H.h1 (A:=blk b9 [.int .i64 4,.int .i64 ((M.sp:Nat):Int),.int .i64 M.att,.int .i64 0,.int .i64 0,.int .i64 0,.int .i64 0,.int .i64 0,.slice A11 ((CX dg C.J M.sp M.att).length) c12,.slice none 0 0] 49)|>.p2|>.p2
  refine AH ⟨_,H⟩ (BO ?_)
  replace H:=H.p3.p3
  exact Dk (b9,.slice A11 ((CX dg C.J M.sp M.att).length) c12) ⟨rfl,rfl,rfl,trivial⟩ H
 rintro ⟨bb,uv⟩ w H
 refine Hw (σ:=Int×Int×Value×List Int) (fun (kd,wy,sv,se)=>[(0,.pointer (some ⟨b,0,none⟩)),(3,.pointer (some ⟨b1,0,none⟩)),(5,.pointer (some ⟨bb,0,none⟩))]) (fun (kd,wy,sv,se) w=>(Hd w0 F0 w [blk bb [.int .i64 kd,.int .i64 ((M.sp:Nat):Int),.int .i64 M.att,.int .i64 0,.int .i64 0,.int .i64 0,.int .i64 0,.int .i64 wy,sv,.slice none 0 0] 49,Y (Ai .i64) sv se,blk b1 [.int .i64 ((M.sp:Nat):Int),.int .i64 M.att,.pointer (some ⟨mb,0,none⟩)] 151,Da mb C.J M] [blk b [vS,.int .i64 J2.parts,vM,vC,vR,.int .i64 J2.chunk,.int .i64 J2.window,.int .i64 J2.fuel,vK,.int .i64 C.w,.int .i64 C.t,.int .i64 C.o,.int .i64 ep,pv,.map (some kb),tv,.int .u32 (Cu ov)] 103,Ac (At Ag) vS J2.us,Ac Af vM J2.map,Ac Af vC J2.comb,Ac Af vR J2.red,Ac (Ai .i64) vK J2.marks,gl])∧((⟨0,0,⟨kd,M.sp,M.att,0,0,0,0,wy,se,[]⟩⟩:EZ)=doneL dg C.J M)) ?_ ?_
 ·refine Aa ?_
  obtain ⟨A16,c17,rfl,hc18,hm19,hp20⟩:=H.fA 1 rfl
  replace H:Hd _ _ _ [blk bb [.int .i64 4,.int .i64 ((M.sp:Nat):Int),.int .i64 M.att,.int .i64 0,.int .i64 0,.int .i64 0,.int .i64 0,.int .i64 0,.slice A16 ((CX dg C.J M.sp M.att).length) c17,.slice none 0 0] 49,Y (Ai .i64) (.slice A16 ((CX dg C.J M.sp M.att).length) c17) (CX dg C.J M.sp M.att),blk b1 [.int .i64 ((M.sp:Nat):Int),.int .i64 M.att,.pointer (some ⟨mb,0,none⟩)] 151,Da mb C.J M] [blk b [vS,.int .i64 J2.parts,vM,vC,vR,.int .i64 J2.chunk,.int .i64 J2.window,.int .i64 J2.fuel,vK,.int .i64 C.w,.int .i64 C.t,.int .i64 C.o,.int .i64 ep,pv,.map (some kb),tv,.int .u32 (Cu ov)] 103,Ac (At Ag) vS J2.us,Ac Af vM J2.map,Ac Af vC J2.comb,Ac Af vR J2.red,Ac (Ai .i64) vK J2.marks,gl]:=H
  refine Ae (V U U (Aj U KC U) (V U U (Am U LF U (H.cellI 2 U U)) ?_))
  replace H:=H.p3
  refine sc (RF mb C.J M) H l0 U U (Av MG U U) ?_
  rintro _ _ w ⟨rfl,rfl⟩ H
  refine V U U (Cx U U U) (Ab (Z ?_))
  refine AC U (fun h21=>?_) (fun h21=>?_)
  ·replace H:=H.p3.p3.p2
   refine Ce (.e 0 (.e 1 (.e 2 (.e 3 (.e 4 (.e 5 (.m 6 (.e 7 (.m 8 .z))))))))) (fun w=>∃ Ar,Hd w0 F0 w (Da mb C.J M::Y (Ai .i64) (.slice A16 ((CX dg C.J M.sp M.att).length) c17) (CX dg C.J M.sp M.att)::blk b1 [.int .i64 ((M.sp:Nat):Int),.int .i64 M.att,.pointer (some ⟨mb,0,none⟩)] 151::Ar) [blk b [vS,.int .i64 J2.parts,vM,vC,vR,.int .i64 J2.chunk,.int .i64 J2.window,.int .i64 J2.fuel,vK,.int .i64 C.w,.int .i64 C.t,.int .i64 C.o,.int .i64 ep,pv,.map (some kb),tv,.int .u32 (Cu ov)] 103,Ac (At Ag) vS J2.us,Ac Af vM J2.map,Ac Af vC J2.comb,Ac Af vR J2.red,Ac (Ai .i64) vK J2.marks,gl]) mo (by kernel_rfl) (fun w H=>⟨_,H⟩) H (fun w H=>(Ao U U U (fun w ⟨Ar,H⟩=>Aj U Ps U) (Ao U U U (fun w ⟨Ar,H⟩=>Am U AE U (H.cellI 2 U U)) (Ao U U U (fun w ⟨Ar,H⟩=>Aj U Pt U) ?_))))
   refine Ao U U U (fun w ⟨Ar,H⟩=>Am U AE U (H.cellI 2 U U)) (Ao U U U (fun w ⟨Ar,H⟩=>Aj U KC U) (Ao U U U (fun w ⟨Ar,H⟩=>Am U LF U (H.cellI 2 U U)) (AO U (sc (RF mb C.J M) H l0 U U (Av MG U U) ?_))))
   rintro _ _ w ⟨rfl,rfl⟩ H
   refine AH ⟨_,H⟩ (Ao U U U (fun w ⟨Ar,H⟩=>Dl (parts:=[(0,.const (.int .i64 5)),(1,.tmp 22),(2,.tmp 24),(7,.tmp 27)]) (vs:=[.int .i64 5,.int .i64 ((M.sp:Nat):Int),.int .i64 M.att,.int .i64 ((A0 dg C.J M.sp).2)]) (cs:=[.int .i64 5,.int .i64 ((M.sp:Nat):Int),.int .i64 M.att,.int .i64 0,.int .i64 0,.int .i64 0,.int .i64 0,.int .i64 ((A0 dg C.J M.sp).2),.slice none 0 0,.slice none 0 0]) U H0 U U) (AO U ?_))
   replace H:=H.p3
   refine Bx U U U FU U U H U (Nat.le_of_ble_eq_true U) (fun u hu=>by simp [Value.cells] at hu;rcases hu with rfl|rfl|rfl|rfl|rfl|rfl|rfl|rfl|rfl|rfl<;>rfl) (fun w H=>?_)
   replace H:=H.h1 (A:=blk bb [.int .i64 5,.int .i64 ((M.sp:Nat):Int),.int .i64 M.att,.int .i64 0,.int .i64 0,.int .i64 0,.int .i64 0,.int .i64 ((A0 dg C.J M.sp).2),.slice none 0 0,.slice none 0 0] 49)|>.p3|>.p3|>.p3
   refine AH ⟨_,H⟩ (BO ?_)
   replace H:=H.newnil (Ai .i64)|>.p3|>.p1|>.p4|>.k4
   exact Dk (5,(A0 dg C.J M.sp).2,.slice none 0 0,[]) ⟨rfl,rfl,rfl,trivial⟩ ⟨H,by unfold doneL;rw [if_pos h21]⟩
  refine Az ?_
  replace H:=H.p3.p3.p3
  exact Dk (4,0,.slice A16 ((CX dg C.J M.sp M.att).length) c17,CX dg C.J M.sp M.att) ⟨rfl,rfl,rfl,trivial⟩ ⟨H,by unfold doneL;rw [if_neg h21]⟩
 rintro ⟨kd,wy,sv,se⟩ w ⟨H,hd⟩
 refine Aa ?_
 obtain ⟨A22,c23,rfl,hc24,hm25,hp26⟩:=H.fA 1 rfl
 replace H:Hd _ _ _ [blk bb [.int .i64 kd,.int .i64 ((M.sp:Nat):Int),.int .i64 M.att,.int .i64 0,.int .i64 0,.int .i64 0,.int .i64 0,.int .i64 wy,.slice A22 se.length c23,.slice none 0 0] 49,Y (Ai .i64) (.slice A22 se.length c23) se,blk b1 [.int .i64 ((M.sp:Nat):Int),.int .i64 M.att,.pointer (some ⟨mb,0,none⟩)] 151,Da mb C.J M] [blk b [vS,.int .i64 J2.parts,vM,vC,vR,.int .i64 J2.chunk,.int .i64 J2.window,.int .i64 J2.fuel,vK,.int .i64 C.w,.int .i64 C.t,.int .i64 C.o,.int .i64 ep,pv,.map (some kb),tv,.int .u32 (Cu ov)] 103,Ac (At Ag) vS J2.us,Ac Af vM J2.map,Ac Af vC J2.comb,Ac Af vR J2.red,Ac (Ai .i64) vK J2.marks,gl]:=H
 refine Ae (V U U (BG (cs:=[.int .i64 kd,.int .i64 ((M.sp:Nat):Int),.int .i64 M.att,.int .i64 0,.int .i64 0,.int .i64 0,.int .i64 0,.int .i64 wy,.slice A22 se.length c23,.slice none 0 0]) U FU U U (H.cellsI 0 U U)) (V U U (Dl (parts:=[(2,.tmp 29)]) (vs:=[.agg #[.int .i64 kd,.int .i64 ((M.sp:Nat):Int),.int .i64 M.att,.int .i64 0,.int .i64 0,.int .i64 0,.int .i64 0,.int .i64 wy,.slice A22 se.length c23,.slice none 0 0]]) (cs:=[.int .i64 0,.int .i64 0,.int .i64 kd,.int .i64 ((M.sp:Nat):Int),.int .i64 M.att,.int .i64 0,.int .i64 0,.int .i64 0,.int .i64 0,.int .i64 wy,.slice A22 se.length c23,.slice none 0 0]) U Kl U U) (Cg (parts:=[(0,.tmp 30)]) (vs:=[.agg #[.int .i64 0,.int .i64 0,.int .i64 kd,.int .i64 ((M.sp:Nat):Int),.int .i64 M.att,.int .i64 0,.int .i64 0,.int .i64 0,.int .i64 0,.int .i64 wy,.slice A22 se.length c23,.slice none 0 0]]) (cs:=[.int .i64 0,.int .i64 0,.int .i64 kd,.int .i64 ((M.sp:Nat):Int),.int .i64 M.att,.int .i64 0,.int .i64 0,.int .i64 0,.int .i64 0,.int .i64 wy,.slice A22 se.length c23,.slice none 0 0]) U U U EG Gk U (by decide) (by decide) U U H (fun b27 w H=>?_))))
 replace H:=H.h1 (A:=blk b27 [.int .i64 0,.int .i64 0,.int .i64 kd,.int .i64 ((M.sp:Nat):Int),.int .i64 M.att,.int .i64 0,.int .i64 0,.int .i64 0,.int .i64 0,.int .i64 wy,.slice A22 se.length c23,.slice none 0 0] 51)
 refine Ad U (Ab (Z (Aa (Aa ?_))))
 replace H:Hd w0 F0 w [Y Ca (.slice (some ⟨b27,0,none⟩) 1 1) [(⟨⟨0,0,⟨kd,((M.sp:Nat):Int),M.att,0,0,0,0,wy⟩⟩,⟨A22,se.length,c23⟩,⟨none,0,0⟩⟩:Di BE)],blk bb [.int .i64 kd,.int .i64 ((M.sp:Nat):Int),.int .i64 M.att,.int .i64 0,.int .i64 0,.int .i64 0,.int .i64 0,.int .i64 wy,.slice A22 se.length c23,.slice none 0 0] 49,Y (Ai .i64) (.slice A22 se.length c23) se,blk b1 [.int .i64 ((M.sp:Nat):Int),.int .i64 M.att,.pointer (some ⟨mb,0,none⟩)] 151,Da mb C.J M] [blk b [vS,.int .i64 J2.parts,vM,vC,vR,.int .i64 J2.chunk,.int .i64 J2.window,.int .i64 J2.fuel,vK,.int .i64 C.w,.int .i64 C.t,.int .i64 C.o,.int .i64 ep,pv,.map (some kb),tv,.int .u32 (Cu ov)] 103,Ac (At Ag) vS J2.us,Ac Af vM J2.map,Ac Af vC J2.comb,Ac Af vR J2.red,Ac (Ai .i64) vK J2.marks,gl]:=H.turn (fun F h=>IA h rfl (by decide) rfl)
 obtain ⟨z0,hz0⟩:∃ z:Bl BE,z=(⟨⟨0,0,⟨kd,M.sp,M.att,0,0,0,0,wy⟩⟩,.slice A22 se.length c23,se,.slice none 0 0,[]⟩:Bl BE):=⟨_,rfl⟩
 replace H:Hd w0 F0 w [Y Ca (.slice (some ⟨b27,0,none⟩) 1 1) ([z0].map A_),blk bb [.int .i64 kd,.int .i64 ((M.sp:Nat):Int),.int .i64 M.att,.int .i64 0,.int .i64 0,.int .i64 0,.int .i64 0,.int .i64 wy,.slice A22 se.length c23,.slice none 0 0] 49,Y (Ai .i64) (.slice A22 se.length c23) se,blk b1 [.int .i64 ((M.sp:Nat):Int),.int .i64 M.att,.pointer (some ⟨mb,0,none⟩)] 151,Da mb C.J M] [blk b [vS,.int .i64 J2.parts,vM,vC,vR,.int .i64 J2.chunk,.int .i64 J2.window,.int .i64 J2.fuel,vK,.int .i64 C.w,.int .i64 C.t,.int .i64 C.o,.int .i64 ep,pv,.map (some kb),tv,.int .u32 (Cu ov)] 103,Ac (At Ag) vS J2.us,Ac Af vM J2.map,Ac Af vC J2.comb,Ac Af vR J2.red,Ac (Ai .i64) vK J2.marks,gl]:=by rw [hz0];exact H
 refine Ae (V U U (Aj U KC U) (V U U (Am U LF U (H.cellI 3 U U)) ?_))
 replace H:=H.p4
 refine sc (Y5 mb C.J M (by first |assumption|omega) (by first |assumption|omega)) H l0 U U (Av WF U U) ?_
 rintro v30 _ w ⟨zs28,rfl,hf29⟩ H
 replace H:=H.h1 (A:=Y Mz v30 zs28)
 obtain ⟨A31,c32,rfl,hc33,hm34,hp35⟩:=H.fA 0 rfl
 replace H:=Hd.twO H
 replace H:=H.h2 (A:=Y EO (.slice A31 zs28.length c32) (zs28.map A_)) (B:=BD zs28)
 have hzl4:=YF hM hf29
 have hzf:(zs28.map A_).length=zs28.length:=List.length_map ..
 refine V U U (Bj U eS U) (Ad U (Ab (Z (AW ?_))))
 replace H:=H.h4 (D:=Y Ca (.slice (some ⟨b27,0,none⟩) 1 1) (([z0]++(zs28.take 0).map (lf C)).map A_))|>.p5|>.p2|>.p4|>.p3|>.k5
 refine B1 (σ:=Nat×Value) (fun (k,q)=>[(0,.pointer (some ⟨b,0,none⟩)),(6,q),(34,.slice A31 zs28.length c32),(35,.int .i64 ((zs28.length:Nat):Int)),(36,.int .i64 ((k:Nat):Int))]) (fun (k,q) w=>(Hd w0 F0 w [Y EO (.slice A31 zs28.length c32) (zs28.map A_),Y Ca q (([z0]++(zs28.take k).map (lf C)).map A_),BD zs28,Y (Ai .i64) (.slice A22 se.length c23) se,Da mb C.J M] [blk b [vS,.int .i64 J2.parts,vM,vC,vR,.int .i64 J2.chunk,.int .i64 J2.window,.int .i64 J2.fuel,vK,.int .i64 C.w,.int .i64 C.t,.int .i64 C.o,.int .i64 ep,pv,.map (some kb),tv,.int .u32 (Cu ov)] 103,Ac (At Ag) vS J2.us,Ac Af vM J2.map,Ac Af vC J2.comb,Ac Af vR J2.red,Ac (Ai .i64) vK J2.marks,gl])∧(k≤(zs28.map A_).length)) (fun (k,q)=>(zs28.map A_).length - k) (0,.slice (some ⟨b27,0,none⟩) 1 1) ⟨rfl,rfl,rfl,rfl,rfl,trivial⟩ ⟨H,Nat.zero_le _⟩ ?_
 rintro ⟨k,q⟩ w ⟨H,hk⟩
 have hlt9:(([z0]++(zs28.take k).map (lf C)).map A_).length≤k+1:=by simp only [List.length_map,List.length_append,List.length_cons,List.length_nil,List.length_take];omega
 refine Aa (Ae (V U U (Br U U U) (Ab (Z (Aa ?_)))))
 refine AC U (fun h36=>?_) (fun h36=>?_)
 ·refine Az (Z (Aa (AW (Aa (Ae ?_)))))
  obtain ⟨x37,hx38⟩:∃ z9,(zs28.map A_)[k]?=some z9:=⟨_,List.getElem?_eq_getElem (show k<(zs28.map A_).length by omega)⟩
  have th39:=H.thA 0 rfl hx38
  refine V U U (Bi (p:=Ba A31+k*10) U NI U U (by omega) (by omega) th39 U) (V U U (BG (cs:=[.int .i64 x37.h.kind,.int .i64 x37.h.sp,.int .i64 x37.h.att,.int .i64 x37.h.part,.int .i64 x37.h.seq,.int .i64 x37.h.next,.int .i64 x37.h.ep,.int .i64 x37.h.why,.slice x37.hs.A x37.hs.n x37.hs.c,.slice x37.hp.A x37.hp.n x37.hp.c]) U FU U U (H.elsA 0 U hx38 U)) (DD U U U Jf H (fun b40 w H=>(Bx U U U FU U U H U (Nat.le_of_ble_eq_true U) (fun u hu=>by simp [Value.cells] at hu;rcases hu with rfl|rfl|rfl|rfl|rfl|rfl|rfl|rfl|rfl|rfl<;>rfl) (fun w H=>?_)))))
  replace H:=H.h3 (A:=blk b40 [.int .i64 x37.h.kind,.int .i64 x37.h.sp,.int .i64 x37.h.att,.int .i64 x37.h.part,.int .i64 x37.h.seq,.int .i64 x37.h.next,.int .i64 x37.h.ep,.int .i64 x37.h.why,.slice x37.hs.A x37.hs.n x37.hs.c,.slice x37.hp.A x37.hp.n x37.hp.c] 49) (C:=Y Ca q (([z0]++(zs28.take k).map (lf C)).map A_))
  refine Ab (Z ?_)
  obtain ⟨m9,hm9,hxe9⟩:=YE hx38
  have hp64:AG x37.h.part:=by rw [hxe9];exact ZQ hM hf29 hm9
  replace H:=H.p5.p5.p5.p4.p4
  refine Ce (.e 0 (.e 1 (.e 2 (.e 3 (.e 4 (.e 5 (.e 6 (.e 8 (.m 7 (.e 9 (.m 10 (.m 11 (.e 12 .z))))))))))))) (fun w=>∃ Ar,Hd w0 F0 w (blk b40 [.int .i64 x37.h.kind,.int .i64 x37.h.sp,.int .i64 x37.h.att,.int .i64 x37.h.part,.int .i64 x37.h.seq,.int .i64 x37.h.next,.int .i64 x37.h.ep,.int .i64 x37.h.why,.slice x37.hs.A x37.hs.n x37.hs.c,.slice x37.hp.A x37.hp.n x37.hp.c] 49::Y EO (.slice A31 zs28.length c32) (zs28.map A_)::BD zs28::Y (Ai .i64) (.slice A22 se.length c23) se::Da mb C.J M::Ar) [blk b [vS,.int .i64 J2.parts,vM,vC,vR,.int .i64 J2.chunk,.int .i64 J2.window,.int .i64 J2.fuel,vK,.int .i64 C.w,.int .i64 C.t,.int .i64 C.o,.int .i64 ep,pv,.map (some kb),tv,.int .u32 (Cu ov)] 103,Ac (At Ag) vS J2.us,Ac Af vM J2.map,Ac Af vC J2.comb,Ac Af vR J2.red,Ac (Ai .i64) vK J2.marks,gl]) mo (by kernel_rfl) (fun w H=>⟨_,H⟩) H (fun w H=>?_)
  refine Au U (Au U (Ao U U U (fun w ⟨Ar,H⟩=>AJ U U) (Ao U U U (fun w ⟨Ar,H⟩=>Aj U Pq U) (Ao U U U (fun w ⟨Ar,H⟩=>BG (cs:=[vS,.int .i64 J2.parts,vM,vC,vR,.int .i64 J2.chunk,.int .i64 J2.window,.int .i64 J2.fuel,vK,.int .i64 C.w,.int .i64 C.t,.int .i64 C.o]) U EH U U (H.cellsRI 0 U U)) (Ao U U U (fun w ⟨Ar,H⟩=>Aj U Ml U) (Ao U U U (fun w ⟨Ar,H⟩=>Am U AE U (H.cellI 0 U U)) (Ao U U U (fun w ⟨Ar,H⟩=>BG (cs:=[.int .i64 x37.h.kind,.int .i64 x37.h.sp,.int .i64 x37.h.att,.int .i64 x37.h.part,.int .i64 x37.h.seq,.int .i64 x37.h.next,.int .i64 x37.h.ep,.int .i64 x37.h.why,.slice x37.hs.A x37.hs.n x37.hs.c,.slice x37.hp.A x37.hp.n x37.hp.c]) U FU U U (H.cellsI 0 U U)) (AO U (sc (Mx vS vM vC vR vK (Bp J2 C) x37.h.part (by first |assumption|omega)) H (lR 1 U (lR 2 U (lR 3 U (lR 4 U (lR 5 U l0))))) U U (Av MD U U) ?_)))))))))
  rintro _ _ w ⟨rfl,rfl⟩ H
  refine AH ⟨_,H⟩ (Ao U U U (fun w ⟨Ar,H⟩=>Dl (parts:=[(1,.tmp 47),(2,.tmp 48)]) (vs:=[.int .i64 (DV (Bp J2 C) x37.h.part),.agg #[.int .i64 x37.h.kind,.int .i64 x37.h.sp,.int .i64 x37.h.att,.int .i64 x37.h.part,.int .i64 x37.h.seq,.int .i64 x37.h.next,.int .i64 x37.h.ep,.int .i64 x37.h.why,.slice x37.hs.A x37.hs.n x37.hs.c,.slice x37.hp.A x37.hp.n x37.hp.c]]) (cs:=[.int .i64 0,.int .i64 (DV (Bp J2 C) x37.h.part),.int .i64 x37.h.kind,.int .i64 x37.h.sp,.int .i64 x37.h.att,.int .i64 x37.h.part,.int .i64 x37.h.seq,.int .i64 x37.h.next,.int .i64 x37.h.ep,.int .i64 x37.h.why,.slice x37.hs.A x37.hs.n x37.hs.c,.slice x37.hp.A x37.hp.n x37.hp.c]) U Kl U U) (AO U (Cg (parts:=[(0,.tmp 49)]) (vs:=[.agg #[.int .i64 0,.int .i64 (DV (Bp J2 C) x37.h.part),.int .i64 x37.h.kind,.int .i64 x37.h.sp,.int .i64 x37.h.att,.int .i64 x37.h.part,.int .i64 x37.h.seq,.int .i64 x37.h.next,.int .i64 x37.h.ep,.int .i64 x37.h.why,.slice x37.hs.A x37.hs.n x37.hs.c,.slice x37.hp.A x37.hp.n x37.hp.c]]) (cs:=[.int .i64 0,.int .i64 (DV (Bp J2 C) x37.h.part),.int .i64 x37.h.kind,.int .i64 x37.h.sp,.int .i64 x37.h.att,.int .i64 x37.h.part,.int .i64 x37.h.seq,.int .i64 x37.h.next,.int .i64 x37.h.ep,.int .i64 x37.h.why,.slice x37.hs.A x37.hs.n x37.hs.c,.slice x37.hp.A x37.hp.n x37.hp.c]) U U U EG Gk U (by decide) (by decide) U U H (fun b41 w H=>?_))))
  replace H:=H.h1 (A:=blk b41 [.int .i64 0,.int .i64 (DV (Bp J2 C) x37.h.part),.int .i64 x37.h.kind,.int .i64 x37.h.sp,.int .i64 x37.h.att,.int .i64 x37.h.part,.int .i64 x37.h.seq,.int .i64 x37.h.next,.int .i64 x37.h.ep,.int .i64 x37.h.why,.slice x37.hs.A x37.hs.n x37.hs.c,.slice x37.hp.A x37.hp.n x37.hp.c] 51)|>.p5|>.p5|>.p5|>.p5|>.p5
  refine AH ⟨_,H⟩ (AO U ?_)
  replace H:=H.p6
  refine CE (xs:=([z0]++(zs28.take k).map (lf C)).map A_) (ys:=[(⟨⟨0,DV (Bp J2 C) x37.h.part,⟨x37.h.kind,x37.h.sp,x37.h.att,x37.h.part,x37.h.seq,x37.h.next,x37.h.ep,x37.h.why⟩⟩,⟨x37.hs.A,x37.hs.n,x37.hs.c⟩,⟨x37.hp.A,x37.hp.n,x37.hp.c⟩⟩:Di BE)]) U U U EG Gk U (by decide) U U H (by first |omega|(simp only [List.length_append,List.length_cons,List.length_nil,List.length_map];omega)) (fun F hA hR=>CC (hA _ (List.mem_of_getElem? (i:=5) U)) U (by decide) (Be.flat_eq.2 U)) (fun v42 w H=>?_)
  replace H:=H.h1 (A:=Y Ca v42 ((([z0]++(zs28.take k).map (lf C)).map A_)++[(⟨⟨0,DV (Bp J2 C) x37.h.part,⟨x37.h.kind,x37.h.sp,x37.h.att,x37.h.part,x37.h.seq,x37.h.next,x37.h.ep,x37.h.why⟩⟩,⟨x37.hs.A,x37.hs.n,x37.hs.c⟩,⟨x37.hp.A,x37.hp.n,x37.hp.c⟩⟩:Di BE)]))|>.p5|>.p5|>.p5|>.p5|>.p5
  refine AH ⟨_,H⟩ (Au U (BO (Bb (Z (Ae (V U U (Bc (z:=((k+1:Nat):Int)) U U U (by rw [AI (by omega) (by omega)];omega)) (Ad U (Ab ?_))))))))
  replace H:=H.p4.p4.p4.p5.p5.k5
  replace H:Hd w0 F0 w [Y EO (.slice A31 zs28.length c32) (zs28.map A_),Y Ca v42 (([z0]++(zs28.take (k+1)).map (lf C)).map A_),BD zs28,Y (Ai .i64) (.slice A22 se.length c23) se,Da mb C.J M] [blk b [vS,.int .i64 J2.parts,vM,vC,vR,.int .i64 J2.chunk,.int .i64 J2.window,.int .i64 J2.fuel,vK,.int .i64 C.w,.int .i64 C.t,.int .i64 C.o,.int .i64 ep,pv,.map (some kb),tv,.int .u32 (Cu ov)] 103,Ac (At Ag) vS J2.us,Ac Af vM J2.map,Ac Af vC J2.comb,Ac Af vR J2.red,Ac (Ai .i64) vK J2.marks,gl]:=by rw [(Hk hsj).home,hxe9] at H;rw [KS hm9,←List.append_assoc,List.map_append];exact H
  exact Bo (s:=(k,undef)) (k+1,v42) ⟨rfl,rfl,rfl,rfl,rfl,trivial⟩ ⟨H,by (try dsimp only);omega⟩ (by (try dsimp only);omega)
 refine BQ (AV (AV (BS (Z (Aa (Ae (Ah 2 U (Ab (Z (An (Ap U U ?_)))))))))))
 replace H:=H.h2 (B:=Y Ca q (([z0]++(zs28.take k).map (lf C)).map A_))
 replace H:Hd w0 F0 w [Y EO (.slice A31 zs28.length c32) (zs28.map A_),Y Ca q ((z0::zs28.map (lf C)).map A_),BD zs28,Y (Ai .i64) (.slice A22 se.length c23) se,Da mb C.J M] [blk b [vS,.int .i64 J2.parts,vM,vC,vR,.int .i64 J2.chunk,.int .i64 J2.window,.int .i64 J2.fuel,vK,.int .i64 C.w,.int .i64 C.t,.int .i64 C.o,.int .i64 ep,pv,.map (some kb),tv,.int .u32 (Cu ov)] 103,Ac (At Ag) vS J2.us,Ac Af vM J2.map,Ac Af vC J2.comb,Ac Af vR J2.red,Ac (Ai .i64) vK J2.marks,gl]:=by rw [List.take_of_length_le (l:=zs28) (by omega)] at H;exact H
 replace H:=H.p4.p2.p3.p4.k4
 rw [←eE C] at H
 subst hz0
 replace H:=H.newnil Ag|>.p1
 replace H:=Hd.twC (r:=(⟨⟨0,0,⟨kd,M.sp,M.att,0,0,0,0,wy⟩⟩,.slice A22 se.length c23,se,.slice none 0 0,[]⟩:Bl BE)) H
 replace H:Hd _ _ _ [BD ((⟨⟨0,0,⟨kd,M.sp,M.att,0,0,0,0,wy⟩⟩,.slice A22 se.length c23,se,.slice none 0 0,[]⟩:Bl BE)::zs28.map (lf C)),Y Ca q (((⟨⟨0,0,⟨kd,M.sp,M.att,0,0,0,0,wy⟩⟩,.slice A22 se.length c23,se,.slice none 0 0,[]⟩:Bl BE)::zs28.map (lf C)).map A_),Da mb C.J M] [blk b [vS,.int .i64 J2.parts,vM,vC,vR,.int .i64 J2.chunk,.int .i64 J2.window,.int .i64 J2.fuel,vK,.int .i64 C.w,.int .i64 C.t,.int .i64 C.o,.int .i64 ep,pv,.map (some kb),tv,.int .u32 (Cu ov)] 103,Ac (At Ag) vS J2.us,Ac Af vM J2.map,Ac Af vC J2.comb,Ac Af vR J2.red,Ac (Ai .i64) vK J2.marks,gl]:=H
 replace H:=H.p1
 replace H:=Hd.twI H
 replace H:=H.h1 (A:=Y BF q ((⟨⟨0,0,⟨kd,M.sp,M.att,0,0,0,0,wy⟩⟩,.slice A22 se.length c23,se,.slice none 0 0,[]⟩:Bl BE)::zs28.map (lf C)))
 exact Al ⟨((⟨⟨0,0,⟨kd,M.sp,M.att,0,0,0,0,wy⟩⟩,.slice A22 se.length c23,se,.slice none 0 0,[]⟩:Bl BE)::zs28.map (lf C)),rfl,d_ hd hf29⟩ H
theorem fP (b:Nat) (C:Cf) (W:Fu) (hC:Dq C) (hJ:C4 C.J) (hWt:∀ M∈W.ts,GS M) (hWr:∀ R∈W.rs,C0 99999 R) (hl:W.ts.length≤1000∧W.rs.length≤1000):
    Cn Tryz.prog 50 [.pointer (some ⟨b,0,none⟩)] [B6 b C W] [gl] (fun v Bs=>∃ zs:List (Bl BE),Bs=[Y BF v zs,B6 b C W]∧(zs.map B4=Eh dg C W)):=by
 intro w0 F0 H
 refine enter Tryz.func50 U U (Nat.le_of_ble_eq_true U) (Aa (Ae (Ad U (Ab (Z (Aa (Aa (Ae (Ad U (V U U (Dg U LJ U U) (Ah 2 U (sc (fL b C W) H l0 U U (Av X1 U U) ?_))))))))))))
 rintro _ _ w ⟨rfl,rfl⟩ H
 refine Ad U (Ab (Z ?_))
 replace H:Hd _ _ _ [B6 b C W] [gl]:=H
 refine Dp (b:=W.over) U (fun h1=>?_) (fun h1=>?_)
 ·refine Aa (Ae (Ad U (Ab (Z (An (AA (Ap U U ?_)))))))
  replace H:=H.newnil BF
  have e:([]:List (Bl BE)).map B4=Eh dg C W:=by unfold Eh;rw [if_pos (by simpa using h1)];rfl
  exact Al ⟨[],rfl,e⟩ H
 refine Az (Z (Aa (Ae (Ad U (Ab (Z (Aa (Aa ?_))))))))
 have hov:W.over=false:=by simpa using h1
 obtain ⟨vS2,vM3,vC4,vR5,vK6,J7,pv8,kb9,tv10,rl11,tl12,⟨hsj13,hrl14,htl15⟩,H⟩:=N7 b C W H
 replace H:Hd _ _ _ [blk b [vS2,.int .i64 J7.parts,vM3,vC4,vR5,.int .i64 J7.chunk,.int .i64 J7.window,.int .i64 J7.fuel,vK6,.int .i64 C.w,.int .i64 C.t,.int .i64 C.o,.int .i64 W.ep,pv8,.map (some kb9),tv10,.int .u32 (Cu W.over)] 103,Y (At Ag) vS2 J7.us,Y Af vM3 J7.map,Y Af vC4 J7.comb,Y Af vR5 J7.red,Y (Ai .i64) vK6 J7.marks,Y (Ai .i64) pv8 (rl11.map Bw),B8 Cr kb9 (rl11.map CB),CS C rl11,Y Dj tv10 (tl12.map BH),Dr C.J tl12] [gl]:=H
 obtain ⟨A16,c17,rfl,hc18,hm19,hp20⟩:=H.fA 6 rfl
 obtain ⟨A21,c22,rfl,hc23,hm24,hp25⟩:=H.fA 9 rfl
 replace H:=H.newnil Ca
 replace H:=Hd.tw0 (α:=BE) H
 replace H:=H.h1 (A:=BD ([]:List (Bl BE)))|>.h2 (B:=Y Ca (.slice none 0 0) (([]:List (Bl BE)).map A_))
 have hts:W.ts.length=tl12.length:=by rw [←htl15,List.length_map]
 have hrs:W.rs.length=rl11.length:=by rw [←hrl14,List.length_map]
 have htf:(tl12.map BH).length=tl12.length:=List.length_map ..
 have hrf:(rl11.map Bw).length=rl11.length:=List.length_map ..
 refine Ae (Ad U (V U U (AJ U U) (V U U (Aj U Vs U) (V U U (Am U eN U (H.cellI 2 U U)) (V U U (Bj U eX U) (Ad U (Ab (Z (AW ?_)))))))))
 replace H:=H.p1.pick 12 rfl|>.pick 12 rfl|>.pick 12 rfl|>.pick 12 rfl|>.pick 12 rfl|>.pick 12 rfl|>.pick 12 rfl|>.pick 12 rfl|>.pick 12 rfl|>.pick 12 rfl|>.pick 12 rfl
 refine B1 (σ:=Nat×Value×List (Bl BE)) (fun (k,q,ls)=>[(0,.pointer (some ⟨b,0,none⟩)),(2,.slice none 0 0),(3,q),(17,.slice A21 ((tl12.map BH).length) c22),(18,.int .i64 (((tl12.map BH).length:Nat):Int)),(19,.int .i64 ((k:Nat):Int))]) (fun (k,q,ls) w=>(Hd w0 F0 w [blk b [vS2,.int .i64 J7.parts,vM3,vC4,vR5,.int .i64 J7.chunk,.int .i64 J7.window,.int .i64 J7.fuel,vK6,.int .i64 C.w,.int .i64 C.t,.int .i64 C.o,.int .i64 W.ep,.slice A16 ((rl11.map Bw).length) c17,.map (some kb9),.slice A21 ((tl12.map BH).length) c22,.int .u32 (Cu W.over)] 103,Y (At Ag) vS2 J7.us,Y Af vM3 J7.map,Y Af vC4 J7.comb,Y Af vR5 J7.red,Y (Ai .i64) vK6 J7.marks,Y (Ai .i64) (.slice A16 ((rl11.map Bw).length) c17) (rl11.map Bw),B8 Cr kb9 (rl11.map CB),CS C rl11,Y Dj (.slice A21 ((tl12.map BH).length) c22) (tl12.map BH),Dr C.J tl12,Y Ca q (ls.map A_),BD ls] [gl])∧(k≤(tl12.map BH).length)∧(ls.map B4=(W.ts.take k).flatMap (EV dg C))∧(ls.length≤4001*k)) (fun (k,q,ls)=>(tl12.map BH).length - k) (0,.slice none 0 0,[]) ⟨rfl,rfl,rfl,rfl,rfl,rfl,trivial⟩ ⟨H,Nat.zero_le _,rfl,Nat.zero_le _⟩ ?_
 rintro ⟨k,q,ls⟩ w ⟨H,hk,hz,hll⟩
 have hlf:(ls.map A_).length=ls.length:=List.length_map ..
 refine Aa (Ae (V U U (Br U U U) (Ab (Z (Aa ?_)))))
 refine AC U (fun h26=>?_) (fun h26=>?_)
 ·refine Az (Z (Aa (AW (Aa (Ae ?_)))))
  obtain ⟨x27,hx28⟩:∃ z9,(tl12.map BH)[k]?=some z9:=⟨_,List.getElem?_eq_getElem (show k<(tl12.map BH).length by omega)⟩
  have th29:=H.thA 9 rfl hx28
  refine V U U (Bi (p:=Ba A21+k*3) U dB U U (by omega) (by omega) th29 U) (V U U (BG (cs:=[.int .i64 x27.sp,.int .i64 x27.att,.pointer (some ⟨x27.b,0,none⟩)]) U NS U U (H.elsA 9 U hx28 U)) (DD U U U f7 H (fun b30 w H=>(Bx U U U NS U U H U (Nat.le_of_ble_eq_true U) (fun u hu=>by simp [Value.cells] at hu;rcases hu with rfl|rfl|rfl<;>rfl) (fun w H=>?_)))))
  replace H:Hd _ _ _ [blk b30 [.int .i64 x27.sp,.int .i64 x27.att,.pointer (some ⟨x27.b,0,none⟩)] 151,blk b [vS2,.int .i64 J7.parts,vM3,vC4,vR5,.int .i64 J7.chunk,.int .i64 J7.window,.int .i64 J7.fuel,vK6,.int .i64 C.w,.int .i64 C.t,.int .i64 C.o,.int .i64 W.ep,.slice A16 ((rl11.map Bw).length) c17,.map (some kb9),.slice A21 ((tl12.map BH).length) c22,.int .u32 (Cu W.over)] 103,Y (At Ag) vS2 J7.us,Y Af vM3 J7.map,Y Af vC4 J7.comb,Y Af vR5 J7.red,Y (Ai .i64) vK6 J7.marks,Y (Ai .i64) (.slice A16 ((rl11.map Bw).length) c17) (rl11.map Bw),B8 Cr kb9 (rl11.map CB),CS C rl11,Y Dj (.slice A21 ((tl12.map BH).length) c22) (tl12.map BH),Dr C.J tl12,Y Ca q (ls.map A_),BD ls] [gl]:=H
  refine Ab (Z ?_)
  obtain ⟨e9,he9,hw9,hxe9⟩:=d8 htl15 hx28
  subst hxe9
  have hM9:GS e9.2:=hWt _ (List.mem_of_getElem? hw9)
  replace H:=H.h1 (A:=blk b30 [.int .i64 ((BH e9).sp),.int .i64 ((BH e9).att),.pointer (some ⟨(BH e9).b,0,none⟩)] 151)
  refine Ae (Ah 2 U (V U U (BG (cs:=[.int .i64 ((BH e9).sp),.int .i64 ((BH e9).att),.pointer (some ⟨(BH e9).b,0,none⟩)]) U NS U U (H.cellsI 0 U U)) ?_))
  replace H:=H.pick 11 rfl
  replace H:=Hd.bigO (f:=(fun e:Nat×Cy=>Da e.1 C.J e.2)) k he9 H
  replace H:=H.h2 (A:=Da e9.1 C.J e9.2) (B:=BN (fun e:Nat×Cy=>Da e.1 C.J e.2) (tl12.eraseIdx k))
  refine sc (fO b vS2 vM3 vC4 vR5 vK6 J7 C W.ep (.slice A16 ((rl11.map Bw).length) c17) kb9 (.slice A21 ((tl12.map BH).length) c22) W.over e9.1 e9.2 (by first |assumption|omega|exact C0.pairs (by assumption)) (by first |assumption|omega|exact C0.pairs (by assumption)) (by first |assumption|omega|exact C0.pairs (by assumption)) (by first |assumption|omega|exact C0.pairs (by assumption))) H (lA 2 U (fun _ h=>h) (lA 3 U B2 (lA 4 U B2 (lA 5 U B2 (lA 6 U B2 (lA 7 U B2 (lR 0 U l0))))))) U U (Av X2 U U) ?_
  rintro v33 _ w ⟨zs31,rfl,hf32⟩ H
  replace H:=H.h1 (A:=Y BF v33 zs31)|>.p2|>.p2
  replace H:=Hd.bigI (f:=(fun e:Nat×Cy=>Da e.1 C.J e.2)) (x:=e9) k (KQ he9) H
  rw [Lv he9] at H
  replace H:Hd _ _ _ [Dr C.J tl12,Y BF v33 zs31,blk b30 [.int .i64 ((BH e9).sp),.int .i64 ((BH e9).att),.pointer (some ⟨(BH e9).b,0,none⟩)] 151,blk b [vS2,.int .i64 J7.parts,vM3,vC4,vR5,.int .i64 J7.chunk,.int .i64 J7.window,.int .i64 J7.fuel,vK6,.int .i64 C.w,.int .i64 C.t,.int .i64 C.o,.int .i64 W.ep,.slice A16 ((rl11.map Bw).length) c17,.map (some kb9),.slice A21 ((tl12.map BH).length) c22,.int .u32 (Cu W.over)] 103,Y (At Ag) vS2 J7.us,Y Af vM3 J7.map,Y Af vC4 J7.comb,Y Af vR5 J7.red,Y (Ai .i64) vK6 J7.marks,Y (Ai .i64) (.slice A16 ((rl11.map Bw).length) c17) (rl11.map Bw),B8 Cr kb9 (rl11.map CB),CS C rl11,Y Dj (.slice A21 ((tl12.map BH).length) c22) (tl12.map BH),Y Ca q (ls.map A_),BD ls] [gl]:=H
  have hz3l:zs31.length≤4001:=by have h:=congrArg List.length hf32;rw [List.length_map] at h;have h9:=SW (D:=dg) (C:=C) hM9;omega
  obtain ⟨A34,c35,rfl,hc36,hm37,hp38⟩:=H.fA 1 rfl
  replace H:=H.p1
  replace H:=Hd.twO H
  replace H:=H.h2 (A:=Y Ca (.slice A34 zs31.length c35) (zs31.map A_)) (B:=BD zs31)|>.pick 14 rfl
  have hf3l:(zs31.map A_).length=zs31.length:=List.length_map ..
  refine CE (xs:=ls.map A_) (ys:=zs31.map A_) U U U EG Gk U (by decide) U U H (by omega) (fun F hA hR=>B2 F (hA _ (List.mem_of_getElem? (i:=0) U))) (fun v39 w H=>?_)
  rw [←List.map_append] at H
  replace H:Hd _ _ _ [Y Ca v39 ((ls++zs31).map A_),Y Ca (.slice A34 zs31.length c35) (zs31.map A_),BD zs31,Dr C.J tl12,blk b30 [.int .i64 ((BH e9).sp),.int .i64 ((BH e9).att),.pointer (some ⟨(BH e9).b,0,none⟩)] 151,blk b [vS2,.int .i64 J7.parts,vM3,vC4,vR5,.int .i64 J7.chunk,.int .i64 J7.window,.int .i64 J7.fuel,vK6,.int .i64 C.w,.int .i64 C.t,.int .i64 C.o,.int .i64 W.ep,.slice A16 ((rl11.map Bw).length) c17,.map (some kb9),.slice A21 ((tl12.map BH).length) c22,.int .u32 (Cu W.over)] 103,Y (At Ag) vS2 J7.us,Y Af vM3 J7.map,Y Af vC4 J7.comb,Y Af vR5 J7.red,Y (Ai .i64) vK6 J7.marks,Y (Ai .i64) (.slice A16 ((rl11.map Bw).length) c17) (rl11.map Bw),B8 Cr kb9 (rl11.map CB),CS C rl11,Y Dj (.slice A21 ((tl12.map BH).length) c22) (tl12.map BH),BD ls] [gl]:=H
  replace H:=H.p2.pick 15 rfl
  replace H:=NP H
  replace H:=H.h1 (A:=BD (ls++zs31))|>.pick 14 rfl|>.pick 14 rfl|>.pick 14 rfl|>.pick 14 rfl|>.pick 14 rfl|>.pick 14 rfl|>.pick 14 rfl|>.pick 14 rfl|>.pick 14 rfl|>.pick 14 rfl|>.pick 14 rfl|>.pick 14 rfl|>.pick 13 rfl|>.pick 13 rfl|>.keep 14
  refine Ad U (Ab (Bb (Z (Ae (V U U (Bc (z:=((k+1:Nat):Int)) U U U (by rw [AI (by omega) (by omega)];omega)) (Ad U (Ab ?_)))))))
  replace H:=H.p1.p2.pick 13 rfl|>.pick 13 rfl|>.pick 13 rfl|>.pick 13 rfl|>.pick 13 rfl|>.pick 13 rfl|>.pick 13 rfl|>.pick 13 rfl|>.pick 13 rfl|>.pick 13 rfl|>.keep 13
  exact Bo (s:=(k,undef,ls)) (k+1,v39,ls++zs31) ⟨rfl,rfl,rfl,rfl,rfl,rfl,trivial⟩ ⟨H,by (try dsimp only);omega,by rw [List.map_append,hz,hf32];exact (Vp hw9).symm,by (try dsimp only);rw [List.length_append];omega⟩ (by (try dsimp only);omega)
 refine BQ (AV (AV (BS (Z (Aa (Aa (Ae (Ad U (V U U (AJ U U) (V U U (Aj U Mf U) (V U U (Am U DY U (H.cellI 0 U U)) (V U U (Bj U EA U) (Ad U (Ab (Z (AW ?_))))))))))))))))
 have hzA:ls.map B4=W.ts.flatMap (EV dg C)++(W.rs.take 0).map (Gs dg C.J):=by rw [hz,List.take_of_length_le (by omega),List.take_zero,List.map_nil,List.append_nil]
 replace H:Hd _ _ _ [blk b [vS2,.int .i64 J7.parts,vM3,vC4,vR5,.int .i64 J7.chunk,.int .i64 J7.window,.int .i64 J7.fuel,vK6,.int .i64 C.w,.int .i64 C.t,.int .i64 C.o,.int .i64 W.ep,.slice A16 ((rl11.map Bw).length) c17,.map (some kb9),.slice A21 ((tl12.map BH).length) c22,.int .u32 (Cu W.over)] 103,Y (At Ag) vS2 J7.us,Y Af vM3 J7.map,Y Af vC4 J7.comb,Y Af vR5 J7.red,Y (Ai .i64) vK6 J7.marks,Y (Ai .i64) (.slice A16 ((rl11.map Bw).length) c17) (rl11.map Bw),B8 Cr kb9 (rl11.map CB),CS C rl11,Y Dj (.slice A21 ((tl12.map BH).length) c22) (tl12.map BH),Dr C.J tl12,Y Ca q (ls.map A_),BD ls] [gl]:=H
 refine B1 (σ:=Nat×Value×List (Bl BE)) (fun (j,q2,l2)=>[(0,.pointer (some ⟨b,0,none⟩)),(2,.slice none 0 0),(3,q2),(32,.slice A16 ((rl11.map Bw).length) c17),(33,.int .i64 (((rl11.map Bw).length:Nat):Int)),(34,.int .i64 ((j:Nat):Int))]) (fun (j,q2,l2) w=>(Hd w0 F0 w [blk b [vS2,.int .i64 J7.parts,vM3,vC4,vR5,.int .i64 J7.chunk,.int .i64 J7.window,.int .i64 J7.fuel,vK6,.int .i64 C.w,.int .i64 C.t,.int .i64 C.o,.int .i64 W.ep,.slice A16 ((rl11.map Bw).length) c17,.map (some kb9),.slice A21 ((tl12.map BH).length) c22,.int .u32 (Cu W.over)] 103,Y (At Ag) vS2 J7.us,Y Af vM3 J7.map,Y Af vC4 J7.comb,Y Af vR5 J7.red,Y (Ai .i64) vK6 J7.marks,Y (Ai .i64) (.slice A16 ((rl11.map Bw).length) c17) (rl11.map Bw),B8 Cr kb9 (rl11.map CB),CS C rl11,Y Dj (.slice A21 ((tl12.map BH).length) c22) (tl12.map BH),Dr C.J tl12,Y Ca q2 (l2.map A_),BD l2] [gl])∧(j≤(rl11.map Bw).length)∧(l2.map B4=W.ts.flatMap (EV dg C)++(W.rs.take j).map (Gs dg C.J))∧(l2.length≤4001000+j)) (fun (j,q2,l2)=>(rl11.map Bw).length - j) (0,q,ls) ⟨rfl,rfl,rfl,rfl,rfl,rfl,trivial⟩ ⟨H,Nat.zero_le _,hzA,by (try dsimp only);omega⟩ ?_
 rintro ⟨j,q2,l2⟩ w ⟨H,hj,hz2,hl2⟩
 have hlf2:(l2.map A_).length=l2.length:=List.length_map ..
 refine Aa (Ae (V U U (Br U U U) (Ab (Z (Aa ?_)))))
 refine AC U (fun h40=>?_) (fun h40=>?_)
 ·refine Az (Z (Aa (AW (Aa (Ae ?_)))))
  obtain ⟨x41,hx42⟩:∃ z9,(rl11.map Bw)[j]?=some z9:=⟨_,List.getElem?_eq_getElem (show j<(rl11.map Bw).length by omega)⟩
  have th43:=H.thA 6 rfl hx42
  refine V U U (Bi (p:=Ba A16+j*1) U DE U U (by omega) (by omega) th43 U) (V U U (Am U AE U (H.elA 6 U hx42 (q:=0) U U)) (Ad U (Ab (Z ?_))))
  replace H:Hd _ _ _ [blk b [vS2,.int .i64 J7.parts,vM3,vC4,vR5,.int .i64 J7.chunk,.int .i64 J7.window,.int .i64 J7.fuel,vK6,.int .i64 C.w,.int .i64 C.t,.int .i64 C.o,.int .i64 W.ep,.slice A16 ((rl11.map Bw).length) c17,.map (some kb9),.slice A21 ((tl12.map BH).length) c22,.int .u32 (Cu W.over)] 103,Y (At Ag) vS2 J7.us,Y Af vM3 J7.map,Y Af vC4 J7.comb,Y Af vR5 J7.red,Y (Ai .i64) vK6 J7.marks,Y (Ai .i64) (.slice A16 ((rl11.map Bw).length) c17) (rl11.map Bw),B8 Cr kb9 (rl11.map CB),CS C rl11,Y Dj (.slice A21 ((tl12.map BH).length) c22) (tl12.map BH),Dr C.J tl12,Y Ca q2 (l2.map A_),BD l2] [gl]:=H
  obtain ⟨e8,he8,hr8,rfl⟩:=ZB hrl14 hx42
  obtain ⟨_,_,_,_,hnd,_⟩:=(H.pick 7 rfl).mapKf
  refine Ae (Ah 2 U (V U U (AJ U U) (V U U (Aj U Pr U) (V U U (Am U S6 U (H.cellI 0 U U)) (Ad U (V U U (Z5 Tq U Td f8 U (Bw e8) U H 7 U ((MU _ _).trans (congrArg Value.pointer (bK hnd he8)))) ?_))))))
  replace H:=H.p8
  replace H:=Hd.bigO (f:=(fun e:Nat×AX=>Gx e.1 C e.2)) j he8 H
  replace H:=H.h2 (A:=Gx e8.1 C e8.2) (B:=BN (fun e:Nat×AX=>Gx e.1 C e.2) (rl11.eraseIdx j))
  obtain ⟨vS44,vM45,vC46,vR47,vK48,J49,sb50,hsj51,H⟩:=bH e8.1 C e8.2 H
  replace H:=H.h1 (A:=EF e8.1 vS44 vM45 vC46 vR47 vK48 J49 C.w C.t C.o sb50 e8.2)
  have hB8:C0 99999 e8.2:=hWr _ (List.mem_of_getElem? hr8)
  have hbp8:∀ i,(e8.2.g i).pairs.length≤1000:=hB8.pairs
  have h6:J49.us.length≤6:=by have:=hC.1.1;have:=hsj51.len;omega
  have hmk:J49.marks.length≤1000:=by have:=hC.1.2.2.1;rw [hsj51.marks];omega
  have hred:∀ i∈J49.red,AG i.a:=by rw [hsj51.red];exact hJ.red
  have hf64:AG J49.fuel:=by rw [hsj51.fuel];have:=hC.1.2.2.2.2.2.2.2.2.2.2;unfold AG;omega
  have hus:=hJ.us
  obtain ⟨hv52,vs53,us54,hsets55,H⟩:=bI e8.1 vS44 vM45 vC46 vR47 vK48 J49 C.w C.t C.o sb50 e8.2 H
  replace H:=H.h9 (A:=blk e8.1 (BJ vS44 vM45 vC46 vR47 vK48 J49 C.w C.t C.o e8.2.part e8.2.ep e8.2.g hv52 sb50 vs53) 197) (B:=Y (At Ag) vS44 J49.us) (C:=Y Af vM45 J49.map) (D:=Y Af vC46 J49.comb) (E:=Y Af vR47 J49.red) (F:=Y (Ai .i64) vK48 J49.marks) (G:=B3 (e8.2.g) hv52) (I:=Y (At (Ai .i64)) vs53 us54) (J:=CT 275 sb50 (e8.2.st))
  obtain ⟨A56,c57,rfl,hc58,hm59,hp60⟩:=H.fA 1 rfl
  refine sc (V3 e8.1 A56 c57 vM45 vC46 vR47 vK48 J49 C.w C.t C.o e8.2.part e8.2.ep e8.2 hv52 sb50 vs53 (by first |assumption|omega|exact C0.pairs (by assumption)) (by first |assumption|omega|exact C0.pairs (by assumption)) (by first |assumption|omega|exact C0.pairs (by assumption)) (by first |assumption|omega|exact C0.pairs (by assumption)) (by first |assumption|omega|exact C0.pairs (by assumption)) (by first |assumption|omega|exact C0.pairs (by assumption))) H (lA 0 U (fun _ h=>h) (lA 6 U (fun _ h=>h) (lA 4 U B2 (lR 0 U l0)))) U U (Av X3 U U) ?_
  rintro _ _ w ⟨u61,rfl,rfl⟩ H
  replace H:=H.h1 (A:=Y (Ai .i64) u61 ((AT dg J49 e8.2).set))|>.p9|>.p9|>.p9|>.p9|>.p9|>.p9|>.p9|>.p9|>.p9
  replace H:=So e8.1 (.slice A56 J49.us.length c57) vM45 vC46 vR47 vK48 J49 C.w C.t C.o sb50 e8.2 hv52 vs53 us54 hsets55 H
  replace H:=H.h1 (A:=EF e8.1 (.slice A56 J49.us.length c57) vM45 vC46 vR47 vK48 J49 C.w C.t C.o sb50 e8.2)
  rw [Bk.hello hsj51] at H ⊢
  replace H:Hd _ _ _ [EF e8.1 (.slice A56 J49.us.length c57) vM45 vC46 vR47 vK48 J49 C.w C.t C.o sb50 e8.2,Y (Ai .i64) u61 ((AT dg C.J e8.2).set),BN (fun e:Nat×AX=>Gx e.1 C e.2) (rl11.eraseIdx j),blk b [vS2,.int .i64 J7.parts,vM3,vC4,vR5,.int .i64 J7.chunk,.int .i64 J7.window,.int .i64 J7.fuel,vK6,.int .i64 C.w,.int .i64 C.t,.int .i64 C.o,.int .i64 W.ep,.slice A16 ((rl11.map Bw).length) c17,.map (some kb9),.slice A21 ((tl12.map BH).length) c22,.int .u32 (Cu W.over)] 103,Y (At Ag) vS2 J7.us,Y Af vM3 J7.map,Y Af vC4 J7.comb,Y Af vR5 J7.red,Y (Ai .i64) vK6 J7.marks,Y (Ai .i64) (.slice A16 ((rl11.map Bw).length) c17) (rl11.map Bw),B8 Cr kb9 (rl11.map CB),Y Dj (.slice A21 ((tl12.map BH).length) c22) (tl12.map BH),Dr C.J tl12,Y Ca q2 (l2.map A_),BD l2] [gl]:=H
  replace H:=H.p2.p1
  replace H:=Sn e8.1 C e8.2 (.slice A56 J49.us.length c57) vM45 vC46 vR47 vK48 J49 sb50 hsj51 H
  replace H:=H.h1 (A:=Gx e8.1 C e8.2)
  replace H:=Hd.bigI (f:=(fun e:Nat×AX=>Gx e.1 C e.2)) (x:=e8) j (KQ he8) H
  rw [Lv he8] at H
  replace H:Hd _ _ _ [CS C rl11,Y (Ai .i64) u61 ((AT dg C.J e8.2).set),blk b [vS2,.int .i64 J7.parts,vM3,vC4,vR5,.int .i64 J7.chunk,.int .i64 J7.window,.int .i64 J7.fuel,vK6,.int .i64 C.w,.int .i64 C.t,.int .i64 C.o,.int .i64 W.ep,.slice A16 ((rl11.map Bw).length) c17,.map (some kb9),.slice A21 ((tl12.map BH).length) c22,.int .u32 (Cu W.over)] 103,Y (At Ag) vS2 J7.us,Y Af vM3 J7.map,Y Af vC4 J7.comb,Y Af vR5 J7.red,Y (Ai .i64) vK6 J7.marks,Y (Ai .i64) (.slice A16 ((rl11.map Bw).length) c17) (rl11.map Bw),B8 Cr kb9 (rl11.map CB),Y Dj (.slice A21 ((tl12.map BH).length) c22) (tl12.map BH),Dr C.J tl12,Y Ca q2 (l2.map A_),BD l2] [gl]:=H
  obtain ⟨A62,c63,rfl,hc64,hm65,hp66⟩:=H.fA 1 rfl
  refine V U U (Dl (parts:=[(2,.tmp 45)]) (vs:=[.agg #[.int .i64 ((AT dg C.J e8.2).kind),.int .i64 ((AT dg C.J e8.2).sp),.int .i64 ((AT dg C.J e8.2).att),.int .i64 ((AT dg C.J e8.2).part),.int .i64 ((AT dg C.J e8.2).seq),.int .i64 ((AT dg C.J e8.2).next),.int .i64 ((AT dg C.J e8.2).ep),.int .i64 ((AT dg C.J e8.2).why),.slice A62 (((AT dg C.J e8.2).set).length) c63,.slice none 0 0]]) (cs:=[.int .i64 0,.int .i64 0,.int .i64 ((AT dg C.J e8.2).kind),.int .i64 ((AT dg C.J e8.2).sp),.int .i64 ((AT dg C.J e8.2).att),.int .i64 ((AT dg C.J e8.2).part),.int .i64 ((AT dg C.J e8.2).seq),.int .i64 ((AT dg C.J e8.2).next),.int .i64 ((AT dg C.J e8.2).ep),.int .i64 ((AT dg C.J e8.2).why),.slice A62 (((AT dg C.J e8.2).set).length) c63,.slice none 0 0]) U Kl U U) (Cg (parts:=[(0,.tmp 46)]) (vs:=[.agg #[.int .i64 0,.int .i64 0,.int .i64 ((AT dg C.J e8.2).kind),.int .i64 ((AT dg C.J e8.2).sp),.int .i64 ((AT dg C.J e8.2).att),.int .i64 ((AT dg C.J e8.2).part),.int .i64 ((AT dg C.J e8.2).seq),.int .i64 ((AT dg C.J e8.2).next),.int .i64 ((AT dg C.J e8.2).ep),.int .i64 ((AT dg C.J e8.2).why),.slice A62 (((AT dg C.J e8.2).set).length) c63,.slice none 0 0]]) (cs:=[.int .i64 0,.int .i64 0,.int .i64 ((AT dg C.J e8.2).kind),.int .i64 ((AT dg C.J e8.2).sp),.int .i64 ((AT dg C.J e8.2).att),.int .i64 ((AT dg C.J e8.2).part),.int .i64 ((AT dg C.J e8.2).seq),.int .i64 ((AT dg C.J e8.2).next),.int .i64 ((AT dg C.J e8.2).ep),.int .i64 ((AT dg C.J e8.2).why),.slice A62 (((AT dg C.J e8.2).set).length) c63,.slice none 0 0]) U U U EG Gk U (by decide) (by decide) U U H (fun b67 w H=>?_))
  replace H:=H.pick 13 rfl
  refine CE (xs:=l2.map A_) (ys:=[(⟨⟨0,0,⟨(AT dg C.J e8.2).kind,(AT dg C.J e8.2).sp,(AT dg C.J e8.2).att,(AT dg C.J e8.2).part,(AT dg C.J e8.2).seq,(AT dg C.J e8.2).next,(AT dg C.J e8.2).ep,(AT dg C.J e8.2).why⟩⟩,⟨A62,((AT dg C.J e8.2).set).length,c63⟩,⟨none,0,0⟩⟩:Di BE)]) U U U EG Gk U (by decide) U U H (by first |omega|(simp only [List.length_append,List.length_cons,List.length_nil,List.length_map];omega)) (fun F hA hR=>CC (hA _ (List.mem_of_getElem? (i:=0) U)) U (by decide) (Be.flat_eq.2 U)) (fun v68 w H=>(Ad U (Ab (Bb (Z ?_)))))
  replace H:Hd _ _ _ [Y Ca v68 ((l2.map A_)++[(⟨⟨0,0,⟨(AT dg C.J e8.2).kind,(AT dg C.J e8.2).sp,(AT dg C.J e8.2).att,(AT dg C.J e8.2).part,(AT dg C.J e8.2).seq,(AT dg C.J e8.2).next,(AT dg C.J e8.2).ep,(AT dg C.J e8.2).why⟩⟩,⟨A62,((AT dg C.J e8.2).set).length,c63⟩,⟨none,0,0⟩⟩:Di BE)]),blk b67 [.int .i64 0,.int .i64 0,.int .i64 ((AT dg C.J e8.2).kind),.int .i64 ((AT dg C.J e8.2).sp),.int .i64 ((AT dg C.J e8.2).att),.int .i64 ((AT dg C.J e8.2).part),.int .i64 ((AT dg C.J e8.2).seq),.int .i64 ((AT dg C.J e8.2).next),.int .i64 ((AT dg C.J e8.2).ep),.int .i64 ((AT dg C.J e8.2).why),.slice A62 (((AT dg C.J e8.2).set).length) c63,.slice none 0 0] 51,CS C rl11,Y (Ai .i64) (.slice A62 (((AT dg C.J e8.2).set).length) c63) ((AT dg C.J e8.2).set),blk b [vS2,.int .i64 J7.parts,vM3,vC4,vR5,.int .i64 J7.chunk,.int .i64 J7.window,.int .i64 J7.fuel,vK6,.int .i64 C.w,.int .i64 C.t,.int .i64 C.o,.int .i64 W.ep,.slice A16 ((rl11.map Bw).length) c17,.map (some kb9),.slice A21 ((tl12.map BH).length) c22,.int .u32 (Cu W.over)] 103,Y (At Ag) vS2 J7.us,Y Af vM3 J7.map,Y Af vC4 J7.comb,Y Af vR5 J7.red,Y (Ai .i64) vK6 J7.marks,Y (Ai .i64) (.slice A16 ((rl11.map Bw).length) c17) (rl11.map Bw),B8 Cr kb9 (rl11.map CB),Y Dj (.slice A21 ((tl12.map BH).length) c22) (tl12.map BH),Dr C.J tl12,BD l2] [gl]:=H
  refine Ae (V U U (Bc (z:=((j+1:Nat):Int)) U U U (by rw [AI (by omega) (by omega)];omega)) (Ad U (Ab ?_)))
  replace H:=H.pick 13 rfl|>.pick 13 rfl|>.p4|>.pick 13 rfl|>.pick 13 rfl|>.pick 13 rfl|>.pick 13 rfl|>.pick 13 rfl|>.pick 13 rfl|>.pick 13 rfl|>.pick 13 rfl|>.pick 11 rfl|>.pick 14 rfl|>.pick 14 rfl|>.keep 14|>.newnil Ag|>.p1
  replace H:=Hd.twN (r:=(⟨⟨0,0,⟨(AT dg C.J e8.2).kind,(AT dg C.J e8.2).sp,(AT dg C.J e8.2).att,(AT dg C.J e8.2).part,(AT dg C.J e8.2).seq,(AT dg C.J e8.2).next,(AT dg C.J e8.2).ep,(AT dg C.J e8.2).why⟩⟩,.slice A62 (((AT dg C.J e8.2).set).length) c63,(AT dg C.J e8.2).set,.slice none 0 0,[]⟩:Bl BE)) H
  replace H:=H.h1 (A:=BD (l2++[(⟨⟨0,0,⟨(AT dg C.J e8.2).kind,(AT dg C.J e8.2).sp,(AT dg C.J e8.2).att,(AT dg C.J e8.2).part,(AT dg C.J e8.2).seq,(AT dg C.J e8.2).next,(AT dg C.J e8.2).ep,(AT dg C.J e8.2).why⟩⟩,.slice A62 (((AT dg C.J e8.2).set).length) c63,(AT dg C.J e8.2).set,.slice none 0 0,[]⟩:Bl BE)]))
  replace H:Hd w0 F0 w [BD (l2++[(⟨⟨0,0,⟨(AT dg C.J e8.2).kind,(AT dg C.J e8.2).sp,(AT dg C.J e8.2).att,(AT dg C.J e8.2).part,(AT dg C.J e8.2).seq,(AT dg C.J e8.2).next,(AT dg C.J e8.2).ep,(AT dg C.J e8.2).why⟩⟩,.slice A62 (((AT dg C.J e8.2).set).length) c63,(AT dg C.J e8.2).set,.slice none 0 0,[]⟩:Bl BE)]),Y Ca v68 ((l2++[(⟨⟨0,0,⟨(AT dg C.J e8.2).kind,(AT dg C.J e8.2).sp,(AT dg C.J e8.2).att,(AT dg C.J e8.2).part,(AT dg C.J e8.2).seq,(AT dg C.J e8.2).next,(AT dg C.J e8.2).ep,(AT dg C.J e8.2).why⟩⟩,.slice A62 (((AT dg C.J e8.2).set).length) c63,(AT dg C.J e8.2).set,.slice none 0 0,[]⟩:Bl BE)]).map A_),blk b [vS2,.int .i64 J7.parts,vM3,vC4,vR5,.int .i64 J7.chunk,.int .i64 J7.window,.int .i64 J7.fuel,vK6,.int .i64 C.w,.int .i64 C.t,.int .i64 C.o,.int .i64 W.ep,.slice A16 ((rl11.map Bw).length) c17,.map (some kb9),.slice A21 ((tl12.map BH).length) c22,.int .u32 (Cu W.over)] 103,Y (At Ag) vS2 J7.us,Y Af vM3 J7.map,Y Af vC4 J7.comb,Y Af vR5 J7.red,Y (Ai .i64) vK6 J7.marks,Y (Ai .i64) (.slice A16 ((rl11.map Bw).length) c17) (rl11.map Bw),B8 Cr kb9 (rl11.map CB),CS C rl11,Y Dj (.slice A21 ((tl12.map BH).length) c22) (tl12.map BH),Dr C.J tl12] [gl]:=by rw [List.map_append];exact H
  replace H:=H.p1.pick 12 rfl|>.pick 12 rfl|>.pick 12 rfl|>.pick 12 rfl|>.pick 12 rfl|>.pick 12 rfl|>.pick 12 rfl|>.pick 12 rfl|>.pick 12 rfl|>.pick 12 rfl|>.pick 12 rfl
  have hzn:(l2++[(⟨⟨0,0,⟨(AT dg C.J e8.2).kind,(AT dg C.J e8.2).sp,(AT dg C.J e8.2).att,(AT dg C.J e8.2).part,(AT dg C.J e8.2).seq,(AT dg C.J e8.2).next,(AT dg C.J e8.2).ep,(AT dg C.J e8.2).why⟩⟩,.slice A62 (((AT dg C.J e8.2).set).length) c63,(AT dg C.J e8.2).set,.slice none 0 0,[]⟩:Bl BE)]).map B4=W.ts.flatMap (EV dg C)++(W.rs.take (j+1)).map (Gs dg C.J):=by rw [List.map_append,hz2,KS hr8,←List.append_assoc];exact congrArg (fun m:DQ=>_++[(⟨0,0,m⟩:EZ)]) (YH V4)
  exact Bo (s:=(j,undef,l2)) (j+1,v68,l2++[(⟨⟨0,0,⟨(AT dg C.J e8.2).kind,(AT dg C.J e8.2).sp,(AT dg C.J e8.2).att,(AT dg C.J e8.2).part,(AT dg C.J e8.2).seq,(AT dg C.J e8.2).next,(AT dg C.J e8.2).ep,(AT dg C.J e8.2).why⟩⟩,.slice A62 (((AT dg C.J e8.2).set).length) c63,(AT dg C.J e8.2).set,.slice none 0 0,[]⟩:Bl BE)]) ⟨rfl,rfl,rfl,rfl,rfl,rfl,trivial⟩ ⟨H,by (try dsimp only);omega,hzn,by (try dsimp only);rw [List.length_append];simp only [List.length_cons,List.length_nil];omega⟩ (by (try dsimp only);omega)
 refine BQ (AV (AV (BS (Z (Aa (Ae (Ah 2 U (Ab (Z (An (Ap U U ?_)))))))))))
 replace H:=H.pick 12 rfl|>.pick 12 rfl|>.h2 (A:=Y Ca q2 (l2.map A_)) (B:=BD l2)
 replace H:=Hd.twI H
 replace H:=H.h1 (A:=Y BF q2 l2)
 have e:l2.map B4=Eh dg C W:=by rw [hz2,List.take_of_length_le (l:=W.rs) (by omega)];unfold Eh;rw [if_neg (by rw [hov];decide)]
 replace H:=H.pick 11 rfl|>.pick 11 rfl|>.pick 11 rfl|>.pick 11 rfl|>.pick 11 rfl|>.pick 11 rfl|>.pick 11 rfl|>.pick 11 rfl|>.pick 11 rfl|>.pick 11 rfl|>.pick 11 rfl
 replace H:=LO b C W vS2 vM3 vC4 vR5 vK6 J7 (.slice A16 ((rl11.map Bw).length) c17) kb9 (.slice A21 ((tl12.map BH).length) c22) rl11 tl12 ⟨hsj13,hrl14,htl15⟩ H
 replace H:=H.h1 (A:=B6 b C W)|>.p1
 exact Al ⟨l2,rfl,e⟩ H
theorem YM (b:Nat) (C:Cf) (N:Ci) (hC:Dq C) (hJ:C4 C.J) (hup:N.up=true) (hWt:∀ M∈N.W.ts,GS M) (hWr:∀ R∈N.W.rs,C0 99999 R) (hWl:N.W.ts.length≤1000∧N.W.rs.length≤1000) (hnb:N.n≤N.b.length∧N.b.length≤1000000) (hhl:N.held.length≤10000000):
    Cn Tryz.prog 20 [.pointer (some ⟨b,0,none⟩)] [Cj b C N] [gl] (fun v Bs=>∃ z2:List (Bl BE),Bs=[Y BF v z2,Cj b C (FR N (Eh dg C N.W))]∧(z2.map B4=Ik N (Eh dg C N.W))):=by
 intro w0 F0 H
 obtain ⟨vS1,vM2,vC3,vR4,vK5,J6,d7,hv8,zs9,wb10,⟨hsj11,hzs12⟩,H⟩:=GQ b C N H
 replace H:Hd _ _ _ [blk b [vS1,.int .i64 J6.parts,vM2,vC3,vR4,.int .i64 J6.chunk,.int .i64 J6.window,.int .i64 J6.fuel,vK5,.int .i64 C.w,.int .i64 C.t,.int .i64 C.o,.int .i64 N.id,.bool N.up,.pointer (some ⟨d7,0,none⟩),hv8,.pointer none,.pointer (some ⟨wb10,0,none⟩)] 93,Y (At Ag) vS1 J6.us,Y Af vM2 J6.map,Y Af vC3 J6.comb,Y Af vR4 J6.red,Y (Ai .i64) vK5 J6.marks,Bz d7 N.b N.n,Y BF hv8 zs9,B6 wb10 (Bp J6 C) N.W] [gl]:=H
 obtain ⟨A13,c14,rfl,hc15,hm16,hp17⟩:=H.fA 7 rfl
 refine enter Tryz.func20 U U (Nat.le_of_ble_eq_true U) (Aa (Ae (Ad U (Ab (Z (Aa (AW (Aa (Ae (Ad U (sc (Rr b vS1 vM2 vC3 vR4 vK5 J6 C N.id N.up d7 (.slice A13 zs9.length c14) wb10) H (lA 0 U (fun _ h=>h) l0) U U (Av Qy U U) ?_)))))))))))
 rintro _ _ w ⟨rfl,rfl⟩ H
 refine V U U (ES U U U) (Ad U (Ab (Z ?_)))
 refine Dp (b:=!N.up) U (fun h18=>?_) (fun h18=>?_)
 ·exact absurd h18 (by rw [hup];decide)
 refine Aa (Ae (Ad U (V U U (AJ U U) (V U U (Aj U PV U) (V U U (Am U S5 U (H.cellI 0 U U)) (V U U (HO U Tc U U) (Ad U (Ab (Z (Ch U (Az (Bb (Z (Aa (Ce (.e 0 (.e 1 (.e 2 (.e 3 (.e 4 (.e 5 (.m 6 (.m 7 (.m 8 (.e 9 .z)))))))))) (fun w=>∃ Ar,Hd w0 F0 w (Ar) [gl]) mo (by kernel_rfl) (fun w H=>⟨_,H⟩) H (fun w H=>(Au U (Ao U U U (fun w ⟨Ar,H⟩=>AJ U U) (Ao U U U (fun w ⟨Ar,H⟩=>Aj U ED U) (Au U (Ao U U U (fun w ⟨Ar,H⟩=>AJ U U) (Ao U U U (fun w ⟨Ar,H⟩=>Aj U Mo U) (AO U (V U U (Am U NT U (H.cellI 0 U U)) (AH ⟨_,H⟩ (AO U ?_))))))))))))))))))))))))))
 have hO2:C4 J6:=hsj11.symm.ok hJ
 have hC2:Dq (Bp J6 C):=(Hk hsj11).symm.may hC
 replace H:=H.p8
 refine sc (fP wb10 (Bp J6 C) N.W (by first |assumption|omega) (by first |assumption|omega) (by first |assumption|omega) (by first |assumption|omega) (by first |assumption|omega)) H (lR 0 U l0) U U (Av XS U U) ?_
 rintro v21 _ w ⟨zs19,rfl,hf20⟩ H
 replace H:=H.h1 (A:=Y BF v21 zs19)
 have hzw:=(hf20).trans ((Hk hsj11).wake dg N.W)
 have hwl:=fS hWt hWl hzw
 replace H:=H.p1.p9.p9.p9.p9.p9.p9.p9.p9
 replace H:=Gv b C N vS1 vM2 vC3 vR4 vK5 J6 d7 (.slice A13 zs9.length c14) zs9 wb10 ⟨hsj11,hzs12⟩ H
 replace H:=H.h1 (A:=Cj b C N)
 refine AH ⟨_,H⟩ (AO U ?_)
 have hlN2:zs19.length≤10000000∧N.held.length≤10000000:=⟨hwl,hhl⟩
 refine sc (Rq b C N v21 zs19 (by first |assumption|omega) (by first |assumption|omega)) H l0 U U (Av QK U U) ?_
 rintro v24 _ w ⟨z22,rfl,hf23⟩ H
 replace H:=H.h2 (A:=Y BF v24 z22) (B:=Cj b C (FR N (zs19.map B4)))
 rw [hzw] at H
 replace H:Hd _ _ _ [Y BF v24 z22,Cj b C (FR N (Eh dg C N.W))] [gl]:=H
 have hsn:=hf23
 rw [hzw] at hsn
 exact AH ⟨_,H⟩ (Au U (BO (Z (An (Ap U U (Al ⟨z22,rfl,hsn⟩ H))))))
theorem cU (va:Value) (a:List (Bl BE)) (vb:Value) (b:List (Bl BE)):
    Cn Tryz.prog 41 [va,vb] [] [Ac BF va a,Ac BF vb b] (fun v Bs=>v=.bool (decide (a.map B4=b.map B4))∧Bs=[]):=by
 intro w0 F0 H
 obtain ⟨A1,c2,rfl,hc3,hm4,hp5⟩:=H.fR 0 rfl
 obtain ⟨A6,c7,rfl,hc8,hm9,hp10⟩:=H.fR 1 rfl
 refine enter Tryz.func41 U U (Nat.le_of_ble_eq_true U) (Aa (Ae (Ad U (Ab (Z ?_)))))
 replace H:Hd _ _ _ [] [Ac BF (.slice A1 a.length c2) a,Ac BF (.slice A6 b.length c7) b]:=H
 refine Aa (Aa (Ae (Ad U (V U U (Bj U Jc U) (Ad U (V U U (Bj U Jc U) (V U U (Cx U U U) (Ab (Z ?_)))))))))
 refine AC U (fun h11=>?_) (fun h11=>?_)
 ·refine Aa (Ae (Ad U (Ab (Z (An (AA (Ap U U ?_)))))))
  have e:¬ a.map B4=b.map B4:=fun e=>by have:=congrArg List.length e;rw [List.length_map,List.length_map] at this;omega
  exact Al ⟨by rw [decide_eq_false e]<;>rfl,rfl⟩ H
 refine Az (Z (Aa (Aa (Ae (Ad U (Ab (Z (AW ?_))))))))
 have hle:a.length=b.length:=by omega
 refine B1 (σ:=Nat) (fun k=>[(0,.slice A1 a.length c2),(1,.slice A6 b.length c7),(5,.int .i64 ((k:Nat):Int))]) (fun k w=>(Hd w0 F0 w [] [Ac BF (.slice A1 a.length c2) a,Ac BF (.slice A6 b.length c7) b])∧(k≤a.length)∧(a.length=b.length)∧((a.take k).map B4=(b.take k).map B4)) (fun k=>a.length - k) 0 ⟨rfl,rfl,rfl,trivial⟩ ⟨H,by omega,hle,rfl⟩ ?_
 rintro k w ⟨H,hk,hle,ht⟩
 refine Aa (Aa (Ae (Ah 2 U (V U U (Bj U Jc U) (V U U (Br U U U) (Ab (Z ?_)))))))
 refine AC U (fun h12=>?_) (fun h12=>?_)
 ·refine Az (Z (Aa (AW (Aa (Ce (.e 0 (.e 1 (.e 2 (.e 3 (.e 4 (.e 5 (.e 6 (.e 7 (.e 8 (.e 9 (.e 10 (.e 11 (.e 12 (.e 13 (.e 14 (.e 15 (.e 16 (.e 17 (.e 18 (.e 19 (.e 20 (.e 21 (.e 22 (.e 23 (.e 24 (.e 25 (.e 26 (.e 27 (.e 28 (.e 29 (.e 30 (.e 31 (.e 32 (.e 33 (.e 34 (.m 35 (.e 36 (.e 37 .z)))))))))))))))))))))))))))))))))))))) (fun w=>∃ Ar,Hd w0 F0 w (Ar) [Ac BF (.slice A1 a.length c2) a,Ac BF (.slice A6 b.length c7) b]) mo (by kernel_rfl) (fun w H=>⟨_,H⟩) H (fun w H=>(Au U (Au U ?_))))))))
  obtain ⟨⟨⟨a15,a16,⟨a17,a18,a19,a20,a21,a22,a23,a24⟩⟩,sv25,se26,pv27,pr28⟩,hx14⟩:∃ z9,a[k]?=some z9:=⟨_,List.getElem?_eq_getElem (show k<a.length by omega)⟩
  obtain ⟨A29,c30,A31,c32,rfl,rfl,m33,m34,m35,m36⟩:=H.nestRt 0 rfl hx14
  have th37:=H.thRt 0 rfl hx14
  refine Ao U U U (fun w ⟨Ar,H⟩=>Bi (p:=Ba A1+k*12) U EG U U (by omega) (by omega) th37 U) (Ao U U U (fun w ⟨Ar,H⟩=>Aj U Mm U) (Ao U U U (fun w ⟨Ar,H⟩=>Am U AE U (H.elRt 0 U hx14 (q:=0) U U)) (Au U (Au U ?_))))
  obtain ⟨⟨⟨a40,a41,⟨a42,a43,a44,a45,a46,a47,a48,a49⟩⟩,sv50,se51,pv52,pr53⟩,hx39⟩:∃ z9,b[k]?=some z9:=⟨_,List.getElem?_eq_getElem (show k<b.length by omega)⟩
  obtain ⟨A54,c55,A56,c57,rfl,rfl,m58,m59,m60,m61⟩:=H.nestRt 1 rfl hx39
  have th62:=H.thRt 1 rfl hx39
  refine Ao U U U (fun w ⟨Ar,H⟩=>Bi (p:=Ba A6+k*12) U EG U U (by omega) (by omega) th62 U) (Ao U U U (fun w ⟨Ar,H⟩=>Aj U Mm U) (Ao U U U (fun w ⟨Ar,H⟩=>Am U AE U (H.elRt 1 U hx39 (q:=0) U U)) (Ao U U U (fun w ⟨Ar,H⟩=>Cx U U U) (Au U ?_))))
  refine Kr (d:=28) U (fun h63=>?_) (fun h63=>?_)
  ·refine Au U (Au U (Au U (Au U (Au U (Au U (Au U (Au U (Au U (Au U (Au U (Au U (Au U (Au U (Au U (Au U (Au U (Au U (Au U (Au U (Au U (Au U (Au U (Jn U ⟨_,H⟩ U U (Au U (Au U (BO (Z (CN U (Aa (Ae (Ad U (Ab (Z (An (AZ (AA (AA (AZ (AA (Ap U U ?_))))))))))))))))))))))))))))))))))))))))
   have e:¬ a.map B4=b.map B4:=fun e=>by obtain ⟨g1,g2,g3⟩:=JF.1 (MX hx14 hx39 e);first |exact absurd g1 h63|exact absurd g2 h63|exact absurd g3 h63
   replace H:Hd _ _ _ [] [Ac BF (.slice A1 a.length c2) a,Ac BF (.slice A6 b.length c7) b]:=H
   exact Al ⟨by rw [decide_eq_false e]<;>rfl,rfl⟩ H
  refine Au U (Au U ?_)
  have th64:=H.thRt 0 rfl hx14
  refine Ao U U U (fun w ⟨Ar,H⟩=>Bi (p:=Ba A1+k*12) U EG U U (by omega) (by omega) th64 U) (Ao U U U (fun w ⟨Ar,H⟩=>Aj U PT U) (Ao U U U (fun w ⟨Ar,H⟩=>Am U AE U (H.elRt 0 U hx14 (q:=1) U U)) (Au U (Au U ?_))))
  have th65:=H.thRt 1 rfl hx39
  refine Ao U U U (fun w ⟨Ar,H⟩=>Bi (p:=Ba A6+k*12) U EG U U (by omega) (by omega) th65 U) (Ao U U U (fun w ⟨Ar,H⟩=>Aj U PT U) (Ao U U U (fun w ⟨Ar,H⟩=>Am U AE U (H.elRt 1 U hx39 (q:=1) U U)) (Ao U U U (fun w ⟨Ar,H⟩=>Cx U U U) (Au U (Au U ?_)))))
  refine Kr (d:=41) U (fun h66=>?_) (fun h66=>?_)
  ·refine Au U (Au U (Au U (Au U (Au U (Au U (Au U (Au U (Au U (Au U (Jn U ⟨_,H⟩ U U (Au U (Au U (BO (Z (CN U (Aa (Ae (Ad U (Ab (Z (An (AZ (AA (AA (AZ (AA (Ap U U ?_)))))))))))))))))))))))))))
   have e:¬ a.map B4=b.map B4:=fun e=>by obtain ⟨g1,g2,g3⟩:=JF.1 (MX hx14 hx39 e);first |exact absurd g1 h66|exact absurd g2 h66|exact absurd g3 h66
   replace H:Hd _ _ _ [] [Ac BF (.slice A1 a.length c2) a,Ac BF (.slice A6 b.length c7) b]:=H
   exact Al ⟨by rw [decide_eq_false e]<;>rfl,rfl⟩ H
  refine Au U (Au U ?_)
  have th67:=H.thRt 0 rfl hx14
  refine Ao U U U (fun w ⟨Ar,H⟩=>Bi (p:=Ba A1+k*12) U EG U U (by omega) (by omega) th67 U) (Ao U U U (fun w ⟨Ar,H⟩=>Aj U PU U) (Ao U U U (fun w ⟨Ar,H⟩=>BG (cs:=[.int .i64 a17,.int .i64 a18,.int .i64 a19,.int .i64 a20,.int .i64 a21,.int .i64 a22,.int .i64 a23,.int .i64 a24,.slice A29 se26.length c30,.slice A31 pr28.length c32]) U FU U U (H.elsRt 0 U hx14 2 10 U U)) (Au U (Au U ?_))))
  have th68:=H.thRt 1 rfl hx39
  refine Ao U U U (fun w ⟨Ar,H⟩=>Bi (p:=Ba A6+k*12) U EG U U (by omega) (by omega) th68 U) (Ao U U U (fun w ⟨Ar,H⟩=>Aj U PU U) (Ao U U U (fun w ⟨Ar,H⟩=>BG (cs:=[.int .i64 a42,.int .i64 a43,.int .i64 a44,.int .i64 a45,.int .i64 a46,.int .i64 a47,.int .i64 a48,.int .i64 a49,.slice A54 se51.length c55,.slice A56 pr53.length c57]) U FU U U (H.elsRt 1 U hx39 2 10 U U)) (AO U (sc (cV (⟨a17,a18,a19,a20,a21,a22,a23,a24⟩:CV) (.slice A29 se26.length c30) se26 (.slice A31 pr28.length c32) pr28 (⟨a42,a43,a44,a45,a46,a47,a48,a49⟩:CV) (.slice A54 se51.length c55) se51 (.slice A56 pr53.length c57) pr53) H (lX (fun F hA hR=>NR (hR _ (List.mem_of_getElem? (i:=0) U)) hx14) (lX (fun F hA hR=>NQ (hR _ (List.mem_of_getElem? (i:=0) U)) hx14) (lX (fun F hA hR=>NR (hR _ (List.mem_of_getElem? (i:=1) U)) hx39) (lX (fun F hA hR=>NQ (hR _ (List.mem_of_getElem? (i:=1) U)) hx39) l0)))) U U (Av XV U U) ?_))))
  rintro _ _ w ⟨rfl,rfl⟩ H
  replace H:Hd _ _ _ [] [Ac BF (.slice A1 a.length c2) a,Ac BF (.slice A6 b.length c7) b]:=H
  refine AH ⟨_,H⟩ (Ao U U U (fun w ⟨Ar,H⟩=>D4 U U) (Au U (BO (Z ?_))))
  refine AC U (fun h69=>?_) (fun h69=>?_)
  ·refine Aa (Ae (Ad U (Ab (Z (An (AZ (AA (AA (AZ (AA (Ap U U ?_)))))))))))
   have e:¬ a.map B4=b.map B4:=fun e=>by obtain ⟨g1,g2,g3⟩:=JF.1 (MX hx14 hx39 e);first |exact absurd g1 h69|exact absurd g2 h69|exact absurd g3 h69
   exact Al ⟨by rw [decide_eq_false e]<;>rfl,rfl⟩ H
  refine Az (Bb (Z (Ae (Ad U (V U U (Bc (z:=((k+1:Nat):Int)) U U U (by rw [AI (by omega) (by omega)];omega)) (Ad U (Ab ?_)))))))
  have e3:B4 (⟨⟨a15,a16,⟨a17,a18,a19,a20,a21,a22,a23,a24⟩⟩,.slice A29 se26.length c30,se26,.slice A31 pr28.length c32,pr28⟩:Bl BE)=B4 (⟨⟨a40,a41,⟨a42,a43,a44,a45,a46,a47,a48,a49⟩⟩,.slice A54 se51.length c55,se51,.slice A56 pr53.length c57,pr53⟩:Bl BE):=JF.2 ⟨by first |assumption|exact Classical.not_not.1 (by assumption),by first |assumption|exact Classical.not_not.1 (by assumption),by first |assumption|exact Classical.not_not.1 (by assumption)⟩
  exact Bo (s:=k) (k+1) ⟨rfl,rfl,rfl,trivial⟩ ⟨H,by (try dsimp only);omega,hle,Yr hx14 hx39 e3 ht⟩ (by (try dsimp only);omega)
 refine BQ (AV (AV (BS (Z (Aa (Ae (Ad U (Ab (Z (An (Ap U U ?_)))))))))))
 have e:a.map B4=b.map B4:=by rw [←GX (xs:=a) (k:=k) (by omega),←GX (xs:=b) (k:=k) (by omega)];exact ht
 exact Al ⟨by rw [decide_eq_true e]<;>rfl,rfl⟩ H
theorem LU  :
    Cn Tryz.prog 10 [] [] [gl] (fun v Bs=>v=.bool true∧Bs=[]):=by
 intro w0 F0 H
 have hC:=NK
 have hJ:=dD
 have hid1:(1:Int)≤1∧(1:Int)≤Cm.w:=⟨by decide,show (1:Int)≤1 by decide⟩
 refine enter Tryz.func10 U U (Nat.le_of_ble_eq_true U) (Aa (Ae (Ad U (Ab (Z (Aa (Ae (sc (dE) H l0 U U (Av XN U U) ?_))))))))
 rintro _ _ w ⟨vS1,vP2,rfl,rfl⟩ H
 replace H:Hd _ _ _ [Y (At Ag) vS1 [(Ge,[])],Y Af vP2 EN] [gl]:=H
 refine sc (Ro vS1 vP2 (.slice none 0 0) vP2 (.slice none 0 0) Cm 1 (by first |assumption|omega|decide) (by first |assumption|omega|decide) (by first |assumption|omega|decide)) H (lA 0 U B2 (lA 1 U B2 (lX (fun F _ _=>I4 _ _ F trivial (by decide)) (lA 1 U B2 (lX (fun F _ _=>I4 _ _ F trivial (by decide)) l0))))) U U (Av Qk U U) ?_
 rintro _ _ w ⟨b3,rfl,rfl⟩ H
 replace H:=H.h1 (A:=Cj b3 Cm (EP Cm 1))
 obtain ⟨N0,hN0⟩:∃ z:Ci,z=EP Cm 1:=⟨_,rfl⟩
 rw [←hN0] at H
 replace H:Hd _ _ _ [Cj b3 Cm N0,Y (At Ag) vS1 [(Ge,[])],Y Af vP2 EN] [gl]:=H
 have hl0:Es 0 N0:=by rw [hN0];exact MQ _ _
 have hup0:=hl0.up
 have hW0:N0.W=⟨1,[Db 1 0 1 []],[],false⟩:=by rw [hN0];exact SE
 have hWt0:∀ M∈N0.W.ts,GS M:=by rw [hW0];exact fun M h=>by cases h
 have hWr0:∀ R∈N0.W.rs,C0 99999 R:=by rw [hW0];exact fun R h=>by rw [List.mem_singleton.1 h];exact (C0.new (rs:=[]) fun r hr=>by cases hr).mono (by decide)
 have hWl0:N0.W.ts.length≤1000∧N0.W.rs.length≤1000:=by rw [hW0];exact ⟨Nat.zero_le _,by decide⟩
 have hok0:=hl0.ok (Nat.zero_le _)
 have hnb0:N0.n≤N0.b.length∧N0.b.length≤1000000:=⟨hok0.1.1,by omega⟩
 have hhl0:N0.held.length≤10000000:=by omega
 obtain ⟨hs1,hs2⟩:=cG dg
 rw [←hN0] at hs1 hs2
 refine Ah 5 U (Ab (Z (Aa (Aa (Ae (Ad U (V U U (Cx U U U) (Ah 2 U (V U U (Dg U Hp U U) (Ad U (Ab (Z (Ch U (Az (Z (Aa (Ae (Ad U (sc (YM b3 Cm N0 (by first |assumption|omega|decide) (by first |assumption|omega|decide) (by first |assumption|omega|decide) (by first |assumption|omega|decide) (by first |assumption|omega|decide) (by first |assumption|omega|decide) (by first |assumption|omega|decide) (by first |assumption|omega|decide)) H (lR 0 U l0) U U (Av W4 U U) ?_)))))))))))))))))))
 rintro v6 _ w ⟨z4,rfl,hf5⟩ H
 replace H:=H.h2 (A:=Y BF v6 z4) (B:=Cj b3 Cm (FR N0 (Eh dg Cm N0.W)))
 obtain ⟨A7,c8,rfl,hc9,hm10,hp11⟩:=H.fA 0 rfl
 have hz0:=(hf5).trans hs2
 have hz0l:=congrArg List.length hz0
 rw [List.length_map] at hz0l
 have hz0m:z4.length=0:=hz0l
 obtain ⟨N1,hN1⟩:∃ z:Ci,z=FR N0 (Eh dg Cm N0.W):=⟨_,rfl⟩
 rw [←hN1] at H
 replace H:Hd _ _ _ [Y BF (.slice A7 z4.length c8) z4,Cj b3 Cm N1,Y (At Ag) vS1 [(Ge,[])],Y Af vP2 EN] [gl]:=H
 have hN1e:N1={ N0 with held:=[⟨1,0,⟨6,0,0,0,0,0,1,0,[],[]⟩⟩] }:=by rw [hN1];exact hs1
 have hh1:N1.held=[⟨1,0,⟨6,0,0,0,0,0,1,0,[],[]⟩⟩]:=by rw [hN1e]
 have hh1l:N1.held.length=1:=by rw [hh1];rfl
 have hup1:N1.up=true:=by rw [hN1e];exact hup0
 have hnb1:N1.n≤N1.b.length∧N1.b.length≤1000000:=by rw [hN1e];exact hnb0
 have hhl1:N1.held.length≤10000000:=by omega
 have hb1:N1.b.length=64:=by rw [hN1e];exact hl0.len
 refine Ad U (Ab (Z (Aa (Ae (Ad U ?_)))))
 replace H:=H.p1
 refine sc (YK b3 Cm N1) H l0 U U (Av Xb U U) ?_
 rintro _ _ w ⟨rfl,rfl⟩ H
 refine Ad U (Ab (Z (Aa (Ae (Ad U (sc (Rn b3 Cm N1 (by first |assumption|omega|decide) (by first |assumption|omega|decide) (by first |assumption|omega|decide)) H l0 U U (Av Qq U U) ?_))))))
 rintro v14 _ w ⟨z12,rfl,hf13⟩ H
 replace H:=H.h2 (A:=Y BF v14 z12) (B:=Cj b3 Cm (F7 N1))
 obtain ⟨A15,c16,rfl,hc17,hm18,hp19⟩:=H.fA 0 rfl
 have hz1:=(hf13).trans hh1
 obtain ⟨N2,hN2⟩:∃ z:Ci,z=F7 N1:=⟨_,rfl⟩
 rw [←hN2] at H
 replace H:Hd _ _ _ [Y BF (.slice A15 z12.length c16) z12,Cj b3 Cm N2,Y BF (.slice A7 z4.length c8) z4,Y (At Ag) vS1 [(Ge,[])],Y Af vP2 EN] [gl]:=H
 have hn2:N2.n=64:=by rw [hN2];exact hb1
 refine Ad U (Ab (Z (Aa (Ae (Ad U (V U U (Bj U Jc U) (V U U (Bh U U U) (Ad U ?_))))))))
 refine AQ (d:=26) U (fun h20=>?_) (fun h20=>?_)
 ·refine Ad U (V U U (Bh U U U) (Ah 2 U ?_))
  refine AQ (d:=30) U (fun h21=>?_) (fun h21=>?_)
  ·refine Ad U (V U U (Dl (parts:=[(0,.const (.int .i64 6)),(6,.const (.int .i64 1))]) (vs:=[.int .i64 6,.int .i64 1]) (cs:=[.int .i64 6,.int .i64 0,.int .i64 0,.int .i64 0,.int .i64 0,.int .i64 0,.int .i64 1,.int .i64 0,.slice none 0 0,.slice none 0 0]) U H0 U U) (V U U (Dl (parts:=[(0,.const (.int .i64 1)),(2,.tmp 32)]) (vs:=[.int .i64 1,.agg #[.int .i64 6,.int .i64 0,.int .i64 0,.int .i64 0,.int .i64 0,.int .i64 0,.int .i64 1,.int .i64 0,.slice none 0 0,.slice none 0 0]]) (cs:=[.int .i64 1,.int .i64 0,.int .i64 6,.int .i64 0,.int .i64 0,.int .i64 0,.int .i64 0,.int .i64 0,.int .i64 1,.int .i64 0,.slice none 0 0,.slice none 0 0]) U Kl U U) (Cg (parts:=[(0,.tmp 33)]) (vs:=[.agg #[.int .i64 1,.int .i64 0,.int .i64 6,.int .i64 0,.int .i64 0,.int .i64 0,.int .i64 0,.int .i64 0,.int .i64 1,.int .i64 0,.slice none 0 0,.slice none 0 0]]) (cs:=[.int .i64 1,.int .i64 0,.int .i64 6,.int .i64 0,.int .i64 0,.int .i64 0,.int .i64 0,.int .i64 0,.int .i64 1,.int .i64 0,.slice none 0 0,.slice none 0 0]) U U U EG Gk U (by decide) (by decide) U U H (fun b22 w H=>?_))))
   replace H:=H.h1 (A:=blk b22 [.int .i64 1,.int .i64 0,.int .i64 6,.int .i64 0,.int .i64 0,.int .i64 0,.int .i64 0,.int .i64 0,.int .i64 1,.int .i64 0,.slice none 0 0,.slice none 0 0] 51)
   replace H:Hd w0 F0 w [Y Ca (.slice (some ⟨b22,0,none⟩) 1 1) [(⟨⟨1,0,⟨6,0,0,0,0,0,1,0⟩⟩,⟨none,0,0⟩,⟨none,0,0⟩⟩:Di BE)],Y BF (.slice A15 z12.length c16) z12,Cj b3 Cm N2,Y BF (.slice A7 z4.length c8) z4,Y (At Ag) vS1 [(Ge,[])],Y Af vP2 EN] [gl]:=H.turn (fun F h=>IA h rfl (by decide) rfl)
   refine sc (cU (.slice A15 z12.length c16) z12 (.slice (some ⟨b22,0,none⟩) 1 1) [(⟨⟨1,0,⟨6,0,0,0,0,0,1,0⟩⟩,.slice none 0 0,[],.slice none 0 0,[]⟩:Bl BE)]) H (lA 1 U (fun F h=>B2 F h) (lX (fun F hA hR=>eH (us:=[(⟨⟨1,0,⟨6,0,0,0,0,0,1,0⟩⟩,.slice none 0 0,[],.slice none 0 0,[]⟩:Bl BE)]) (B2 F (hA _ (List.mem_of_getElem? (i:=0) U))) (fun r hr=>by rw [List.mem_singleton.1 hr];exact ⟨I4 _ _ _ trivial (by decide),I4 _ _ _ trivial (by decide)⟩)) l0)) U U (Av XO U U) ?_
   rintro _ _ w ⟨rfl,rfl⟩ H
   refine Ah 2 U ?_
   refine AQ (d:=37) U (fun h23=>?_) (fun h23=>?_)
   ·refine Ad U ?_
    replace H:=H.p2
    replace H:Hd _ _ _ [Cj b3 Cm N2,Y Ca (.slice (some ⟨b22,0,none⟩) 1 1) [(⟨⟨1,0,⟨6,0,0,0,0,0,1,0⟩⟩,⟨none,0,0⟩,⟨none,0,0⟩⟩:Di BE)],Y BF (.slice A15 z12.length c16) z12,Y BF (.slice A7 z4.length c8) z4,Y (At Ag) vS1 [(Ge,[])],Y Af vP2 EN] [gl]:=H
    obtain ⟨vS24,vM25,vC26,vR27,vK28,J29,d30,hv31,zs32,wb33,⟨hsj34,hzs35⟩,H⟩:=GQ b3 Cm N2 H
    replace H:=H.h9 (A:=blk b3 [vS24,.int .i64 J29.parts,vM25,vC26,vR27,.int .i64 J29.chunk,.int .i64 J29.window,.int .i64 J29.fuel,vK28,.int .i64 Cm.w,.int .i64 Cm.t,.int .i64 Cm.o,.int .i64 N2.id,.bool N2.up,.pointer (some ⟨d30,0,none⟩),hv31,.pointer none,.pointer (some ⟨wb33,0,none⟩)] 93) (B:=Y (At Ag) vS24 J29.us) (C:=Y Af vM25 J29.map) (D:=Y Af vC26 J29.comb) (E:=Y Af vR27 J29.red) (F:=Y (Ai .i64) vK28 J29.marks) (G:=Bz d30 N2.b N2.n) (I:=Y BF hv31 zs32) (J:=B6 wb33 (Bp J29 Cm) N2.W)
    obtain ⟨A36,c37,rfl,hc38,hm39,hp40⟩:=H.fA 7 rfl
    refine sc (YJ b3 vS24 vM25 vC26 vR27 vK28 J29 Cm N2.id N2.up d30 (.slice A36 zs32.length c37) wb33) H (lA 0 U (fun _ h=>h) l0) U U (Av W7 U U) ?_
    rintro _ _ w ⟨rfl,rfl⟩ H
    replace H:=H.p6
    refine sc (UR d30 N2.b N2.n) H l0 U U (Av Xy U U) ?_
    rintro _ _ w ⟨rfl,rfl⟩ H
    refine V U U (Bh U U U) (Ah 2 U ?_)
    refine AQ (d:=43) U (fun h41=>?_) (fun h41=>?_)
    ·refine Ad U ?_
     replace H:Hd _ _ _ [Bz d30 N2.b N2.n,blk b3 [vS24,.int .i64 J29.parts,vM25,vC26,vR27,.int .i64 J29.chunk,.int .i64 J29.window,.int .i64 J29.fuel,vK28,.int .i64 Cm.w,.int .i64 Cm.t,.int .i64 Cm.o,.int .i64 N2.id,.bool N2.up,.pointer (some ⟨d30,0,none⟩),.slice A36 zs32.length c37,.pointer none,.pointer (some ⟨wb33,0,none⟩)] 93,Y (At Ag) vS24 J29.us,Y Af vM25 J29.map,Y Af vC26 J29.comb,Y Af vR27 J29.red,Y (Ai .i64) vK28 J29.marks,Y BF (.slice A36 zs32.length c37) zs32,B6 wb33 (Bp J29 Cm) N2.W,Y Ca (.slice (some ⟨b22,0,none⟩) 1 1) [(⟨⟨1,0,⟨6,0,0,0,0,0,1,0⟩⟩,⟨none,0,0⟩,⟨none,0,0⟩⟩:Di BE)],Y BF (.slice A15 z12.length c16) z12,Y BF (.slice A7 z4.length c8) z4,Y (At Ag) vS1 [(Ge,[])],Y Af vP2 EN] [gl]:=H
     refine sc (YL b3 vS24 vM25 vC26 vR27 vK28 J29 Cm N2.id N2.up d30 (.slice A36 zs32.length c37) wb33) H (lA 1 U (fun _ h=>h) l0) U U (Av XJ U U) ?_
     rintro _ _ w ⟨rfl,rfl⟩ H
     refine V U U (Dg U Tc U U) (Ah 2 U (Ab (Z (An (Ap U U ?_)))))
     replace H:=H.nil
     exact Al ⟨rfl,rfl⟩ H
    exact (h41 (by omega)).elim
   exact (h23 hz1).elim
  exact (h21 (by omega)).elim
 exact (h20 (by omega)).elim
theorem YY (vS vM vC vR vK:Value) (C:Cf) (ss:List (List Aq)) (gm:∀ i∈C.J.map,AG i.a) (gc:∀ i∈C.J.comb,AG i.a) (gr:∀ i∈C.J.red,AG i.a) (k0:Int) (wk0:AG k0) (k1:Int) (wk1:AG k1) (k2:Int) (wk2:AG k2):
    Cn Tryz.prog 3 [.agg #[vS,.int .i64 C.J.parts,vM,vC,vR,.int .i64 C.J.chunk,.int .i64 C.J.window,.int .i64 C.J.fuel,vK,.int .i64 C.w,.int .i64 C.t,.int .i64 C.o],.int .i64 k0,.int .i64 k1,.int .i64 k2] [] [Ac (At Ag) vS C.J.us,Ac (BU Ag) vS ss,Ac Af vM C.J.map,Ac Af vC C.J.comb,Ac Af vR C.J.red,Ac (Ai .i64) vK C.J.marks,gl] (fun v Bs=>v=.bool true∧Bs=[]):=by
 intro w0 F0 H
 obtain ⟨A1,c2,rfl,hc3,hm4,hp5⟩:=H.fR 0 rfl
 obtain ⟨A6,c7,rfl,hc8,hm9,hp10⟩:=H.fR 2 rfl
 obtain ⟨A11,c12,rfl,hc13,hm14,hp15⟩:=H.fR 3 rfl
 obtain ⟨A16,c17,rfl,hc18,hm19,hp20⟩:=H.fR 4 rfl
 obtain ⟨A21,c22,rfl,hc23,hm24,hp25⟩:=H.fR 5 rfl
 refine enter Tryz.func3 U U (Nat.le_of_ble_eq_true U) (Aa (Ae (CZ U U U U H (fun b26 w H=>(Ad U (Ab (Z ?_)))))))
 replace H:Hd _ _ _ [blk b26 [.slice A1 C.J.us.length c2,.int .i64 C.J.parts,.slice A6 C.J.map.length c7,.slice A11 C.J.comb.length c12,.slice A16 C.J.red.length c17,.int .i64 C.J.chunk,.int .i64 C.J.window,.int .i64 C.J.fuel,.slice A21 C.J.marks.length c22,.int .i64 C.w,.int .i64 C.t,.int .i64 C.o] 28] [Ac (At Ag) (.slice A1 C.J.us.length c2) C.J.us,Ac (BU Ag) (.slice A1 C.J.us.length c2) ss,Ac Af (.slice A6 C.J.map.length c7) C.J.map,Ac Af (.slice A11 C.J.comb.length c12) C.J.comb,Ac Af (.slice A16 C.J.red.length c17) C.J.red,Ac (Ai .i64) (.slice A21 C.J.marks.length c22) C.J.marks,gl]:=H
 refine Aa (Aa (Ae (V U U (Aj U DL U) (V U U (BG (cs:=[.slice A1 C.J.us.length c2,.int .i64 C.J.parts,.slice A6 C.J.map.length c7,.slice A11 C.J.comb.length c12,.slice A16 C.J.red.length c17,.int .i64 C.J.chunk,.int .i64 C.J.window,.int .i64 C.J.fuel,.slice A21 C.J.marks.length c22]) U S4 U U (H.cellsI 0 U U)) (sc (VT (.slice A1 C.J.us.length c2) (.slice A6 C.J.map.length c7) (.slice A11 C.J.comb.length c12) (.slice A16 C.J.red.length c17) (.slice A21 C.J.marks.length c22) C.J) H (lR 0 U (lR 2 U (lR 3 U (lR 4 U (lR 5 U l0))))) U U (Av X0 U U) ?_)))))
 rintro _ _ w ⟨rfl,rfl⟩ H
 refine Ad U ?_
 refine FC (d:=16) (b:=HD C.J) U (fun h27=>?_) (fun h27=>?_)
 ·refine Ah 4 U (Ab (Z ?_))
  replace H:Hd _ _ _ [blk b26 [.slice A1 C.J.us.length c2,.int .i64 C.J.parts,.slice A6 C.J.map.length c7,.slice A11 C.J.comb.length c12,.slice A16 C.J.red.length c17,.int .i64 C.J.chunk,.int .i64 C.J.window,.int .i64 C.J.fuel,.slice A21 C.J.marks.length c22,.int .i64 C.w,.int .i64 C.t,.int .i64 C.o] 28] [Ac (At Ag) (.slice A1 C.J.us.length c2) C.J.us,Ac (BU Ag) (.slice A1 C.J.us.length c2) ss,Ac Af (.slice A6 C.J.map.length c7) C.J.map,Ac Af (.slice A11 C.J.comb.length c12) C.J.comb,Ac Af (.slice A16 C.J.red.length c17) C.J.red,Ac (Ai .i64) (.slice A21 C.J.marks.length c22) C.J.marks,gl]:=H
  refine CN U (Aa (Ae (sc (LU) H (lR 6 U l0) U U (Av MA U U) ?_)))
  rintro _ _ w ⟨rfl,rfl⟩ H
  refine Ad U (Ab (Z (An (AA (Ap U U ?_)))))
  replace H:=H.nil
  exact Al ⟨rfl,rfl⟩ H
 refine V U U (BG (cs:=[.slice A1 C.J.us.length c2,.int .i64 C.J.parts,.slice A6 C.J.map.length c7,.slice A11 C.J.comb.length c12,.slice A16 C.J.red.length c17,.int .i64 C.J.chunk,.int .i64 C.J.window,.int .i64 C.J.fuel,.slice A21 C.J.marks.length c22,.int .i64 C.w,.int .i64 C.t,.int .i64 C.o]) U EH U U (H.cellsI 0 U U)) ?_
 replace H:Hd _ _ _ [blk b26 [.slice A1 C.J.us.length c2,.int .i64 C.J.parts,.slice A6 C.J.map.length c7,.slice A11 C.J.comb.length c12,.slice A16 C.J.red.length c17,.int .i64 C.J.chunk,.int .i64 C.J.window,.int .i64 C.J.fuel,.slice A21 C.J.marks.length c22,.int .i64 C.w,.int .i64 C.t,.int .i64 C.o] 28] [Ac (At Ag) (.slice A1 C.J.us.length c2) C.J.us,Ac (BU Ag) (.slice A1 C.J.us.length c2) ss,Ac Af (.slice A6 C.J.map.length c7) C.J.map,Ac Af (.slice A11 C.J.comb.length c12) C.J.comb,Ac Af (.slice A16 C.J.red.length c17) C.J.red,Ac (Ai .i64) (.slice A21 C.J.marks.length c22) C.J.marks,gl]:=H
 refine sc (KT (.slice A1 C.J.us.length c2) (.slice A6 C.J.map.length c7) (.slice A11 C.J.comb.length c12) (.slice A16 C.J.red.length c17) (.slice A21 C.J.marks.length c22) C) H (lR 0 U (lR 2 U (lR 3 U (lR 4 U (lR 5 U l0))))) U U (Av KM U U) ?_
 rintro _ _ w ⟨rfl,rfl⟩ H
 refine V U U (D4 U U) (Ad U (Ab (Z ?_)))
 refine AC U (fun h28=>?_) (fun h28=>?_)
 ·refine Aa (Ae (sc (LU) H (lR 6 U l0) U U (Av MA U U) ?_))
  rintro _ _ w ⟨rfl,rfl⟩ H
  refine Ad U (Ab (Z (An (AA (Ap U U ?_)))))
  replace H:=H.nil
  exact Al ⟨rfl,rfl⟩ H
 refine Az (Z (Aa ?_))
 have hC:Dq C:=Classical.not_not.1 h28
 have hJ:C4 C.J:=⟨hC.1,gm,gc,gr⟩
 have hus:=hJ.us
 have hpt:=hJ.parts
 have hww:=hC.2.1
 refine Ce (.e 0 (.e 1 (.e 2 (.e 3 (.m 4 (.e 5 (.m 6 (.e 7 (.e 8 (.e 9 (.e 10 (.e 11 .z)))))))))))) (fun w=>∃ Ar,Hd w0 F0 w (blk b26 [.slice A1 C.J.us.length c2,.int .i64 C.J.parts,.slice A6 C.J.map.length c7,.slice A11 C.J.comb.length c12,.slice A16 C.J.red.length c17,.int .i64 C.J.chunk,.int .i64 C.J.window,.int .i64 C.J.fuel,.slice A21 C.J.marks.length c22,.int .i64 C.w,.int .i64 C.t,.int .i64 C.o] 28::Ar) [Ac (At Ag) (.slice A1 C.J.us.length c2) C.J.us,Ac (BU Ag) (.slice A1 C.J.us.length c2) ss,Ac Af (.slice A6 C.J.map.length c7) C.J.map,Ac Af (.slice A11 C.J.comb.length c12) C.J.comb,Ac Af (.slice A16 C.J.red.length c17) C.J.red,Ac (Ai .i64) (.slice A21 C.J.marks.length c22) C.J.marks,gl]) mo (by kernel_rfl) (fun w H=>⟨_,H⟩) H (fun w H=>(Ao U U U (fun w ⟨Ar,H⟩=>BG (cs:=[.slice A1 C.J.us.length c2,.int .i64 C.J.parts,.slice A6 C.J.map.length c7,.slice A11 C.J.comb.length c12,.slice A16 C.J.red.length c17,.int .i64 C.J.chunk,.int .i64 C.J.window,.int .i64 C.J.fuel,.slice A21 C.J.marks.length c22,.int .i64 C.w,.int .i64 C.t,.int .i64 C.o]) U EH U U (H.cellsI 0 U U)) ?_))
 refine Au U (Ao U U U (fun w ⟨Ar,H⟩=>Aj U Jy U) (Ao U U U (fun w ⟨Ar,H⟩=>Am U AE U (H.cellI 0 U U)) (AO U (sc (Q1 k0 C.w (by first |assumption|(unfold AG;omega)) (by omega) (by omega)) H l0 U U (Av Ql U U) ?_))))
 rintro _ _ w ⟨rfl,rfl⟩ H
 obtain ⟨lo29,hl30,hl31,hl32⟩:∃ z:Int,IntKind.u64.wrap k0%C.w=z∧0≤z∧z<C.w:=⟨_,rfl,Int.emod_nonneg _ (by omega),Int.emod_lt_of_pos _ (by omega)⟩
 rw [hl30]
 refine AH ⟨_,H⟩ (Ao U U U (fun w ⟨Ar,H⟩=>Bc (z:=1+lo29) U U U (AI (by omega) (by omega))) (AO U ?_))
 have hid0:1≤1+lo29∧1+lo29≤C.w:=⟨by omega,by omega⟩
 refine sc (Ro (.slice A1 C.J.us.length c2) (.slice A6 C.J.map.length c7) (.slice A11 C.J.comb.length c12) (.slice A16 C.J.red.length c17) (.slice A21 C.J.marks.length c22) C (1+lo29) (by first |assumption|omega|decide|(unfold AG;omega)) (by first |assumption|omega|decide|(unfold AG;omega)) (by first |assumption|omega|decide|(unfold AG;omega))) H (lR 0 U (lR 2 U (lR 3 U (lR 4 U (lR 5 U l0))))) U U (Av Qk U U) ?_
 rintro _ _ w ⟨b33,rfl,rfl⟩ H
 replace H:Hd _ _ _ [Cj b33 C (EP C (1+lo29)),blk b26 [.slice A1 C.J.us.length c2,.int .i64 C.J.parts,.slice A6 C.J.map.length c7,.slice A11 C.J.comb.length c12,.slice A16 C.J.red.length c17,.int .i64 C.J.chunk,.int .i64 C.J.window,.int .i64 C.J.fuel,.slice A21 C.J.marks.length c22,.int .i64 C.w,.int .i64 C.t,.int .i64 C.o] 28] [Ac (At Ag) (.slice A1 C.J.us.length c2) C.J.us,Ac (BU Ag) (.slice A1 C.J.us.length c2) ss,Ac Af (.slice A6 C.J.map.length c7) C.J.map,Ac Af (.slice A11 C.J.comb.length c12) C.J.comb,Ac Af (.slice A16 C.J.red.length c17) C.J.red,Ac (Ai .i64) (.slice A21 C.J.marks.length c22) C.J.marks,gl]:=H
 obtain ⟨N0,hN0⟩:∃ z:Ci,z=EP C (1+lo29):=⟨_,rfl⟩
 rw [←hN0] at H
 replace H:Hd _ _ _ [Cj b33 C N0,blk b26 [.slice A1 C.J.us.length c2,.int .i64 C.J.parts,.slice A6 C.J.map.length c7,.slice A11 C.J.comb.length c12,.slice A16 C.J.red.length c17,.int .i64 C.J.chunk,.int .i64 C.J.window,.int .i64 C.J.fuel,.slice A21 C.J.marks.length c22,.int .i64 C.w,.int .i64 C.t,.int .i64 C.o] 28] [Ac (At Ag) (.slice A1 C.J.us.length c2) C.J.us,Ac (BU Ag) (.slice A1 C.J.us.length c2) ss,Ac Af (.slice A6 C.J.map.length c7) C.J.map,Ac Af (.slice A11 C.J.comb.length c12) C.J.comb,Ac Af (.slice A16 C.J.red.length c17) C.J.red,Ac (Ai .i64) (.slice A21 C.J.marks.length c22) C.J.marks,gl]:=H
 have hl0:Es 0 N0:=by rw [hN0];exact MQ _ _
 have hN0i:N0.id=1+lo29:=by rw [hN0];rfl
 replace H:=H.p1
 refine AH ⟨_,H⟩ (Au U (Au U (Au U (Au U (Au U (BO (Z (Aa (Aa (Ae (Ad U (V U U (Cx U U U) (Ah 2 U (V U U (Dg U Hp U U) (Ah 3 U ?_)))))))))))))))
 replace H:=H.p1
 obtain ⟨vS34,vM35,vC36,vR37,vK38,J39,d40,hv41,zs42,wb43,⟨hsj44,hzs45⟩,H⟩:=GQ b33 C N0 H
 replace H:=H.h9 (A:=blk b33 [vS34,.int .i64 J39.parts,vM35,vC36,vR37,.int .i64 J39.chunk,.int .i64 J39.window,.int .i64 J39.fuel,vK38,.int .i64 C.w,.int .i64 C.t,.int .i64 C.o,.int .i64 N0.id,.bool N0.up,.pointer (some ⟨d40,0,none⟩),hv41,.pointer none,.pointer (some ⟨wb43,0,none⟩)] 93) (B:=Y (At Ag) vS34 J39.us) (C:=Y Af vM35 J39.map) (D:=Y Af vC36 J39.comb) (E:=Y Af vR37 J39.red) (F:=Y (Ai .i64) vK38 J39.marks) (G:=Bz d40 N0.b N0.n) (I:=Y BF hv41 zs42) (J:=B6 wb43 (Bp J39 C) N0.W)
 obtain ⟨A46,c47,rfl,hc48,hm49,hp50⟩:=H.fA 7 rfl
 refine sc (M0 b33 vS34 vM35 vC36 vR37 vK38 J39 C N0.id N0.up d40 (.slice A46 zs42.length c47) wb43) H (lA 0 U (fun _ h=>h) l0) U U (Av MC U U) ?_
 rintro _ _ w ⟨rfl,rfl⟩ H
 refine V U U (Dg U LJ U U) (Ad U (Ab (Z (Ch U (Az (Z (Aa (Ae (Ad U (Ab (Z (Aa (Aa (Ae (Ad U (Ab (Z (AW ?_))))))))))))))))))
 replace H:=Gv b33 C N0 vS34 vM35 vC36 vR37 vK38 J39 d40 (.slice A46 zs42.length c47) zs42 wb43 ⟨hsj44,hzs45⟩ H
 replace H:=H.h1 (A:=Cj b33 C N0)|>.p1
 refine B1 (σ:=Nat×Nat×Ci) (fun (i,s,N)=>[(2,.int .i64 k1),(3,.int .i64 k2),(9,.pointer (some ⟨b33,0,none⟩)),(11,.int .i64 ((s+1:Nat):Int)),(12,.int .i64 ((i:Nat):Int))]) (fun (i,s,N) w=>(Hd w0 F0 w [blk b26 [.slice A1 C.J.us.length c2,.int .i64 C.J.parts,.slice A6 C.J.map.length c7,.slice A11 C.J.comb.length c12,.slice A16 C.J.red.length c17,.int .i64 C.J.chunk,.int .i64 C.J.window,.int .i64 C.J.fuel,.slice A21 C.J.marks.length c22,.int .i64 C.w,.int .i64 C.t,.int .i64 C.o] 28,Cj b33 C N] [Ac (At Ag) (.slice A1 C.J.us.length c2) C.J.us,Ac (BU Ag) (.slice A1 C.J.us.length c2) ss,Ac Af (.slice A6 C.J.map.length c7) C.J.map,Ac Af (.slice A11 C.J.comb.length c12) C.J.comb,Ac Af (.slice A16 C.J.red.length c17) C.J.red,Ac (Ai .i64) (.slice A21 C.J.marks.length c22) C.J.marks,gl])∧(i≤20)∧(s≤i)∧(Es s N)∧(N.id=1+lo29)) (fun (i,s,N)=>20 - i) (0,0,N0) ⟨rfl,rfl,rfl,rfl,rfl,trivial⟩ ⟨H,Nat.zero_le _,Nat.le_refl _,hl0,hN0i⟩ ?_
 rintro ⟨i,s,N⟩ w ⟨H,hi,hs,hl,hni⟩
 have hok:=hl.ok (by omega)
 have hup:=hl.up
 have hep:=hl.ep
 have hnbN:N.n≤N.b.length∧N.b.length≤1000000:=⟨hok.1.1,by omega⟩
 have hhlN:N.held.length≤10000000:=by omega
 have h064:AG (0:Int):=by unfold AG;decide
 refine Aa (Aa (Ae (Ah 2 U (sc (Q1 k1 20 (by first |assumption|(unfold AG;omega)) (by omega) (by omega)) H l0 U U (Av Ql U U) ?_))))
 rintro _ _ w ⟨rfl,rfl⟩ H
 obtain ⟨lo51,hl52,hl53,hl54⟩:∃ z:Int,IntKind.u64.wrap k1%20=z∧0≤z∧z<20:=⟨_,rfl,Int.emod_nonneg _ (by omega),Int.emod_lt_of_pos _ (by omega)⟩
 rw [hl52]
 refine V U U (Br U U U) (Ab (Z ?_))
 refine AC U (fun h55=>?_) (fun h55=>?_)
 ·refine Az (Z (Aa (AW (Aa (Aa (Ae (Ad U ?_)))))))
  replace H:=H.p1
  replace H:Hd _ _ _ [Cj b33 C N,blk b26 [.slice A1 C.J.us.length c2,.int .i64 C.J.parts,.slice A6 C.J.map.length c7,.slice A11 C.J.comb.length c12,.slice A16 C.J.red.length c17,.int .i64 C.J.chunk,.int .i64 C.J.window,.int .i64 C.J.fuel,.slice A21 C.J.marks.length c22,.int .i64 C.w,.int .i64 C.t,.int .i64 C.o] 28] [Ac (At Ag) (.slice A1 C.J.us.length c2) C.J.us,Ac (BU Ag) (.slice A1 C.J.us.length c2) ss,Ac Af (.slice A6 C.J.map.length c7) C.J.map,Ac Af (.slice A11 C.J.comb.length c12) C.J.comb,Ac Af (.slice A16 C.J.red.length c17) C.J.red,Ac (Ai .i64) (.slice A21 C.J.marks.length c22) C.J.marks,gl]:=H
  obtain ⟨vS56,vM57,vC58,vR59,vK60,J61,d62,hv63,zs64,wb65,⟨hsj66,hzs67⟩,H⟩:=GQ b33 C N H
  replace H:=H.h9 (A:=blk b33 [vS56,.int .i64 J61.parts,vM57,vC58,vR59,.int .i64 J61.chunk,.int .i64 J61.window,.int .i64 J61.fuel,vK60,.int .i64 C.w,.int .i64 C.t,.int .i64 C.o,.int .i64 N.id,.bool N.up,.pointer (some ⟨d62,0,none⟩),hv63,.pointer none,.pointer (some ⟨wb65,0,none⟩)] 93) (B:=Y (At Ag) vS56 J61.us) (C:=Y Af vM57 J61.map) (D:=Y Af vC58 J61.comb) (E:=Y Af vR59 J61.red) (F:=Y (Ai .i64) vK60 J61.marks) (G:=Bz d62 N.b N.n) (I:=Y BF hv63 zs64) (J:=B6 wb65 (Bp J61 C) N.W)
  obtain ⟨A68,c69,rfl,hc70,hm71,hp72⟩:=H.fA 7 rfl
  refine sc (M0 b33 vS56 vM57 vC58 vR59 vK60 J61 C N.id N.up d62 (.slice A68 zs64.length c69) wb65) H (lA 0 U (fun _ h=>h) l0) U U (Av MC U U) ?_
  rintro _ _ w ⟨rfl,rfl⟩ H
  replace H:=H.p8
  refine sc (Tj wb65 (Bp J61 C) N.W) H l0 U U (Av Qo U U) ?_
  rintro _ _ w ⟨rfl,rfl⟩ H
  refine Ad U (V U U (Cx U U U) (Ab (Z ?_)))
  refine AC U (fun h73=>?_) (fun h73=>?_)
  ·exfalso;omega
  refine Az (Z (Aa (Aa (Ae (Ah 2 U (V U U (Ii (z:=k2.fdiv (2^(min ((i:Nat):Int).toNat IntKind.i64.bits))) U U U (by omega) U) (V U U (R8 (z:=OI k2 i) U (by simp) U U (TZ k2 i)) (V U U (Bh U U U) (Ab (Z ?_))))))))))
  refine AC U (fun h74=>?_) (fun h74=>?_)
  ·refine Aa (Ae (Ad U ?_))
   replace H:=H.p8.p8.p8.p8.p8.p8.p8.p8
   replace H:=Gv b33 C N vS56 vM57 vC58 vR59 vK60 J61 d62 (.slice A68 zs64.length c69) zs64 wb65 ⟨hsj66,hzs67⟩ H
   replace H:=H.h1 (A:=Cj b33 C N)
   refine sc (Rn b33 C N (by first |assumption|omega|decide|(unfold AG;omega)) (by first |assumption|omega|decide|(unfold AG;omega)) (by first |assumption|omega|decide|(unfold AG;omega))) H l0 U U (Av Qq U U) ?_
   rintro v77 _ w ⟨z75,rfl,hf76⟩ H
   replace H:=H.h2 (A:=Y BF v77 z75) (B:=Cj b33 C (F7 N))
   obtain ⟨N1,hN1⟩:∃ z:Ci,z=F7 N:=⟨_,rfl⟩
   rw [←hN1] at H
   replace H:Hd _ _ _ [Y BF v77 z75,Cj b33 C N1,blk b26 [.slice A1 C.J.us.length c2,.int .i64 C.J.parts,.slice A6 C.J.map.length c7,.slice A11 C.J.comb.length c12,.slice A16 C.J.red.length c17,.int .i64 C.J.chunk,.int .i64 C.J.window,.int .i64 C.J.fuel,.slice A21 C.J.marks.length c22,.int .i64 C.w,.int .i64 C.t,.int .i64 C.o] 28] [Ac (At Ag) (.slice A1 C.J.us.length c2) C.J.us,Ac (BU Ag) (.slice A1 C.J.us.length c2) ss,Ac Af (.slice A6 C.J.map.length c7) C.J.map,Ac Af (.slice A11 C.J.comb.length c12) C.J.comb,Ac Af (.slice A16 C.J.red.length c17) C.J.red,Ac (Ai .i64) (.slice A21 C.J.marks.length c22) C.J.marks,gl]:=H
   have hup1:N1.up=true:=by rw [hN1];exact hup
   have hnb1:N1.n≤N1.b.length∧N1.b.length≤1000000:=by rw [hN1];exact ⟨Nat.le_refl _,hnbN.2⟩
   refine Ab (Z (Ae (Ad U (V U U (Bc (z:=((s+1+1:Nat):Int)) U U U (by rw [AI (by omega) (by omega)];omega)) (Ad U (Ab (Z (Aa (Ae (Ad U ?_))))))))))
   replace H:=H.p1
   refine sc (Rm b33 C N1 0 (by first |assumption|omega|decide|(unfold AG;omega)) (by first |assumption|omega|decide|(unfold AG;omega)) (by first |assumption|omega|decide|(unfold AG;omega))) H l0 U U (Av Qt U U) ?_
   rintro _ _ w ⟨rfl,rfl⟩ H
   replace H:=H.h1 (A:=Cj b33 C (Fj N1 0))
   obtain ⟨N2,hN2⟩:∃ z:Ci,z=Fj N1 0:=⟨_,rfl⟩
   rw [←hN2] at H
   replace H:Hd _ _ _ [Cj b33 C N2,Y BF v77 z75,blk b26 [.slice A1 C.J.us.length c2,.int .i64 C.J.parts,.slice A6 C.J.map.length c7,.slice A11 C.J.comb.length c12,.slice A16 C.J.red.length c17,.int .i64 C.J.chunk,.int .i64 C.J.window,.int .i64 C.J.fuel,.slice A21 C.J.marks.length c22,.int .i64 C.w,.int .i64 C.t,.int .i64 C.o] 28] [Ac (At Ag) (.slice A1 C.J.us.length c2) C.J.us,Ac (BU Ag) (.slice A1 C.J.us.length c2) ss,Ac Af (.slice A6 C.J.map.length c7) C.J.map,Ac Af (.slice A11 C.J.comb.length c12) C.J.comb,Ac Af (.slice A16 C.J.red.length c17) C.J.red,Ac (Ai .i64) (.slice A21 C.J.marks.length c22) C.J.marks,gl]:=H
   have hup2:N2.up=false:=by rw [hN2];rfl
   have h9a:N2.id=(Fj N1 0).id:=congrArg Ci.id hN2
   have h9b:N2.id=N1.id:=h9a
   have h9c:N1.id=(F7 N).id:=congrArg Ci.id hN1
   have h9d:N1.id=N.id:=h9c
   have h9:N2.id=N.id:=h9b.trans h9d
   have hid2:1≤N2.id∧N2.id≤C.w:=by rw [h9,hni];exact hid0
   have hdb2:N2.b.length≤90000:=by rw [hN2,hN1];exact Vk hl (by omega)
   refine V U U (Cx U U U) (Ah 2 U (sc (Rp b33 C N2 (by first |assumption|omega|decide|(unfold AG;omega)) (by first |assumption|omega|decide|(unfold AG;omega)) (by first |assumption|omega|decide|(unfold AG;omega)) (by first |assumption|omega|decide|(unfold AG;omega)) (by first |assumption|omega|decide|(unfold AG;omega))) H l0 U U (Av Qu U U) ?_))
   rintro _ _ w ⟨rfl,rfl⟩ H
   replace H:=H.h1 (A:=Cj b33 C (FG C N2))
   obtain ⟨N3,hN3⟩:∃ z:Ci,z=FG C N2:=⟨_,rfl⟩
   rw [←hN3] at H
   replace H:Hd _ _ _ [Cj b33 C N3,Y BF v77 z75,blk b26 [.slice A1 C.J.us.length c2,.int .i64 C.J.parts,.slice A6 C.J.map.length c7,.slice A11 C.J.comb.length c12,.slice A16 C.J.red.length c17,.int .i64 C.J.chunk,.int .i64 C.J.window,.int .i64 C.J.fuel,.slice A21 C.J.marks.length c22,.int .i64 C.w,.int .i64 C.t,.int .i64 C.o] 28] [Ac (At Ag) (.slice A1 C.J.us.length c2) C.J.us,Ac (BU Ag) (.slice A1 C.J.us.length c2) ss,Ac Af (.slice A6 C.J.map.length c7) C.J.map,Ac Af (.slice A11 C.J.comb.length c12) C.J.comb,Ac Af (.slice A16 C.J.red.length c17) C.J.red,Ac (Ai .i64) (.slice A21 C.J.marks.length c22) C.J.marks,gl]:=H
   have hl3:Es (s+1) N3:=by rw [hN3,hN2,hN1];exact Yg C hl
   have h9e:N3.id=(FG C N2).id:=congrArg Ci.id hN3
   have h9f:N3.id=N2.id:=h9e
   have hi3:N3.id=1+lo29:=h9f.trans (h9.trans hni)
   refine V U U (Cx U U U) (Ad U (Ab (Z (Ch U (Az (Bb (Z (Ae (Ad U (V U U (Bc (z:=((i+1:Nat):Int)) U U U (by rw [AI (by omega) (by omega)];omega)) (Ad U (Ab ?_))))))))))))
   replace H:=H.p2.k2
   exact Bo (s:=(i,s,N)) (i+1,s+1,N3) ⟨rfl,rfl,rfl,rfl,rfl,trivial⟩ ⟨H,by (try dsimp only);omega,by (try dsimp only);omega,hl3,hi3⟩ (by (try dsimp only);omega)
  refine Az (Z (Aa (Ae (Ad U ?_))))
  replace H:=H.p8.p8.p8.p8.p8.p8.p8.p8
  replace H:=Gv b33 C N vS56 vM57 vC58 vR59 vK60 J61 d62 (.slice A68 zs64.length c69) zs64 wb65 ⟨hsj66,hzs67⟩ H
  replace H:=H.h1 (A:=Cj b33 C N)
  refine sc (Rm b33 C N 0 (by first |assumption|omega|decide|(unfold AG;omega)) (by first |assumption|omega|decide|(unfold AG;omega)) (by first |assumption|omega|decide|(unfold AG;omega))) H l0 U U (Av Qt U U) ?_
  rintro _ _ w ⟨rfl,rfl⟩ H
  replace H:=H.h1 (A:=Cj b33 C (Fj N 0))
  obtain ⟨N2,hN2⟩:∃ z:Ci,z=Fj N 0:=⟨_,rfl⟩
  rw [←hN2] at H
  replace H:Hd _ _ _ [Cj b33 C N2,blk b26 [.slice A1 C.J.us.length c2,.int .i64 C.J.parts,.slice A6 C.J.map.length c7,.slice A11 C.J.comb.length c12,.slice A16 C.J.red.length c17,.int .i64 C.J.chunk,.int .i64 C.J.window,.int .i64 C.J.fuel,.slice A21 C.J.marks.length c22,.int .i64 C.w,.int .i64 C.t,.int .i64 C.o] 28] [Ac (At Ag) (.slice A1 C.J.us.length c2) C.J.us,Ac (BU Ag) (.slice A1 C.J.us.length c2) ss,Ac Af (.slice A6 C.J.map.length c7) C.J.map,Ac Af (.slice A11 C.J.comb.length c12) C.J.comb,Ac Af (.slice A16 C.J.red.length c17) C.J.red,Ac (Ai .i64) (.slice A21 C.J.marks.length c22) C.J.marks,gl]:=H
  have hup2:N2.up=false:=by rw [hN2];rfl
  have h9a:N2.id=(Fj N 0).id:=congrArg Ci.id hN2
  have h9b:N2.id=N.id:=h9a
  have h9c:N.id=N.id:=rfl
  have h9d:N.id=N.id:=h9c
  have h9:N2.id=N.id:=h9b.trans h9d
  have hid2:1≤N2.id∧N2.id≤C.w:=by rw [h9,hni];exact hid0
  have hdb2:N2.b.length≤90000:=by rw [hN2];exact Vj hl (by omega)
  refine V U U (Cx U U U) (Ah 2 U (sc (Rp b33 C N2 (by first |assumption|omega|decide|(unfold AG;omega)) (by first |assumption|omega|decide|(unfold AG;omega)) (by first |assumption|omega|decide|(unfold AG;omega)) (by first |assumption|omega|decide|(unfold AG;omega)) (by first |assumption|omega|decide|(unfold AG;omega))) H l0 U U (Av Qu U U) ?_))
  rintro _ _ w ⟨rfl,rfl⟩ H
  replace H:=H.h1 (A:=Cj b33 C (FG C N2))
  obtain ⟨N3,hN3⟩:∃ z:Ci,z=FG C N2:=⟨_,rfl⟩
  rw [←hN3] at H
  replace H:Hd _ _ _ [Cj b33 C N3,blk b26 [.slice A1 C.J.us.length c2,.int .i64 C.J.parts,.slice A6 C.J.map.length c7,.slice A11 C.J.comb.length c12,.slice A16 C.J.red.length c17,.int .i64 C.J.chunk,.int .i64 C.J.window,.int .i64 C.J.fuel,.slice A21 C.J.marks.length c22,.int .i64 C.w,.int .i64 C.t,.int .i64 C.o] 28] [Ac (At Ag) (.slice A1 C.J.us.length c2) C.J.us,Ac (BU Ag) (.slice A1 C.J.us.length c2) ss,Ac Af (.slice A6 C.J.map.length c7) C.J.map,Ac Af (.slice A11 C.J.comb.length c12) C.J.comb,Ac Af (.slice A16 C.J.red.length c17) C.J.red,Ac (Ai .i64) (.slice A21 C.J.marks.length c22) C.J.marks,gl]:=H
  have hl3:Es s N3:=by rw [hN3,hN2];exact Yf C hl
  have h9e:N3.id=(FG C N2).id:=congrArg Ci.id hN3
  have h9f:N3.id=N2.id:=h9e
  have hi3:N3.id=1+lo29:=h9f.trans (h9.trans hni)
  refine V U U (Cx U U U) (Ad U (Ab (Z (Ch U (Az (Bb (Z (Ae (Ad U (V U U (Bc (z:=((i+1:Nat):Int)) U U U (by rw [AI (by omega) (by omega)];omega)) (Ad U (Ab ?_))))))))))))
  replace H:=H.p1
  exact Bo (s:=(i,s,N)) (i+1,s,N3) ⟨rfl,rfl,rfl,rfl,rfl,trivial⟩ ⟨H,by (try dsimp only);omega,by (try dsimp only);omega,hl3,hi3⟩ (by (try dsimp only);omega)
 refine BQ (AV (AV (BS (Z (Aa (Ae (Ad U ?_)))))))
 replace H:=H.p1
 replace H:Hd _ _ _ [Cj b33 C N,blk b26 [.slice A1 C.J.us.length c2,.int .i64 C.J.parts,.slice A6 C.J.map.length c7,.slice A11 C.J.comb.length c12,.slice A16 C.J.red.length c17,.int .i64 C.J.chunk,.int .i64 C.J.window,.int .i64 C.J.fuel,.slice A21 C.J.marks.length c22,.int .i64 C.w,.int .i64 C.t,.int .i64 C.o] 28] [Ac (At Ag) (.slice A1 C.J.us.length c2) C.J.us,Ac (BU Ag) (.slice A1 C.J.us.length c2) ss,Ac Af (.slice A6 C.J.map.length c7) C.J.map,Ac Af (.slice A11 C.J.comb.length c12) C.J.comb,Ac Af (.slice A16 C.J.red.length c17) C.J.red,Ac (Ai .i64) (.slice A21 C.J.marks.length c22) C.J.marks,gl]:=H
 obtain ⟨vS78,vM79,vC80,vR81,vK82,J83,d84,hv85,zs86,wb87,⟨hsj88,hzs89⟩,H⟩:=GQ b33 C N H
 replace H:=H.h9 (A:=blk b33 [vS78,.int .i64 J83.parts,vM79,vC80,vR81,.int .i64 J83.chunk,.int .i64 J83.window,.int .i64 J83.fuel,vK82,.int .i64 C.w,.int .i64 C.t,.int .i64 C.o,.int .i64 N.id,.bool N.up,.pointer (some ⟨d84,0,none⟩),hv85,.pointer none,.pointer (some ⟨wb87,0,none⟩)] 93) (B:=Y (At Ag) vS78 J83.us) (C:=Y Af vM79 J83.map) (D:=Y Af vC80 J83.comb) (E:=Y Af vR81 J83.red) (F:=Y (Ai .i64) vK82 J83.marks) (G:=Bz d84 N.b N.n) (I:=Y BF hv85 zs86) (J:=B6 wb87 (Bp J83 C) N.W)
 obtain ⟨A90,c91,rfl,hc92,hm93,hp94⟩:=H.fA 7 rfl
 refine sc (M0 b33 vS78 vM79 vC80 vR81 vK82 J83 C N.id N.up d84 (.slice A90 zs86.length c91) wb87) H (lA 0 U (fun _ h=>h) l0) U U (Av MC U U) ?_
 rintro _ _ w ⟨rfl,rfl⟩ H
 replace H:=H.p8
 refine sc (Tj wb87 (Bp J83 C) N.W) H l0 U U (Av Qo U U) ?_
 rintro _ _ w ⟨rfl,rfl⟩ H
 refine Ad U (V U U (Bh U U U) (Ad U ?_))
 refine AQ (d:=76) U (fun h95=>?_) (fun h95=>?_)
 ·replace H:Hd _ _ _ [B6 wb87 (Bp J83 C) N.W,blk b33 [vS78,.int .i64 J83.parts,vM79,vC80,vR81,.int .i64 J83.chunk,.int .i64 J83.window,.int .i64 J83.fuel,vK82,.int .i64 C.w,.int .i64 C.t,.int .i64 C.o,.int .i64 N.id,.bool N.up,.pointer (some ⟨d84,0,none⟩),.slice A90 zs86.length c91,.pointer none,.pointer (some ⟨wb87,0,none⟩)] 93,Y (At Ag) vS78 J83.us,Y Af vM79 J83.map,Y Af vC80 J83.comb,Y Af vR81 J83.red,Y (Ai .i64) vK82 J83.marks,Bz d84 N.b N.n,Y BF (.slice A90 zs86.length c91) zs86,blk b26 [.slice A1 C.J.us.length c2,.int .i64 C.J.parts,.slice A6 C.J.map.length c7,.slice A11 C.J.comb.length c12,.slice A16 C.J.red.length c17,.int .i64 C.J.chunk,.int .i64 C.J.window,.int .i64 C.J.fuel,.slice A21 C.J.marks.length c22,.int .i64 C.w,.int .i64 C.t,.int .i64 C.o] 28] [Ac (At Ag) (.slice A1 C.J.us.length c2) C.J.us,Ac (BU Ag) (.slice A1 C.J.us.length c2) ss,Ac Af (.slice A6 C.J.map.length c7) C.J.map,Ac Af (.slice A11 C.J.comb.length c12) C.J.comb,Ac Af (.slice A16 C.J.red.length c17) C.J.red,Ac (Ai .i64) (.slice A21 C.J.marks.length c22) C.J.marks,gl]:=H
  refine sc (LU) H (lR 6 U l0) U U (Av MA U U) ?_
  rintro _ _ w ⟨rfl,rfl⟩ H
  refine Ah 2 U (Ab (Z (An (Ap U U ?_))))
  replace H:=H.nil
  exact Al ⟨rfl,rfl⟩ H
 exfalso;omega
theorem YZ (vS vM vC vR vK:Value) (ss:List (List Aq)) (map comb red:List BT) (marks:List Int) (parts chunk window fuel:Int) (wj:((∀ x∈ss,(∀ p∈x,p.key.size≤9223372036854775807∧p.val.size≤9223372036854775807)∧x.length≤9223372036854775807)∧ss.length≤9223372036854775807)∧((∀ p∈map,AG p.op∧AG p.a∧p.s.size≤9223372036854775807)∧map.length≤9223372036854775807)∧((∀ p∈comb,AG p.op∧AG p.a∧p.s.size≤9223372036854775807)∧comb.length≤9223372036854775807)∧((∀ p∈red,AG p.op∧AG p.a∧p.s.size≤9223372036854775807)∧red.length≤9223372036854775807)∧(∀ x∈marks,AG x)∧marks.length≤9223372036854775807) (wn:AG parts∧AG chunk∧AG window∧AG fuel) (cw ct co:Int) (wc:AG cw∧AG ct∧AG co) (k1:Int) (g1:AG k1) (k2:Int) (g2:AG k2) (k3:Int) (g3:AG k3):
  Cn Tryz.prog 3 [.agg #[vS,.int .i64 parts,vM,vC,vR,.int .i64 chunk,.int .i64 window,.int .i64 fuel,vK,.int .i64 cw,.int .i64 ct,.int .i64 co],.int .i64 k1,.int .i64 k2,.int .i64 k3] [] [Ac (BU Ag) vS ss,Ac Af vM map,Ac Af vC comb,Ac Af vR red,Ac (Ai .i64) vK marks,gl] (fun v Bs=>v=.bool true∧Bs=[]):=
 Cn.heads0 fun us hus=>YY vS vM vC vR vK ⟨⟨us,parts,map,comb,red,chunk,window,fuel,marks⟩,cw,ct,co⟩ ss (fun i hi=>(wj.2.1.1 i hi).2.1) (fun i hi=>(wj.2.2.1.1 i hi).2.1) (fun i hi=>(wj.2.2.2.1.1 i hi).2.1) k1 g1 k2 g2 k3 g3
theorem NX {P:Program} {W:World} {name:String} {g:Nat} {cs:Array Value} (hg:P.globalNamed name=some g) (h:W.var? P name=some cs):FF W g:=by
 unfold World.var? at h
 rw [hg] at h
 simp only [Option.bind_some] at h
 show g<W.heap.size
 rcases Nat.lt_or_ge g W.heap.size with h'|h'
 ·exact h'
 ·simp [Array.getElem?_eq_none h'] at h
theorem SS: "*" ++ "errors.errorString" = "*errors.errorString" :=by decide
theorem R3 (u:TypeId) (h:Tryz.prog.typeName? 3 u=some "*errors.errorString"):u=426:=typeName_ptr_named (nm:= "errors.errorString") (by rw [SS];kernel_rfl) (by kernel_rfl) (by decide) u (by rw [SS];exact h)
theorem Mt:Tryz.prog.globalNamed "internal/strconv.uint64pow10" =some 2:=by kernel_rfl
theorem VX:(Tryz.prog.globals[2]?).map (·.type)=some 423:=by kernel_rfl
theorem Mu:Tryz.prog.globalNamed "strconv.ErrSyntax" =some 0:=by kernel_rfl
theorem VY:(Tryz.prog.globals[0]?).map (·.type)=some 382:=by kernel_rfl
theorem Mv:Tryz.prog.globalNamed "strconv.ErrRange" =some 1:=by kernel_rfl
theorem VZ:(Tryz.prog.globals[1]?).map (·.type)=some 382:=by kernel_rfl
theorem Q6:Tryz.prog.underlying 382=some (.interface (Tryz.prog.methodsAt 382)):=by kernel_rfl
theorem Ym:Tryz.prog.underlying 423=some (.array 20 222):=by kernel_rfl
theorem Yl:Tryz.prog.underlying 222=some (.int .u64):=by kernel_rfl
theorem Q7:Tryz.prog.underlying 426=some (.pointer 428):=by kernel_rfl
theorem Q8:Tryz.prog.underlying 428=some (.struct #[⟨ "s",9,0,false, "", "errors",0⟩]):=by kernel_rfl
theorem Q9:Tryz.prog.underlying 9=some (.string):=by kernel_rfl
theorem Ya:Tryz.prog.cellsOf 222=1:=by kernel_rfl
theorem Yb:Tryz.prog.cellsOf 423=20:=by kernel_rfl
theorem QU:Tryz.prog.cellsOf 428=1:=by kernel_rfl
theorem QV:Tryz.prog.cellsOf 9=1:=by kernel_rfl
theorem VO {W:World} (h:laidMet Tryz.prog Rows.nodeLivesRow.laid W):gl.P W (FF W):=by
 refine ⟨?_,?_,?_⟩
 ·have h0:laidMet Tryz.prog [("internal/strconv.uint64pow10",Lib.tabData .u64 Lib.pow10Tab)] W:=by
   have e:Rows.nodeLivesRow.laid.filter (fun x=>x.1== "internal/strconv.uint64pow10")=[("internal/strconv.uint64pow10",Lib.tabData .u64 Lib.pow10Tab)]:=by kernel_rfl
   have:=h.filter (fun x=>x.1== "internal/strconv.uint64pow10");rw [e] at this;exact this
  have hv:=Lib.tabIs_of_head Mt VX Ym Yl Ya Yb h0
  exact ⟨_,Mt,NX Mt hv,_,hv,rfl⟩
 ·have h0:laidMet Tryz.prog [("strconv.ErrSyntax",Rows.laid_strconv_ErrSyntax)] W:=by
   have e:Rows.nodeLivesRow.laid.filter (fun x=>x.1== "strconv.ErrSyntax")=[("strconv.ErrSyntax",Rows.laid_strconv_ErrSyntax)]:=by kernel_rfl
   have:=h.filter (fun x=>x.1== "strconv.ErrSyntax");rw [e] at this;exact this
  obtain ⟨a0,s0,hv, -⟩:=laid_sentinel h0 Mu VY Q6 R3 Q7 Q8 rfl rfl Q9 QU QV
  exact ⟨_,Mu,NX Mu hv,_,hv,_,_,rfl⟩
 ·have h0:laidMet Tryz.prog [("strconv.ErrRange",Rows.laid_strconv_ErrRange)] W:=by
   have e:Rows.nodeLivesRow.laid.filter (fun x=>x.1== "strconv.ErrRange")=[("strconv.ErrRange",Rows.laid_strconv_ErrRange)]:=by kernel_rfl
   have:=h.filter (fun x=>x.1== "strconv.ErrRange");rw [e] at this;exact this
  obtain ⟨a0,s0,hv, -⟩:=laid_sentinel h0 Mv VZ Q6 R3 Q7 Q8 rfl rfl Q9 QU QV
  exact ⟨_,Mv,NX Mv hv,_,hv,_,_,rfl⟩
end Go.Proofs.YthhajcnbjiiclaaGreatDoor.X
