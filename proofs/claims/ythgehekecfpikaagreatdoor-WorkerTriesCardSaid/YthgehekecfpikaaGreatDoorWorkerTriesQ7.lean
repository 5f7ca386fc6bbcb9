/- WorkerTries: texts WK3, WK4, WK5, LW2, LW3, XWrk4, LW6, G1, joined by a program of ours; what nothing names is left out. -/
import Derived.Test.YthgehekecfpikaaGreatDoorWorkerTriesQ6
import Derived.Test.YthgehekecfpikaaGreatDoorRows
import Derived.LaidSub
import Derived.Lib.LaidTab
import Derived.Stop.LaidErr
set_option linter.unusedVariables false
set_option linter.unusedSimpArgs false
set_option maxHeartbeats 8000000
namespace Go.Proofs.YthgehekecfpikaaGreatDoor.X
open Go
theorem aR (b:Nat) (vS:Value) (vM:Value) (vC:Value) (vR:Value) (vK:Value) (J2:AD) (C:Cf) (ep:Int) (pv:Value) (kb:Nat) (tv:Value) (ov:Bool) (mb:Nat) (M:BH) (hC:C5 C) (hJ:Cb C.J) (hsj:Bf J2 C.J) (hM:ER M):
    Cn Tryz.prog 143 [.pointer (some ⟨b,0,none⟩),.agg #[.int .i64 ((M.sp:Nat):Int),.int .i64 M.att,.pointer (some ⟨mb,0,none⟩)]] [BW mb C.J M] [blk b [vS,.int .i64 J2.parts,vM,vC,vR,.int .i64 J2.chunk,.int .i64 J2.window,.int .i64 J2.fuel,vK,.int .i64 C.w,.int .i64 C.t,.int .i64 C.o,.int .i64 ep,pv,.map (some kb),tv,.int .u32 (BI ov)] 210,Z (Am Ag) vS J2.us,Z Af vM J2.map,Z Af vC J2.comb,Z Af vR J2.red,Z (Ai .i64) vK J2.marks,gl] (fun v Bs=>∃ zs:List (A_ BM),Bs=[Y BZ v zs,BW mb C.J M]∧(zs.map Ca=DD dg C M)):=by
 intro w0 F0 H
 refine enter Tryz.func143 U U (Nat.le_of_ble_eq_true U) (Ab (Ae (CA U U U U H (fun b1 w H=>(Ad U (Ac (Aa ?_)))))))
 replace H:Hd _ _ _ [blk b1 [.int .i64 ((M.sp:Nat):Int),.int .i64 M.att,.pointer (some ⟨mb,0,none⟩)] 215,BW mb C.J M] [blk b [vS,.int .i64 J2.parts,vM,vC,vR,.int .i64 J2.chunk,.int .i64 J2.window,.int .i64 J2.fuel,vK,.int .i64 C.w,.int .i64 C.t,.int .i64 C.o,.int .i64 ep,pv,.map (some kb),tv,.int .u32 (BI ov)] 210,Z (Am Ag) vS J2.us,Z Af vM J2.map,Z Af vC J2.comb,Z Af vR J2.red,Z (Ai .i64) vK J2.marks,gl]:=H
 refine HF (σ:=Nat×Value) (fun (bb,uv)=>[(0,.pointer (some ⟨b,0,none⟩)),(3,.pointer (some ⟨b1,0,none⟩)),(5,.pointer (some ⟨bb,0,none⟩))]) (fun (bb,uv) w=>(Hd w0 F0 w [blk bb [.int .i64 4,.int .i64 ((M.sp:Nat):Int),.int .i64 M.att,.int .i64 0,.int .i64 0,.int .i64 0,.int .i64 0,.int .i64 0,uv,.slice none 0 0] 64,Y (Ai .i64) uv (Bj dg C.J M.sp M.att),blk b1 [.int .i64 ((M.sp:Nat):Int),.int .i64 M.att,.pointer (some ⟨mb,0,none⟩)] 215,BW mb C.J M] [blk b [vS,.int .i64 J2.parts,vM,vC,vR,.int .i64 J2.chunk,.int .i64 J2.window,.int .i64 J2.fuel,vK,.int .i64 C.w,.int .i64 C.t,.int .i64 C.o,.int .i64 ep,pv,.map (some kb),tv,.int .u32 (BI ov)] 210,Z (Am Ag) vS J2.us,Z Af vM J2.map,Z Af vC J2.comb,Z Af vR J2.red,Z (Ai .i64) vK J2.marks,gl])) ?_ ?_
 ·refine BY (.e 0 (.e 1 (.e 2 (.e 3 (.e 4 (.e 5 (.b 6 8 (.e 7 (.m 8 (.m 9 .z))) (.m 6 (.e 7 (.m 9 .z)))))))))) (fun w=>∃ Ar,Hd w0 F0 w (blk b1 [.int .i64 ((M.sp:Nat):Int),.int .i64 M.att,.pointer (some ⟨mb,0,none⟩)] 215::BW mb C.J M::Ar) [blk b [vS,.int .i64 J2.parts,vM,vC,vR,.int .i64 J2.chunk,.int .i64 J2.window,.int .i64 J2.fuel,vK,.int .i64 C.w,.int .i64 C.t,.int .i64 C.o,.int .i64 ep,pv,.map (some kb),tv,.int .u32 (BI ov)] 210,Z (Am Ag) vS J2.us,Z Af vM J2.map,Z Af vC J2.comb,Z Af vR J2.red,Z (Ai .i64) vK J2.marks,gl]) mo (by kernel_rfl) (fun w H=>⟨_,H⟩) H (fun w H=>(Ao U U U (fun w ⟨Ar,H⟩=>Aj U LB U) (Ao U U U (fun w ⟨Ar,H⟩=>Ak U AB U (H.cellI 0 U U)) (Ao U U U (fun w ⟨Ar,H⟩=>Aj U LC U) (Ao U U U (fun w ⟨Ar,H⟩=>Ak U AB U (H.cellI 0 U U)) ?_)))))
  refine Ao U U U (fun w ⟨Ar,H⟩=>Aj U IL U) (Ao U U U (fun w ⟨Ar,H⟩=>Ak U FJ U (H.cellI 0 U U)) ?_)
  refine HI U U ?_ ?_
  ·replace H:=H.p1
   refine sc (Ml mb C.J M (by first |assumption|omega)) H l0 U U (At J9 U U) ?_
   rintro v2 _ w rfl H
   obtain ⟨A3,c4,rfl,hc5,hm6,hp7⟩:=H.fA 0 rfl
   replace H:Hd _ _ _ [Y (Ai .i64) (.slice A3 ((Bj dg C.J M.sp M.att).length) c4) (Bj dg C.J M.sp M.att),BW mb C.J M,blk b1 [.int .i64 ((M.sp:Nat):Int),.int .i64 M.att,.pointer (some ⟨mb,0,none⟩)] 215] [blk b [vS,.int .i64 J2.parts,vM,vC,vR,.int .i64 J2.chunk,.int .i64 J2.window,.int .i64 J2.fuel,vK,.int .i64 C.w,.int .i64 C.t,.int .i64 C.o,.int .i64 ep,pv,.map (some kb),tv,.int .u32 (BI ov)] 210,Z (Am Ag) vS J2.us,Z Af vM J2.map,Z Af vC J2.comb,Z Af vR J2.red,Z (Ai .i64) vK J2.marks,gl]:=H
   replace H:=H.p1.p2
   refine AE ⟨_,H⟩ (Ao U U U (fun w ⟨Ar,H⟩=>Co (parts:=[(0,.const (.int .i64 4)),(1,.tmp 10),(2,.tmp 12),(8,.tmp 15)]) (vs:=[.int .i64 4,.int .i64 ((M.sp:Nat):Int),.int .i64 M.att,.slice A3 ((Bj dg C.J M.sp M.att).length) c4]) (cs:=[.int .i64 4,.int .i64 ((M.sp:Nat):Int),.int .i64 M.att,.int .i64 0,.int .i64 0,.int .i64 0,.int .i64 0,.int .i64 0,.slice A3 ((Bj dg C.J M.sp M.att).length) c4,.slice none 0 0]) U EI U U) (AO U (Dg U U U IA H (fun b8 w H=>?_))))
   replace H:=H.h1 (A:=blk b8 [.int .i64 0,.int .i64 0,.int .i64 0,.int .i64 0,.int .i64 0,.int .i64 0,.int .i64 0,.int .i64 0,.slice none 0 0,.slice none 0 0] 64)|>.p2|>.p2
   refine AE ⟨_,H⟩ (AO U ?_)
   replace H:=H.p2
   refine BE U U U E6 U U H U (Nat.le_of_ble_eq_true U) (fun u hu=>by simp [Value.cells] at hu;rcases hu with rfl|rfl|rfl|rfl|rfl|rfl|rfl|rfl|rfl|rfl<;>rfl) (fun w H=>?_)
   replace H:=H.h1 (A:=blk b8 [.int .i64 4,.int .i64 ((M.sp:Nat):Int),.int .i64 M.att,.int .i64 0,.int .i64 0,.int .i64 0,.int .i64 0,.int .i64 0,.slice A3 ((Bj dg C.J M.sp M.att).length) c4,.slice none 0 0] 64)|>.p2|>.p2
   refine AE ⟨_,H⟩ (BP ?_)
   replace H:=H.p3.p3
   exact EA (b8,.slice A3 ((Bj dg C.J M.sp M.att).length) c4) ⟨rfl,rfl,rfl,trivial⟩ H
  refine Dg U U U IA H (fun b9 w H=>?_)
  replace H:=H.h1 (A:=blk b9 [.int .i64 0,.int .i64 0,.int .i64 0,.int .i64 0,.int .i64 0,.int .i64 0,.int .i64 0,.int .i64 0,.slice none 0 0,.slice none 0 0] 64)|>.p2|>.p2
  refine AE ⟨_,H⟩ (AO U ?_)
  replace H:=H.p1
  refine sc (Ml mb C.J M (by first |assumption|omega)) H l0 U U (At J9 U U) ?_
  rintro v10 _ w rfl H
  obtain ⟨A11,c12,rfl,hc13,hm14,hp15⟩:=H.fA 0 rfl
  replace H:Hd _ _ _ [Y (Ai .i64) (.slice A11 ((Bj dg C.J M.sp M.att).length) c12) (Bj dg C.J M.sp M.att),BW mb C.J M,blk b1 [.int .i64 ((M.sp:Nat):Int),.int .i64 M.att,.pointer (some ⟨mb,0,none⟩)] 215,blk b9 [.int .i64 0,.int .i64 0,.int .i64 0,.int .i64 0,.int .i64 0,.int .i64 0,.int .i64 0,.int .i64 0,.slice none 0 0,.slice none 0 0] 64] [blk b [vS,.int .i64 J2.parts,vM,vC,vR,.int .i64 J2.chunk,.int .i64 J2.window,.int .i64 J2.fuel,vK,.int .i64 C.w,.int .i64 C.t,.int .i64 C.o,.int .i64 ep,pv,.map (some kb),tv,.int .u32 (BI ov)] 210,Z (Am Ag) vS J2.us,Z Af vM J2.map,Z Af vC J2.comb,Z Af vR J2.red,Z (Ai .i64) vK J2.marks,gl]:=H
  replace H:=H.p1.p2
  refine AE ⟨_,H⟩ (Ao U U U (fun w ⟨Ar,H⟩=>Co (parts:=[(0,.const (.int .i64 4)),(1,.tmp 10),(2,.tmp 12),(8,.tmp 15)]) (vs:=[.int .i64 4,.int .i64 ((M.sp:Nat):Int),.int .i64 M.att,.slice A11 ((Bj dg C.J M.sp M.att).length) c12]) (cs:=[.int .i64 4,.int .i64 ((M.sp:Nat):Int),.int .i64 M.att,.int .i64 0,.int .i64 0,.int .i64 0,.int .i64 0,.int .i64 0,.slice A11 ((Bj dg C.J M.sp M.att).length) c12,.slice none 0 0]) U EI U U) (AO U ?_))
  replace H:=H.p3
  refine BE U U U E6 U U H U (Nat.le_of_ble_eq_true U) (fun u hu=>by simp [Value.cells] at hu;rcases hu with rfl|rfl|rfl|rfl|rfl|rfl|rfl|rfl|rfl|rfl<;>rfl) (fun w H=>?_)
  replace H:=H.h1 (A:=blk b9 [.int .i64 4,.int .i64 ((M.sp:Nat):Int),.int .i64 M.att,.int .i64 0,.int .i64 0,.int .i64 0,.int .i64 0,.int .i64 0,.slice A11 ((Bj dg C.J M.sp M.att).length) c12,.slice none 0 0] 64)|>.p2|>.p2
  refine AE ⟨_,H⟩ (BP ?_)
  replace H:=H.p3.p3
  exact EA (b9,.slice A11 ((Bj dg C.J M.sp M.att).length) c12) ⟨rfl,rfl,rfl,trivial⟩ H
 rintro ⟨bb,uv⟩ w H
 refine HF (σ:=Int×Int×Value×List Int) (fun (kd,wy,sv,se)=>[(0,.pointer (some ⟨b,0,none⟩)),(3,.pointer (some ⟨b1,0,none⟩)),(5,.pointer (some ⟨bb,0,none⟩))]) (fun (kd,wy,sv,se) w=>(Hd w0 F0 w [blk bb [.int .i64 kd,.int .i64 ((M.sp:Nat):Int),.int .i64 M.att,.int .i64 0,.int .i64 0,.int .i64 0,.int .i64 0,.int .i64 wy,sv,.slice none 0 0] 64,Y (Ai .i64) sv se,blk b1 [.int .i64 ((M.sp:Nat):Int),.int .i64 M.att,.pointer (some ⟨mb,0,none⟩)] 215,BW mb C.J M] [blk b [vS,.int .i64 J2.parts,vM,vC,vR,.int .i64 J2.chunk,.int .i64 J2.window,.int .i64 J2.fuel,vK,.int .i64 C.w,.int .i64 C.t,.int .i64 C.o,.int .i64 ep,pv,.map (some kb),tv,.int .u32 (BI ov)] 210,Z (Am Ag) vS J2.us,Z Af vM J2.map,Z Af vC J2.comb,Z Af vR J2.red,Z (Ai .i64) vK J2.marks,gl])∧((⟨0,0,⟨kd,M.sp,M.att,0,0,0,0,wy,se,[]⟩⟩:Ds)=doneL dg C.J M)) ?_ ?_
 ·refine Ab ?_
  obtain ⟨A16,c17,rfl,hc18,hm19,hp20⟩:=H.fA 1 rfl
  replace H:Hd _ _ _ [blk bb [.int .i64 4,.int .i64 ((M.sp:Nat):Int),.int .i64 M.att,.int .i64 0,.int .i64 0,.int .i64 0,.int .i64 0,.int .i64 0,.slice A16 ((Bj dg C.J M.sp M.att).length) c17,.slice none 0 0] 64,Y (Ai .i64) (.slice A16 ((Bj dg C.J M.sp M.att).length) c17) (Bj dg C.J M.sp M.att),blk b1 [.int .i64 ((M.sp:Nat):Int),.int .i64 M.att,.pointer (some ⟨mb,0,none⟩)] 215,BW mb C.J M] [blk b [vS,.int .i64 J2.parts,vM,vC,vR,.int .i64 J2.chunk,.int .i64 J2.window,.int .i64 J2.fuel,vK,.int .i64 C.w,.int .i64 C.t,.int .i64 C.o,.int .i64 ep,pv,.map (some kb),tv,.int .u32 (BI ov)] 210,Z (Am Ag) vS J2.us,Z Af vM J2.map,Z Af vC J2.comb,Z Af vR J2.red,Z (Ai .i64) vK J2.marks,gl]:=H
  refine Ae (V U U (Aj U IL U) (V U U (Ak U FJ U (H.cellI 2 U U)) ?_))
  replace H:=H.p3
  refine sc (Kp mb C.J M) H l0 U U (At H9 U U) ?_
  rintro _ _ w ⟨rfl,rfl⟩ H
  refine V U U (CX U U U) (Ac (Aa ?_))
  refine Ax U (fun h21=>?_) (fun h21=>?_)
  ·replace H:=H.p3.p3.p2
   refine BY (.e 0 (.e 1 (.e 2 (.e 3 (.e 4 (.e 5 (.m 6 (.e 7 (.m 8 .z))))))))) (fun w=>∃ Ar,Hd w0 F0 w (BW mb C.J M::Y (Ai .i64) (.slice A16 ((Bj dg C.J M.sp M.att).length) c17) (Bj dg C.J M.sp M.att)::blk b1 [.int .i64 ((M.sp:Nat):Int),.int .i64 M.att,.pointer (some ⟨mb,0,none⟩)] 215::Ar) [blk b [vS,.int .i64 J2.parts,vM,vC,vR,.int .i64 J2.chunk,.int .i64 J2.window,.int .i64 J2.fuel,vK,.int .i64 C.w,.int .i64 C.t,.int .i64 C.o,.int .i64 ep,pv,.map (some kb),tv,.int .u32 (BI ov)] 210,Z (Am Ag) vS J2.us,Z Af vM J2.map,Z Af vC J2.comb,Z Af vR J2.red,Z (Ai .i64) vK J2.marks,gl]) mo (by kernel_rfl) (fun w H=>⟨_,H⟩) H (fun w H=>(Ao U U U (fun w ⟨Ar,H⟩=>Aj U LB U) (Ao U U U (fun w ⟨Ar,H⟩=>Ak U AB U (H.cellI 2 U U)) (Ao U U U (fun w ⟨Ar,H⟩=>Aj U LC U) ?_))))
   refine Ao U U U (fun w ⟨Ar,H⟩=>Ak U AB U (H.cellI 2 U U)) (Ao U U U (fun w ⟨Ar,H⟩=>Aj U IL U) (Ao U U U (fun w ⟨Ar,H⟩=>Ak U FJ U (H.cellI 2 U U)) (AO U (sc (Kp mb C.J M) H l0 U U (At H9 U U) ?_))))
   rintro _ _ w ⟨rfl,rfl⟩ H
   refine AE ⟨_,H⟩ (Ao U U U (fun w ⟨Ar,H⟩=>Co (parts:=[(0,.const (.int .i64 5)),(1,.tmp 22),(2,.tmp 24),(7,.tmp 27)]) (vs:=[.int .i64 5,.int .i64 ((M.sp:Nat):Int),.int .i64 M.att,.int .i64 ((Ay dg C.J M.sp).2)]) (cs:=[.int .i64 5,.int .i64 ((M.sp:Nat):Int),.int .i64 M.att,.int .i64 0,.int .i64 0,.int .i64 0,.int .i64 0,.int .i64 ((Ay dg C.J M.sp).2),.slice none 0 0,.slice none 0 0]) U EI U U) (AO U ?_))
   replace H:=H.p3
   refine BE U U U E6 U U H U (Nat.le_of_ble_eq_true U) (fun u hu=>by simp [Value.cells] at hu;rcases hu with rfl|rfl|rfl|rfl|rfl|rfl|rfl|rfl|rfl|rfl<;>rfl) (fun w H=>?_)
   replace H:=H.h1 (A:=blk bb [.int .i64 5,.int .i64 ((M.sp:Nat):Int),.int .i64 M.att,.int .i64 0,.int .i64 0,.int .i64 0,.int .i64 0,.int .i64 ((Ay dg C.J M.sp).2),.slice none 0 0,.slice none 0 0] 64)|>.p3|>.p3|>.p3
   refine AE ⟨_,H⟩ (BP ?_)
   replace H:=H.newnil (Ai .i64)|>.p3|>.p1|>.p4|>.k4
   exact EA (5,(Ay dg C.J M.sp).2,.slice none 0 0,[]) ⟨rfl,rfl,rfl,trivial⟩ ⟨H,by unfold doneL;rw [if_pos h21]⟩
  refine Av ?_
  replace H:=H.p3.p3.p3
  exact EA (4,0,.slice A16 ((Bj dg C.J M.sp M.att).length) c17,Bj dg C.J M.sp M.att) ⟨rfl,rfl,rfl,trivial⟩ ⟨H,by unfold doneL;rw [if_neg h21]⟩
 rintro ⟨kd,wy,sv,se⟩ w ⟨H,hd⟩
 refine Ab ?_
 obtain ⟨A22,c23,rfl,hc24,hm25,hp26⟩:=H.fA 1 rfl
 replace H:Hd _ _ _ [blk bb [.int .i64 kd,.int .i64 ((M.sp:Nat):Int),.int .i64 M.att,.int .i64 0,.int .i64 0,.int .i64 0,.int .i64 0,.int .i64 wy,.slice A22 se.length c23,.slice none 0 0] 64,Y (Ai .i64) (.slice A22 se.length c23) se,blk b1 [.int .i64 ((M.sp:Nat):Int),.int .i64 M.att,.pointer (some ⟨mb,0,none⟩)] 215,BW mb C.J M] [blk b [vS,.int .i64 J2.parts,vM,vC,vR,.int .i64 J2.chunk,.int .i64 J2.window,.int .i64 J2.fuel,vK,.int .i64 C.w,.int .i64 C.t,.int .i64 C.o,.int .i64 ep,pv,.map (some kb),tv,.int .u32 (BI ov)] 210,Z (Am Ag) vS J2.us,Z Af vM J2.map,Z Af vC J2.comb,Z Af vR J2.red,Z (Ai .i64) vK J2.marks,gl]:=H
 refine Ae (V U U (Bq (cs:=[.int .i64 kd,.int .i64 ((M.sp:Nat):Int),.int .i64 M.att,.int .i64 0,.int .i64 0,.int .i64 0,.int .i64 0,.int .i64 wy,.slice A22 se.length c23,.slice none 0 0]) U E6 U U (H.cellsI 0 U U)) (V U U (Co (parts:=[(2,.tmp 29)]) (vs:=[.agg #[.int .i64 kd,.int .i64 ((M.sp:Nat):Int),.int .i64 M.att,.int .i64 0,.int .i64 0,.int .i64 0,.int .i64 0,.int .i64 wy,.slice A22 se.length c23,.slice none 0 0]]) (cs:=[.int .i64 0,.int .i64 0,.int .i64 kd,.int .i64 ((M.sp:Nat):Int),.int .i64 M.att,.int .i64 0,.int .i64 0,.int .i64 0,.int .i64 0,.int .i64 wy,.slice A22 se.length c23,.slice none 0 0]) U Hg U U) (BX (parts:=[(0,.tmp 30)]) (vs:=[.agg #[.int .i64 0,.int .i64 0,.int .i64 kd,.int .i64 ((M.sp:Nat):Int),.int .i64 M.att,.int .i64 0,.int .i64 0,.int .i64 0,.int .i64 0,.int .i64 wy,.slice A22 se.length c23,.slice none 0 0]]) (cs:=[.int .i64 0,.int .i64 0,.int .i64 kd,.int .i64 ((M.sp:Nat):Int),.int .i64 M.att,.int .i64 0,.int .i64 0,.int .i64 0,.int .i64 0,.int .i64 wy,.slice A22 se.length c23,.slice none 0 0]) U U U DL E9 U (by decide) (by decide) U U H (fun b27 w H=>?_))))
 replace H:=H.h1 (A:=blk b27 [.int .i64 0,.int .i64 0,.int .i64 kd,.int .i64 ((M.sp:Nat):Int),.int .i64 M.att,.int .i64 0,.int .i64 0,.int .i64 0,.int .i64 0,.int .i64 wy,.slice A22 se.length c23,.slice none 0 0] 121)
 refine Ad U (Ac (Aa (Ab (Ab ?_))))
 replace H:Hd w0 F0 w [Y B0 (.slice (some ⟨b27,0,none⟩) 1 1) [(⟨⟨0,0,⟨kd,((M.sp:Nat):Int),M.att,0,0,0,0,wy⟩⟩,⟨A22,se.length,c23⟩,⟨none,0,0⟩⟩:D2 BM)],blk bb [.int .i64 kd,.int .i64 ((M.sp:Nat):Int),.int .i64 M.att,.int .i64 0,.int .i64 0,.int .i64 0,.int .i64 0,.int .i64 wy,.slice A22 se.length c23,.slice none 0 0] 64,Y (Ai .i64) (.slice A22 se.length c23) se,blk b1 [.int .i64 ((M.sp:Nat):Int),.int .i64 M.att,.pointer (some ⟨mb,0,none⟩)] 215,BW mb C.J M] [blk b [vS,.int .i64 J2.parts,vM,vC,vR,.int .i64 J2.chunk,.int .i64 J2.window,.int .i64 J2.fuel,vK,.int .i64 C.w,.int .i64 C.t,.int .i64 C.o,.int .i64 ep,pv,.map (some kb),tv,.int .u32 (BI ov)] 210,Z (Am Ag) vS J2.us,Z Af vM J2.map,Z Af vC J2.comb,Z Af vR J2.red,Z (Ai .i64) vK J2.marks,gl]:=H.turn (fun F h=>HE h rfl (by decide) rfl)
 obtain ⟨z0,hz0⟩:∃ z:A_ BM,z=(⟨⟨0,0,⟨kd,M.sp,M.att,0,0,0,0,wy⟩⟩,.slice A22 se.length c23,se,.slice none 0 0,[]⟩:A_ BM):=⟨_,rfl⟩
 replace H:Hd w0 F0 w [Y B0 (.slice (some ⟨b27,0,none⟩) 1 1) ([z0].map AY),blk bb [.int .i64 kd,.int .i64 ((M.sp:Nat):Int),.int .i64 M.att,.int .i64 0,.int .i64 0,.int .i64 0,.int .i64 0,.int .i64 wy,.slice A22 se.length c23,.slice none 0 0] 64,Y (Ai .i64) (.slice A22 se.length c23) se,blk b1 [.int .i64 ((M.sp:Nat):Int),.int .i64 M.att,.pointer (some ⟨mb,0,none⟩)] 215,BW mb C.J M] [blk b [vS,.int .i64 J2.parts,vM,vC,vR,.int .i64 J2.chunk,.int .i64 J2.window,.int .i64 J2.fuel,vK,.int .i64 C.w,.int .i64 C.t,.int .i64 C.o,.int .i64 ep,pv,.map (some kb),tv,.int .u32 (BI ov)] 210,Z (Am Ag) vS J2.us,Z Af vM J2.map,Z Af vC J2.comb,Z Af vR J2.red,Z (Ai .i64) vK J2.marks,gl]:=by rw [hz0];exact H
 refine Ae (V U U (Aj U IL U) (V U U (Ak U FJ U (H.cellI 3 U U)) ?_))
 replace H:=H.p4
 refine sc (Qb mb C.J M (by first |assumption|omega) (by first |assumption|omega)) H l0 U U (At Py U U) ?_
 rintro v30 _ w ⟨zs28,rfl,hf29⟩ H
 replace H:=H.h1 (A:=Y J1 v30 zs28)
 obtain ⟨A31,c32,rfl,hc33,hm34,hp35⟩:=H.fA 0 rfl
 replace H:=Hd.twO H
 replace H:=H.h2 (A:=Y DG (.slice A31 zs28.length c32) (zs28.map AY)) (B:=Br zs28)
 have hzl4:=P1 hM hf29
 have hzf:(zs28.map AY).length=zs28.length:=List.length_map ..
 refine V U U (A8 U RH U) (Ad U (Ac (Aa (AS ?_))))
 replace H:=H.h4 (D:=Y B0 (.slice (some ⟨b27,0,none⟩) 1 1) (([z0]++(zs28.take 0).map (lf C)).map AY))|>.p5|>.p2|>.p4|>.p3|>.k5
 refine BQ (σ:=Nat×Value) (fun (k,q)=>[(0,.pointer (some ⟨b,0,none⟩)),(6,q),(34,.slice A31 zs28.length c32),(35,.int .i64 ((zs28.length:Nat):Int)),(36,.int .i64 ((k:Nat):Int))]) (fun (k,q) w=>(Hd w0 F0 w [Y DG (.slice A31 zs28.length c32) (zs28.map AY),Y B0 q (([z0]++(zs28.take k).map (lf C)).map AY),Br zs28,Y (Ai .i64) (.slice A22 se.length c23) se,BW mb C.J M] [blk b [vS,.int .i64 J2.parts,vM,vC,vR,.int .i64 J2.chunk,.int .i64 J2.window,.int .i64 J2.fuel,vK,.int .i64 C.w,.int .i64 C.t,.int .i64 C.o,.int .i64 ep,pv,.map (some kb),tv,.int .u32 (BI ov)] 210,Z (Am Ag) vS J2.us,Z Af vM J2.map,Z Af vC J2.comb,Z Af vR J2.red,Z (Ai .i64) vK J2.marks,gl])∧(k≤(zs28.map AY).length)) (fun (k,q)=>(zs28.map AY).length - k) (0,.slice (some ⟨b27,0,none⟩) 1 1) ⟨rfl,rfl,rfl,rfl,rfl,trivial⟩ ⟨H,Nat.zero_le _⟩ ?_
 rintro ⟨k,q⟩ w ⟨H,hk⟩
 have hlt9:(([z0]++(zs28.take k).map (lf C)).map AY).length≤k+1:=by simp only [List.length_map,List.length_append,List.length_cons,List.length_nil,List.length_take];omega
 refine Ab (Ae (V U U (Bd U U U) (Ac (Aa (Ab ?_)))))
 refine Ax U (fun h36=>?_) (fun h36=>?_)
 ·refine Av (Aa (Ab (AS (Ab (Ae ?_)))))
  obtain ⟨x37,hx38⟩:∃ z9,(zs28.map AY)[k]?=some z9:=⟨_,List.getElem?_eq_getElem (show k<(zs28.map AY).length by omega)⟩
  have th39:=H.thA 0 rfl hx38
  refine V U U (AZ (p:=AP A31+k*10) U Jh U U (by omega) (by omega) th39 U) (V U U (Bq (cs:=[.int .i64 x37.h.kind,.int .i64 x37.h.sp,.int .i64 x37.h.att,.int .i64 x37.h.part,.int .i64 x37.h.seq,.int .i64 x37.h.next,.int .i64 x37.h.ep,.int .i64 x37.h.why,.slice x37.hs.A x37.hs.n x37.hs.c,.slice x37.hp.A x37.hp.n x37.hp.c]) U E6 U U (H.elsA 0 U hx38 U)) (Dg U U U IA H (fun b40 w H=>(BE U U U E6 U U H U (Nat.le_of_ble_eq_true U) (fun u hu=>by simp [Value.cells] at hu;rcases hu with rfl|rfl|rfl|rfl|rfl|rfl|rfl|rfl|rfl|rfl<;>rfl) (fun w H=>?_)))))
  replace H:=H.h3 (A:=blk b40 [.int .i64 x37.h.kind,.int .i64 x37.h.sp,.int .i64 x37.h.att,.int .i64 x37.h.part,.int .i64 x37.h.seq,.int .i64 x37.h.next,.int .i64 x37.h.ep,.int .i64 x37.h.why,.slice x37.hs.A x37.hs.n x37.hs.c,.slice x37.hp.A x37.hp.n x37.hp.c] 64) (C:=Y B0 q (([z0]++(zs28.take k).map (lf C)).map AY))
  refine Ac (Aa ?_)
  obtain ⟨m9,hm9,hxe9⟩:=P0 hx38
  have hp64:AA x37.h.part:=by rw [hxe9];exact Qy hM hf29 hm9
  replace H:=H.p5.p5.p5.p4.p4
  refine BY (.e 0 (.e 1 (.e 2 (.e 3 (.e 4 (.e 5 (.e 6 (.e 8 (.m 7 (.e 9 (.m 10 (.m 11 (.e 12 .z))))))))))))) (fun w=>∃ Ar,Hd w0 F0 w (blk b40 [.int .i64 x37.h.kind,.int .i64 x37.h.sp,.int .i64 x37.h.att,.int .i64 x37.h.part,.int .i64 x37.h.seq,.int .i64 x37.h.next,.int .i64 x37.h.ep,.int .i64 x37.h.why,.slice x37.hs.A x37.hs.n x37.hs.c,.slice x37.hp.A x37.hp.n x37.hp.c] 64::Y DG (.slice A31 zs28.length c32) (zs28.map AY)::Br zs28::Y (Ai .i64) (.slice A22 se.length c23) se::BW mb C.J M::Ar) [blk b [vS,.int .i64 J2.parts,vM,vC,vR,.int .i64 J2.chunk,.int .i64 J2.window,.int .i64 J2.fuel,vK,.int .i64 C.w,.int .i64 C.t,.int .i64 C.o,.int .i64 ep,pv,.map (some kb),tv,.int .u32 (BI ov)] 210,Z (Am Ag) vS J2.us,Z Af vM J2.map,Z Af vC J2.comb,Z Af vR J2.red,Z (Ai .i64) vK J2.marks,gl]) mo (by kernel_rfl) (fun w H=>⟨_,H⟩) H (fun w H=>?_)
  refine Au U (Au U (Ao U U U (fun w ⟨Ar,H⟩=>AH U U) (Ao U U U (fun w ⟨Ar,H⟩=>Aj U IK U) (Ao U U U (fun w ⟨Ar,H⟩=>Bq (cs:=[vS,.int .i64 J2.parts,vM,vC,vR,.int .i64 J2.chunk,.int .i64 J2.window,.int .i64 J2.fuel,vK,.int .i64 C.w,.int .i64 C.t,.int .i64 C.o]) U DE U U (H.cellsRI 0 U U)) (Ao U U U (fun w ⟨Ar,H⟩=>Aj U HW U) (Ao U U U (fun w ⟨Ar,H⟩=>Ak U AB U (H.cellI 0 U U)) (Ao U U U (fun w ⟨Ar,H⟩=>Bq (cs:=[.int .i64 x37.h.kind,.int .i64 x37.h.sp,.int .i64 x37.h.att,.int .i64 x37.h.part,.int .i64 x37.h.seq,.int .i64 x37.h.next,.int .i64 x37.h.ep,.int .i64 x37.h.why,.slice x37.hs.A x37.hs.n x37.hs.c,.slice x37.hp.A x37.hp.n x37.hp.c]) U E6 U U (H.cellsI 0 U U)) (AO U (sc (J0 vS vM vC vR vK (Cu J2 C) x37.h.part (by first |assumption|omega)) H (lR 1 U (lR 2 U (lR 3 U (lR 4 U (lR 5 U l0))))) U U (At J_ U U) ?_)))))))))
  rintro _ _ w ⟨rfl,rfl⟩ H
  refine AE ⟨_,H⟩ (Ao U U U (fun w ⟨Ar,H⟩=>Co (parts:=[(1,.tmp 47),(2,.tmp 48)]) (vs:=[.int .i64 (C4 (Cu J2 C) x37.h.part),.agg #[.int .i64 x37.h.kind,.int .i64 x37.h.sp,.int .i64 x37.h.att,.int .i64 x37.h.part,.int .i64 x37.h.seq,.int .i64 x37.h.next,.int .i64 x37.h.ep,.int .i64 x37.h.why,.slice x37.hs.A x37.hs.n x37.hs.c,.slice x37.hp.A x37.hp.n x37.hp.c]]) (cs:=[.int .i64 0,.int .i64 (C4 (Cu J2 C) x37.h.part),.int .i64 x37.h.kind,.int .i64 x37.h.sp,.int .i64 x37.h.att,.int .i64 x37.h.part,.int .i64 x37.h.seq,.int .i64 x37.h.next,.int .i64 x37.h.ep,.int .i64 x37.h.why,.slice x37.hs.A x37.hs.n x37.hs.c,.slice x37.hp.A x37.hp.n x37.hp.c]) U Hg U U) (AO U (BX (parts:=[(0,.tmp 49)]) (vs:=[.agg #[.int .i64 0,.int .i64 (C4 (Cu J2 C) x37.h.part),.int .i64 x37.h.kind,.int .i64 x37.h.sp,.int .i64 x37.h.att,.int .i64 x37.h.part,.int .i64 x37.h.seq,.int .i64 x37.h.next,.int .i64 x37.h.ep,.int .i64 x37.h.why,.slice x37.hs.A x37.hs.n x37.hs.c,.slice x37.hp.A x37.hp.n x37.hp.c]]) (cs:=[.int .i64 0,.int .i64 (C4 (Cu J2 C) x37.h.part),.int .i64 x37.h.kind,.int .i64 x37.h.sp,.int .i64 x37.h.att,.int .i64 x37.h.part,.int .i64 x37.h.seq,.int .i64 x37.h.next,.int .i64 x37.h.ep,.int .i64 x37.h.why,.slice x37.hs.A x37.hs.n x37.hs.c,.slice x37.hp.A x37.hp.n x37.hp.c]) U U U DL E9 U (by decide) (by decide) U U H (fun b41 w H=>?_))))
  replace H:=H.h1 (A:=blk b41 [.int .i64 0,.int .i64 (C4 (Cu J2 C) x37.h.part),.int .i64 x37.h.kind,.int .i64 x37.h.sp,.int .i64 x37.h.att,.int .i64 x37.h.part,.int .i64 x37.h.seq,.int .i64 x37.h.next,.int .i64 x37.h.ep,.int .i64 x37.h.why,.slice x37.hs.A x37.hs.n x37.hs.c,.slice x37.hp.A x37.hp.n x37.hp.c] 121)|>.p5|>.p5|>.p5|>.p5|>.p5
  refine AE ⟨_,H⟩ (AO U ?_)
  replace H:=H.p6
  refine Ct (xs:=([z0]++(zs28.take k).map (lf C)).map AY) (ys:=[(⟨⟨0,C4 (Cu J2 C) x37.h.part,⟨x37.h.kind,x37.h.sp,x37.h.att,x37.h.part,x37.h.seq,x37.h.next,x37.h.ep,x37.h.why⟩⟩,⟨x37.hs.A,x37.hs.n,x37.hs.c⟩,⟨x37.hp.A,x37.hp.n,x37.hp.c⟩⟩:D2 BM)]) U U U DL E9 U (by decide) U U H (by first |omega|(simp only [List.length_append,List.length_cons,List.length_nil,List.length_map];omega)) (fun F hA hR=>Cm (hA _ (List.mem_of_getElem? (i:=5) U)) U (by decide) (AW.flat_eq.2 U)) (fun v42 w H=>?_)
  replace H:=H.h1 (A:=Y B0 v42 ((([z0]++(zs28.take k).map (lf C)).map AY)++[(⟨⟨0,C4 (Cu J2 C) x37.h.part,⟨x37.h.kind,x37.h.sp,x37.h.att,x37.h.part,x37.h.seq,x37.h.next,x37.h.ep,x37.h.why⟩⟩,⟨x37.hs.A,x37.hs.n,x37.hs.c⟩,⟨x37.hp.A,x37.hp.n,x37.hp.c⟩⟩:D2 BM)]))|>.p5|>.p5|>.p5|>.p5|>.p5
  refine AE ⟨_,H⟩ (Au U (BP (AU (Aa (Ae (V U U (AT (z:=((k+1:Nat):Int)) U U U (by rw [AC (by omega) (by omega)];omega)) (Ad U (Ac ?_))))))))
  replace H:=H.p4.p4.p4.p5.p5.k5
  replace H:Hd w0 F0 w [Y DG (.slice A31 zs28.length c32) (zs28.map AY),Y B0 v42 (([z0]++(zs28.take (k+1)).map (lf C)).map AY),Br zs28,Y (Ai .i64) (.slice A22 se.length c23) se,BW mb C.J M] [blk b [vS,.int .i64 J2.parts,vM,vC,vR,.int .i64 J2.chunk,.int .i64 J2.window,.int .i64 J2.fuel,vK,.int .i64 C.w,.int .i64 C.t,.int .i64 C.o,.int .i64 ep,pv,.map (some kb),tv,.int .u32 (BI ov)] 210,Z (Am Ag) vS J2.us,Z Af vM J2.map,Z Af vC J2.comb,Z Af vR J2.red,Z (Ai .i64) vK J2.marks,gl]:=by rw [(Jd hsj).home,hxe9] at H;rw [Mf hm9,←List.append_assoc,List.map_append];exact H
  exact Bi (s:=(k,undef)) (k+1,v42) ⟨rfl,rfl,rfl,rfl,rfl,trivial⟩ ⟨H,by (try dsimp only);omega⟩ (by (try dsimp only);omega)
 refine BC (AM (AM (BD (Aa (Ab (Ae (Ah 2 U (Ac (Aa (An (Aq U U ?_)))))))))))
 replace H:=H.h2 (B:=Y B0 q (([z0]++(zs28.take k).map (lf C)).map AY))
 replace H:Hd w0 F0 w [Y DG (.slice A31 zs28.length c32) (zs28.map AY),Y B0 q ((z0::zs28.map (lf C)).map AY),Br zs28,Y (Ai .i64) (.slice A22 se.length c23) se,BW mb C.J M] [blk b [vS,.int .i64 J2.parts,vM,vC,vR,.int .i64 J2.chunk,.int .i64 J2.window,.int .i64 J2.fuel,vK,.int .i64 C.w,.int .i64 C.t,.int .i64 C.o,.int .i64 ep,pv,.map (some kb),tv,.int .u32 (BI ov)] 210,Z (Am Ag) vS J2.us,Z Af vM J2.map,Z Af vC J2.comb,Z Af vR J2.red,Z (Ai .i64) vK J2.marks,gl]:=by rw [List.take_of_length_le (l:=zs28) (by omega)] at H;exact H
 replace H:=H.p4.p2.p3.p4.k4
 rw [←Rq C] at H
 subst hz0
 replace H:=H.newnil Ag|>.p1
 replace H:=Hd.twC (r:=(⟨⟨0,0,⟨kd,M.sp,M.att,0,0,0,0,wy⟩⟩,.slice A22 se.length c23,se,.slice none 0 0,[]⟩:A_ BM)) H
 replace H:Hd _ _ _ [Br ((⟨⟨0,0,⟨kd,M.sp,M.att,0,0,0,0,wy⟩⟩,.slice A22 se.length c23,se,.slice none 0 0,[]⟩:A_ BM)::zs28.map (lf C)),Y B0 q (((⟨⟨0,0,⟨kd,M.sp,M.att,0,0,0,0,wy⟩⟩,.slice A22 se.length c23,se,.slice none 0 0,[]⟩:A_ BM)::zs28.map (lf C)).map AY),BW mb C.J M] [blk b [vS,.int .i64 J2.parts,vM,vC,vR,.int .i64 J2.chunk,.int .i64 J2.window,.int .i64 J2.fuel,vK,.int .i64 C.w,.int .i64 C.t,.int .i64 C.o,.int .i64 ep,pv,.map (some kb),tv,.int .u32 (BI ov)] 210,Z (Am Ag) vS J2.us,Z Af vM J2.map,Z Af vC J2.comb,Z Af vR J2.red,Z (Ai .i64) vK J2.marks,gl]:=H
 replace H:=H.p1
 replace H:=Hd.twI H
 replace H:=H.h1 (A:=Y BZ q ((⟨⟨0,0,⟨kd,M.sp,M.att,0,0,0,0,wy⟩⟩,.slice A22 se.length c23,se,.slice none 0 0,[]⟩:A_ BM)::zs28.map (lf C)))
 exact Al ⟨((⟨⟨0,0,⟨kd,M.sp,M.att,0,0,0,0,wy⟩⟩,.slice A22 se.length c23,se,.slice none 0 0,[]⟩:A_ BM)::zs28.map (lf C)),rfl,ZE hd hf29⟩ H
theorem KZ (b:Nat) (C:Cf) (W:CC) (hC:C5 C) (hJ:Cb C.J) (hWt:∀ M∈W.ts,ER M) (hWr:∀ R∈W.rs,Cv 99999 R) (hl:W.ts.length≤1000∧W.rs.length≤1000):
    Cn Tryz.prog 72 [.pointer (some ⟨b,0,none⟩)] [Bp b C W] [gl] (fun v Bs=>∃ zs:List (A_ BM),Bs=[Y BZ v zs,Bp b C W]∧(zs.map Ca=Fr dg C W)):=by
 intro w0 F0 H
 refine enter Tryz.func72 U U (Nat.le_of_ble_eq_true U) (Ab (Ae (Ad U (Ac (Aa (Ab (Ab (Ae (Ad U (V U U (Dn U G8 U U) (Ah 2 U (sc (KY b C W) H l0 U U (At Kb U U) ?_))))))))))))
 rintro _ _ w ⟨rfl,rfl⟩ H
 refine Ad U (Ac (Aa ?_))
 replace H:Hd _ _ _ [Bp b C W] [gl]:=H
 refine DN (b:=W.over) U (fun h1=>?_) (fun h1=>?_)
 ·refine Ab (Ae (Ad U (Ac (Aa (An (Az (Aq U U ?_)))))))
  replace H:=H.newnil BZ
  have e:([]:List (A_ BM)).map Ca=Fr dg C W:=by unfold Fr;rw [if_pos (by simpa using h1)];rfl
  exact Al ⟨[],rfl,e⟩ H
 refine Av (Aa (Ab (Ae (Ad U (Ac (Aa (Ab (Ab ?_))))))))
 have hov:W.over=false:=by simpa using h1
 obtain ⟨vS2,vM3,vC4,vR5,vK6,J7,pv8,kb9,tv10,rl11,tl12,⟨hsj13,hrl14,htl15⟩,H⟩:=Hb b C W H
 replace H:Hd _ _ _ [blk b [vS2,.int .i64 J7.parts,vM3,vC4,vR5,.int .i64 J7.chunk,.int .i64 J7.window,.int .i64 J7.fuel,vK6,.int .i64 C.w,.int .i64 C.t,.int .i64 C.o,.int .i64 W.ep,pv8,.map (some kb9),tv10,.int .u32 (BI W.over)] 210,Y (Am Ag) vS2 J7.us,Y Af vM3 J7.map,Y Af vC4 J7.comb,Y Af vR5 J7.red,Y (Ai .i64) vK6 J7.marks,Y (Ai .i64) pv8 (rl11.map AF),Bx BO kb9 (rl11.map BR),B2 C rl11,Y Cd tv10 (tl12.map AI),Cg C.J tl12] [gl]:=H
 obtain ⟨A16,c17,rfl,hc18,hm19,hp20⟩:=H.fA 6 rfl
 obtain ⟨A21,c22,rfl,hc23,hm24,hp25⟩:=H.fA 9 rfl
 replace H:=H.newnil B0
 replace H:=Hd.tw0 (α:=BM) H
 replace H:=H.h1 (A:=Br ([]:List (A_ BM)))|>.h2 (B:=Y B0 (.slice none 0 0) (([]:List (A_ BM)).map AY))
 have hts:W.ts.length=tl12.length:=by rw [←htl15,List.length_map]
 have hrs:W.rs.length=rl11.length:=by rw [←hrl14,List.length_map]
 have htf:(tl12.map AI).length=tl12.length:=List.length_map ..
 have hrf:(rl11.map AF).length=rl11.length:=List.length_map ..
 refine Ae (Ad U (V U U (AH U U) (V U U (Aj U HP U) (V U U (Ak U Iu U (H.cellI 2 U U)) (V U U (A8 U M2 U) (Ad U (Ac (Aa (AS ?_)))))))))
 replace H:=H.p1.pick 12 rfl|>.pick 12 rfl|>.pick 12 rfl|>.pick 12 rfl|>.pick 12 rfl|>.pick 12 rfl|>.pick 12 rfl|>.pick 12 rfl|>.pick 12 rfl|>.pick 12 rfl|>.pick 12 rfl
 refine BQ (σ:=Nat×Value×List (A_ BM)) (fun (k,q,ls)=>[(0,.pointer (some ⟨b,0,none⟩)),(2,.slice none 0 0),(3,q),(17,.slice A21 ((tl12.map AI).length) c22),(18,.int .i64 (((tl12.map AI).length:Nat):Int)),(19,.int .i64 ((k:Nat):Int))]) (fun (k,q,ls) w=>(Hd w0 F0 w [blk b [vS2,.int .i64 J7.parts,vM3,vC4,vR5,.int .i64 J7.chunk,.int .i64 J7.window,.int .i64 J7.fuel,vK6,.int .i64 C.w,.int .i64 C.t,.int .i64 C.o,.int .i64 W.ep,.slice A16 ((rl11.map AF).length) c17,.map (some kb9),.slice A21 ((tl12.map AI).length) c22,.int .u32 (BI W.over)] 210,Y (Am Ag) vS2 J7.us,Y Af vM3 J7.map,Y Af vC4 J7.comb,Y Af vR5 J7.red,Y (Ai .i64) vK6 J7.marks,Y (Ai .i64) (.slice A16 ((rl11.map AF).length) c17) (rl11.map AF),Bx BO kb9 (rl11.map BR),B2 C rl11,Y Cd (.slice A21 ((tl12.map AI).length) c22) (tl12.map AI),Cg C.J tl12,Y B0 q (ls.map AY),Br ls] [gl])∧(k≤(tl12.map AI).length)∧(ls.map Ca=(W.ts.take k).flatMap (DD dg C))∧(ls.length≤4001*k)) (fun (k,q,ls)=>(tl12.map AI).length - k) (0,.slice none 0 0,[]) ⟨rfl,rfl,rfl,rfl,rfl,rfl,trivial⟩ ⟨H,Nat.zero_le _,rfl,Nat.zero_le _⟩ ?_
 rintro ⟨k,q,ls⟩ w ⟨H,hk,hz,hll⟩
 have hlf:(ls.map AY).length=ls.length:=List.length_map ..
 refine Ab (Ae (V U U (Bd U U U) (Ac (Aa (Ab ?_)))))
 refine Ax U (fun h26=>?_) (fun h26=>?_)
 ·refine Av (Aa (Ab (AS (Ab (Ae ?_)))))
  obtain ⟨x27,hx28⟩:∃ z9,(tl12.map AI)[k]?=some z9:=⟨_,List.getElem?_eq_getElem (show k<(tl12.map AI).length by omega)⟩
  have th29:=H.thA 9 rfl hx28
  refine V U U (AZ (p:=AP A21+k*3) U KM U U (by omega) (by omega) th29 U) (V U U (Bq (cs:=[.int .i64 x27.sp,.int .i64 x27.att,.pointer (some ⟨x27.b,0,none⟩)]) U Jq U U (H.elsA 9 U hx28 U)) (Dg U U U K6 H (fun b30 w H=>(BE U U U Jq U U H U (Nat.le_of_ble_eq_true U) (fun u hu=>by simp [Value.cells] at hu;rcases hu with rfl|rfl|rfl<;>rfl) (fun w H=>?_)))))
  replace H:Hd _ _ _ [blk b30 [.int .i64 x27.sp,.int .i64 x27.att,.pointer (some ⟨x27.b,0,none⟩)] 215,blk b [vS2,.int .i64 J7.parts,vM3,vC4,vR5,.int .i64 J7.chunk,.int .i64 J7.window,.int .i64 J7.fuel,vK6,.int .i64 C.w,.int .i64 C.t,.int .i64 C.o,.int .i64 W.ep,.slice A16 ((rl11.map AF).length) c17,.map (some kb9),.slice A21 ((tl12.map AI).length) c22,.int .u32 (BI W.over)] 210,Y (Am Ag) vS2 J7.us,Y Af vM3 J7.map,Y Af vC4 J7.comb,Y Af vR5 J7.red,Y (Ai .i64) vK6 J7.marks,Y (Ai .i64) (.slice A16 ((rl11.map AF).length) c17) (rl11.map AF),Bx BO kb9 (rl11.map BR),B2 C rl11,Y Cd (.slice A21 ((tl12.map AI).length) c22) (tl12.map AI),Cg C.J tl12,Y B0 q (ls.map AY),Br ls] [gl]:=H
  refine Ac (Aa ?_)
  obtain ⟨e9,he9,hw9,hxe9⟩:=KQ htl15 hx28
  subst hxe9
  have hM9:ER e9.2:=hWt _ (List.mem_of_getElem? hw9)
  replace H:=H.h1 (A:=blk b30 [.int .i64 ((AI e9).sp),.int .i64 ((AI e9).att),.pointer (some ⟨(AI e9).b,0,none⟩)] 215)
  refine Ae (Ah 2 U (V U U (Bq (cs:=[.int .i64 ((AI e9).sp),.int .i64 ((AI e9).att),.pointer (some ⟨(AI e9).b,0,none⟩)]) U Jq U U (H.cellsI 0 U U)) ?_))
  replace H:=H.pick 11 rfl
  replace H:=Hd.bigO (f:=(fun e:Nat×BH=>BW e.1 C.J e.2)) k he9 H
  replace H:=H.h2 (A:=BW e9.1 C.J e9.2) (B:=Bt (fun e:Nat×BH=>BW e.1 C.J e.2) (tl12.eraseIdx k))
  refine sc (aR b vS2 vM3 vC4 vR5 vK6 J7 C W.ep (.slice A16 ((rl11.map AF).length) c17) kb9 (.slice A21 ((tl12.map AI).length) c22) W.over e9.1 e9.2 (by first |assumption|omega|exact Cv.pairs (by assumption)) (by first |assumption|omega|exact Cv.pairs (by assumption)) (by first |assumption|omega|exact Cv.pairs (by assumption)) (by first |assumption|omega|exact Cv.pairs (by assumption))) H (lA 2 U (fun _ h=>h) (lA 3 U BJ (lA 4 U BJ (lA 5 U BJ (lA 6 U BJ (lA 7 U BJ (lR 0 U l0))))))) U U (At UW U U) ?_
  rintro v33 _ w ⟨zs31,rfl,hf32⟩ H
  replace H:=H.h1 (A:=Y BZ v33 zs31)|>.p2|>.p2
  replace H:=Hd.bigI (f:=(fun e:Nat×BH=>BW e.1 C.J e.2)) (x:=e9) k (Ki he9) H
  rw [KI he9] at H
  replace H:Hd _ _ _ [Cg C.J tl12,Y BZ v33 zs31,blk b30 [.int .i64 ((AI e9).sp),.int .i64 ((AI e9).att),.pointer (some ⟨(AI e9).b,0,none⟩)] 215,blk b [vS2,.int .i64 J7.parts,vM3,vC4,vR5,.int .i64 J7.chunk,.int .i64 J7.window,.int .i64 J7.fuel,vK6,.int .i64 C.w,.int .i64 C.t,.int .i64 C.o,.int .i64 W.ep,.slice A16 ((rl11.map AF).length) c17,.map (some kb9),.slice A21 ((tl12.map AI).length) c22,.int .u32 (BI W.over)] 210,Y (Am Ag) vS2 J7.us,Y Af vM3 J7.map,Y Af vC4 J7.comb,Y Af vR5 J7.red,Y (Ai .i64) vK6 J7.marks,Y (Ai .i64) (.slice A16 ((rl11.map AF).length) c17) (rl11.map AF),Bx BO kb9 (rl11.map BR),B2 C rl11,Y Cd (.slice A21 ((tl12.map AI).length) c22) (tl12.map AI),Y B0 q (ls.map AY),Br ls] [gl]:=H
  have hz3l:zs31.length≤4001:=by have h:=congrArg List.length hf32;rw [List.length_map] at h;have h9:=ZF (D:=dg) (C:=C) hM9;omega
  obtain ⟨A34,c35,rfl,hc36,hm37,hp38⟩:=H.fA 1 rfl
  replace H:=H.p1
  replace H:=Hd.twO H
  replace H:=H.h2 (A:=Y B0 (.slice A34 zs31.length c35) (zs31.map AY)) (B:=Br zs31)|>.pick 14 rfl
  have hf3l:(zs31.map AY).length=zs31.length:=List.length_map ..
  refine Ct (xs:=ls.map AY) (ys:=zs31.map AY) U U U DL E9 U (by decide) U U H (by omega) (fun F hA hR=>BJ F (hA _ (List.mem_of_getElem? (i:=0) U))) (fun v39 w H=>?_)
  rw [←List.map_append] at H
  replace H:Hd _ _ _ [Y B0 v39 ((ls++zs31).map AY),Y B0 (.slice A34 zs31.length c35) (zs31.map AY),Br zs31,Cg C.J tl12,blk b30 [.int .i64 ((AI e9).sp),.int .i64 ((AI e9).att),.pointer (some ⟨(AI e9).b,0,none⟩)] 215,blk b [vS2,.int .i64 J7.parts,vM3,vC4,vR5,.int .i64 J7.chunk,.int .i64 J7.window,.int .i64 J7.fuel,vK6,.int .i64 C.w,.int .i64 C.t,.int .i64 C.o,.int .i64 W.ep,.slice A16 ((rl11.map AF).length) c17,.map (some kb9),.slice A21 ((tl12.map AI).length) c22,.int .u32 (BI W.over)] 210,Y (Am Ag) vS2 J7.us,Y Af vM3 J7.map,Y Af vC4 J7.comb,Y Af vR5 J7.red,Y (Ai .i64) vK6 J7.marks,Y (Ai .i64) (.slice A16 ((rl11.map AF).length) c17) (rl11.map AF),Bx BO kb9 (rl11.map BR),B2 C rl11,Y Cd (.slice A21 ((tl12.map AI).length) c22) (tl12.map AI),Br ls] [gl]:=H
  replace H:=H.p2.pick 15 rfl
  replace H:=Rt H
  replace H:=H.h1 (A:=Br (ls++zs31))|>.pick 14 rfl|>.pick 14 rfl|>.pick 14 rfl|>.pick 14 rfl|>.pick 14 rfl|>.pick 14 rfl|>.pick 14 rfl|>.pick 14 rfl|>.pick 14 rfl|>.pick 14 rfl|>.pick 14 rfl|>.pick 14 rfl|>.pick 13 rfl|>.pick 13 rfl|>.keep 14
  refine Ad U (Ac (AU (Aa (Ae (V U U (AT (z:=((k+1:Nat):Int)) U U U (by rw [AC (by omega) (by omega)];omega)) (Ad U (Ac ?_)))))))
  replace H:=H.p1.p2.pick 13 rfl|>.pick 13 rfl|>.pick 13 rfl|>.pick 13 rfl|>.pick 13 rfl|>.pick 13 rfl|>.pick 13 rfl|>.pick 13 rfl|>.pick 13 rfl|>.pick 13 rfl|>.keep 13
  exact Bi (s:=(k,undef,ls)) (k+1,v39,ls++zs31) ⟨rfl,rfl,rfl,rfl,rfl,rfl,trivial⟩ ⟨H,by (try dsimp only);omega,by rw [List.map_append,hz,hf32];exact (TM hw9).symm,by (try dsimp only);rw [List.length_append];omega⟩ (by (try dsimp only);omega)
 refine BC (AM (AM (BD (Aa (Ab (Ab (Ae (Ad U (V U U (AH U U) (V U U (Aj U JV U) (V U U (Ak U E5 U (H.cellI 0 U U)) (V U U (A8 U Ea U) (Ad U (Ac (Aa (AS ?_))))))))))))))))
 have hzA:ls.map Ca=W.ts.flatMap (DD dg C)++(W.rs.take 0).map (Hm dg C.J):=by rw [hz,List.take_of_length_le (by omega),List.take_zero,List.map_nil,List.append_nil]
 replace H:Hd _ _ _ [blk b [vS2,.int .i64 J7.parts,vM3,vC4,vR5,.int .i64 J7.chunk,.int .i64 J7.window,.int .i64 J7.fuel,vK6,.int .i64 C.w,.int .i64 C.t,.int .i64 C.o,.int .i64 W.ep,.slice A16 ((rl11.map AF).length) c17,.map (some kb9),.slice A21 ((tl12.map AI).length) c22,.int .u32 (BI W.over)] 210,Y (Am Ag) vS2 J7.us,Y Af vM3 J7.map,Y Af vC4 J7.comb,Y Af vR5 J7.red,Y (Ai .i64) vK6 J7.marks,Y (Ai .i64) (.slice A16 ((rl11.map AF).length) c17) (rl11.map AF),Bx BO kb9 (rl11.map BR),B2 C rl11,Y Cd (.slice A21 ((tl12.map AI).length) c22) (tl12.map AI),Cg C.J tl12,Y B0 q (ls.map AY),Br ls] [gl]:=H
 refine BQ (σ:=Nat×Value×List (A_ BM)) (fun (j,q2,l2)=>[(0,.pointer (some ⟨b,0,none⟩)),(2,.slice none 0 0),(3,q2),(32,.slice A16 ((rl11.map AF).length) c17),(33,.int .i64 (((rl11.map AF).length:Nat):Int)),(34,.int .i64 ((j:Nat):Int))]) (fun (j,q2,l2) w=>(Hd w0 F0 w [blk b [vS2,.int .i64 J7.parts,vM3,vC4,vR5,.int .i64 J7.chunk,.int .i64 J7.window,.int .i64 J7.fuel,vK6,.int .i64 C.w,.int .i64 C.t,.int .i64 C.o,.int .i64 W.ep,.slice A16 ((rl11.map AF).length) c17,.map (some kb9),.slice A21 ((tl12.map AI).length) c22,.int .u32 (BI W.over)] 210,Y (Am Ag) vS2 J7.us,Y Af vM3 J7.map,Y Af vC4 J7.comb,Y Af vR5 J7.red,Y (Ai .i64) vK6 J7.marks,Y (Ai .i64) (.slice A16 ((rl11.map AF).length) c17) (rl11.map AF),Bx BO kb9 (rl11.map BR),B2 C rl11,Y Cd (.slice A21 ((tl12.map AI).length) c22) (tl12.map AI),Cg C.J tl12,Y B0 q2 (l2.map AY),Br l2] [gl])∧(j≤(rl11.map AF).length)∧(l2.map Ca=W.ts.flatMap (DD dg C)++(W.rs.take j).map (Hm dg C.J))∧(l2.length≤4001000+j)) (fun (j,q2,l2)=>(rl11.map AF).length - j) (0,q,ls) ⟨rfl,rfl,rfl,rfl,rfl,rfl,trivial⟩ ⟨H,Nat.zero_le _,hzA,by (try dsimp only);omega⟩ ?_
 rintro ⟨j,q2,l2⟩ w ⟨H,hj,hz2,hl2⟩
 have hlf2:(l2.map AY).length=l2.length:=List.length_map ..
 refine Ab (Ae (V U U (Bd U U U) (Ac (Aa (Ab ?_)))))
 refine Ax U (fun h40=>?_) (fun h40=>?_)
 ·refine Av (Aa (Ab (AS (Ab (Ae ?_)))))
  obtain ⟨x41,hx42⟩:∃ z9,(rl11.map AF)[j]?=some z9:=⟨_,List.getElem?_eq_getElem (show j<(rl11.map AF).length by omega)⟩
  have th43:=H.thA 6 rfl hx42
  refine V U U (AZ (p:=AP A16+j*1) U Dx U U (by omega) (by omega) th43 U) (V U U (Ak U AB U (H.elA 6 U hx42 (q:=0) U U)) (Ad U (Ac (Aa ?_))))
  replace H:Hd _ _ _ [blk b [vS2,.int .i64 J7.parts,vM3,vC4,vR5,.int .i64 J7.chunk,.int .i64 J7.window,.int .i64 J7.fuel,vK6,.int .i64 C.w,.int .i64 C.t,.int .i64 C.o,.int .i64 W.ep,.slice A16 ((rl11.map AF).length) c17,.map (some kb9),.slice A21 ((tl12.map AI).length) c22,.int .u32 (BI W.over)] 210,Y (Am Ag) vS2 J7.us,Y Af vM3 J7.map,Y Af vC4 J7.comb,Y Af vR5 J7.red,Y (Ai .i64) vK6 J7.marks,Y (Ai .i64) (.slice A16 ((rl11.map AF).length) c17) (rl11.map AF),Bx BO kb9 (rl11.map BR),B2 C rl11,Y Cd (.slice A21 ((tl12.map AI).length) c22) (tl12.map AI),Cg C.J tl12,Y B0 q2 (l2.map AY),Br l2] [gl]:=H
  obtain ⟨e8,he8,hr8,rfl⟩:=Xx hrl14 hx42
  obtain ⟨_,_,_,_,hnd,_⟩:=(H.pick 7 rfl).mapKf
  refine Ae (Ah 2 U (V U U (AH U U) (V U U (Aj U LA U) (V U U (Ak U MZ U (H.cellI 0 U U)) (Ad U (V U U (QH Nf U M0 RU U (AF e8) U H 7 U ((Kf _ _).trans (congrArg Value.pointer (Yo hnd he8)))) ?_))))))
  replace H:=H.p8
  replace H:=Hd.bigO (f:=(fun e:Nat×AL=>FX e.1 C e.2)) j he8 H
  replace H:=H.h2 (A:=FX e8.1 C e8.2) (B:=Bt (fun e:Nat×AL=>FX e.1 C e.2) (rl11.eraseIdx j))
  obtain ⟨vS44,vM45,vC46,vR47,vK48,J49,sb50,hsj51,H⟩:=Yl e8.1 C e8.2 H
  replace H:=H.h1 (A:=Em e8.1 vS44 vM45 vC46 vR47 vK48 J49 C.w C.t C.o sb50 e8.2)
  have hB8:Cv 99999 e8.2:=hWr _ (List.mem_of_getElem? hr8)
  have hbp8:∀ i,(e8.2.g i).pairs.length≤1000:=hB8.pairs
  have h6:J49.us.length≤6:=by have:=hC.1.1;have:=hsj51.len;omega
  have hmk:J49.marks.length≤1000:=by have:=hC.1.2.2.1;rw [hsj51.marks];omega
  have hred:∀ i∈J49.red,AA i.a:=by rw [hsj51.red];exact hJ.red
  have hf64:AA J49.fuel:=by rw [hsj51.fuel];have:=hC.1.2.2.2.2.2.2.2.2.2.2;unfold AA;omega
  have hus:=hJ.us
  obtain ⟨hv52,vs53,us54,hsets55,H⟩:=Ym e8.1 vS44 vM45 vC46 vR47 vK48 J49 C.w C.t C.o sb50 e8.2 H
  replace H:=H.h9 (A:=blk e8.1 (Bw vS44 vM45 vC46 vR47 vK48 J49 C.w C.t C.o e8.2.part e8.2.ep e8.2.g hv52 sb50 vs53) 185) (B:=Y (Am Ag) vS44 J49.us) (C:=Y Af vM45 J49.map) (D:=Y Af vC46 J49.comb) (E:=Y Af vR47 J49.red) (F:=Y (Ai .i64) vK48 J49.marks) (G:=BN (e8.2.g) hv52) (I:=Y (Am (Ai .i64)) vs53 us54) (J:=CL 253 sb50 (e8.2.st))
  obtain ⟨A56,c57,rfl,hc58,hm59,hp60⟩:=H.fA 1 rfl
  refine sc (Um e8.1 A56 c57 vM45 vC46 vR47 vK48 J49 C.w C.t C.o e8.2.part e8.2.ep e8.2 hv52 sb50 vs53 (by first |assumption|omega|exact Cv.pairs (by assumption)) (by first |assumption|omega|exact Cv.pairs (by assumption)) (by first |assumption|omega|exact Cv.pairs (by assumption)) (by first |assumption|omega|exact Cv.pairs (by assumption)) (by first |assumption|omega|exact Cv.pairs (by assumption)) (by first |assumption|omega|exact Cv.pairs (by assumption))) H (lA 0 U (fun _ h=>h) (lA 6 U (fun _ h=>h) (lA 4 U BJ (lR 0 U l0)))) U U (At VJ U U) ?_
  rintro _ _ w ⟨u61,rfl,rfl⟩ H
  replace H:=H.h1 (A:=Y (Ai .i64) u61 ((AG dg J49 e8.2).set))|>.p9|>.p9|>.p9|>.p9|>.p9|>.p9|>.p9|>.p9|>.p9
  replace H:=QU e8.1 (.slice A56 J49.us.length c57) vM45 vC46 vR47 vK48 J49 C.w C.t C.o sb50 e8.2 hv52 vs53 us54 hsets55 H
  replace H:=H.h1 (A:=Em e8.1 (.slice A56 J49.us.length c57) vM45 vC46 vR47 vK48 J49 C.w C.t C.o sb50 e8.2)
  rw [Bf.hello hsj51] at H ⊢
  replace H:Hd _ _ _ [Em e8.1 (.slice A56 J49.us.length c57) vM45 vC46 vR47 vK48 J49 C.w C.t C.o sb50 e8.2,Y (Ai .i64) u61 ((AG dg C.J e8.2).set),Bt (fun e:Nat×AL=>FX e.1 C e.2) (rl11.eraseIdx j),blk b [vS2,.int .i64 J7.parts,vM3,vC4,vR5,.int .i64 J7.chunk,.int .i64 J7.window,.int .i64 J7.fuel,vK6,.int .i64 C.w,.int .i64 C.t,.int .i64 C.o,.int .i64 W.ep,.slice A16 ((rl11.map AF).length) c17,.map (some kb9),.slice A21 ((tl12.map AI).length) c22,.int .u32 (BI W.over)] 210,Y (Am Ag) vS2 J7.us,Y Af vM3 J7.map,Y Af vC4 J7.comb,Y Af vR5 J7.red,Y (Ai .i64) vK6 J7.marks,Y (Ai .i64) (.slice A16 ((rl11.map AF).length) c17) (rl11.map AF),Bx BO kb9 (rl11.map BR),Y Cd (.slice A21 ((tl12.map AI).length) c22) (tl12.map AI),Cg C.J tl12,Y B0 q2 (l2.map AY),Br l2] [gl]:=H
  replace H:=H.p2.p1
  replace H:=QT e8.1 C e8.2 (.slice A56 J49.us.length c57) vM45 vC46 vR47 vK48 J49 sb50 hsj51 H
  replace H:=H.h1 (A:=FX e8.1 C e8.2)
  replace H:=Hd.bigI (f:=(fun e:Nat×AL=>FX e.1 C e.2)) (x:=e8) j (Ki he8) H
  rw [KI he8] at H
  replace H:Hd _ _ _ [B2 C rl11,Y (Ai .i64) u61 ((AG dg C.J e8.2).set),blk b [vS2,.int .i64 J7.parts,vM3,vC4,vR5,.int .i64 J7.chunk,.int .i64 J7.window,.int .i64 J7.fuel,vK6,.int .i64 C.w,.int .i64 C.t,.int .i64 C.o,.int .i64 W.ep,.slice A16 ((rl11.map AF).length) c17,.map (some kb9),.slice A21 ((tl12.map AI).length) c22,.int .u32 (BI W.over)] 210,Y (Am Ag) vS2 J7.us,Y Af vM3 J7.map,Y Af vC4 J7.comb,Y Af vR5 J7.red,Y (Ai .i64) vK6 J7.marks,Y (Ai .i64) (.slice A16 ((rl11.map AF).length) c17) (rl11.map AF),Bx BO kb9 (rl11.map BR),Y Cd (.slice A21 ((tl12.map AI).length) c22) (tl12.map AI),Cg C.J tl12,Y B0 q2 (l2.map AY),Br l2] [gl]:=H
  obtain ⟨A62,c63,rfl,hc64,hm65,hp66⟩:=H.fA 1 rfl
  refine V U U (Co (parts:=[(2,.tmp 45)]) (vs:=[.agg #[.int .i64 ((AG dg C.J e8.2).kind),.int .i64 ((AG dg C.J e8.2).sp),.int .i64 ((AG dg C.J e8.2).att),.int .i64 ((AG dg C.J e8.2).part),.int .i64 ((AG dg C.J e8.2).seq),.int .i64 ((AG dg C.J e8.2).next),.int .i64 ((AG dg C.J e8.2).ep),.int .i64 ((AG dg C.J e8.2).why),.slice A62 (((AG dg C.J e8.2).set).length) c63,.slice none 0 0]]) (cs:=[.int .i64 0,.int .i64 0,.int .i64 ((AG dg C.J e8.2).kind),.int .i64 ((AG dg C.J e8.2).sp),.int .i64 ((AG dg C.J e8.2).att),.int .i64 ((AG dg C.J e8.2).part),.int .i64 ((AG dg C.J e8.2).seq),.int .i64 ((AG dg C.J e8.2).next),.int .i64 ((AG dg C.J e8.2).ep),.int .i64 ((AG dg C.J e8.2).why),.slice A62 (((AG dg C.J e8.2).set).length) c63,.slice none 0 0]) U Hg U U) (BX (parts:=[(0,.tmp 46)]) (vs:=[.agg #[.int .i64 0,.int .i64 0,.int .i64 ((AG dg C.J e8.2).kind),.int .i64 ((AG dg C.J e8.2).sp),.int .i64 ((AG dg C.J e8.2).att),.int .i64 ((AG dg C.J e8.2).part),.int .i64 ((AG dg C.J e8.2).seq),.int .i64 ((AG dg C.J e8.2).next),.int .i64 ((AG dg C.J e8.2).ep),.int .i64 ((AG dg C.J e8.2).why),.slice A62 (((AG dg C.J e8.2).set).length) c63,.slice none 0 0]]) (cs:=[.int .i64 0,.int .i64 0,.int .i64 ((AG dg C.J e8.2).kind),.int .i64 ((AG dg C.J e8.2).sp),.int .i64 ((AG dg C.J e8.2).att),.int .i64 ((AG dg C.J e8.2).part),.int .i64 ((AG dg C.J e8.2).seq),.int .i64 ((AG dg C.J e8.2).next),.int .i64 ((AG dg C.J e8.2).ep),.int .i64 ((AG dg C.J e8.2).why),.slice A62 (((AG dg C.J e8.2).set).length) c63,.slice none 0 0]) U U U DL E9 U (by decide) (by decide) U U H (fun b67 w H=>?_))
  replace H:=H.pick 13 rfl
  refine Ct (xs:=l2.map AY) (ys:=[(⟨⟨0,0,⟨(AG dg C.J e8.2).kind,(AG dg C.J e8.2).sp,(AG dg C.J e8.2).att,(AG dg C.J e8.2).part,(AG dg C.J e8.2).seq,(AG dg C.J e8.2).next,(AG dg C.J e8.2).ep,(AG dg C.J e8.2).why⟩⟩,⟨A62,((AG dg C.J e8.2).set).length,c63⟩,⟨none,0,0⟩⟩:D2 BM)]) U U U DL E9 U (by decide) U U H (by first |omega|(simp only [List.length_append,List.length_cons,List.length_nil,List.length_map];omega)) (fun F hA hR=>Cm (hA _ (List.mem_of_getElem? (i:=0) U)) U (by decide) (AW.flat_eq.2 U)) (fun v68 w H=>(Ad U (Ac (AU (Aa ?_)))))
  replace H:Hd _ _ _ [Y B0 v68 ((l2.map AY)++[(⟨⟨0,0,⟨(AG dg C.J e8.2).kind,(AG dg C.J e8.2).sp,(AG dg C.J e8.2).att,(AG dg C.J e8.2).part,(AG dg C.J e8.2).seq,(AG dg C.J e8.2).next,(AG dg C.J e8.2).ep,(AG dg C.J e8.2).why⟩⟩,⟨A62,((AG dg C.J e8.2).set).length,c63⟩,⟨none,0,0⟩⟩:D2 BM)]),blk b67 [.int .i64 0,.int .i64 0,.int .i64 ((AG dg C.J e8.2).kind),.int .i64 ((AG dg C.J e8.2).sp),.int .i64 ((AG dg C.J e8.2).att),.int .i64 ((AG dg C.J e8.2).part),.int .i64 ((AG dg C.J e8.2).seq),.int .i64 ((AG dg C.J e8.2).next),.int .i64 ((AG dg C.J e8.2).ep),.int .i64 ((AG dg C.J e8.2).why),.slice A62 (((AG dg C.J e8.2).set).length) c63,.slice none 0 0] 121,B2 C rl11,Y (Ai .i64) (.slice A62 (((AG dg C.J e8.2).set).length) c63) ((AG dg C.J e8.2).set),blk b [vS2,.int .i64 J7.parts,vM3,vC4,vR5,.int .i64 J7.chunk,.int .i64 J7.window,.int .i64 J7.fuel,vK6,.int .i64 C.w,.int .i64 C.t,.int .i64 C.o,.int .i64 W.ep,.slice A16 ((rl11.map AF).length) c17,.map (some kb9),.slice A21 ((tl12.map AI).length) c22,.int .u32 (BI W.over)] 210,Y (Am Ag) vS2 J7.us,Y Af vM3 J7.map,Y Af vC4 J7.comb,Y Af vR5 J7.red,Y (Ai .i64) vK6 J7.marks,Y (Ai .i64) (.slice A16 ((rl11.map AF).length) c17) (rl11.map AF),Bx BO kb9 (rl11.map BR),Y Cd (.slice A21 ((tl12.map AI).length) c22) (tl12.map AI),Cg C.J tl12,Br l2] [gl]:=H
  refine Ae (V U U (AT (z:=((j+1:Nat):Int)) U U U (by rw [AC (by omega) (by omega)];omega)) (Ad U (Ac ?_)))
  replace H:=H.pick 13 rfl|>.pick 13 rfl|>.p4|>.pick 13 rfl|>.pick 13 rfl|>.pick 13 rfl|>.pick 13 rfl|>.pick 13 rfl|>.pick 13 rfl|>.pick 13 rfl|>.pick 13 rfl|>.pick 11 rfl|>.pick 14 rfl|>.pick 14 rfl|>.keep 14|>.newnil Ag|>.p1
  replace H:=Hd.twN (r:=(⟨⟨0,0,⟨(AG dg C.J e8.2).kind,(AG dg C.J e8.2).sp,(AG dg C.J e8.2).att,(AG dg C.J e8.2).part,(AG dg C.J e8.2).seq,(AG dg C.J e8.2).next,(AG dg C.J e8.2).ep,(AG dg C.J e8.2).why⟩⟩,.slice A62 (((AG dg C.J e8.2).set).length) c63,(AG dg C.J e8.2).set,.slice none 0 0,[]⟩:A_ BM)) H
  replace H:=H.h1 (A:=Br (l2++[(⟨⟨0,0,⟨(AG dg C.J e8.2).kind,(AG dg C.J e8.2).sp,(AG dg C.J e8.2).att,(AG dg C.J e8.2).part,(AG dg C.J e8.2).seq,(AG dg C.J e8.2).next,(AG dg C.J e8.2).ep,(AG dg C.J e8.2).why⟩⟩,.slice A62 (((AG dg C.J e8.2).set).length) c63,(AG dg C.J e8.2).set,.slice none 0 0,[]⟩:A_ BM)]))
  replace H:Hd w0 F0 w [Br (l2++[(⟨⟨0,0,⟨(AG dg C.J e8.2).kind,(AG dg C.J e8.2).sp,(AG dg C.J e8.2).att,(AG dg C.J e8.2).part,(AG dg C.J e8.2).seq,(AG dg C.J e8.2).next,(AG dg C.J e8.2).ep,(AG dg C.J e8.2).why⟩⟩,.slice A62 (((AG dg C.J e8.2).set).length) c63,(AG dg C.J e8.2).set,.slice none 0 0,[]⟩:A_ BM)]),Y B0 v68 ((l2++[(⟨⟨0,0,⟨(AG dg C.J e8.2).kind,(AG dg C.J e8.2).sp,(AG dg C.J e8.2).att,(AG dg C.J e8.2).part,(AG dg C.J e8.2).seq,(AG dg C.J e8.2).next,(AG dg C.J e8.2).ep,(AG dg C.J e8.2).why⟩⟩,.slice A62 (((AG dg C.J e8.2).set).length) c63,(AG dg C.J e8.2).set,.slice none 0 0,[]⟩:A_ BM)]).map AY),blk b [vS2,.int .i64 J7.parts,vM3,vC4,vR5,.int .i64 J7.chunk,.int .i64 J7.window,.int .i64 J7.fuel,vK6,.int .i64 C.w,.int .i64 C.t,.int .i64 C.o,.int .i64 W.ep,.slice A16 ((rl11.map AF).length) c17,.map (some kb9),.slice A21 ((tl12.map AI).length) c22,.int .u32 (BI W.over)] 210,Y (Am Ag) vS2 J7.us,Y Af vM3 J7.map,Y Af vC4 J7.comb,Y Af vR5 J7.red,Y (Ai .i64) vK6 J7.marks,Y (Ai .i64) (.slice A16 ((rl11.map AF).length) c17) (rl11.map AF),Bx BO kb9 (rl11.map BR),B2 C rl11,Y Cd (.slice A21 ((tl12.map AI).length) c22) (tl12.map AI),Cg C.J tl12] [gl]:=by rw [List.map_append];exact H
  replace H:=H.p1.pick 12 rfl|>.pick 12 rfl|>.pick 12 rfl|>.pick 12 rfl|>.pick 12 rfl|>.pick 12 rfl|>.pick 12 rfl|>.pick 12 rfl|>.pick 12 rfl|>.pick 12 rfl|>.pick 12 rfl
  have hzn:(l2++[(⟨⟨0,0,⟨(AG dg C.J e8.2).kind,(AG dg C.J e8.2).sp,(AG dg C.J e8.2).att,(AG dg C.J e8.2).part,(AG dg C.J e8.2).seq,(AG dg C.J e8.2).next,(AG dg C.J e8.2).ep,(AG dg C.J e8.2).why⟩⟩,.slice A62 (((AG dg C.J e8.2).set).length) c63,(AG dg C.J e8.2).set,.slice none 0 0,[]⟩:A_ BM)]).map Ca=W.ts.flatMap (DD dg C)++(W.rs.take (j+1)).map (Hm dg C.J):=by rw [List.map_append,hz2,Mf hr8,←List.append_assoc];exact congrArg (fun m:Dt=>_++[(⟨0,0,m⟩:Ds)]) (Wv Un)
  exact Bi (s:=(j,undef,l2)) (j+1,v68,l2++[(⟨⟨0,0,⟨(AG dg C.J e8.2).kind,(AG dg C.J e8.2).sp,(AG dg C.J e8.2).att,(AG dg C.J e8.2).part,(AG dg C.J e8.2).seq,(AG dg C.J e8.2).next,(AG dg C.J e8.2).ep,(AG dg C.J e8.2).why⟩⟩,.slice A62 (((AG dg C.J e8.2).set).length) c63,(AG dg C.J e8.2).set,.slice none 0 0,[]⟩:A_ BM)]) ⟨rfl,rfl,rfl,rfl,rfl,rfl,trivial⟩ ⟨H,by (try dsimp only);omega,hzn,by (try dsimp only);rw [List.length_append];simp only [List.length_cons,List.length_nil];omega⟩ (by (try dsimp only);omega)
 refine BC (AM (AM (BD (Aa (Ab (Ae (Ah 2 U (Ac (Aa (An (Aq U U ?_)))))))))))
 replace H:=H.pick 12 rfl|>.pick 12 rfl|>.h2 (A:=Y B0 q2 (l2.map AY)) (B:=Br l2)
 replace H:=Hd.twI H
 replace H:=H.h1 (A:=Y BZ q2 l2)
 have e:l2.map Ca=Fr dg C W:=by rw [hz2,List.take_of_length_le (l:=W.rs) (by omega)];unfold Fr;rw [if_neg (by rw [hov];decide)]
 replace H:=H.pick 11 rfl|>.pick 11 rfl|>.pick 11 rfl|>.pick 11 rfl|>.pick 11 rfl|>.pick 11 rfl|>.pick 11 rfl|>.pick 11 rfl|>.pick 11 rfl|>.pick 11 rfl|>.pick 11 rfl
 replace H:=EE b C W vS2 vM3 vC4 vR5 vK6 J7 (.slice A16 ((rl11.map AF).length) c17) kb9 (.slice A21 ((tl12.map AI).length) c22) rl11 tl12 ⟨hsj13,hrl14,htl15⟩ H
 replace H:=H.h1 (A:=Bp b C W)|>.p1
 exact Al ⟨l2,rfl,e⟩ H
theorem RO (vS:Value) (vM:Value) (vC:Value) (vR:Value) (vK:Value) (C:Cf) (id:Int) (vr:Value) (recs:List Bu) (hC:C5 C) (hJ:Cb C.J) (hid:1≤id∧id≤C.w) (hrs:∀ r∈recs,(AA r.sp∧r.set.length≤1000)∧r.pairs.length≤1000) (hrl:recs.length≤100000):
    Cn Tryz.prog 69 [.agg #[vS,.int .i64 C.J.parts,vM,vC,vR,.int .i64 C.J.chunk,.int .i64 C.J.window,.int .i64 C.J.fuel,vK,.int .i64 C.w,.int .i64 C.t,.int .i64 C.o],.int .i64 id,vr] [] [Z (Am Ag) vS C.J.us,Z Af vM C.J.map,Z Af vC C.J.comb,Z Af vR C.J.red,Z (Ai .i64) vK C.J.marks,Z B8 vr recs] (fun v Bs=>∃ b:Nat,v=.tuple #[.pointer (some ⟨b,0,none⟩),.int .i64 0]∧Bs=[Bp b C (E1 C id recs)]):=by
 intro w0 F0 H
 obtain ⟨A1,c2,rfl,hc3,hm4,hp5⟩:=H.fR 0 rfl
 obtain ⟨A6,c7,rfl,hc8,hm9,hp10⟩:=H.fR 1 rfl
 obtain ⟨A11,c12,rfl,hc13,hm14,hp15⟩:=H.fR 2 rfl
 obtain ⟨A16,c17,rfl,hc18,hm19,hp20⟩:=H.fR 3 rfl
 obtain ⟨A21,c22,rfl,hc23,hm24,hp25⟩:=H.fR 4 rfl
 obtain ⟨A26,c27,rfl,hc28,hm29,hp30⟩:=H.fR 5 rfl
 have hus:=hJ.us
 have hpt:=hJ.parts
 refine enter Tryz.func69 U U (Nat.le_of_ble_eq_true U) (Ab (Ae (CA U U U U H (fun b31 w H=>(Ah 2 U (Ac (Aa ?_)))))))
 replace H:Hd _ _ _ [blk b31 [.slice A1 C.J.us.length c2,.int .i64 C.J.parts,.slice A6 C.J.map.length c7,.slice A11 C.J.comb.length c12,.slice A16 C.J.red.length c17,.int .i64 C.J.chunk,.int .i64 C.J.window,.int .i64 C.J.fuel,.slice A21 C.J.marks.length c22,.int .i64 C.w,.int .i64 C.t,.int .i64 C.o] 28] [Z (Am Ag) (.slice A1 C.J.us.length c2) C.J.us,Z Af (.slice A6 C.J.map.length c7) C.J.map,Z Af (.slice A11 C.J.comb.length c12) C.J.comb,Z Af (.slice A16 C.J.red.length c17) C.J.red,Z (Ai .i64) (.slice A21 C.J.marks.length c22) C.J.marks,Z B8 (.slice A26 recs.length c27) recs]:=H
 refine Ab (Ab (Ae (V U U (Bq (cs:=[.slice A1 C.J.us.length c2,.int .i64 C.J.parts,.slice A6 C.J.map.length c7,.slice A11 C.J.comb.length c12,.slice A16 C.J.red.length c17,.int .i64 C.J.chunk,.int .i64 C.J.window,.int .i64 C.J.fuel,.slice A21 C.J.marks.length c22,.int .i64 C.w,.int .i64 C.t,.int .i64 C.o]) U DE U U (H.cellsI 0 U U)) (sc (IX (.slice A1 C.J.us.length c2) (.slice A6 C.J.map.length c7) (.slice A11 C.J.comb.length c12) (.slice A16 C.J.red.length c17) (.slice A21 C.J.marks.length c22) C) H (lR 0 U (lR 1 U (lR 2 U (lR 3 U (lR 4 U l0))))) U U (At IU U U) ?_))))
 rintro _ _ w ⟨rfl,rfl⟩ H
 refine V U U (D_ U U) (Ad U ?_)
 refine AK (d:=15) U (fun h32=>?_) (fun h32=>?_)
 ·exact (h32 hC).elim
 refine Ad U (V U U (Bd U U U) (Ah 2 U ?_))
 refine AK (d:=19) U (fun h33=>?_) (fun h33=>?_)
 ·exfalso;omega
 refine Ad U (V U U (Aj U IO U) (V U U (Ak U AB U (H.cellI 0 U U)) (V U U (Cp U U U) (Ad U (Ac (Aa ?_))))))
 replace H:Hd _ _ _ [blk b31 [.slice A1 C.J.us.length c2,.int .i64 C.J.parts,.slice A6 C.J.map.length c7,.slice A11 C.J.comb.length c12,.slice A16 C.J.red.length c17,.int .i64 C.J.chunk,.int .i64 C.J.window,.int .i64 C.J.fuel,.slice A21 C.J.marks.length c22,.int .i64 C.w,.int .i64 C.t,.int .i64 C.o] 28] [Z (Am Ag) (.slice A1 C.J.us.length c2) C.J.us,Z Af (.slice A6 C.J.map.length c7) C.J.map,Z Af (.slice A11 C.J.comb.length c12) C.J.comb,Z Af (.slice A16 C.J.red.length c17) C.J.red,Z (Ai .i64) (.slice A21 C.J.marks.length c22) C.J.marks,Z B8 (.slice A26 recs.length c27) recs]:=H
 refine Ax U (fun h34=>?_) (fun h34=>?_)
 ·exfalso;omega
 refine Av (Aa (Ab (Ae (V U U (Bq (cs:=[.slice A1 C.J.us.length c2,.int .i64 C.J.parts,.slice A6 C.J.map.length c7,.slice A11 C.J.comb.length c12,.slice A16 C.J.red.length c17,.int .i64 C.J.chunk,.int .i64 C.J.window,.int .i64 C.J.fuel,.slice A21 C.J.marks.length c22,.int .i64 C.w,.int .i64 C.t,.int .i64 C.o]) U DE U U (H.cellsI 0 U U)) (sc (Mr (.slice A1 C.J.us.length c2) (.slice A6 C.J.map.length c7) (.slice A11 C.J.comb.length c12) (.slice A16 C.J.red.length c17) (.slice A21 C.J.marks.length c22) C (by first |assumption|omega|exact hO2|exact ⟨hhm,by omega⟩|(unfold AA;omega))) H (lR 0 U (lR 1 U (lR 2 U (lR 3 U (lR 4 U l0))))) U U (At L6 U U) ?_)))))
 rintro _ _ w ⟨J35,vS36,vM37,vC38,vR39,vK40,rfl,rfl,hf41⟩ H
 have hsj:=hf41
 have hlen2:=hsj.len
 have hO2:Cb J35:=hsj.symm.ok hJ
 have hC2:C5 (Cu J35 C):=(Jd hsj).symm.may hC
 refine Rb BO U U U H (fun b42 w H=>?_)
 obtain ⟨A43,c44,rfl,hc45,hm46,hp47⟩:=H.fA 1 rfl
 obtain ⟨A48,c49,rfl,hc50,hm51,hp52⟩:=H.fA 2 rfl
 obtain ⟨A53,c54,rfl,hc55,hm56,hp57⟩:=H.fA 3 rfl
 obtain ⟨A58,c59,rfl,hc60,hm61,hp62⟩:=H.fA 4 rfl
 obtain ⟨A63,c64,rfl,hc65,hm66,hp67⟩:=H.fA 5 rfl
 refine V U U (Co (parts:=[(0,.tmp 26),(1,.const (.int .i64 1)),(3,.tmp 27)]) (vs:=[.agg #[.slice A43 J35.us.length c44,.int .i64 J35.parts,.slice A48 J35.map.length c49,.slice A53 J35.comb.length c54,.slice A58 J35.red.length c59,.int .i64 J35.chunk,.int .i64 J35.window,.int .i64 J35.fuel,.slice A63 J35.marks.length c64,.int .i64 C.w,.int .i64 C.t,.int .i64 C.o],.int .i64 1,.map (some b42)]) (cs:=[.slice A43 J35.us.length c44,.int .i64 J35.parts,.slice A48 J35.map.length c49,.slice A53 J35.comb.length c54,.slice A58 J35.red.length c59,.int .i64 J35.chunk,.int .i64 J35.window,.int .i64 J35.fuel,.slice A63 J35.marks.length c64,.int .i64 C.w,.int .i64 C.t,.int .i64 C.o,.int .i64 1,.slice none 0 0,.map (some b42),.slice none 0 0,.int .u32 0]) U Sb U U) (CA U U U U H (fun b68 w H=>(Ad U (Ac (Aa ?_)))))
 replace H:Hd _ _ _ [blk b68 [.slice A43 J35.us.length c44,.int .i64 J35.parts,.slice A48 J35.map.length c49,.slice A53 J35.comb.length c54,.slice A58 J35.red.length c59,.int .i64 J35.chunk,.int .i64 J35.window,.int .i64 J35.fuel,.slice A63 J35.marks.length c64,.int .i64 C.w,.int .i64 C.t,.int .i64 C.o,.int .i64 1,.slice none 0 0,.map (some b42),.slice none 0 0,.int .u32 0] 210,Bx BO b42 [],Y (Am Ag) (.slice A43 J35.us.length c44) J35.us,Y Af (.slice A48 J35.map.length c49) J35.map,Y Af (.slice A53 J35.comb.length c54) J35.comb,Y Af (.slice A58 J35.red.length c59) J35.red,Y (Ai .i64) (.slice A63 J35.marks.length c64) J35.marks,blk b31 [.slice A1 C.J.us.length c2,.int .i64 C.J.parts,.slice A6 C.J.map.length c7,.slice A11 C.J.comb.length c12,.slice A16 C.J.red.length c17,.int .i64 C.J.chunk,.int .i64 C.J.window,.int .i64 C.J.fuel,.slice A21 C.J.marks.length c22,.int .i64 C.w,.int .i64 C.t,.int .i64 C.o] 28] [Z (Am Ag) (.slice A1 C.J.us.length c2) C.J.us,Z Af (.slice A6 C.J.map.length c7) C.J.map,Z Af (.slice A11 C.J.comb.length c12) C.J.comb,Z Af (.slice A16 C.J.red.length c17) C.J.red,Z (Ai .i64) (.slice A21 C.J.marks.length c22) C.J.marks,Z B8 (.slice A26 recs.length c27) recs]:=H
 refine Ab (Ab (Ae (Ad U (V U U (A8 U RF U) (Ad U (Ac (Aa (AS ?_))))))))
 replace H:=H.p7
 refine BQ (σ:=Nat) (fun k=>[(1,.int .i64 id),(2,.slice A26 recs.length c27),(3,.pointer (some ⟨b31,0,none⟩)),(6,.pointer none),(7,.int .i64 0),(8,.pointer (some ⟨b68,0,none⟩)),(30,.slice A26 recs.length c27),(31,.int .i64 ((recs.length:Nat):Int)),(32,.int .i64 ((k:Nat):Int))]) (fun k w=>(Hd w0 F0 w [blk b31 [.slice A1 C.J.us.length c2,.int .i64 C.J.parts,.slice A6 C.J.map.length c7,.slice A11 C.J.comb.length c12,.slice A16 C.J.red.length c17,.int .i64 C.J.chunk,.int .i64 C.J.window,.int .i64 C.J.fuel,.slice A21 C.J.marks.length c22,.int .i64 C.w,.int .i64 C.t,.int .i64 C.o] 28,blk b68 [.slice A43 J35.us.length c44,.int .i64 J35.parts,.slice A48 J35.map.length c49,.slice A53 J35.comb.length c54,.slice A58 J35.red.length c59,.int .i64 J35.chunk,.int .i64 J35.window,.int .i64 J35.fuel,.slice A63 J35.marks.length c64,.int .i64 C.w,.int .i64 C.t,.int .i64 C.o,.int .i64 ((1+cnt C1 (recs.take k):Nat):Int),.slice none 0 0,.map (some b42),.slice none 0 0,.int .u32 0] 210,Bx BO b42 [],Y (Am Ag) (.slice A43 J35.us.length c44) J35.us,Y Af (.slice A48 J35.map.length c49) J35.map,Y Af (.slice A53 J35.comb.length c54) J35.comb,Y Af (.slice A58 J35.red.length c59) J35.red,Y (Ai .i64) (.slice A63 J35.marks.length c64) J35.marks] [Z (Am Ag) (.slice A1 C.J.us.length c2) C.J.us,Z Af (.slice A6 C.J.map.length c7) C.J.map,Z Af (.slice A11 C.J.comb.length c12) C.J.comb,Z Af (.slice A16 C.J.red.length c17) C.J.red,Z (Ai .i64) (.slice A21 C.J.marks.length c22) C.J.marks,Z B8 (.slice A26 recs.length c27) recs])∧(k≤recs.length)) (fun k=>recs.length - k) 0 ⟨rfl,rfl,rfl,rfl,rfl,rfl,rfl,rfl,rfl,trivial⟩ ⟨H,Nat.zero_le _⟩ ?_
 rintro k w ⟨H,hk⟩
 have hcl9:=NV C1 (recs.take k)
 rw [List.length_take] at hcl9
 refine Ab (Ae (V U U (Bd U U U) (Ac (Aa (Ab ?_)))))
 refine Ax U (fun h69=>?_) (fun h69=>?_)
 ·refine Av (Aa (Ab (AS (Ab (Ae ?_)))))
  obtain ⟨⟨a72,a73,a74,a75,a76,sv77,se78,pv79,pr80⟩,hx71⟩:∃ z9,recs[k]?=some z9:=⟨_,List.getElem?_eq_getElem (show k<recs.length by omega)⟩
  obtain ⟨A81,c82,A83,c84,rfl,rfl,m85,m86,m87,m88⟩:=H.nestRr 5 rfl hx71
  have th89:=H.thRr 5 rfl hx71
  refine V U U (AZ (p:=AP A26+k*7) U MR U U (by omega) (by omega) th89 U) (V U U (Bq (cs:=[.int .i64 a72,.int .i64 a73,.int .i64 a74,.int .i64 a75,.int .i64 a76,.slice A81 se78.length c82,.slice A83 pr80.length c84]) U KV U U (H.elsRr 5 U hx71 U)) (Dg U U U Ng H (fun b90 w H=>(BE U U U KV U U H U (Nat.le_of_ble_eq_true U) (fun u hu=>by simp [Value.cells] at hu;rcases hu with rfl|rfl|rfl|rfl|rfl|rfl|rfl<;>rfl) (fun w H=>?_)))))
  replace H:Hd _ _ _ [blk b90 [.int .i64 a72,.int .i64 a73,.int .i64 a74,.int .i64 a75,.int .i64 a76,.slice A81 se78.length c82,.slice A83 pr80.length c84] 37,blk b31 [.slice A1 C.J.us.length c2,.int .i64 C.J.parts,.slice A6 C.J.map.length c7,.slice A11 C.J.comb.length c12,.slice A16 C.J.red.length c17,.int .i64 C.J.chunk,.int .i64 C.J.window,.int .i64 C.J.fuel,.slice A21 C.J.marks.length c22,.int .i64 C.w,.int .i64 C.t,.int .i64 C.o] 28,blk b68 [.slice A43 J35.us.length c44,.int .i64 J35.parts,.slice A48 J35.map.length c49,.slice A53 J35.comb.length c54,.slice A58 J35.red.length c59,.int .i64 J35.chunk,.int .i64 J35.window,.int .i64 J35.fuel,.slice A63 J35.marks.length c64,.int .i64 C.w,.int .i64 C.t,.int .i64 C.o,.int .i64 ((1+cnt C1 (recs.take k):Nat):Int),.slice none 0 0,.map (some b42),.slice none 0 0,.int .u32 0] 210,Bx BO b42 [],Y (Am Ag) (.slice A43 J35.us.length c44) J35.us,Y Af (.slice A48 J35.map.length c49) J35.map,Y Af (.slice A53 J35.comb.length c54) J35.comb,Y Af (.slice A58 J35.red.length c59) J35.red,Y (Ai .i64) (.slice A63 J35.marks.length c64) J35.marks] [Z (Am Ag) (.slice A1 C.J.us.length c2) C.J.us,Z Af (.slice A6 C.J.map.length c7) C.J.map,Z Af (.slice A11 C.J.comb.length c12) C.J.comb,Z Af (.slice A16 C.J.red.length c17) C.J.red,Z (Ai .i64) (.slice A21 C.J.marks.length c22) C.J.marks,Z B8 (.slice A26 recs.length c27) recs]:=H
  refine Ac (Aa (Ab (Ae (V U U (Aj U GQ U) (V U U (Ak U AB U (H.cellI 0 U U)) (V U U (Bb U U U) (Ac (Aa ?_))))))))
  refine Ax U (fun h91=>?_) (fun h91=>?_)
  ·refine Ae (Ad U (V U U (AH U U) (V U U (Aj U JU U) (V U U (Ak U AB U (H.cellI 2 U U)) (V U U (AT (z:=((1+cnt C1 (recs.take k)+1:Nat):Int)) U U U (by rw [AC (by omega) (by omega)];omega)) (V U U (AH U U) (V U U (Aj U JU U) ?_)))))))
   replace H:=H.p2
   refine BE U U U AB U U H U (Nat.le_of_ble_eq_true U) (fun u hu=>by simp [Value.cells] at hu;subst hu;rfl) (fun w H=>?_)
   replace H:=H.h1 (A:=blk b68 [.slice A43 J35.us.length c44,.int .i64 J35.parts,.slice A48 J35.map.length c49,.slice A53 J35.comb.length c54,.slice A58 J35.red.length c59,.int .i64 J35.chunk,.int .i64 J35.window,.int .i64 J35.fuel,.slice A63 J35.marks.length c64,.int .i64 C.w,.int .i64 C.t,.int .i64 C.o,.int .i64 ((1+cnt C1 (recs.take k)+1:Nat):Int),.slice none 0 0,.map (some b42),.slice none 0 0,.int .u32 0] 210)
   refine Ac (AU (Aa (Ae (V U U (AT (z:=((k+1:Nat):Int)) U U U (by rw [AC (by omega) (by omega)];omega)) (Ad U (Ac ?_))))))
   replace H:=H.p8.p8.p8.p8.p8.p8.p6.p8.k8
   have hc9:cnt C1 (recs.take (k+1))=cnt C1 (recs.take k)+1:=by rw [NW hx71,if_pos (show C1 (⟨a72,a73,a74,a75,a76,.slice A81 se78.length c82,se78,.slice A83 pr80.length c84,pr80⟩:Bu)=true from decide_eq_true h91)]
   replace H:Hd w0 F0 w [blk b31 [.slice A1 C.J.us.length c2,.int .i64 C.J.parts,.slice A6 C.J.map.length c7,.slice A11 C.J.comb.length c12,.slice A16 C.J.red.length c17,.int .i64 C.J.chunk,.int .i64 C.J.window,.int .i64 C.J.fuel,.slice A21 C.J.marks.length c22,.int .i64 C.w,.int .i64 C.t,.int .i64 C.o] 28,blk b68 [.slice A43 J35.us.length c44,.int .i64 J35.parts,.slice A48 J35.map.length c49,.slice A53 J35.comb.length c54,.slice A58 J35.red.length c59,.int .i64 J35.chunk,.int .i64 J35.window,.int .i64 J35.fuel,.slice A63 J35.marks.length c64,.int .i64 C.w,.int .i64 C.t,.int .i64 C.o,.int .i64 ((1+cnt C1 (recs.take (k+1)):Nat):Int),.slice none 0 0,.map (some b42),.slice none 0 0,.int .u32 0] 210,Bx BO b42 [],Y (Am Ag) (.slice A43 J35.us.length c44) J35.us,Y Af (.slice A48 J35.map.length c49) J35.map,Y Af (.slice A53 J35.comb.length c54) J35.comb,Y Af (.slice A58 J35.red.length c59) J35.red,Y (Ai .i64) (.slice A63 J35.marks.length c64) J35.marks] [Z (Am Ag) (.slice A1 C.J.us.length c2) C.J.us,Z Af (.slice A6 C.J.map.length c7) C.J.map,Z Af (.slice A11 C.J.comb.length c12) C.J.comb,Z Af (.slice A16 C.J.red.length c17) C.J.red,Z (Ai .i64) (.slice A21 C.J.marks.length c22) C.J.marks,Z B8 (.slice A26 recs.length c27) recs]:=by rw [hc9];exact H
   exact Bi (s:=k) (k+1) ⟨rfl,rfl,rfl,rfl,rfl,rfl,rfl,rfl,rfl,trivial⟩ ⟨H,by (try dsimp only);omega⟩ (by (try dsimp only);omega)
  refine Av (AU (Aa (Ae (V U U (AT (z:=((k+1:Nat):Int)) U U U (by rw [AC (by omega) (by omega)];omega)) (Ad U (Ac ?_))))))
  replace H:=H.p8.p8.p8.p8.p8.p8.p8.p8.k8
  have hc9:cnt C1 (recs.take (k+1))=cnt C1 (recs.take k)+0:=by rw [NW hx71,if_neg (by rw [show C1 (⟨a72,a73,a74,a75,a76,.slice A81 se78.length c82,se78,.slice A83 pr80.length c84,pr80⟩:Bu)=false from decide_eq_false h91];decide)]
  replace H:Hd w0 F0 w [blk b31 [.slice A1 C.J.us.length c2,.int .i64 C.J.parts,.slice A6 C.J.map.length c7,.slice A11 C.J.comb.length c12,.slice A16 C.J.red.length c17,.int .i64 C.J.chunk,.int .i64 C.J.window,.int .i64 C.J.fuel,.slice A21 C.J.marks.length c22,.int .i64 C.w,.int .i64 C.t,.int .i64 C.o] 28,blk b68 [.slice A43 J35.us.length c44,.int .i64 J35.parts,.slice A48 J35.map.length c49,.slice A53 J35.comb.length c54,.slice A58 J35.red.length c59,.int .i64 J35.chunk,.int .i64 J35.window,.int .i64 J35.fuel,.slice A63 J35.marks.length c64,.int .i64 C.w,.int .i64 C.t,.int .i64 C.o,.int .i64 ((1+cnt C1 (recs.take (k+1)):Nat):Int),.slice none 0 0,.map (some b42),.slice none 0 0,.int .u32 0] 210,Bx BO b42 [],Y (Am Ag) (.slice A43 J35.us.length c44) J35.us,Y Af (.slice A48 J35.map.length c49) J35.map,Y Af (.slice A53 J35.comb.length c54) J35.comb,Y Af (.slice A58 J35.red.length c59) J35.red,Y (Ai .i64) (.slice A63 J35.marks.length c64) J35.marks] [Z (Am Ag) (.slice A1 C.J.us.length c2) C.J.us,Z Af (.slice A6 C.J.map.length c7) C.J.map,Z Af (.slice A11 C.J.comb.length c12) C.J.comb,Z Af (.slice A16 C.J.red.length c17) C.J.red,Z (Ai .i64) (.slice A21 C.J.marks.length c22) C.J.marks,Z B8 (.slice A26 recs.length c27) recs]:=by rw [hc9];exact H
  exact Bi (s:=k) (k+1) ⟨rfl,rfl,rfl,rfl,rfl,rfl,rfl,rfl,rfl,trivial⟩ ⟨H,by (try dsimp only);omega⟩ (by (try dsimp only);omega)
 refine BC (AM (AM (BD (Aa (Ab (Ab (Ae (V U U (Aj U C0 U) (V U U (Aj U HQ U) (V U U (Ak U AB U (H.cellI 0 U U)) (Ad U (Ac (Aa (AS ?_))))))))))))))
 replace H:Hd w0 F0 w [blk b31 [.slice A1 C.J.us.length c2,.int .i64 C.J.parts,.slice A6 C.J.map.length c7,.slice A11 C.J.comb.length c12,.slice A16 C.J.red.length c17,.int .i64 C.J.chunk,.int .i64 C.J.window,.int .i64 C.J.fuel,.slice A21 C.J.marks.length c22,.int .i64 C.w,.int .i64 C.t,.int .i64 C.o] 28,blk b68 [.slice A43 J35.us.length c44,.int .i64 J35.parts,.slice A48 J35.map.length c49,.slice A53 J35.comb.length c54,.slice A58 J35.red.length c59,.int .i64 J35.chunk,.int .i64 J35.window,.int .i64 J35.fuel,.slice A63 J35.marks.length c64,.int .i64 C.w,.int .i64 C.t,.int .i64 C.o,.int .i64 ((1+cnt C1 recs:Nat):Int),.slice none 0 0,.map (some b42),.slice none 0 0,.int .u32 0] 210,Bx BO b42 [],Y (Am Ag) (.slice A43 J35.us.length c44) J35.us,Y Af (.slice A48 J35.map.length c49) J35.map,Y Af (.slice A53 J35.comb.length c54) J35.comb,Y Af (.slice A58 J35.red.length c59) J35.red,Y (Ai .i64) (.slice A63 J35.marks.length c64) J35.marks] [Z (Am Ag) (.slice A1 C.J.us.length c2) C.J.us,Z Af (.slice A6 C.J.map.length c7) C.J.map,Z Af (.slice A11 C.J.comb.length c12) C.J.comb,Z Af (.slice A16 C.J.red.length c17) C.J.red,Z (Ai .i64) (.slice A21 C.J.marks.length c22) C.J.marks,Z B8 (.slice A26 recs.length c27) recs]:=by rw [List.take_of_length_le (l:=recs) (by omega)] at H;exact H
 have hcl9:=NV C1 recs
 replace H:=H.newnil (Ai .i64)
 replace H:=Hd.big0 (fun e:Nat×AL=>FX e.1 C e.2) H
 replace H:=H.h5 (A:=B2 C ([]:List (Nat×AL))) (B:=Y (Ai .i64) (.slice none 0 0) (([]:List (Nat×AL)).map AF)) (E:=Bx BO b42 (([]:List (Nat×AL)).map BR))|>.p9|>.p9|>.p9|>.p9|>.p9|>.p9|>.p9|>.p9
 refine BQ (σ:=Nat×Value×List (Nat×AL)) (fun (p,q,rl)=>[(1,.int .i64 id),(2,.slice A26 recs.length c27),(3,.pointer (some ⟨b31,0,none⟩)),(6,.pointer none),(7,.int .i64 0),(8,.pointer (some ⟨b68,0,none⟩)),(49,.int .i64 C.J.parts),(50,.int .i64 ((p:Nat):Int))]) (fun (p,q,rl) w=>(Hd w0 F0 w [blk b31 [.slice A1 C.J.us.length c2,.int .i64 C.J.parts,.slice A6 C.J.map.length c7,.slice A11 C.J.comb.length c12,.slice A16 C.J.red.length c17,.int .i64 C.J.chunk,.int .i64 C.J.window,.int .i64 C.J.fuel,.slice A21 C.J.marks.length c22,.int .i64 C.w,.int .i64 C.t,.int .i64 C.o] 28,blk b68 [.slice A43 J35.us.length c44,.int .i64 J35.parts,.slice A48 J35.map.length c49,.slice A53 J35.comb.length c54,.slice A58 J35.red.length c59,.int .i64 J35.chunk,.int .i64 J35.window,.int .i64 J35.fuel,.slice A63 J35.marks.length c64,.int .i64 C.w,.int .i64 C.t,.int .i64 C.o,.int .i64 ((1+cnt C1 recs:Nat):Int),q,.map (some b42),.slice none 0 0,.int .u32 0] 210,Bx BO b42 (rl.map BR),Y (Am Ag) (.slice A43 J35.us.length c44) J35.us,Y Af (.slice A48 J35.map.length c49) J35.map,Y Af (.slice A53 J35.comb.length c54) J35.comb,Y Af (.slice A58 J35.red.length c59) J35.red,Y (Ai .i64) (.slice A63 J35.marks.length c64) J35.marks,B2 C rl,Y (Ai .i64) q (rl.map AF)] [Z (Am Ag) (.slice A1 C.J.us.length c2) C.J.us,Z Af (.slice A6 C.J.map.length c7) C.J.map,Z Af (.slice A11 C.J.comb.length c12) C.J.comb,Z Af (.slice A16 C.J.red.length c17) C.J.red,Z (Ai .i64) (.slice A21 C.J.marks.length c22) C.J.marks,Z B8 (.slice A26 recs.length c27) recs])∧((p:Int)≤C.J.parts)∧(rl.map Prod.snd=En C id recs p)) (fun (p,q,rl)=>C.J.parts.toNat - p) (0,.slice none 0 0,[]) ⟨rfl,rfl,rfl,rfl,rfl,rfl,rfl,rfl,trivial⟩ ⟨H,by (try dsimp only);omega,rfl⟩ ?_
 rintro ⟨p,q,rl⟩ w ⟨H,hp,hrl2⟩
 have hpt4:=hJ.parts
 have hrn:rl.length≤p:=by rw [←List.length_map (f:=Prod.snd),hrl2];exact Yp _ _ _ _
 have hrk:(rl.map AF).length=rl.length:=List.length_map ..
 refine Ab (Ae (V U U (Bd U U U) (Ac (Aa (Ab ?_)))))
 refine Ax U (fun h92=>?_) (fun h92=>?_)
 ·refine Av (Aa (Ab (AS (Ab (Ae (Ah 2 U (Ac (Aa (Ab ?_)))))))))
  have hp64:AA ((p:Nat):Int):=by unfold AA;omega
  refine Ae (V U U (Bq (cs:=[.slice A1 C.J.us.length c2,.int .i64 C.J.parts,.slice A6 C.J.map.length c7,.slice A11 C.J.comb.length c12,.slice A16 C.J.red.length c17,.int .i64 C.J.chunk,.int .i64 C.J.window,.int .i64 C.J.fuel,.slice A21 C.J.marks.length c22,.int .i64 C.w,.int .i64 C.t,.int .i64 C.o]) U DE U U (H.cellsI 0 U U)) (Ad U (sc (J0 (.slice A1 C.J.us.length c2) (.slice A6 C.J.map.length c7) (.slice A11 C.J.comb.length c12) (.slice A16 C.J.red.length c17) (.slice A21 C.J.marks.length c22) C ((p:Nat):Int) (by first |assumption|omega|exact hO2|exact ⟨hhm,by omega⟩|(unfold AA;omega))) H (lR 0 U (lR 1 U (lR 2 U (lR 3 U (lR 4 U l0))))) U U (At J_ U U) ?_)))
  rintro _ _ w ⟨rfl,rfl⟩ H
  replace H:=H.h10 (B:=blk b68 [.slice A43 J35.us.length c44,.int .i64 J35.parts,.slice A48 J35.map.length c49,.slice A53 J35.comb.length c54,.slice A58 J35.red.length c59,.int .i64 J35.chunk,.int .i64 J35.window,.int .i64 J35.fuel,.slice A63 J35.marks.length c64,.int .i64 C.w,.int .i64 C.t,.int .i64 C.o,.int .i64 ((1+cnt C1 recs:Nat):Int),q,.map (some b42),.slice none 0 0,.int .u32 0] 210) (C:=Bx BO b42 (rl.map BR)) (J:=B2 C rl) (K:=Y (Ai .i64) q (rl.map AF))
  refine Ad U (V U U (Bb U U U) (Ac (Aa ?_)))
  refine Ax U (fun h93=>?_) (fun h93=>?_)
  ·refine Ab (Ae (Ah 2 U (V U U (AH U U) (V U U (Aj U JV U) (V U U (Ak U E5 U (H.cellI 1 U U)) (Ad U (BX (parts:=[(0,.tmp 63)]) (vs:=[.int .i64 ((p:Nat):Int)]) (cs:=[.int .i64 ((p:Nat):Int)]) U U U Dx F7 U (by decide) (by decide) U U H (fun b94 w H=>?_))))))))
   replace H:=H.pick 10 rfl
   refine Ct (xs:=rl.map AF) (ys:=[((p:Nat):Int)]) U U U Dx F7 U (by decide) U U H (by first |omega|(simp only [List.length_append,List.length_cons,List.length_nil,List.length_map];omega)) (fun F hA hR=>Cm (hA _ (List.mem_of_getElem? (i:=0) U)) U (by decide) (AW.flat_eq.2 U)) (fun v95 w H=>(V U U (AH U U) (V U U (Aj U JV U) ?_)))
   obtain ⟨A96,c97,rfl,hc98,hm99,hp100⟩:=H.fA 0 rfl
   replace H:=H.p3
   refine BE U U U E5 U U H U (Nat.le_of_ble_eq_true U) (fun u hu=>by simp [Value.cells] at hu;subst hu;rfl) (fun w H=>?_)
   replace H:Hd _ _ _ [blk b68 [.slice A43 J35.us.length c44,.int .i64 J35.parts,.slice A48 J35.map.length c49,.slice A53 J35.comb.length c54,.slice A58 J35.red.length c59,.int .i64 J35.chunk,.int .i64 J35.window,.int .i64 J35.fuel,.slice A63 J35.marks.length c64,.int .i64 C.w,.int .i64 C.t,.int .i64 C.o,.int .i64 ((1+cnt C1 recs:Nat):Int),.slice A96 (((rl.map AF)++[((p:Nat):Int)]).length) c97,.map (some b42),.slice none 0 0,.int .u32 0] 210,Y (Ai .i64) (.slice A96 (((rl.map AF)++[((p:Nat):Int)]).length) c97) ((rl.map AF)++[((p:Nat):Int)]),blk b94 [.int .i64 ((p:Nat):Int)] 3,blk b31 [.slice A1 C.J.us.length c2,.int .i64 C.J.parts,.slice A6 C.J.map.length c7,.slice A11 C.J.comb.length c12,.slice A16 C.J.red.length c17,.int .i64 C.J.chunk,.int .i64 C.J.window,.int .i64 C.J.fuel,.slice A21 C.J.marks.length c22,.int .i64 C.w,.int .i64 C.t,.int .i64 C.o] 28,Bx BO b42 (rl.map BR),Y (Am Ag) (.slice A43 J35.us.length c44) J35.us,Y Af (.slice A48 J35.map.length c49) J35.map,Y Af (.slice A53 J35.comb.length c54) J35.comb,Y Af (.slice A58 J35.red.length c59) J35.red,Y (Ai .i64) (.slice A63 J35.marks.length c64) J35.marks,B2 C rl] [Z (Am Ag) (.slice A1 C.J.us.length c2) C.J.us,Z Af (.slice A6 C.J.map.length c7) C.J.map,Z Af (.slice A11 C.J.comb.length c12) C.J.comb,Z Af (.slice A16 C.J.red.length c17) C.J.red,Z (Ai .i64) (.slice A21 C.J.marks.length c22) C.J.marks,Z B8 (.slice A26 recs.length c27) recs]:=H
   refine Ac (Aa ?_)
   have hhm:C4 (Cu J35 C) ((p:Nat):Int)≠0:=by rw [(Jd hsj).home,h93];omega
   have he64:AA ((1+cnt C1 recs:Nat):Int):=by unfold AA;omega
   replace H:=H.pick 10 rfl|>.pick 10 rfl|>.pick 10 rfl|>.pick 10 rfl|>.pick 10 rfl|>.pick 10 rfl|>.p9|>.p9|>.p9|>.p9
   refine BY (.e 0 (.e 1 (.e 2 (.e 3 (.e 4 (.e 5 (.e 6 (.e 7 (.e 8 (.e 9 (.e 10 (.e 11 (.e 12 (.e 13 (.e 14 (.m 15 (.e 16 (.e 17 (.e 18 (.m 19 .z)))))))))))))))))))) (fun w=>∃ Ar,Hd w0 F0 w (blk b68 [.slice A43 J35.us.length c44,.int .i64 J35.parts,.slice A48 J35.map.length c49,.slice A53 J35.comb.length c54,.slice A58 J35.red.length c59,.int .i64 J35.chunk,.int .i64 J35.window,.int .i64 J35.fuel,.slice A63 J35.marks.length c64,.int .i64 C.w,.int .i64 C.t,.int .i64 C.o,.int .i64 ((1+cnt C1 recs:Nat):Int),.slice A96 (((rl.map AF)++[((p:Nat):Int)]).length) c97,.map (some b42),.slice none 0 0,.int .u32 0] 210::Y (Ai .i64) (.slice A96 (((rl.map AF)++[((p:Nat):Int)]).length) c97) ((rl.map AF)++[((p:Nat):Int)])::blk b94 [.int .i64 ((p:Nat):Int)] 3::blk b31 [.slice A1 C.J.us.length c2,.int .i64 C.J.parts,.slice A6 C.J.map.length c7,.slice A11 C.J.comb.length c12,.slice A16 C.J.red.length c17,.int .i64 C.J.chunk,.int .i64 C.J.window,.int .i64 C.J.fuel,.slice A21 C.J.marks.length c22,.int .i64 C.w,.int .i64 C.t,.int .i64 C.o] 28::Y (Am Ag) (.slice A43 J35.us.length c44) J35.us::Y Af (.slice A48 J35.map.length c49) J35.map::Y Af (.slice A53 J35.comb.length c54) J35.comb::Y Af (.slice A58 J35.red.length c59) J35.red::Y (Ai .i64) (.slice A63 J35.marks.length c64) J35.marks::B2 C rl::Ar) [Z (Am Ag) (.slice A1 C.J.us.length c2) C.J.us,Z Af (.slice A6 C.J.map.length c7) C.J.map,Z Af (.slice A11 C.J.comb.length c12) C.J.comb,Z Af (.slice A16 C.J.red.length c17) C.J.red,Z (Ai .i64) (.slice A21 C.J.marks.length c22) C.J.marks,Z B8 (.slice A26 recs.length c27) recs]) mo (by kernel_rfl) (fun w H=>⟨_,H⟩) H (fun w H=>?_)
   refine Au U (Ao U U U (fun w ⟨Ar,H⟩=>AH U U) (Ao U U U (fun w ⟨Ar,H⟩=>Aj U LA U) (Ao U U U (fun w ⟨Ar,H⟩=>Ak U MZ U (H.cellI 0 U U)) (Au U (Au U (Ao U U U (fun w ⟨Ar,H⟩=>AH U U) (Ao U U U (fun w ⟨Ar,H⟩=>Aj U IK U) (Ao U U U (fun w ⟨Ar,H⟩=>Bq (cs:=[.slice A43 J35.us.length c44,.int .i64 J35.parts,.slice A48 J35.map.length c49,.slice A53 J35.comb.length c54,.slice A58 J35.red.length c59,.int .i64 J35.chunk,.int .i64 J35.window,.int .i64 J35.fuel,.slice A63 J35.marks.length c64,.int .i64 C.w,.int .i64 C.t,.int .i64 C.o]) U DE U U (H.cellsI 0 U U)) (Au U (Au U (Ao U U U (fun w ⟨Ar,H⟩=>AH U U) (Ao U U U (fun w ⟨Ar,H⟩=>Aj U JU U) (Ao U U U (fun w ⟨Ar,H⟩=>Ak U AB U (H.cellI 0 U U)) ?_)))))))))))))
   refine Au U (AO U (sc (Yn (.slice A43 J35.us.length c44) (.slice A48 J35.map.length c49) (.slice A53 J35.comb.length c54) (.slice A58 J35.red.length c59) (.slice A63 J35.marks.length c64) (Cu J35 C) ((p:Nat):Int) ((1+cnt C1 recs:Nat):Int) (.slice A26 recs.length c27) recs (by first |assumption|omega|exact hO2|exact ⟨hhm,by omega⟩|(unfold AA;omega)) (by first |assumption|omega|exact hO2|exact ⟨hhm,by omega⟩|(unfold AA;omega)) (by first |assumption|omega|exact hO2|exact ⟨hhm,by omega⟩|(unfold AA;omega)) (by first |assumption|omega|exact hO2|exact ⟨hhm,by omega⟩|(unfold AA;omega)) (by first |assumption|omega|exact hO2|exact ⟨hhm,by omega⟩|(unfold AA;omega)) (by first |assumption|omega|exact hO2|exact ⟨hhm,by omega⟩|(unfold AA;omega))) H (lA 4 U BJ (lA 5 U BJ (lA 6 U BJ (lA 7 U BJ (lA 8 U BJ (lR 5 U l0)))))) U U (At VH U U) ?_))
   rintro _ _ w ⟨r101,vS102,vM103,vC104,vR105,vK106,J107,hv108,sb109,vs110,us111,rfl,rfl,hf112,hf113⟩ H
   replace H:=H.h9 (A:=blk r101 (Bw vS102 vM103 vC104 vR105 vK106 J107 ((Cu J35 C).w) ((Cu J35 C).t) ((Cu J35 C).o) ((p:Nat):Int) ((1+cnt C1 recs:Nat):Int) ((CJ J107.us.length ((p:Nat):Int) ((1+cnt C1 recs:Nat):Int) (recs.map Bu.p)).g) hv108 sb109 vs110) 185) (B:=Y (Am Ag) vS102 J107.us) (C:=Y Af vM103 J107.map) (D:=Y Af vC104 J107.comb) (E:=Y Af vR105 J107.red) (F:=Y (Ai .i64) vK106 J107.marks) (G:=BN ((CJ J107.us.length ((p:Nat):Int) ((1+cnt C1 recs:Nat):Int) (recs.map Bu.p)).g) hv108) (I:=Y (Am (Ai .i64)) vs110 us111) (J:=CL 253 sb109 ([]))
   obtain ⟨R114,hR115⟩:∃ z:AL,z=CJ J107.us.length ((p:Nat):Int) ((1+cnt C1 recs:Nat):Int) (recs.map Bu.p):=⟨_,rfl⟩
   rw [←hR115] at H hf113
   have hRp116:R114.part=((p:Nat):Int):=by rw [hR115];exact (I0 _ _ _ _).1
   have hRe117:R114.ep=((1+cnt C1 recs:Nat):Int):=by rw [hR115];exact (I0 _ _ _ _).2.1
   have hRs118:R114.st=[]:=by rw [hR115];exact (I0 _ _ _ _).2.2
   rw [show Bw vS102 vM103 vC104 vR105 vK106 J107 ((Cu J35 C).w) ((Cu J35 C).t) ((Cu J35 C).o) ((p:Nat):Int) ((1+cnt C1 recs:Nat):Int) R114.g hv108 sb109 vs110=Bw vS102 vM103 vC104 vR105 vK106 J107 ((Cu J35 C).w) ((Cu J35 C).t) ((Cu J35 C).o) R114.part R114.ep R114.g hv108 sb109 vs110 from by rw [hRp116,hRe117],show CL 253 sb109 ([])=CL 253 sb109 (R114.st) from by rw [hRs118]] at H
   replace H:Hd _ _ _ [blk r101 (Bw vS102 vM103 vC104 vR105 vK106 J107 ((Cu J35 C).w) ((Cu J35 C).t) ((Cu J35 C).o) R114.part R114.ep R114.g hv108 sb109 vs110) 185,Y (Am Ag) vS102 J107.us,Y Af vM103 J107.map,Y Af vC104 J107.comb,Y Af vR105 J107.red,Y (Ai .i64) vK106 J107.marks,BN (R114.g) hv108,Y (Am (Ai .i64)) vs110 us111,CL 253 sb109 (R114.st),blk b68 [.slice A43 J35.us.length c44,.int .i64 J35.parts,.slice A48 J35.map.length c49,.slice A53 J35.comb.length c54,.slice A58 J35.red.length c59,.int .i64 J35.chunk,.int .i64 J35.window,.int .i64 J35.fuel,.slice A63 J35.marks.length c64,.int .i64 C.w,.int .i64 C.t,.int .i64 C.o,.int .i64 ((1+cnt C1 recs:Nat):Int),.slice A96 (((rl.map AF)++[((p:Nat):Int)]).length) c97,.map (some b42),.slice none 0 0,.int .u32 0] 210,Y (Ai .i64) (.slice A96 (((rl.map AF)++[((p:Nat):Int)]).length) c97) ((rl.map AF)++[((p:Nat):Int)]),blk b94 [.int .i64 ((p:Nat):Int)] 3,blk b31 [.slice A1 C.J.us.length c2,.int .i64 C.J.parts,.slice A6 C.J.map.length c7,.slice A11 C.J.comb.length c12,.slice A16 C.J.red.length c17,.int .i64 C.J.chunk,.int .i64 C.J.window,.int .i64 C.J.fuel,.slice A21 C.J.marks.length c22,.int .i64 C.w,.int .i64 C.t,.int .i64 C.o] 28,Y (Am Ag) (.slice A43 J35.us.length c44) J35.us,Y Af (.slice A48 J35.map.length c49) J35.map,Y Af (.slice A53 J35.comb.length c54) J35.comb,Y Af (.slice A58 J35.red.length c59) J35.red,Y (Ai .i64) (.slice A63 J35.marks.length c64) J35.marks,B2 C rl,Bx BO b42 (rl.map BR)] [Z (Am Ag) (.slice A1 C.J.us.length c2) C.J.us,Z Af (.slice A6 C.J.map.length c7) C.J.map,Z Af (.slice A11 C.J.comb.length c12) C.J.comb,Z Af (.slice A16 C.J.red.length c17) C.J.red,Z (Ai .i64) (.slice A21 C.J.marks.length c22) C.J.marks,Z B8 (.slice A26 recs.length c27) recs]:=H
   replace H:=QU r101 vS102 vM103 vC104 vR105 vK106 J107 ((Cu J35 C).w) ((Cu J35 C).t) ((Cu J35 C).o) sb109 R114 hv108 vs110 us111 hf113 H
   replace H:=H.h1 (A:=Em r101 vS102 vM103 vC104 vR105 vK106 J107 ((Cu J35 C).w) ((Cu J35 C).t) ((Cu J35 C).o) sb109 R114)
   have hsj_R114:=hf112
   replace H:=H.pick 10 rfl|>.pick 10 rfl|>.pick 10 rfl|>.pick 10 rfl|>.pick 10 rfl|>.pick 10 rfl|>.pick 10 rfl|>.pick 10 rfl|>.pick 10 rfl|>.pick 10 rfl
   refine AE ⟨_,H⟩ (Au U (Au U (Au U (AO U ?_))))
   replace H:=H.pick 11 rfl
   refine Y0 Nf U U U M0 U ((p:Nat):Int) U U H (fun w H=>?_)
   replace H:=H.h1 (A:=Bx BO b42 (GB ((p:Nat):Int) (.pointer (some ⟨r101,0,none⟩)) (rl.map BR)))
   rw [VQ hRp116 (Yq hrl2)] at H
   replace H:Hd _ _ _ [Bx BO b42 ((rl++[(r101,R114)]).map BR),blk b68 [.slice A43 J35.us.length c44,.int .i64 J35.parts,.slice A48 J35.map.length c49,.slice A53 J35.comb.length c54,.slice A58 J35.red.length c59,.int .i64 J35.chunk,.int .i64 J35.window,.int .i64 J35.fuel,.slice A63 J35.marks.length c64,.int .i64 C.w,.int .i64 C.t,.int .i64 C.o,.int .i64 ((1+cnt C1 recs:Nat):Int),.slice A96 (((rl.map AF)++[((p:Nat):Int)]).length) c97,.map (some b42),.slice none 0 0,.int .u32 0] 210,Y (Ai .i64) (.slice A96 (((rl.map AF)++[((p:Nat):Int)]).length) c97) ((rl.map AF)++[((p:Nat):Int)]),blk b94 [.int .i64 ((p:Nat):Int)] 3,blk b31 [.slice A1 C.J.us.length c2,.int .i64 C.J.parts,.slice A6 C.J.map.length c7,.slice A11 C.J.comb.length c12,.slice A16 C.J.red.length c17,.int .i64 C.J.chunk,.int .i64 C.J.window,.int .i64 C.J.fuel,.slice A21 C.J.marks.length c22,.int .i64 C.w,.int .i64 C.t,.int .i64 C.o] 28,Y (Am Ag) (.slice A43 J35.us.length c44) J35.us,Y Af (.slice A48 J35.map.length c49) J35.map,Y Af (.slice A53 J35.comb.length c54) J35.comb,Y Af (.slice A58 J35.red.length c59) J35.red,Y (Ai .i64) (.slice A63 J35.marks.length c64) J35.marks,B2 C rl,Em r101 vS102 vM103 vC104 vR105 vK106 J107 ((Cu J35 C).w) ((Cu J35 C).t) ((Cu J35 C).o) sb109 R114] [Z (Am Ag) (.slice A1 C.J.us.length c2) C.J.us,Z Af (.slice A6 C.J.map.length c7) C.J.map,Z Af (.slice A11 C.J.comb.length c12) C.J.comb,Z Af (.slice A16 C.J.red.length c17) C.J.red,Z (Ai .i64) (.slice A21 C.J.marks.length c22) C.J.marks,Z B8 (.slice A26 recs.length c27) recs]:=H
   replace H:=H.pick 10 rfl|>.pick 10 rfl|>.pick 10 rfl|>.pick 10 rfl|>.pick 10 rfl|>.pick 10 rfl|>.pick 10 rfl|>.pick 10 rfl|>.pick 10 rfl|>.pick 10 rfl
   refine AE ⟨_,H⟩ (BP (AU (Aa (Ae (V U U (AT (z:=((p+1:Nat):Int)) U U U (by rw [AC (by omega) (by omega)];omega)) (Ad U (Ac ?_)))))))
   replace H:=H.p8.p8.p8.p8.p8.pick 10 rfl|>.p6|>.p9|>.pick 10 rfl|>.pick 11 rfl|>.keep 11
   have h3t:Bf J107 C.J:=hf112.trans hsj
   replace H:=QT r101 C R114 vS102 vM103 vC104 vR105 vK106 J107 sb109 h3t H
   replace H:=Hd.bigN (f:=(fun e:Nat×AL=>FX e.1 C e.2)) (x:=(r101,R114)) H
   replace H:=H.h1 (A:=B2 C (rl++[(r101,R114)]))
   replace H:Hd w0 F0 w [B2 C (rl++[(r101,R114)]),blk b31 [.slice A1 C.J.us.length c2,.int .i64 C.J.parts,.slice A6 C.J.map.length c7,.slice A11 C.J.comb.length c12,.slice A16 C.J.red.length c17,.int .i64 C.J.chunk,.int .i64 C.J.window,.int .i64 C.J.fuel,.slice A21 C.J.marks.length c22,.int .i64 C.w,.int .i64 C.t,.int .i64 C.o] 28,blk b68 [.slice A43 J35.us.length c44,.int .i64 J35.parts,.slice A48 J35.map.length c49,.slice A53 J35.comb.length c54,.slice A58 J35.red.length c59,.int .i64 J35.chunk,.int .i64 J35.window,.int .i64 J35.fuel,.slice A63 J35.marks.length c64,.int .i64 C.w,.int .i64 C.t,.int .i64 C.o,.int .i64 ((1+cnt C1 recs:Nat):Int),.slice A96 (((rl.map AF)++[((p:Nat):Int)]).length) c97,.map (some b42),.slice none 0 0,.int .u32 0] 210,Bx BO b42 ((rl++[(r101,R114)]).map BR),Y (Am Ag) (.slice A43 J35.us.length c44) J35.us,Y Af (.slice A48 J35.map.length c49) J35.map,Y Af (.slice A53 J35.comb.length c54) J35.comb,Y Af (.slice A58 J35.red.length c59) J35.red,Y (Ai .i64) (.slice A63 J35.marks.length c64) J35.marks,Y (Ai .i64) (.slice A96 (((rl.map AF)++[((p:Nat):Int)]).length) c97) ((rl++[(r101,R114)]).map AF)] [Z (Am Ag) (.slice A1 C.J.us.length c2) C.J.us,Z Af (.slice A6 C.J.map.length c7) C.J.map,Z Af (.slice A11 C.J.comb.length c12) C.J.comb,Z Af (.slice A16 C.J.red.length c17) C.J.red,Z (Ai .i64) (.slice A21 C.J.marks.length c22) C.J.marks,Z B8 (.slice A26 recs.length c27) recs]:=by rw [List.map_append (f:=AF),show [(r101,R114)].map AF=[((p:Nat):Int)] from by show [R114.part]=_;rw [hRp116]];exact H
   have hrl3:(rl++[(r101,R114)]).map Prod.snd=En C id recs (p+1):=by rw [List.map_append,hrl2,Yu h93];show _++[R114]=_;rw [hR115,h3t.len];rfl
   replace H:=H.p8.p8.p8.p8.p8.p8.p8.p8
   exact Bi (s:=(p,undef,rl)) (p+1,.slice A96 (((rl.map AF)++[((p:Nat):Int)]).length) c97,rl++[(r101,R114)]) ⟨rfl,rfl,rfl,rfl,rfl,rfl,rfl,rfl,trivial⟩ ⟨H,by (try dsimp only);omega,hrl3⟩ (by (try dsimp only);omega)
  exact Av (AU (Aa (Ae (V U U (AT (z:=((p+1:Nat):Int)) U U U (by rw [AC (by omega) (by omega)];omega)) (Ad U (Ac (Bi (s:=(p,undef,rl)) (p+1,q,rl) ⟨rfl,rfl,rfl,rfl,rfl,rfl,rfl,rfl,trivial⟩ ⟨H,by (try dsimp only);omega,by (try dsimp only);rw [Yr h93];exact hrl2⟩ (by (try dsimp only);omega))))))))
 refine BC (AM (AM (BD (Aa (Ab (Ae (Ah 3 U (Ac (Aa (An (Cl U U U ?_)))))))))))
 replace H:=H.newnil Cd
 replace H:=Hd.big0 (fun e:Nat×BH=>BW e.1 C.J e.2) H
 replace H:Hd _ _ _ [Cg C.J ([]:List (Nat×BH)),Y Cd (.slice none 0 0) (([]:List (Nat×BH)).map AI),blk b31 [.slice A1 C.J.us.length c2,.int .i64 C.J.parts,.slice A6 C.J.map.length c7,.slice A11 C.J.comb.length c12,.slice A16 C.J.red.length c17,.int .i64 C.J.chunk,.int .i64 C.J.window,.int .i64 C.J.fuel,.slice A21 C.J.marks.length c22,.int .i64 C.w,.int .i64 C.t,.int .i64 C.o] 28,blk b68 [.slice A43 J35.us.length c44,.int .i64 J35.parts,.slice A48 J35.map.length c49,.slice A53 J35.comb.length c54,.slice A58 J35.red.length c59,.int .i64 J35.chunk,.int .i64 J35.window,.int .i64 J35.fuel,.slice A63 J35.marks.length c64,.int .i64 C.w,.int .i64 C.t,.int .i64 C.o,.int .i64 ((1+cnt C1 recs:Nat):Int),q,.map (some b42),.slice none 0 0,.int .u32 0] 210,Bx BO b42 (rl.map BR),Y (Am Ag) (.slice A43 J35.us.length c44) J35.us,Y Af (.slice A48 J35.map.length c49) J35.map,Y Af (.slice A53 J35.comb.length c54) J35.comb,Y Af (.slice A58 J35.red.length c59) J35.red,Y (Ai .i64) (.slice A63 J35.marks.length c64) J35.marks,B2 C rl,Y (Ai .i64) q (rl.map AF)] [Z (Am Ag) (.slice A1 C.J.us.length c2) C.J.us,Z Af (.slice A6 C.J.map.length c7) C.J.map,Z Af (.slice A11 C.J.comb.length c12) C.J.comb,Z Af (.slice A16 C.J.red.length c17) C.J.red,Z (Ai .i64) (.slice A21 C.J.marks.length c22) C.J.marks,Z B8 (.slice A26 recs.length c27) recs]:=H
 replace H:=H.p1.pick 10 rfl|>.p5|>.pick 11 rfl|>.pick 11 rfl|>.pick 11 rfl|>.pick 11 rfl|>.pick 11 rfl|>.pick 11 rfl|>.pick 11 rfl|>.keep 11
 replace H:=EE b68 C (E1 C id recs) (.slice A43 J35.us.length c44) (.slice A48 J35.map.length c49) (.slice A53 J35.comb.length c54) (.slice A58 J35.red.length c59) (.slice A63 J35.marks.length c64) J35 q b42 (.slice none 0 0) rl [] ⟨hsj,(by show _=En C id recs C.J.parts.toNat;rw [show C.J.parts.toNat=p by omega];exact hrl2),rfl⟩ H
 replace H:=H.h1 (A:=Bp b68 C (E1 C id recs))
 exact Al ⟨b68,rfl,rfl⟩ H
theorem Zb  :
    Cn Tryz.prog 139 [] [] [] (fun v Bs=>∃ vS:Value,∃ vP:Value,∃ u:Value,v=.agg #[vS,.int .i64 1,vP,.slice none 0 0,vP,.int .i64 1,.int .i64 1,.int .i64 9,.slice none 0 0,.int .i64 1,.int .i64 2,.int .i64 1]∧Bs=[Y (Am Ag) vS [(u,DA)],Y Af vP DP]):=by
 intro w0 F0 H
 refine enter Tryz.func139 U U (Nat.le_of_ble_eq_true U) (Ab (Ae (Dg U U U RT H (fun b1 w H=>(Ac (Aa ?_))))))
 replace H:Hd _ _ _ [blk b1 [.slice none 0 0,.int .i64 0,.slice none 0 0,.slice none 0 0,.slice none 0 0,.int .i64 0,.int .i64 0,.int .i64 0,.slice none 0 0,.int .i64 0,.int .i64 0,.int .i64 0] 28] []:=H
 refine Ab (Ae (V U U (Co (parts:=[(0,.const (.int .i64 6))]) (vs:=[.int .i64 6]) (cs:=[.int .i64 6,.int .i64 0,.string ⟨#[]⟩]) U JB U U) (V U U (Co (parts:=[(0,.const (.int .i64 7))]) (vs:=[.int .i64 7]) (cs:=[.int .i64 7,.int .i64 0,.string ⟨#[]⟩]) U JB U U) (V U U (Co (parts:=[(0,.const (.int .i64 4))]) (vs:=[.int .i64 4]) (cs:=[.int .i64 4,.int .i64 0,.string ⟨#[]⟩]) U JB U U) (V U U (Co (parts:=[(0,.const (.int .i64 23))]) (vs:=[.int .i64 23]) (cs:=[.int .i64 23,.int .i64 0,.string ⟨#[]⟩]) U JB U U) (BX (parts:=[(0,.tmp 2),(1,.tmp 3),(2,.tmp 4),(3,.tmp 5)]) (vs:=[.agg #[.int .i64 6,.int .i64 0,.string ⟨#[]⟩],.agg #[.int .i64 7,.int .i64 0,.string ⟨#[]⟩],.agg #[.int .i64 4,.int .i64 0,.string ⟨#[]⟩],.agg #[.int .i64 23,.int .i64 0,.string ⟨#[]⟩]]) (cs:=[.int .i64 6,.int .i64 0,.string ⟨#[]⟩,.int .i64 7,.int .i64 0,.string ⟨#[]⟩,.int .i64 4,.int .i64 0,.string ⟨#[]⟩,.int .i64 23,.int .i64 0,.string ⟨#[]⟩]) U U U G3 K7 U (by decide) (by decide) U U H (fun b2 w H=>?_)))))))
 replace H:=H.h1 (A:=blk b2 [.int .i64 6,.int .i64 0,.string ⟨#[]⟩,.int .i64 7,.int .i64 0,.string ⟨#[]⟩,.int .i64 4,.int .i64 0,.string ⟨#[]⟩,.int .i64 23,.int .i64 0,.string ⟨#[]⟩] 223)
 refine Ad U (Ac (Aa (Ab (Ae (V U U (Co (parts:=[(0,.const (.string ⟨#[98]⟩)),(1,.const (.string ⟨#[49]⟩))]) (vs:=[.string ⟨#[98]⟩,.string ⟨#[49]⟩]) (cs:=[.string ⟨#[98]⟩,.string ⟨#[49]⟩]) U NJ U U) (BX (parts:=[(0,.tmp 7)]) (vs:=[.agg #[.string ⟨#[98]⟩,.string ⟨#[49]⟩]]) (cs:=[.string ⟨#[98]⟩,.string ⟨#[49]⟩]) U U U BB Dd U (by decide) (by decide) U U H (fun b3 w H=>(BX (parts:=[(0,.tmp 8)]) (vs:=[.slice (some ⟨b3,0,none⟩) 1 1]) (cs:=[.slice (some ⟨b3,0,none⟩) 1 1]) U U U FG K8 U (by decide) (by decide) U U H (fun b4 w H=>(Ah 2 U (V U U (Co (parts:=[(0,.tmp 9),(1,.const (.int .i64 1)),(2,.tmp 10),(4,.tmp 11),(5,.const (.int .i64 1)),(6,.const (.int .i64 1)),(7,.const (.int .i64 9))]) (vs:=[.slice (some ⟨b4,0,none⟩) 1 1,.int .i64 1,.slice (some ⟨b2,0,none⟩) 4 4,.slice (some ⟨b2,0,none⟩) 4 4,.int .i64 1,.int .i64 1,.int .i64 9]) (cs:=[.slice (some ⟨b4,0,none⟩) 1 1,.int .i64 1,.slice (some ⟨b2,0,none⟩) 4 4,.slice none 0 0,.slice (some ⟨b2,0,none⟩) 4 4,.int .i64 1,.int .i64 1,.int .i64 9,.slice none 0 0]) U Sf U U) ?_)))))))))))
 refine V U U (Co (parts:=[(0,.tmp 12),(1,.const (.int .i64 1)),(2,.const (.int .i64 2)),(3,.const (.int .i64 1))]) (vs:=[.agg #[.slice (some ⟨b4,0,none⟩) 1 1,.int .i64 1,.slice (some ⟨b2,0,none⟩) 4 4,.slice none 0 0,.slice (some ⟨b2,0,none⟩) 4 4,.int .i64 1,.int .i64 1,.int .i64 9,.slice none 0 0],.int .i64 1,.int .i64 2,.int .i64 1]) (cs:=[.slice (some ⟨b4,0,none⟩) 1 1,.int .i64 1,.slice (some ⟨b2,0,none⟩) 4 4,.slice none 0 0,.slice (some ⟨b2,0,none⟩) 4 4,.int .i64 1,.int .i64 1,.int .i64 9,.slice none 0 0,.int .i64 1,.int .i64 2,.int .i64 1]) U Sg U U) ?_
 replace H:=H.p3
 refine BE U U U DE U U H U (Nat.le_of_ble_eq_true U) (fun u hu=>by simp [Value.cells] at hu;rcases hu with rfl|rfl|rfl|rfl|rfl|rfl|rfl|rfl|rfl|rfl|rfl|rfl<;>rfl) (fun w H=>?_)
 replace H:Hd _ _ _ [blk b1 [.slice (some ⟨b4,0,none⟩) 1 1,.int .i64 1,.slice (some ⟨b2,0,none⟩) 4 4,.slice none 0 0,.slice (some ⟨b2,0,none⟩) 4 4,.int .i64 1,.int .i64 1,.int .i64 9,.slice none 0 0,.int .i64 1,.int .i64 2,.int .i64 1] 28,blk b4 [.slice (some ⟨b3,0,none⟩) 1 1] 35,blk b3 [.string ⟨#[98]⟩,.string ⟨#[49]⟩] 106,blk b2 [.int .i64 6,.int .i64 0,.string ⟨#[]⟩,.int .i64 7,.int .i64 0,.string ⟨#[]⟩,.int .i64 4,.int .i64 0,.string ⟨#[]⟩,.int .i64 23,.int .i64 0,.string ⟨#[]⟩] 223] []:=H
 refine Ac (Aa (An (FD (cs:=[.slice (some ⟨b4,0,none⟩) 1 1,.int .i64 1,.slice (some ⟨b2,0,none⟩) 4 4,.slice none 0 0,.slice (some ⟨b2,0,none⟩) 4 4,.int .i64 1,.int .i64 1,.int .i64 9,.slice none 0 0,.int .i64 1,.int .i64 2,.int .i64 1]) U U DE U (H.cellsI 0 U U) ?_)))
 replace H:=H.p2
 replace H:Hd w0 F0 w [Y Ag (.slice (some ⟨b3,0,none⟩) 1 1) DA,blk b1 [.slice (some ⟨b4,0,none⟩) 1 1,.int .i64 1,.slice (some ⟨b2,0,none⟩) 4 4,.slice none 0 0,.slice (some ⟨b2,0,none⟩) 4 4,.int .i64 1,.int .i64 1,.int .i64 9,.slice none 0 0,.int .i64 1,.int .i64 2,.int .i64 1] 28,blk b4 [.slice (some ⟨b3,0,none⟩) 1 1] 35,blk b2 [.int .i64 6,.int .i64 0,.string ⟨#[]⟩,.int .i64 7,.int .i64 0,.string ⟨#[]⟩,.int .i64 4,.int .i64 0,.string ⟨#[]⟩,.int .i64 23,.int .i64 0,.string ⟨#[]⟩] 223] []:=H.turn (fun F h=>HE h rfl (by decide) rfl)
 replace H:=H.p3
 replace H:Hd w0 F0 w [Y Af (.slice (some ⟨b2,0,none⟩) 4 4) DP,Y Ag (.slice (some ⟨b3,0,none⟩) 1 1) DA,blk b1 [.slice (some ⟨b4,0,none⟩) 1 1,.int .i64 1,.slice (some ⟨b2,0,none⟩) 4 4,.slice none 0 0,.slice (some ⟨b2,0,none⟩) 4 4,.int .i64 1,.int .i64 1,.int .i64 9,.slice none 0 0,.int .i64 1,.int .i64 2,.int .i64 1] 28,blk b4 [.slice (some ⟨b3,0,none⟩) 1 1] 35] []:=H.turn (fun F h=>HE h rfl (by decide) rfl)
 replace H:=H.p1.p3.k3
 replace H:Hd w0 F0 w [Y Dv (.slice (some ⟨b4,0,none⟩) 1 1) (Bo ([(.slice (some ⟨b3,0,none⟩) 1 1,DA)]:List (Value×List Ap))),Y Ag (.slice (some ⟨b3,0,none⟩) 1 1) DA,Y Af (.slice (some ⟨b2,0,none⟩) 4 4) DP] []:=H.turn (fun F h=>HE h rfl (by decide) rfl)
 replace H:=H.p1
 replace H:=Hd.stI (Bs:=[Y Ag (.slice (some ⟨b3,0,none⟩) 1 1) DA]) H
 replace H:=H.h1 (A:=Ga Ag ([(.slice (some ⟨b3,0,none⟩) 1 1,DA)]:List (Value×List Ap)))|>.p1|>.hdI|>.h1 (A:=Y (Am Ag) (.slice (some ⟨b4,0,none⟩) 1 1) [(.slice (some ⟨b3,0,none⟩) 1 1,DA)])
 exact Al ⟨(.slice (some ⟨b4,0,none⟩) 1 1),(.slice (some ⟨b2,0,none⟩) 4 4),(.slice (some ⟨b3,0,none⟩) 1 1),rfl,rfl⟩ H
theorem HD  :
    Cn Tryz.prog 68 [] [] [gl] (fun v Bs=>v=.bool true∧Bs=[]):=by
 intro w0 F0 H
 refine enter Tryz.func68 U U (Nat.le_of_ble_eq_true U) (Ab (Ae (Ad U (Ac (Aa (Ab (Ae (sc (Zb) H l0 U U (At UT U U) ?_))))))))
 rintro _ _ w ⟨vS1,vP2,u3,rfl,rfl⟩ H
 refine V U U (Co (parts:=[(0,.const (.int .i64 6))]) (vs:=[.int .i64 6]) (cs:=[.int .i64 6,.int .i64 0,.int .i64 0,.int .i64 0,.int .i64 0,.slice none 0 0,.slice none 0 0]) U Sj U U) (BX (parts:=[(0,.tmp 7)]) (vs:=[.agg #[.int .i64 6,.int .i64 0,.int .i64 0,.int .i64 0,.int .i64 0,.slice none 0 0,.slice none 0 0]]) (cs:=[.int .i64 6,.int .i64 0,.int .i64 0,.int .i64 0,.int .i64 0,.slice none 0 0,.slice none 0 0]) U U U MR Ng U (by decide) (by decide) U U H (fun b4 w H=>?_))
 have hC:=MT u3
 have hJ:=Za u3
 replace H:Hd _ _ _ [blk b4 [.int .i64 6,.int .i64 0,.int .i64 0,.int .i64 0,.int .i64 0,.slice none 0 0,.slice none 0 0] 37,Y (Am Ag) vS1 [(u3,DA)],Y Af vP2 DP] [gl]:=H
 replace H:Hd w0 F0 w [Y Gb (.slice (some ⟨b4,0,none⟩) 1 1) [(⟨6,0,0,0,0,⟨none,0,0⟩,⟨none,0,0⟩⟩:F8)],Y (Am Ag) vS1 [(u3,DA)],Y Af vP2 DP] [gl]:=H.turn (fun F h=>HE h rfl (by decide) rfl)
 refine sc (RO vS1 vP2 (.slice none 0 0) vP2 (.slice none 0 0) (CS u3) 1 (.slice (some ⟨b4,0,none⟩) 1 1) ([EP]) hC hJ ⟨by decide,show (1:Int)≤1 by decide⟩ (VX (n:=1)) (by decide)) H (lA 1 U BJ (lA 2 U BJ (lX (fun F _ _=>GZ _ _ F trivial (by decide)) (lA 2 U BJ (lX (fun F _ _=>GZ _ _ F trivial (by decide)) (lX (fun F hA hR=>Yf (us:=[EP]) (BJ F (hA _ (List.mem_of_getElem? (i:=0) U))) (VW (n:=1))) l0)))))) U U (At PA U U) ?_
 rintro _ _ w ⟨b5,rfl,rfl⟩ H
 replace H:=H.h1 (A:=Bp b5 (CS u3) (E1 (CS u3) 1 ([EP])))
 obtain ⟨W0,hW0⟩:∃ z:CC,z=E1 (CS u3) 1 ([EP]):=⟨_,rfl⟩
 rw [←hW0] at H
 replace H:Hd _ _ _ [Bp b5 (CS u3) W0,Y Gb (.slice (some ⟨b4,0,none⟩) 1 1) [(⟨6,0,0,0,0,⟨none,0,0⟩,⟨none,0,0⟩⟩:F8)],Y (Am Ag) vS1 [(u3,DA)],Y Af vP2 DP] [gl]:=H
 have hW0e:W0=⟨2,[CJ 1 0 2 [EP.p]],[],false⟩:=by rw [hW0];exact aF _
 have hw0:=aG dg u3
 rw [←hW0e] at hw0
 have hW0t:∀ M∈W0.ts,ER M:=by rw [hW0e];exact fun M h=>by cases h
 have hOr:Cv 99999 (CJ 1 0 2 [EP.p]):=(Cv.new (rs:=[EP.p]) fun r hr=>by rw [List.mem_singleton.1 hr];exact ⟨Nat.zero_le _,Nat.zero_le _⟩).mono (by decide)
 have hW0r:∀ R∈W0.rs,Cv 99999 R:=by rw [hW0e];exact fun R h=>by rw [List.mem_singleton.1 h];exact hOr
 have hW0l:W0.ts.length≤1000∧W0.rs.length≤1000:=by rw [hW0e];exact ⟨Nat.zero_le _,by decide⟩
 have hW0m:W0.ts.length≤1000:=hW0l.1
 have hk1:(1:Int)=1∨(1:Int)=9:=.inl rfl
 have hfr0:(0:Int)≤0∧(0:Int)≤(CS u3).w:=⟨by decide,show (0:Int)≤1 by decide⟩
 refine Ah 5 U (Ac (Aa (Ab (Ab (Ae (Ad U (V U U (CX U U U) (Ah 2 U (V U U (Dn U G8 U U) (Ad U (Ac (Aa (B7 U (Av (Aa (Ab (Ae (Ad U (sc (KZ b5 (CS u3) W0 (by first |assumption|omega|exact hW0t|exact hW0r|exact hW1t|exact hW1r|exact hW0l|exact hW1l|decide) (by first |assumption|omega|exact hW0t|exact hW0r|exact hW1t|exact hW1r|exact hW0l|exact hW1l|decide) (by first |assumption|omega|exact hW0t|exact hW0r|exact hW1t|exact hW1r|exact hW0l|exact hW1l|decide) (by first |assumption|omega|exact hW0t|exact hW0r|exact hW1t|exact hW1r|exact hW0l|exact hW1l|decide) (by first |assumption|omega|exact hW0t|exact hW0r|exact hW1t|exact hW1r|exact hW0l|exact hW1l|decide)) H (lR 0 U l0) U U (At Ka U U) ?_)))))))))))))))))))
 rintro v8 _ w ⟨zs6,rfl,hf7⟩ H
 replace H:=H.h1 (A:=Y BZ v8 zs6)
 obtain ⟨A9,c10,rfl,hc11,hm12,hp13⟩:=H.fA 0 rfl
 have hz0:=hf7
 rw [hw0] at hz0
 refine Ad U (Ac (Aa (Ab (Ae (Ad U (V U U (Co (parts:=[(0,.const (.int .i64 1)),(2,.const (.int .i64 1))]) (vs:=[.int .i64 1,.int .i64 1]) (cs:=[.int .i64 1,.int .i64 0,.int .i64 1,.int .i64 0,.int .i64 0,.int .i64 0,.int .i64 0,.int .i64 0,.slice none 0 0,.slice none 0 0]) U EI U U) ?_))))))
 replace H:=H.p1
 refine sc (Iy b5 (CS u3) W0 0 1 0 1 (by first |assumption|omega|exact hW0t|exact hW0r|exact hW1t|exact hW1r|exact hW0l|exact hW1l|decide) (by first |assumption|omega|exact hW0t|exact hW0r|exact hW1t|exact hW1r|exact hW0l|exact hW1l|decide) (by first |assumption|omega|exact hW0t|exact hW0r|exact hW1t|exact hW1r|exact hW0l|exact hW1l|decide) (by first |assumption|omega|exact hW0t|exact hW0r|exact hW1t|exact hW1r|exact hW0l|exact hW1l|decide) (by first |assumption|omega|exact hW0t|exact hW0r|exact hW1t|exact hW1r|exact hW0l|exact hW1l|decide)) H (lR 0 U l0) U U (At Ia U U) ?_
 rintro _ _ w ⟨rfl,rfl⟩ H
 replace H:=H.h1 (A:=Bp b5 (CS u3) (DR dg (CS u3) W0 0 1 0 1))
 obtain ⟨W1,hW1⟩:∃ z:CC,z=DR dg (CS u3) W0 0 1 0 1:=⟨_,rfl⟩
 rw [←hW1] at H
 replace H:Hd _ _ _ [Bp b5 (CS u3) W1,Y BZ (.slice A9 zs6.length c10) zs6,Y Gb (.slice (some ⟨b4,0,none⟩) 1 1) [(⟨6,0,0,0,0,⟨none,0,0⟩,⟨none,0,0⟩⟩:F8)],Y (Am Ag) vS1 [(u3,DA)],Y Af vP2 DP] [gl]:=H
 have hW1e:W1=⟨2,[CJ 1 0 2 [EP.p]],[CW dg (CS u3).J 0 1],false⟩:=by rw [hW1,hW0e];exact aE _ _ _
 obtain ⟨la,ly,lc,hw1,hlt,hlk⟩:=aH dg u3
 rw [←hW1e] at hw1
 have hW1t:∀ M∈W1.ts,ER M:=by rw [hW1e];exact fun M h=>by rw [List.mem_singleton.1 h];exact Qc hJ _ _
 have hW1r:∀ R∈W1.rs,Cv 99999 R:=by rw [hW1e];exact fun R h=>by rw [List.mem_singleton.1 h];exact hOr
 have hW1l:W1.ts.length≤1000∧W1.rs.length≤1000:=by rw [hW1e];exact ⟨(show (1:Nat)≤1000 by decide),(show (1:Nat)≤1000 by decide)⟩
 have hWep:W1.ep=2:=by rw [hW1e]
 have hWts:W1.ts.length=1:=by rw [hW1e];rfl
 refine Ac (Aa (Ab (Ae (Ad U (sc (KZ b5 (CS u3) W1 (by first |assumption|omega|exact hW0t|exact hW0r|exact hW1t|exact hW1r|exact hW0l|exact hW1l|decide) (by first |assumption|omega|exact hW0t|exact hW0r|exact hW1t|exact hW1r|exact hW0l|exact hW1l|decide) (by first |assumption|omega|exact hW0t|exact hW0r|exact hW1t|exact hW1r|exact hW0l|exact hW1l|decide) (by first |assumption|omega|exact hW0t|exact hW0r|exact hW1t|exact hW1r|exact hW0l|exact hW1l|decide) (by first |assumption|omega|exact hW0t|exact hW0r|exact hW1t|exact hW1r|exact hW0l|exact hW1l|decide)) H (lR 0 U l0) U U (At Ka U U) ?_)))))
 rintro v16 _ w ⟨zs14,rfl,hf15⟩ H
 replace H:=H.h1 (A:=Y BZ v16 zs14)
 obtain ⟨A17,c18,rfl,hc19,hm20,hp21⟩:=H.fA 0 rfl
 have hz1:=hf15
 rw [hw1] at hz1
 have hz1l:=congrArg List.length hz1
 rw [List.length_map] at hz1l
 have hz1m:zs14.length=3:=hz1l
 refine Ad U (Ac (Aa (Ab (Ae (Ad U ?_)))))
 replace H:=H.p1
 refine sc (aI b5 (CS u3) W1) H l0 U U (At VL U U) ?_
 rintro _ _ w ⟨rfl,rfl⟩ H
 refine V U U (Bb U U U) (Ad U ?_)
 refine AK (d:=28) U (fun h22=>?_) (fun h22=>?_)
 ·refine Ad U (V U U (Co (parts:=[(0,.const (.int .i64 6)),(6,.const (.int .i64 2))]) (vs:=[.int .i64 6,.int .i64 2]) (cs:=[.int .i64 6,.int .i64 0,.int .i64 0,.int .i64 0,.int .i64 0,.int .i64 0,.int .i64 2,.int .i64 0,.slice none 0 0,.slice none 0 0]) U EI U U) (V U U (Co (parts:=[(2,.tmp 30)]) (vs:=[.agg #[.int .i64 6,.int .i64 0,.int .i64 0,.int .i64 0,.int .i64 0,.int .i64 0,.int .i64 2,.int .i64 0,.slice none 0 0,.slice none 0 0]]) (cs:=[.int .i64 0,.int .i64 0,.int .i64 6,.int .i64 0,.int .i64 0,.int .i64 0,.int .i64 0,.int .i64 0,.int .i64 2,.int .i64 0,.slice none 0 0,.slice none 0 0]) U Hg U U) (BX (parts:=[(0,.tmp 31)]) (vs:=[.agg #[.int .i64 0,.int .i64 0,.int .i64 6,.int .i64 0,.int .i64 0,.int .i64 0,.int .i64 0,.int .i64 0,.int .i64 2,.int .i64 0,.slice none 0 0,.slice none 0 0]]) (cs:=[.int .i64 0,.int .i64 0,.int .i64 6,.int .i64 0,.int .i64 0,.int .i64 0,.int .i64 0,.int .i64 0,.int .i64 2,.int .i64 0,.slice none 0 0,.slice none 0 0]) U U U DL E9 U (by decide) (by decide) U U H (fun b23 w H=>?_))))
  replace H:Hd _ _ _ [blk b23 [.int .i64 0,.int .i64 0,.int .i64 6,.int .i64 0,.int .i64 0,.int .i64 0,.int .i64 0,.int .i64 0,.int .i64 2,.int .i64 0,.slice none 0 0,.slice none 0 0] 121,Bp b5 (CS u3) W1,Y BZ (.slice A17 zs14.length c18) zs14,Y BZ (.slice A9 zs6.length c10) zs6,Y Gb (.slice (some ⟨b4,0,none⟩) 1 1) [(⟨6,0,0,0,0,⟨none,0,0⟩,⟨none,0,0⟩⟩:F8)],Y (Am Ag) vS1 [(u3,DA)],Y Af vP2 DP] [gl]:=H
  replace H:Hd w0 F0 w [Y B0 (.slice (some ⟨b23,0,none⟩) 1 1) [(⟨⟨0,0,⟨6,0,0,0,0,0,2,0⟩⟩,⟨none,0,0⟩,⟨none,0,0⟩⟩:D2 BM)],Bp b5 (CS u3) W1,Y BZ (.slice A17 zs14.length c18) zs14,Y BZ (.slice A9 zs6.length c10) zs6,Y Gb (.slice (some ⟨b4,0,none⟩) 1 1) [(⟨6,0,0,0,0,⟨none,0,0⟩,⟨none,0,0⟩⟩:F8)],Y (Am Ag) vS1 [(u3,DA)],Y Af vP2 DP] [gl]:=H.turn (fun F h=>HE h rfl (by decide) rfl)
  refine sc (Rc (.slice A9 zs6.length c10) zs6 (.slice (some ⟨b23,0,none⟩) 1 1) [(⟨⟨0,0,⟨6,0,0,0,0,0,2,0⟩⟩,.slice none 0 0,[],.slice none 0 0,[]⟩:A_ BM)]) H (lA 3 U (fun F h=>BJ F h) (lX (fun F hA hR=>ZP (us:=[(⟨⟨0,0,⟨6,0,0,0,0,0,2,0⟩⟩,.slice none 0 0,[],.slice none 0 0,[]⟩:A_ BM)]) (BJ F (hA _ (List.mem_of_getElem? (i:=0) U))) (fun r hr=>by rw [List.mem_singleton.1 hr];exact ⟨GZ _ _ _ trivial (by decide),GZ _ _ _ trivial (by decide)⟩)) l0)) U U (At PB U U) ?_
  rintro _ _ w ⟨rfl,rfl⟩ H
  refine Ah 2 U ?_
  refine AK (d:=35) U (fun h24=>?_) (fun h24=>?_)
  ·refine Ad U (V U U (A8 U GG U) (V U U (Bb U U U) (Ah 2 U ?_)))
   refine AK (d:=40) U (fun h25=>?_) (fun h25=>?_)
   ·refine Ad U ?_
    obtain ⟨⟨⟨a28,a29,⟨a30,a31,a32,a33,a34,a35,a36,a37⟩⟩,sv38,se39,pv40,pr41⟩,hx27⟩:∃ z9,zs14[1]?=some z9:=⟨_,List.getElem?_eq_getElem (show 1<zs14.length by omega)⟩
    obtain ⟨A42,c43,A44,c45,rfl,rfl,m46,m47,m48,m49⟩:=H.nestAt 2 rfl hx27
    have th50:=H.thAt 2 rfl hx27
    refine V U U (AZ (p:=AP A17+1*12) U DL U U (by omega) (by omega) th50 (by omega)) (V U U (Aj U JP U) (V U U (Ak U AB U (H.elAt 2 U hx27 (q:=1) U U)) (V U U (Bb U U U) (Ah 2 U ?_))))
    refine AK (d:=47) U (fun h51=>?_) (fun h51=>?_)
    ·refine Ad U ?_
     have th52:=H.thAt 2 rfl hx27
     refine V U U (AZ (p:=AP A17+1*12) U DL U U (by omega) (by omega) th52 (by omega)) (V U U (Aj U II U) (V U U (Aj U Fh U) (V U U (Ak U AB U (H.elAt 2 U hx27 (q:=2) U U)) (V U U (Bb U U U) (Ah 2 U ?_)))))
     refine AK (d:=55) U (fun h53=>?_) (fun h53=>?_)
     ·refine Ad U ?_
      replace H:=H.p1
      replace H:Hd _ _ _ [Bp b5 (CS u3) W1,Y B0 (.slice (some ⟨b23,0,none⟩) 1 1) [(⟨⟨0,0,⟨6,0,0,0,0,0,2,0⟩⟩,⟨none,0,0⟩,⟨none,0,0⟩⟩:D2 BM)],Y BZ (.slice A17 zs14.length c18) zs14,Y BZ (.slice A9 zs6.length c10) zs6,Y Gb (.slice (some ⟨b4,0,none⟩) 1 1) [(⟨6,0,0,0,0,⟨none,0,0⟩,⟨none,0,0⟩⟩:F8)],Y (Am Ag) vS1 [(u3,DA)],Y Af vP2 DP] [gl]:=H
      refine sc (M6 b5 (CS u3) W1) H l0 U U (At L4 U U) ?_
      rintro _ _ w ⟨rfl,rfl⟩ H
      refine V U U (Bb U U U) (Ah 2 U (Ac (Aa (An (Aq U U ?_)))))
      replace H:=H.nil
      exact Al ⟨congrArg Value.bool (decide_eq_true (by omega)),rfl⟩ H
     exact (h53 (by have h9:=L8 hz1 hx27;have h8:ly=Ca (⟨⟨a28,a29,⟨a30,a31,a32,a33,a34,a35,a36,a37⟩⟩,.slice A42 se39.length c43,se39,.slice A44 pr41.length c45,pr41⟩:A_ BM):=Option.some.inj h9;first |exact (congrArg Ds.to h8).symm.trans hlt|exact (congrArg (fun z:Ds=>z.m.kind) h8).symm.trans hlk)).elim
    exact (h51 (by have h9:=L8 hz1 hx27;have h8:ly=Ca (⟨⟨a28,a29,⟨a30,a31,a32,a33,a34,a35,a36,a37⟩⟩,.slice A42 se39.length c43,se39,.slice A44 pr41.length c45,pr41⟩:A_ BM):=Option.some.inj h9;first |exact (congrArg Ds.to h8).symm.trans hlt|exact (congrArg (fun z:Ds=>z.m.kind) h8).symm.trans hlk)).elim
   exact (h25 (by omega)).elim
  exact (h24 hz0).elim
 exact (h22 hWep).elim
def C3 (f:Nat→Bool):List Value:=(List.range 24).map fun j=>.bool (f j)
theorem Jz (f:Nat→Bool):(C3 f).length=24:=by unfold C3;rw [List.length_map,List.length_range]
theorem Jy {f:Nat→Bool} {j p:Nat} (hp:p=j) (h:j<24):(C3 f)[p]?=some (.bool (f j)):=by
 subst hp
 unfold C3
 rw [List.getElem?_map,List.getElem?_range h]
 rfl
theorem R4 {f:Nat→Bool} {j p:Nat} (hp:p=j) (h:j<24) (v:Bool):Es (C3 f) p [.bool v]=C3 (B3 f j v):=by
 subst hp
 show (C3 f).set p (.bool v)=_
 apply List.ext_getElem?
 intro i
 rw [List.getElem?_set,Jz]
 by_cases hi:i<24
 ·by_cases e:p=i
  ·subst e
   rw [if_pos rfl,if_pos h,Jy rfl h,GA]
  ·rw [if_neg e,Jy rfl hi,Jy rfl hi,Gz _ _ (Ne.symm e)]
 ·rw [if_neg (by omega),List.getElem?_eq_none (by rw [Jz];omega),List.getElem?_eq_none (by rw [Jz];omega)]
def HY (f:Nat→Bool) (ts:List BH):Prop:=∀ s a:Nat,s<6→a<4→f (s*4+a)=D4 ts (s:Int) (a:Int)
theorem Ug:HY (fun _=>false) []:=fun s a _ _=>rfl
theorem TF (ts:List BH) (M:BH) (s a:Int):D4 (ts++[M]) s a=(D4 ts s a||Fj s a M):=by
 unfold D4
 rw [List.any_append]
 simp
theorem OU {f:Nat→Bool} {ts:List BH} (h:HY f ts) {s a:Nat} {M:BH} (h1:M.sp=s) (h2:M.att=(a:Int)) (ha:a<4):HY (B3 f (s*4+a) true) (ts++[M]):=by
 intro s' a' hs' ha'
 rw [TF,←h s' a' hs' ha']
 unfold Fj
 rw [h1,h2]
 by_cases e:s'=s∧a'=a
 ·obtain ⟨rfl,rfl⟩:=e
  rw [GA]
  simp
 ·rw [Gz _ _ (by omega)]
  have h3:(decide (((s:Nat):Int)=(s':Int)) && decide (((a:Nat):Int)=(a':Int)))=false:=by
   rw [←Bool.decide_and]
   exact decide_eq_false (by omega)
  rw [h3,Bool.or_false]
theorem OZ (D:AV) (C:Cf) (W:CC) (k s a:Int):DR D C W 1 k s a=W:=if_pos (by decide)
theorem O0 (D:AV) (C:Cf) (W:CC) (s a:Int):DR D C W 0 1 s a=Eh D C W s a:=by
 unfold DR
 rw [if_neg (fun h=>h rfl),if_pos rfl]
theorem Uk (D:AV) (C:Cf) (W:CC) (s a:Int):DR D C W 0 9 s a={ W with ts:=[],over:=true }:=by
 unfold DR
 rw [if_neg (fun h=>h rfl),if_neg (by decide)]
theorem YF (D:AV) (C:Cf) (W:CC) (s:Int):Eh D C W s (C.t+1)=W:=by
 unfold Eh
 split
 ·rfl
 ·rw [if_neg (fun h=>by have:=h.2.2.2;omega)]
theorem YE {D:AV} {C:Cf} {W:CC} {s a:Int} (h:D4 W.ts s a=true):Eh D C W s a=W:=if_pos (by rw [h];cases W.over<;>rfl)
theorem YJ {D:AV} {C:Cf} {W:CC} {s a:Int} (ho:W.over=false) (h:D4 W.ts s a=false) (hm:Hs C s a):Eh D C W s a={ W with ts:=W.ts++[CW D C.J s.toNat a] }:=by
 unfold Eh
 rw [ho,h,if_neg (by decide),if_pos hm]
theorem ZC {D:AV} {C:Cf} {s:Nat} {a:Int} {M:BH} (hM:M=CW D C.J s a) (h:(Ay D C.J M.sp).2≠0):DD D C M=[⟨0,0,⟨5,M.sp,M.att,0,0,0,0,(Ay D C.J M.sp).2,[],[]⟩⟩]:=by
 unfold DD doneL
 rw [if_pos h]
 have h1:FV D C.J M=[]:=by
  have h2:M.ws=[]:=by
   rw [hM] at h ⊢
   have h3:(Ay D C.J s).2≠0:=h
   show (Bj D C.J s a).map _=[]
   rw [Lg h3]
   rfl
  unfold FV
  rw [h2]
  rfl
 rw [h1]
 rfl
theorem ZD {D:AV} {C:Cf} {M:BH} (h:¬ (Ay D C.J M.sp).2≠0) {zs:List (A_ CH)} (hz:zs.map FS=FV D C.J M):DD D C M=(⟨0,0,⟨4,M.sp,M.att,0,0,0,0,0,Bj D C.J M.sp M.att,[]⟩⟩:Ds)::(zs.map (lf C)).map Ca:=by
 unfold DD doneL
 rw [if_neg h,←hz,List.map_map,List.map_map]
 rfl
theorem PX (n:Nat) (p ep:Int):CT n (CJ n p ep [])=[]:=by
 unfold CT
 rw [List.filter_eq_nil_iff.2 fun i _=>by show ¬ (Ji.merged=true);decide]
 rfl
theorem Ul {D:AV} {J:AD} (hJ:1≤J.us.length) (p:Int):Hm D J (CJ J.us.length p 1 [])=⟨0,0,⟨6,0,0,p,0,0,1,0,[],[]⟩⟩:=by
 unfold Hm
 rw [O1]
 ·rw [PX];rfl
 ·unfold DI
  rw [PX,if_pos (show ([]:List Int).length<J.us.length from hJ)]
  decide
theorem M8 {D:AV} {C:Cf} {W:CC} (h:W.over=false):Fr D C W=W.ts.flatMap (DD D C)++W.rs.map (Hm D C.J):=by
 unfold Fr
 rw [if_neg (by rw [h];decide)]
theorem ZL {D:AV} {C:Cf} {W:CC} (h:W.over=false) {zs ls:List (A_ BM)} (hz:zs.map Ca=Fr D C W) (hl:ls.map Ca=W.ts.flatMap (DD D C)):zs.length=ls.length+W.rs.length:=by
 have h1:=congrArg List.length hz
 rw [M8 h,←hl,List.length_append,List.length_map,List.length_map,List.length_map] at h1
 exact h1
theorem ZM {D:AV} {C:Cf} {W:CC} (h:W.over=false) {zs ls:List (A_ BM)} (hz:zs.map Ca=Fr D C W) (hl:ls.map Ca=W.ts.flatMap (DD D C)):(zs.take ls.length).map Ca=ls.map Ca:=by
 rw [List.map_take,hz,M8 h,←hl]
 exact List.take_left' (List.length_map ..)
theorem ZK {D:AV} {C:Cf} {W:CC} {id:Int} (hC:1≤C.J.us.length) (h:W.over=false) (hr:W.rs=(E1 C id []).rs) {zs ls:List (A_ BM)} (hz:zs.map Ca=Fr D C W) (hl:ls.map Ca=W.ts.flatMap (DD D C)) {k i:Nat} {x:A_ BM} {p:Int} (hi:i=ls.length+k) (hx:zs[i]?=some x) (hp:(W.rs.map Df)[k]?=some p):Ca x=⟨0,0,⟨6,0,0,p,0,0,1,0,[],[]⟩⟩:=by
 have h1:=L8 hz hx
 rw [M8 h,←hl,hi,List.getElem?_append_right (by rw [List.length_map];omega),List.length_map,Nat.add_sub_cancel_left] at h1
 rw [hr] at h1 hp
 have h2:(E1 C id []).rs=(E0 C id C.J.parts.toNat).map fun (p:Nat)=>CJ C.J.us.length p 1 []:=rfl
 rw [h2] at h1 hp
 rw [List.map_map,List.getElem?_map] at h1 hp
 obtain ⟨q,hq,e1⟩:=Option.map_eq_some_iff.1 h1
 rw [hq] at hp
 have e2:((q:Nat):Int)=p:=Option.some.inj hp
 rw [←e1,←e2]
 exact Ul hC _
theorem Rp {D:AV} {C:Cf} {ls more:List (A_ BM)} {ts ts':List BH} {M:BH} (hz:ls.map Ca=ts.flatMap (DD D C)) (ht:ts'=ts++[M]) (hn:more.map Ca=DD D C M):(ls++more).map Ca=ts'.flatMap (DD D C):=by
 rw [List.map_append,hz,hn,ht,List.flatMap_append]
 simp
theorem YG (D:AV) (C:Cf) (W:CC) (s a:Int):(Eh D C W s a).ts.length≤W.ts.length+1:=by
 unfold Eh
 split
 ·omega
 ·split
  ·show (W.ts++[_]).length≤_
   rw [List.length_append]
   simp
  ·omega
theorem WE (C:Cf) (id:Int):∀ R∈(E1 C id []).rs,Cv 99999 R:=fun R h=>by
 have h2:R∈(E0 C id C.J.parts.toNat).map fun (p:Nat)=>CJ C.J.us.length p 1 []:=h
 obtain ⟨p,_,rfl⟩:=List.mem_map.1 h2
 exact (Cv.new (rs:=[]) fun r hr=>by cases hr).mono (by decide)
theorem aW (vS vM vC vR vK:Value) (C:Cf) (ss:List (List Ap)) (gm:∀ i∈C.J.map,AA i.a) (gc:∀ i∈C.J.comb,AA i.a) (gr:∀ i∈C.J.red,AA i.a) (k0:Int) (wk:AA k0) (vq:Value) (splits:List Int) (wsplits:(∀ x∈splits,AA x)∧splits.length≤9223372036854775807) (va:Value) (attempts:List Int) (wattempts:(∀ x∈attempts,AA x)∧attempts.length≤9223372036854775807):
    Cn Tryz.prog 14 [.agg #[vS,.int .i64 C.J.parts,vM,vC,vR,.int .i64 C.J.chunk,.int .i64 C.J.window,.int .i64 C.J.fuel,vK,.int .i64 C.w,.int .i64 C.t,.int .i64 C.o],.int .i64 k0,vq,va] [] [Z (Am Ag) vS C.J.us,Z (Bg Ag) vS ss,Z Af vM C.J.map,Z Af vC C.J.comb,Z Af vR C.J.red,Z (Ai .i64) vK C.J.marks,Z (Ai .i64) vq splits,Z (Ai .i64) va attempts,gl] (fun v Bs=>v=.bool true∧Bs=[]):=by
 intro w0 F0 H
 obtain ⟨A1,c2,rfl,hc3,hm4,hp5⟩:=H.fR 0 rfl
 obtain ⟨A6,c7,rfl,hc8,hm9,hp10⟩:=H.fR 2 rfl
 obtain ⟨A11,c12,rfl,hc13,hm14,hp15⟩:=H.fR 3 rfl
 obtain ⟨A16,c17,rfl,hc18,hm19,hp20⟩:=H.fR 4 rfl
 obtain ⟨A21,c22,rfl,hc23,hm24,hp25⟩:=H.fR 5 rfl
 obtain ⟨A26,c27,rfl,hc28,hm29,hp30⟩:=H.fR 6 rfl
 obtain ⟨A31,c32,rfl,hc33,hm34,hp35⟩:=H.fR 7 rfl
 refine enter Tryz.func14 U U (Nat.le_of_ble_eq_true U) (Ab (Ae (CA U U U U H (fun b36 w H=>(Ad U (Ac (Aa ?_)))))))
 replace H:Hd _ _ _ [blk b36 [.slice A1 C.J.us.length c2,.int .i64 C.J.parts,.slice A6 C.J.map.length c7,.slice A11 C.J.comb.length c12,.slice A16 C.J.red.length c17,.int .i64 C.J.chunk,.int .i64 C.J.window,.int .i64 C.J.fuel,.slice A21 C.J.marks.length c22,.int .i64 C.w,.int .i64 C.t,.int .i64 C.o] 28] [Z (Am Ag) (.slice A1 C.J.us.length c2) C.J.us,Z (Bg Ag) (.slice A1 C.J.us.length c2) ss,Z Af (.slice A6 C.J.map.length c7) C.J.map,Z Af (.slice A11 C.J.comb.length c12) C.J.comb,Z Af (.slice A16 C.J.red.length c17) C.J.red,Z (Ai .i64) (.slice A21 C.J.marks.length c22) C.J.marks,Z (Ai .i64) (.slice A26 splits.length c27) splits,Z (Ai .i64) (.slice A31 attempts.length c32) attempts,gl]:=H
 refine Ab (Ab (Ae (V U U (Aj U C0 U) (V U U (Bq (cs:=[.slice A1 C.J.us.length c2,.int .i64 C.J.parts,.slice A6 C.J.map.length c7,.slice A11 C.J.comb.length c12,.slice A16 C.J.red.length c17,.int .i64 C.J.chunk,.int .i64 C.J.window,.int .i64 C.J.fuel,.slice A21 C.J.marks.length c22]) U Jr U U (H.cellsI 0 U U)) (sc (T_ (.slice A1 C.J.us.length c2) (.slice A6 C.J.map.length c7) (.slice A11 C.J.comb.length c12) (.slice A16 C.J.red.length c17) (.slice A21 C.J.marks.length c22) C.J) H (lR 0 U (lR 2 U (lR 3 U (lR 4 U (lR 5 U l0))))) U U (At U2 U U) ?_)))))
 rintro _ _ w ⟨rfl,rfl⟩ H
 refine Ad U ?_
 refine E3 (d:=27) (b:=GR C.J) U (fun h37=>?_) (fun h37=>?_)
 ·refine Ah 12 U (Ah 9 U (Ac (Aa ?_)))
  replace H:Hd _ _ _ [blk b36 [.slice A1 C.J.us.length c2,.int .i64 C.J.parts,.slice A6 C.J.map.length c7,.slice A11 C.J.comb.length c12,.slice A16 C.J.red.length c17,.int .i64 C.J.chunk,.int .i64 C.J.window,.int .i64 C.J.fuel,.slice A21 C.J.marks.length c22,.int .i64 C.w,.int .i64 C.t,.int .i64 C.o] 28] [Z (Am Ag) (.slice A1 C.J.us.length c2) C.J.us,Z (Bg Ag) (.slice A1 C.J.us.length c2) ss,Z Af (.slice A6 C.J.map.length c7) C.J.map,Z Af (.slice A11 C.J.comb.length c12) C.J.comb,Z Af (.slice A16 C.J.red.length c17) C.J.red,Z (Ai .i64) (.slice A21 C.J.marks.length c22) C.J.marks,Z (Ai .i64) (.slice A26 splits.length c27) splits,Z (Ai .i64) (.slice A31 attempts.length c32) attempts,gl]:=H
  refine Cw U (Ab (Ae (sc (HD) H (lR 8 U l0) U U (At H_ U U) ?_)))
  rintro _ _ w ⟨rfl,rfl⟩ H
  refine Ad U (Ac (Aa (An (Az (Aq U U ?_)))))
  replace H:=H.nil
  exact Al ⟨rfl,rfl⟩ H
 refine V U U (Bq (cs:=[.slice A1 C.J.us.length c2,.int .i64 C.J.parts,.slice A6 C.J.map.length c7,.slice A11 C.J.comb.length c12,.slice A16 C.J.red.length c17,.int .i64 C.J.chunk,.int .i64 C.J.window,.int .i64 C.J.fuel,.slice A21 C.J.marks.length c22,.int .i64 C.w,.int .i64 C.t,.int .i64 C.o]) U DE U U (H.cellsI 0 U U)) ?_
 replace H:Hd _ _ _ [blk b36 [.slice A1 C.J.us.length c2,.int .i64 C.J.parts,.slice A6 C.J.map.length c7,.slice A11 C.J.comb.length c12,.slice A16 C.J.red.length c17,.int .i64 C.J.chunk,.int .i64 C.J.window,.int .i64 C.J.fuel,.slice A21 C.J.marks.length c22,.int .i64 C.w,.int .i64 C.t,.int .i64 C.o] 28] [Z (Am Ag) (.slice A1 C.J.us.length c2) C.J.us,Z (Bg Ag) (.slice A1 C.J.us.length c2) ss,Z Af (.slice A6 C.J.map.length c7) C.J.map,Z Af (.slice A11 C.J.comb.length c12) C.J.comb,Z Af (.slice A16 C.J.red.length c17) C.J.red,Z (Ai .i64) (.slice A21 C.J.marks.length c22) C.J.marks,Z (Ai .i64) (.slice A26 splits.length c27) splits,Z (Ai .i64) (.slice A31 attempts.length c32) attempts,gl]:=H
 refine sc (IX (.slice A1 C.J.us.length c2) (.slice A6 C.J.map.length c7) (.slice A11 C.J.comb.length c12) (.slice A16 C.J.red.length c17) (.slice A21 C.J.marks.length c22) C) H (lR 0 U (lR 2 U (lR 3 U (lR 4 U (lR 5 U l0))))) U U (At IU U U) ?_
 rintro _ _ w ⟨rfl,rfl⟩ H
 refine V U U (D_ U U) (Ah 2 U ?_)
 refine AK (d:=32) U (fun h38=>?_) (fun h38=>?_)
 ·refine Ah 12 U (Ah 4 U (Ac (Aa ?_)))
  replace H:Hd _ _ _ [blk b36 [.slice A1 C.J.us.length c2,.int .i64 C.J.parts,.slice A6 C.J.map.length c7,.slice A11 C.J.comb.length c12,.slice A16 C.J.red.length c17,.int .i64 C.J.chunk,.int .i64 C.J.window,.int .i64 C.J.fuel,.slice A21 C.J.marks.length c22,.int .i64 C.w,.int .i64 C.t,.int .i64 C.o] 28] [Z (Am Ag) (.slice A1 C.J.us.length c2) C.J.us,Z (Bg Ag) (.slice A1 C.J.us.length c2) ss,Z Af (.slice A6 C.J.map.length c7) C.J.map,Z Af (.slice A11 C.J.comb.length c12) C.J.comb,Z Af (.slice A16 C.J.red.length c17) C.J.red,Z (Ai .i64) (.slice A21 C.J.marks.length c22) C.J.marks,Z (Ai .i64) (.slice A26 splits.length c27) splits,Z (Ai .i64) (.slice A31 attempts.length c32) attempts,gl]:=H
  refine Cw U (Ab (Ae (sc (HD) H (lR 8 U l0) U U (At H_ U U) ?_)))
  rintro _ _ w ⟨rfl,rfl⟩ H
  refine Ad U (Ac (Aa (An (Az (Aq U U ?_)))))
  replace H:=H.nil
  exact Al ⟨rfl,rfl⟩ H
 refine Ad U (V U U (A8 U Ea U) (V U U (Cp U U U) (Ah 2 U ?_)))
 refine AK (d:=37) U (fun h39=>?_) (fun h39=>?_)
 ·refine Ah 11 U (Ac (Aa ?_))
  replace H:Hd _ _ _ [blk b36 [.slice A1 C.J.us.length c2,.int .i64 C.J.parts,.slice A6 C.J.map.length c7,.slice A11 C.J.comb.length c12,.slice A16 C.J.red.length c17,.int .i64 C.J.chunk,.int .i64 C.J.window,.int .i64 C.J.fuel,.slice A21 C.J.marks.length c22,.int .i64 C.w,.int .i64 C.t,.int .i64 C.o] 28] [Z (Am Ag) (.slice A1 C.J.us.length c2) C.J.us,Z (Bg Ag) (.slice A1 C.J.us.length c2) ss,Z Af (.slice A6 C.J.map.length c7) C.J.map,Z Af (.slice A11 C.J.comb.length c12) C.J.comb,Z Af (.slice A16 C.J.red.length c17) C.J.red,Z (Ai .i64) (.slice A21 C.J.marks.length c22) C.J.marks,Z (Ai .i64) (.slice A26 splits.length c27) splits,Z (Ai .i64) (.slice A31 attempts.length c32) attempts,gl]:=H
  refine Cw U (Ab (Ae (sc (HD) H (lR 8 U l0) U U (At H_ U U) ?_)))
  rintro _ _ w ⟨rfl,rfl⟩ H
  refine Ad U (Ac (Aa (An (Az (Aq U U ?_)))))
  replace H:=H.nil
  exact Al ⟨rfl,rfl⟩ H
 refine Ad U (V U U (A8 U Ea U) (Ad U (V U U (A8 U Ea U) (V U U (Bd U U U) (Ah 2 U ?_)))))
 refine AK (d:=44) U (fun h40=>?_) (fun h40=>?_)
 ·refine Ah 4 U (Ac (Aa ?_))
  replace H:Hd _ _ _ [blk b36 [.slice A1 C.J.us.length c2,.int .i64 C.J.parts,.slice A6 C.J.map.length c7,.slice A11 C.J.comb.length c12,.slice A16 C.J.red.length c17,.int .i64 C.J.chunk,.int .i64 C.J.window,.int .i64 C.J.fuel,.slice A21 C.J.marks.length c22,.int .i64 C.w,.int .i64 C.t,.int .i64 C.o] 28] [Z (Am Ag) (.slice A1 C.J.us.length c2) C.J.us,Z (Bg Ag) (.slice A1 C.J.us.length c2) ss,Z Af (.slice A6 C.J.map.length c7) C.J.map,Z Af (.slice A11 C.J.comb.length c12) C.J.comb,Z Af (.slice A16 C.J.red.length c17) C.J.red,Z (Ai .i64) (.slice A21 C.J.marks.length c22) C.J.marks,Z (Ai .i64) (.slice A26 splits.length c27) splits,Z (Ai .i64) (.slice A31 attempts.length c32) attempts,gl]:=H
  refine Cw U (Ab (Ae (sc (HD) H (lR 8 U l0) U U (At H_ U U) ?_)))
  rintro _ _ w ⟨rfl,rfl⟩ H
  refine Ad U (Ac (Aa (An (Az (Aq U U ?_)))))
  replace H:=H.nil
  exact Al ⟨rfl,rfl⟩ H
 refine Ad U (V U U (A8 U Ea U) (V U U (Cp U U U) (Ad U (Ac (Aa ?_)))))
 replace H:Hd _ _ _ [blk b36 [.slice A1 C.J.us.length c2,.int .i64 C.J.parts,.slice A6 C.J.map.length c7,.slice A11 C.J.comb.length c12,.slice A16 C.J.red.length c17,.int .i64 C.J.chunk,.int .i64 C.J.window,.int .i64 C.J.fuel,.slice A21 C.J.marks.length c22,.int .i64 C.w,.int .i64 C.t,.int .i64 C.o] 28] [Z (Am Ag) (.slice A1 C.J.us.length c2) C.J.us,Z (Bg Ag) (.slice A1 C.J.us.length c2) ss,Z Af (.slice A6 C.J.map.length c7) C.J.map,Z Af (.slice A11 C.J.comb.length c12) C.J.comb,Z Af (.slice A16 C.J.red.length c17) C.J.red,Z (Ai .i64) (.slice A21 C.J.marks.length c22) C.J.marks,Z (Ai .i64) (.slice A26 splits.length c27) splits,Z (Ai .i64) (.slice A31 attempts.length c32) attempts,gl]:=H
 refine Ax U (fun h41=>?_) (fun h41=>?_)
 ·refine Ab (Ae (sc (HD) H (lR 8 U l0) U U (At H_ U U) ?_))
  rintro _ _ w ⟨rfl,rfl⟩ H
  refine Ad U (Ac (Aa (An (Az (Aq U U ?_)))))
  replace H:=H.nil
  exact Al ⟨rfl,rfl⟩ H
 refine Av (Aa (Ab ?_))
 have hC:C5 C:=Classical.not_not.1 h38
 have hJ:Cb C.J:=⟨hC.1,gm,gc,gr⟩
 have hus:=hJ.us
 have hpt:=hJ.parts
 have hww:=hC.2.1
 have htt:=hC.2.2.1
 have hsl:splits.length≤12∧splits.length≤attempts.length∧attempts.length≤30:=by omega
 have hn1:1≤C.J.us.length:=by have:=hJ.may.1;omega
 refine BY (.e 0 (.e 1 (.e 2 (.e 3 (.m 4 (.e 5 (.m 6 (.e 7 (.e 8 (.e 9 (.e 10 (.e 11 .z)))))))))))) (fun w=>∃ Ar,Hd w0 F0 w (blk b36 [.slice A1 C.J.us.length c2,.int .i64 C.J.parts,.slice A6 C.J.map.length c7,.slice A11 C.J.comb.length c12,.slice A16 C.J.red.length c17,.int .i64 C.J.chunk,.int .i64 C.J.window,.int .i64 C.J.fuel,.slice A21 C.J.marks.length c22,.int .i64 C.w,.int .i64 C.t,.int .i64 C.o] 28::Ar) [Z (Am Ag) (.slice A1 C.J.us.length c2) C.J.us,Z (Bg Ag) (.slice A1 C.J.us.length c2) ss,Z Af (.slice A6 C.J.map.length c7) C.J.map,Z Af (.slice A11 C.J.comb.length c12) C.J.comb,Z Af (.slice A16 C.J.red.length c17) C.J.red,Z (Ai .i64) (.slice A21 C.J.marks.length c22) C.J.marks,Z (Ai .i64) (.slice A26 splits.length c27) splits,Z (Ai .i64) (.slice A31 attempts.length c32) attempts,gl]) mo (by kernel_rfl) (fun w H=>⟨_,H⟩) H (fun w H=>?_)
 refine Ao U U U (fun w ⟨Ar,H⟩=>Bq (cs:=[.slice A1 C.J.us.length c2,.int .i64 C.J.parts,.slice A6 C.J.map.length c7,.slice A11 C.J.comb.length c12,.slice A16 C.J.red.length c17,.int .i64 C.J.chunk,.int .i64 C.J.window,.int .i64 C.J.fuel,.slice A21 C.J.marks.length c22,.int .i64 C.w,.int .i64 C.t,.int .i64 C.o]) U DE U U (H.cellsI 0 U U)) (Au U (Ao U U U (fun w ⟨Ar,H⟩=>Aj U IO U) (Ao U U U (fun w ⟨Ar,H⟩=>Ak U AB U (H.cellI 0 U U)) (AO U (sc (Ma k0 C.w (by first |assumption|(unfold AA;omega)) (by omega) (by omega)) H l0 U U (At L1 U U) ?_)))))
 rintro _ _ w ⟨rfl,rfl⟩ H
 obtain ⟨lo42,hl43,hl44,hl45⟩:∃ z:Int,IntKind.u64.wrap k0%C.w=z∧0≤z∧z<C.w:=⟨_,rfl,Int.emod_nonneg _ (by omega),Int.emod_lt_of_pos _ (by omega)⟩
 rw [hl43]
 obtain ⟨lo,hloe⟩:∃ z:Int,lo42=z:=⟨_,rfl⟩
 refine AE ⟨_,H⟩ (Ao U U U (fun w ⟨Ar,H⟩=>AT (z:=1+lo42) U U U (AC (by omega) (by omega))) (AO U (sc (RO (.slice A1 C.J.us.length c2) (.slice A6 C.J.map.length c7) (.slice A11 C.J.comb.length c12) (.slice A16 C.J.red.length c17) (.slice A21 C.J.marks.length c22) C (1+lo42) (.slice none 0 0) ([]) hC hJ ⟨by omega,by omega⟩ (fun r h=>by cases h) (Nat.zero_le _)) H (lR 0 U (lR 2 U (lR 3 U (lR 4 U (lR 5 U (lX (fun F hA hR=>GZ _ _ F trivial (by decide)) l0)))))) U U (At PA U U) ?_)))
 rintro _ _ w ⟨b46,rfl,rfl⟩ H
 replace H:Hd _ _ _ [Bp b46 C (E1 C (1+lo42) []),blk b36 [.slice A1 C.J.us.length c2,.int .i64 C.J.parts,.slice A6 C.J.map.length c7,.slice A11 C.J.comb.length c12,.slice A16 C.J.red.length c17,.int .i64 C.J.chunk,.int .i64 C.J.window,.int .i64 C.J.fuel,.slice A21 C.J.marks.length c22,.int .i64 C.w,.int .i64 C.t,.int .i64 C.o] 28] [Z (Am Ag) (.slice A1 C.J.us.length c2) C.J.us,Z (Bg Ag) (.slice A1 C.J.us.length c2) ss,Z Af (.slice A6 C.J.map.length c7) C.J.map,Z Af (.slice A11 C.J.comb.length c12) C.J.comb,Z Af (.slice A16 C.J.red.length c17) C.J.red,Z (Ai .i64) (.slice A21 C.J.marks.length c22) C.J.marks,Z (Ai .i64) (.slice A26 splits.length c27) splits,Z (Ai .i64) (.slice A31 attempts.length c32) attempts,gl]:=H
 replace H:=H.p1
 refine AE ⟨_,H⟩ (Au U (Au U (Au U (Au U (Au U (BP (Aa (Ab (Ab (Ae (Ad U (V U U (CX U U U) (Ah 2 U (V U U (Dn U G8 U U) (Ad U (Ac (Aa (B7 U (Av (Aa (Ab (Ae (Ad U (Ac (Aa (Ab (Ae (Dg U U U bC H (fun b47 w H=>?_)))))))))))))))))))))))))))))
 replace H:=H.h1 (A:=blk b47 [.bool false,.bool false,.bool false,.bool false,.bool false,.bool false,.bool false,.bool false,.bool false,.bool false,.bool false,.bool false,.bool false,.bool false,.bool false,.bool false,.bool false,.bool false,.bool false,.bool false,.bool false,.bool false,.bool false,.bool false] 117)
 refine Ac (Aa (Ab (Ae (Ad U (Ac (Aa (Ab (Ab (Ae (Ad U (Ac (Aa (AS ?_)))))))))))))
 replace H:=H.newnil B0
 replace H:=Hd.tw0 (α:=BM) H
 replace H:=H.h1 (A:=Br ([]:List (A_ BM)))|>.h2 (B:=Y B0 (.slice none 0 0) (([]:List (A_ BM)).map AY))|>.p1|>.p2|>.p4|>.p4|>.h3 (C:=blk b47 (C3 (fun _=>false)) 117)
 refine BQ (σ:=Nat×CC×(Nat→Bool)×Value×List (A_ BM)) (fun (i,W,f0,q,ls)=>[(2,.slice A26 splits.length c27),(3,.slice A31 attempts.length c32),(4,.pointer (some ⟨b36,0,none⟩)),(9,.pointer (some ⟨b46,0,none⟩)),(11,q),(12,.pointer (some ⟨b47,0,none⟩)),(13,.int .i64 ((W.ts.length:Nat):Int)),(14,.int .i64 ((i:Nat):Int))]) (fun (i,W,f0,q,ls) w=>(Hd w0 F0 w [blk b36 [.slice A1 C.J.us.length c2,.int .i64 C.J.parts,.slice A6 C.J.map.length c7,.slice A11 C.J.comb.length c12,.slice A16 C.J.red.length c17,.int .i64 C.J.chunk,.int .i64 C.J.window,.int .i64 C.J.fuel,.slice A21 C.J.marks.length c22,.int .i64 C.w,.int .i64 C.t,.int .i64 C.o] 28,Bp b46 C W,blk b47 (C3 f0) 117,Y B0 q (ls.map AY),Br ls] [Z (Am Ag) (.slice A1 C.J.us.length c2) C.J.us,Z (Bg Ag) (.slice A1 C.J.us.length c2) ss,Z Af (.slice A6 C.J.map.length c7) C.J.map,Z Af (.slice A11 C.J.comb.length c12) C.J.comb,Z Af (.slice A16 C.J.red.length c17) C.J.red,Z (Ai .i64) (.slice A21 C.J.marks.length c22) C.J.marks,Z (Ai .i64) (.slice A26 splits.length c27) splits,Z (Ai .i64) (.slice A31 attempts.length c32) attempts,gl])∧(i≤splits.length)∧(W.rs=(E1 C (1+lo42) []).rs∧W.over=false)∧(∀ M∈W.ts,ER M)∧(W.ts.length≤i)∧(HY f0 W.ts)∧(ls.map Ca=W.ts.flatMap (DD dg C))∧(ls.length≤4001*i)) (fun (i,W,f0,q,ls)=>splits.length - i) (0,(E1 C (1+lo42) []),(fun _=>false),.slice none 0 0,[]) ⟨rfl,rfl,rfl,rfl,rfl,rfl,rfl,rfl,trivial⟩ ⟨H,Nat.zero_le _,⟨rfl,rfl⟩,(fun M h=>by cases h),Nat.zero_le _,Ug,rfl,Nat.zero_le _⟩ ?_
 rintro ⟨i,W,f0,q,ls⟩ w ⟨H,hi,hWs,hWt,hWn,hhd,hz,hll⟩
 have hlf:(ls.map AY).length=ls.length:=List.length_map ..
 refine Ab (Ab (Ae (Ah 2 U (V U U (A8 U Ea U) (V U U (Bd U U U) (Ac (Aa ?_)))))))
 refine Ax U (fun h48=>?_) (fun h48=>?_)
 ·refine Av (Aa (Ab (AS (Ab (BY (.e 0 (.e 1 (.e 2 (.e 3 (.e 4 (.e 5 (.e 6 (.e 7 (.e 9 (.e 10 (.e 11 (.e 12 (.e 13 (.e 14 (.m 8 (.m 15 (.e 16 (.e 17 (.e 18 .z))))))))))))))))))) (fun w=>∃ Ar,Hd w0 F0 w (blk b36 [.slice A1 C.J.us.length c2,.int .i64 C.J.parts,.slice A6 C.J.map.length c7,.slice A11 C.J.comb.length c12,.slice A16 C.J.red.length c17,.int .i64 C.J.chunk,.int .i64 C.J.window,.int .i64 C.J.fuel,.slice A21 C.J.marks.length c22,.int .i64 C.w,.int .i64 C.t,.int .i64 C.o] 28::Bp b46 C W::blk b47 (C3 f0) 117::Y B0 q (ls.map AY)::Br ls::Ar) [Z (Am Ag) (.slice A1 C.J.us.length c2) C.J.us,Z (Bg Ag) (.slice A1 C.J.us.length c2) ss,Z Af (.slice A6 C.J.map.length c7) C.J.map,Z Af (.slice A11 C.J.comb.length c12) C.J.comb,Z Af (.slice A16 C.J.red.length c17) C.J.red,Z (Ai .i64) (.slice A21 C.J.marks.length c22) C.J.marks,Z (Ai .i64) (.slice A26 splits.length c27) splits,Z (Ai .i64) (.slice A31 attempts.length c32) attempts,gl]) mo (by kernel_rfl) (fun w H=>⟨_,H⟩) H (fun w H=>?_))))))
  refine Au U (Au U ?_)
  obtain ⟨x49,hx50⟩:∃ z9,splits[i]?=some z9:=⟨_,List.getElem?_eq_getElem (show i<splits.length by omega)⟩
  have th51:=H.thR 6 rfl hx50
  refine Ao U U U (fun w ⟨Ar,H⟩=>AZ (p:=AP A26+i*1) U Dx U U (by omega) (by omega) th51 U) (Ao U U U (fun w ⟨Ar,H⟩=>Ak U AB U (H.elR 6 U hx50 (q:=0) U U)) (Ao U U U (fun w ⟨Ar,H⟩=>Aj U C0 U) (Ao U U U (fun w ⟨Ar,H⟩=>Aj U DQ U) (Ao U U U (fun w ⟨Ar,H⟩=>Ak U DU U (H.cellI 0 U U)) (Ao U U U (fun w ⟨Ar,H⟩=>A8 U Ej U) (Au U (Au U ?_)))))))
  obtain ⟨x52,hx53⟩:∃ z9,attempts[i]?=some z9:=⟨_,List.getElem?_eq_getElem (show i<attempts.length by omega)⟩
  have th54:=H.thR 7 rfl hx53
  refine Ao U U U (fun w ⟨Ar,H⟩=>AZ (p:=AP A31+i*1) U Dx U U (by omega) (by omega) th54 U) (Ao U U U (fun w ⟨Ar,H⟩=>Ak U AB U (H.elR 7 U hx53 (q:=0) U U)) (Ao U U U (fun w ⟨Ar,H⟩=>Aj U IP U) (Ao U U U (fun w ⟨Ar,H⟩=>Ak U AB U (H.cellI 0 U U)) (AO U ?_))))
  have h64splits:AA x49:=wsplits.1 _ (Ce hx50)
  refine sc (Ma x49 ((C.J.us.length:Nat):Int) (by first |assumption|(unfold AA;omega)) (by omega) (by omega)) H l0 U U (At L1 U U) ?_
  rintro _ _ w ⟨rfl,rfl⟩ H
  obtain ⟨lo55,hl56,hl57,hl58⟩:∃ z:Int,IntKind.u64.wrap x49%((C.J.us.length:Nat):Int)=z∧0≤z∧z<((C.J.us.length:Nat):Int):=⟨_,rfl,Int.emod_nonneg _ (by omega),Int.emod_lt_of_pos _ (by omega)⟩
  rw [hl56]
  obtain ⟨sN,rfl⟩:∃ z:Nat,lo55=(z:Int):=⟨(lo55).toNat,by omega⟩
  refine AE ⟨_,H⟩ (AO U ?_)
  have h64attempts:AA x52:=wattempts.1 _ (Ce hx53)
  refine sc (Ma x52 C.t (by first |assumption|(unfold AA;omega)) (by omega) (by omega)) H l0 U U (At L1 U U) ?_
  rintro _ _ w ⟨rfl,rfl⟩ H
  obtain ⟨lo59,hl60,hl61,hl62⟩:∃ z:Int,IntKind.u64.wrap x52%C.t=z∧0≤z∧z<C.t:=⟨_,rfl,Int.emod_nonneg _ (by omega),Int.emod_lt_of_pos _ (by omega)⟩
  rw [hl60]
  obtain ⟨aM,rfl⟩:∃ z:Nat,lo59=(z:Int):=⟨(lo59).toNat,by omega⟩
  refine AE ⟨_,H⟩ (Ao U U U (fun w ⟨Ar,H⟩=>AT (z:=((1+aM:Nat):Int)) U U U (by rw [AC (by omega) (by omega)];omega)) (Au U (Au U (BP (Aa (Ab ?_))))))
  obtain ⟨aN,haN⟩:∃ z,1+aM=z:=⟨_,rfl⟩
  rw [haN]
  refine Ae (Ah 3 U (V U U (Co (parts:=[(0,.const (.int .i64 1)),(1,.tmp 90),(2,.tmp 91)]) (vs:=[.int .i64 1,.int .i64 ((sN:Nat):Int),.int .i64 ((aN:Nat):Int)]) (cs:=[.int .i64 1,.int .i64 ((sN:Nat):Int),.int .i64 ((aN:Nat):Int),.int .i64 0,.int .i64 0,.int .i64 0,.int .i64 0,.int .i64 0,.slice none 0 0,.slice none 0 0]) U EI U U) ?_))
  replace H:=H.p1
  replace H:Hd _ _ _ [Bp b46 C W,blk b36 [.slice A1 C.J.us.length c2,.int .i64 C.J.parts,.slice A6 C.J.map.length c7,.slice A11 C.J.comb.length c12,.slice A16 C.J.red.length c17,.int .i64 C.J.chunk,.int .i64 C.J.window,.int .i64 C.J.fuel,.slice A21 C.J.marks.length c22,.int .i64 C.w,.int .i64 C.t,.int .i64 C.o] 28,blk b47 (C3 f0) 117,Y B0 q (ls.map AY),Br ls] [Z (Am Ag) (.slice A1 C.J.us.length c2) C.J.us,Z (Bg Ag) (.slice A1 C.J.us.length c2) ss,Z Af (.slice A6 C.J.map.length c7) C.J.map,Z Af (.slice A11 C.J.comb.length c12) C.J.comb,Z Af (.slice A16 C.J.red.length c17) C.J.red,Z (Ai .i64) (.slice A21 C.J.marks.length c22) C.J.marks,Z (Ai .i64) (.slice A26 splits.length c27) splits,Z (Ai .i64) (.slice A31 attempts.length c32) attempts,gl]:=H
  refine sc (Iy b46 C W 1 1 ((sN:Nat):Int) ((aN:Nat):Int) (by first |assumption|omega|(unfold AA;omega)|exact hWr|exact hW2r|decide) (by first |assumption|omega|(unfold AA;omega)|exact hWr|exact hW2r|decide) (by first |assumption|omega|(unfold AA;omega)|exact hWr|exact hW2r|decide) (by first |assumption|omega|(unfold AA;omega)|exact hWr|exact hW2r|decide) (by first |assumption|omega|(unfold AA;omega)|exact hWr|exact hW2r|decide)) H (lR 8 U l0) U U (At Ia U U) ?_
  rintro _ _ w ⟨rfl,rfl⟩ H
  replace H:=H.h1 (A:=Bp b46 C (DR dg C W 1 1 ((sN:Nat):Int) ((aN:Nat):Int)))
  rw [OZ] at H
  replace H:Hd _ _ _ [Bp b46 C W,blk b36 [.slice A1 C.J.us.length c2,.int .i64 C.J.parts,.slice A6 C.J.map.length c7,.slice A11 C.J.comb.length c12,.slice A16 C.J.red.length c17,.int .i64 C.J.chunk,.int .i64 C.J.window,.int .i64 C.J.fuel,.slice A21 C.J.marks.length c22,.int .i64 C.w,.int .i64 C.t,.int .i64 C.o] 28,blk b47 (C3 f0) 117,Y B0 q (ls.map AY),Br ls] [Z (Am Ag) (.slice A1 C.J.us.length c2) C.J.us,Z (Bg Ag) (.slice A1 C.J.us.length c2) ss,Z Af (.slice A6 C.J.map.length c7) C.J.map,Z Af (.slice A11 C.J.comb.length c12) C.J.comb,Z Af (.slice A16 C.J.red.length c17) C.J.red,Z (Ai .i64) (.slice A21 C.J.marks.length c22) C.J.marks,Z (Ai .i64) (.slice A26 splits.length c27) splits,Z (Ai .i64) (.slice A31 attempts.length c32) attempts,gl]:=H
  refine Ac (Aa (Ab (Ae (Ah 3 U (V U U (Co (parts:=[(0,.const (.int .i64 1)),(1,.tmp 95),(2,.tmp 96)]) (vs:=[.int .i64 1,.int .i64 ((sN:Nat):Int),.int .i64 ((aN:Nat):Int)]) (cs:=[.int .i64 1,.int .i64 ((sN:Nat):Int),.int .i64 ((aN:Nat):Int),.int .i64 0,.int .i64 0,.int .i64 0,.int .i64 0,.int .i64 0,.slice none 0 0,.slice none 0 0]) U EI U U) (sc (Iy b46 C W 0 1 ((sN:Nat):Int) ((aN:Nat):Int) (by first |assumption|omega|(unfold AA;omega)|exact hWr|exact hW2r|decide) (by first |assumption|omega|(unfold AA;omega)|exact hWr|exact hW2r|decide) (by first |assumption|omega|(unfold AA;omega)|exact hWr|exact hW2r|decide) (by first |assumption|omega|(unfold AA;omega)|exact hWr|exact hW2r|decide) (by first |assumption|omega|(unfold AA;omega)|exact hWr|exact hW2r|decide)) H (lR 8 U l0) U U (At Ia U U) ?_))))))
  rintro _ _ w ⟨rfl,rfl⟩ H
  replace H:=H.h1 (A:=Bp b46 C (DR dg C W 0 1 ((sN:Nat):Int) ((aN:Nat):Int)))
  rw [O0] at H
  obtain ⟨W1,hW1⟩:∃ z:CC,z=Eh dg C W ((sN:Nat):Int) ((aN:Nat):Int):=⟨_,rfl⟩
  rw [←hW1] at H
  replace H:Hd _ _ _ [Bp b46 C W1,blk b36 [.slice A1 C.J.us.length c2,.int .i64 C.J.parts,.slice A6 C.J.map.length c7,.slice A11 C.J.comb.length c12,.slice A16 C.J.red.length c17,.int .i64 C.J.chunk,.int .i64 C.J.window,.int .i64 C.J.fuel,.slice A21 C.J.marks.length c22,.int .i64 C.w,.int .i64 C.t,.int .i64 C.o] 28,blk b47 (C3 f0) 117,Y B0 q (ls.map AY),Br ls] [Z (Am Ag) (.slice A1 C.J.us.length c2) C.J.us,Z (Bg Ag) (.slice A1 C.J.us.length c2) ss,Z Af (.slice A6 C.J.map.length c7) C.J.map,Z Af (.slice A11 C.J.comb.length c12) C.J.comb,Z Af (.slice A16 C.J.red.length c17) C.J.red,Z (Ai .i64) (.slice A21 C.J.marks.length c22) C.J.marks,Z (Ai .i64) (.slice A26 splits.length c27) splits,Z (Ai .i64) (.slice A31 attempts.length c32) attempts,gl]:=H
  have hW1n:W1.ts.length≤W.ts.length+1:=by rw [hW1];exact YG _ _ _ _ _
  refine Ac (Aa (Ab (Ae (Ah 2 U (V U U (Aj U IP U) (V U U (Ak U AB U (H.cellI 1 U U)) (V U U (AT (z:=C.t+1) U U U (AC (by omega) (by omega))) (V U U (Co (parts:=[(0,.const (.int .i64 1)),(1,.tmp 100),(2,.tmp 103)]) (vs:=[.int .i64 1,.int .i64 ((sN:Nat):Int),.int .i64 (C.t+1)]) (cs:=[.int .i64 1,.int .i64 ((sN:Nat):Int),.int .i64 (C.t+1),.int .i64 0,.int .i64 0,.int .i64 0,.int .i64 0,.int .i64 0,.slice none 0 0,.slice none 0 0]) U EI U U) (sc (Iy b46 C W1 0 1 ((sN:Nat):Int) (C.t+1) (by first |assumption|omega|(unfold AA;omega)|exact hWr|exact hW2r|decide) (by first |assumption|omega|(unfold AA;omega)|exact hWr|exact hW2r|decide) (by first |assumption|omega|(unfold AA;omega)|exact hWr|exact hW2r|decide) (by first |assumption|omega|(unfold AA;omega)|exact hWr|exact hW2r|decide) (by first |assumption|omega|(unfold AA;omega)|exact hWr|exact hW2r|decide)) H (lR 8 U l0) U U (At Ia U U) ?_)))))))))
  rintro _ _ w ⟨rfl,rfl⟩ H
  replace H:=H.h1 (A:=Bp b46 C (DR dg C W1 0 1 ((sN:Nat):Int) (C.t+1)))
  rw [O0,YF] at H
  replace H:Hd _ _ _ [Bp b46 C W1,blk b36 [.slice A1 C.J.us.length c2,.int .i64 C.J.parts,.slice A6 C.J.map.length c7,.slice A11 C.J.comb.length c12,.slice A16 C.J.red.length c17,.int .i64 C.J.chunk,.int .i64 C.J.window,.int .i64 C.J.fuel,.slice A21 C.J.marks.length c22,.int .i64 C.w,.int .i64 C.t,.int .i64 C.o] 28,blk b47 (C3 f0) 117,Y B0 q (ls.map AY),Br ls] [Z (Am Ag) (.slice A1 C.J.us.length c2) C.J.us,Z (Bg Ag) (.slice A1 C.J.us.length c2) ss,Z Af (.slice A6 C.J.map.length c7) C.J.map,Z Af (.slice A11 C.J.comb.length c12) C.J.comb,Z Af (.slice A16 C.J.red.length c17) C.J.red,Z (Ai .i64) (.slice A21 C.J.marks.length c22) C.J.marks,Z (Ai .i64) (.slice A26 splits.length c27) splits,Z (Ai .i64) (.slice A31 attempts.length c32) attempts,gl]:=H
  refine Ac (Aa (Ab (Ab ?_)))
  have hha:=hhd sN aN (by omega) (by omega)
  refine Ae (Ah 2 U (V U U (FE (p:=0+sN*4) U Rz Pa U U (by omega) (by omega) (by omega)) (V U U (FE (p:=0+sN*4+aN*1) U Ry Pc U U (by omega) (by omega) (by omega)) (V U U (Ak U EU U (H.cellI 2 U (Jy (j:=sN*4+aN) (by omega) (by omega)))) (Ac (Aa ?_))))))
  refine DN (b:=f0 (sN*4+aN)) U (fun h63=>?_) (fun h63=>?_)
  ·refine BC (AM (BD (Aa (Ae (Ad U (V U U (AT (z:=((i+1:Nat):Int)) U U U (by rw [AC (by omega) (by omega)];omega)) (Ad U (Ac ?_))))))))
   have hWe:W1=W:=by rw [hW1];exact YE (by rw [←hha];simpa using h63)
   rw [hWe] at H
   replace H:Hd _ _ _ [Bp b46 C W,blk b36 [.slice A1 C.J.us.length c2,.int .i64 C.J.parts,.slice A6 C.J.map.length c7,.slice A11 C.J.comb.length c12,.slice A16 C.J.red.length c17,.int .i64 C.J.chunk,.int .i64 C.J.window,.int .i64 C.J.fuel,.slice A21 C.J.marks.length c22,.int .i64 C.w,.int .i64 C.t,.int .i64 C.o] 28,blk b47 (C3 f0) 117,Y B0 q (ls.map AY),Br ls] [Z (Am Ag) (.slice A1 C.J.us.length c2) C.J.us,Z (Bg Ag) (.slice A1 C.J.us.length c2) ss,Z Af (.slice A6 C.J.map.length c7) C.J.map,Z Af (.slice A11 C.J.comb.length c12) C.J.comb,Z Af (.slice A16 C.J.red.length c17) C.J.red,Z (Ai .i64) (.slice A21 C.J.marks.length c22) C.J.marks,Z (Ai .i64) (.slice A26 splits.length c27) splits,Z (Ai .i64) (.slice A31 attempts.length c32) attempts,gl]:=H
   replace H:=H.p1
   exact Bi (s:=(i,W,f0,undef,ls)) (i+1,W,f0,q,ls) ⟨rfl,rfl,rfl,rfl,rfl,rfl,rfl,rfl,trivial⟩ ⟨H,by (try dsimp only);omega,hWs,hWt,by (try dsimp only);omega,hhd,hz,by (try dsimp only);omega⟩ (by (try dsimp only);omega)
  refine Av (Aa (Ab ?_))
  have hWe:W1={ W with ts:=W.ts++[CW dg C.J sN ((aN:Nat):Int)] }:=by rw [hW1];exact YJ hWs.2 (by rw [←hha];simpa using h63) ⟨by omega,by omega,by omega,by omega⟩
  have hrs1:W1.rs=W.rs:=by rw [hWe]
  have hov1:W1.over=false:=by rw [hWe];exact hWs.2
  refine Ae (Ah 2 U (V U U (FE (p:=0+sN*4) U Rz Pa U U (by omega) (by omega) (by omega)) (V U U (FE (p:=0+sN*4+aN*1) U Ry Pc U U (by omega) (by omega) (by omega)) ?_)))
  replace H:=H.p2
  refine BE U U U EU U U H U (by rw [Jz];omega) (fun u hu=>by simp [Value.cells] at hu;subst hu;rfl) (fun w H=>?_)
  replace H:Hd w0 F0 w [blk b47 (C3 (B3 f0 (sN*4+aN) true)) 117,Bp b46 C W1,blk b36 [.slice A1 C.J.us.length c2,.int .i64 C.J.parts,.slice A6 C.J.map.length c7,.slice A11 C.J.comb.length c12,.slice A16 C.J.red.length c17,.int .i64 C.J.chunk,.int .i64 C.J.window,.int .i64 C.J.fuel,.slice A21 C.J.marks.length c22,.int .i64 C.w,.int .i64 C.t,.int .i64 C.o] 28,Y B0 q (ls.map AY),Br ls] [Z (Am Ag) (.slice A1 C.J.us.length c2) C.J.us,Z (Bg Ag) (.slice A1 C.J.us.length c2) ss,Z Af (.slice A6 C.J.map.length c7) C.J.map,Z Af (.slice A11 C.J.comb.length c12) C.J.comb,Z Af (.slice A16 C.J.red.length c17) C.J.red,Z (Ai .i64) (.slice A21 C.J.marks.length c22) C.J.marks,Z (Ai .i64) (.slice A26 splits.length c27) splits,Z (Ai .i64) (.slice A31 attempts.length c32) attempts,gl]:=by rw [←R4 (f:=f0) (p:=0+sN*4+aN*1) (j:=sN*4+aN) (by omega) (by omega) true];exact H
  refine Ac (Aa (Ab (Ae (Ad U (V U U (AT (z:=((W.ts.length+1:Nat):Int)) U U U (by rw [AC (by omega) (by omega)];omega)) (Ad U (Ac (Aa (Ab (Ae (V U U (Bq (cs:=[.slice A1 C.J.us.length c2,.int .i64 C.J.parts,.slice A6 C.J.map.length c7,.slice A11 C.J.comb.length c12,.slice A16 C.J.red.length c17,.int .i64 C.J.chunk,.int .i64 C.J.window,.int .i64 C.J.fuel,.slice A21 C.J.marks.length c22,.int .i64 C.w,.int .i64 C.t,.int .i64 C.o]) U DE U U (H.cellsI 2 U U)) (Ah 2 U ?_))))))))))))
  have hgoM:sN<C.J.us.length∧1≤((aN:Nat):Int)∧((aN:Nat):Int)≤C.t:=⟨by omega,by omega,by omega⟩
  refine sc (PS (.slice A1 C.J.us.length c2) (.slice A6 C.J.map.length c7) (.slice A11 C.J.comb.length c12) (.slice A16 C.J.red.length c17) (.slice A21 C.J.marks.length c22) C sN ((aN:Nat):Int) (by first |assumption|omega|(unfold AA;omega)|exact hWr|exact hW2r|decide) (by first |assumption|omega|(unfold AA;omega)|exact hWr|exact hW2r|decide) (by first |assumption|omega|(unfold AA;omega)|exact hWr|exact hW2r|decide)) H (lR 0 U (lR 2 U (lR 3 U (lR 4 U (lR 5 U (lR 8 U l0)))))) U U (At L2 U U) ?_
  rintro _ _ w ⟨b64,rfl,rfl⟩ H
  replace H:=H.h1 (A:=BW b64 C.J (CW dg C.J sN ((aN:Nat):Int)))
  obtain ⟨M1,hM1⟩:∃ z:BH,z=CW dg C.J sN ((aN:Nat):Int):=⟨_,rfl⟩
  rw [←hM1] at H
  replace H:Hd _ _ _ [BW b64 C.J M1,blk b47 (C3 (B3 f0 (sN*4+aN) true)) 117,Bp b46 C W1,blk b36 [.slice A1 C.J.us.length c2,.int .i64 C.J.parts,.slice A6 C.J.map.length c7,.slice A11 C.J.comb.length c12,.slice A16 C.J.red.length c17,.int .i64 C.J.chunk,.int .i64 C.J.window,.int .i64 C.J.fuel,.slice A21 C.J.marks.length c22,.int .i64 C.w,.int .i64 C.t,.int .i64 C.o] 28,Y B0 q (ls.map AY),Br ls] [Z (Am Ag) (.slice A1 C.J.us.length c2) C.J.us,Z (Bg Ag) (.slice A1 C.J.us.length c2) ss,Z Af (.slice A6 C.J.map.length c7) C.J.map,Z Af (.slice A11 C.J.comb.length c12) C.J.comb,Z Af (.slice A16 C.J.red.length c17) C.J.red,Z (Ai .i64) (.slice A21 C.J.marks.length c22) C.J.marks,Z (Ai .i64) (.slice A26 splits.length c27) splits,Z (Ai .i64) (.slice A31 attempts.length c32) attempts,gl]:=H
  have hsp1:M1.sp=sN:=by rw [hM1];rfl
  have hat1:M1.att=((aN:Nat):Int):=by rw [hM1];rfl
  have hokM:ER M1:=by rw [hM1];exact Qc hJ _ _
  have hts:W1.ts=W.ts++[M1]:=by rw [hWe,hM1]
  refine Ah 5 U (Ac (Aa (Ab (Ab (Ae (Ad U (V U U (CX U U U) (Ah 2 U (V U U (Dn U G9 U U) (Ad U (Ac (Aa (B7 U (Av (Aa (Ab (Ab (Ae (Ad U (sc (Kp b64 C.J M1) H l0 U U (At H9 U U) ?_))))))))))))))))))))
  rintro _ _ w ⟨rfl,rfl⟩ H
  refine V U U (CX U U U) (Ac (Aa ?_))
  refine Ax U (fun h65=>?_) (fun h65=>?_)
  ·refine Ab (Ae (Ah 4 U (sc (Kp b64 C.J M1) H l0 U U (At H9 U U) ?_)))
   rintro _ _ w ⟨rfl,rfl⟩ H
   refine V U U (Co (parts:=[(0,.const (.int .i64 5)),(1,.tmp 134),(2,.tmp 135),(7,.tmp 137)]) (vs:=[.int .i64 5,.int .i64 ((sN:Nat):Int),.int .i64 ((aN:Nat):Int),.int .i64 ((Ay dg C.J M1.sp).2)]) (cs:=[.int .i64 5,.int .i64 ((sN:Nat):Int),.int .i64 ((aN:Nat):Int),.int .i64 0,.int .i64 0,.int .i64 0,.int .i64 0,.int .i64 ((Ay dg C.J M1.sp).2),.slice none 0 0,.slice none 0 0]) U EI U U) (V U U (Co (parts:=[(2,.tmp 138)]) (vs:=[.agg #[.int .i64 5,.int .i64 ((sN:Nat):Int),.int .i64 ((aN:Nat):Int),.int .i64 0,.int .i64 0,.int .i64 0,.int .i64 0,.int .i64 ((Ay dg C.J M1.sp).2),.slice none 0 0,.slice none 0 0]]) (cs:=[.int .i64 0,.int .i64 0,.int .i64 5,.int .i64 ((sN:Nat):Int),.int .i64 ((aN:Nat):Int),.int .i64 0,.int .i64 0,.int .i64 0,.int .i64 0,.int .i64 ((Ay dg C.J M1.sp).2),.slice none 0 0,.slice none 0 0]) U Hg U U) ?_)
   refine BX (parts:=[(0,.tmp 139)]) (vs:=[.agg #[.int .i64 0,.int .i64 0,.int .i64 5,.int .i64 ((sN:Nat):Int),.int .i64 ((aN:Nat):Int),.int .i64 0,.int .i64 0,.int .i64 0,.int .i64 0,.int .i64 ((Ay dg C.J M1.sp).2),.slice none 0 0,.slice none 0 0]]) (cs:=[.int .i64 0,.int .i64 0,.int .i64 5,.int .i64 ((sN:Nat):Int),.int .i64 ((aN:Nat):Int),.int .i64 0,.int .i64 0,.int .i64 0,.int .i64 0,.int .i64 ((Ay dg C.J M1.sp).2),.slice none 0 0,.slice none 0 0]) U U U DL E9 U (by decide) (by decide) U U H (fun b66 w H=>?_)
   replace H:=H.p5
   refine Ct (xs:=ls.map AY) (ys:=[(⟨⟨0,0,⟨5,((sN:Nat):Int),((aN:Nat):Int),0,0,0,0,(Ay dg C.J M1.sp).2⟩⟩,⟨none,0,0⟩,⟨none,0,0⟩⟩:D2 BM)]) U U U DL E9 U (by decide) U U H (by first |omega|(simp only [List.length_append,List.length_cons,List.length_nil,List.length_map];omega)) (fun F hA hR=>Cm (hA _ (List.mem_of_getElem? (i:=0) U)) U (by decide) (AW.flat_eq.2 U)) (fun v67 w H=>(Ad U (Ac (Aa ?_))))
   replace H:Hd _ _ _ [Y B0 v67 ((ls.map AY)++[(⟨⟨0,0,⟨5,((sN:Nat):Int),((aN:Nat):Int),0,0,0,0,(Ay dg C.J M1.sp).2⟩⟩,⟨none,0,0⟩,⟨none,0,0⟩⟩:D2 BM)]),blk b66 [.int .i64 0,.int .i64 0,.int .i64 5,.int .i64 ((sN:Nat):Int),.int .i64 ((aN:Nat):Int),.int .i64 0,.int .i64 0,.int .i64 0,.int .i64 0,.int .i64 ((Ay dg C.J M1.sp).2),.slice none 0 0,.slice none 0 0] 121,BW b64 C.J M1,blk b47 (C3 (B3 f0 (sN*4+aN) true)) 117,Bp b46 C W1,blk b36 [.slice A1 C.J.us.length c2,.int .i64 C.J.parts,.slice A6 C.J.map.length c7,.slice A11 C.J.comb.length c12,.slice A16 C.J.red.length c17,.int .i64 C.J.chunk,.int .i64 C.J.window,.int .i64 C.J.fuel,.slice A21 C.J.marks.length c22,.int .i64 C.w,.int .i64 C.t,.int .i64 C.o] 28,Br ls] [Z (Am Ag) (.slice A1 C.J.us.length c2) C.J.us,Z (Bg Ag) (.slice A1 C.J.us.length c2) ss,Z Af (.slice A6 C.J.map.length c7) C.J.map,Z Af (.slice A11 C.J.comb.length c12) C.J.comb,Z Af (.slice A16 C.J.red.length c17) C.J.red,Z (Ai .i64) (.slice A21 C.J.marks.length c22) C.J.marks,Z (Ai .i64) (.slice A26 splits.length c27) splits,Z (Ai .i64) (.slice A31 attempts.length c32) attempts,gl]:=H
   refine BC (AM (BD (Aa (Ae (Ad U (V U U (AT (z:=((i+1:Nat):Int)) U U U (by rw [AC (by omega) (by omega)];omega)) (Ad U (Ac ?_))))))))
   replace H:=H.p3.p4.p5.p6.k5.newnil Ag|>.newnil (Ai .i64)
   replace H:=Hd.twN (r:=(⟨⟨0,0,⟨5,((sN:Nat):Int),((aN:Nat):Int),0,0,0,0,(Ay dg C.J M1.sp).2⟩⟩,.slice none 0 0,[],.slice none 0 0,[]⟩:A_ BM)) H
   replace H:=H.h1 (A:=Br (ls++[(⟨⟨0,0,⟨5,((sN:Nat):Int),((aN:Nat):Int),0,0,0,0,(Ay dg C.J M1.sp).2⟩⟩,.slice none 0 0,[],.slice none 0 0,[]⟩:A_ BM)]))
   replace H:Hd w0 F0 w [Br (ls++[(⟨⟨0,0,⟨5,((sN:Nat):Int),((aN:Nat):Int),0,0,0,0,(Ay dg C.J M1.sp).2⟩⟩,.slice none 0 0,[],.slice none 0 0,[]⟩:A_ BM)]),blk b36 [.slice A1 C.J.us.length c2,.int .i64 C.J.parts,.slice A6 C.J.map.length c7,.slice A11 C.J.comb.length c12,.slice A16 C.J.red.length c17,.int .i64 C.J.chunk,.int .i64 C.J.window,.int .i64 C.J.fuel,.slice A21 C.J.marks.length c22,.int .i64 C.w,.int .i64 C.t,.int .i64 C.o] 28,Bp b46 C W1,blk b47 (C3 (B3 f0 (sN*4+aN) true)) 117,Y B0 v67 ((ls++[(⟨⟨0,0,⟨5,((sN:Nat):Int),((aN:Nat):Int),0,0,0,0,(Ay dg C.J M1.sp).2⟩⟩,.slice none 0 0,[],.slice none 0 0,[]⟩:A_ BM)]).map AY)] [Z (Am Ag) (.slice A1 C.J.us.length c2) C.J.us,Z (Bg Ag) (.slice A1 C.J.us.length c2) ss,Z Af (.slice A6 C.J.map.length c7) C.J.map,Z Af (.slice A11 C.J.comb.length c12) C.J.comb,Z Af (.slice A16 C.J.red.length c17) C.J.red,Z (Ai .i64) (.slice A21 C.J.marks.length c22) C.J.marks,Z (Ai .i64) (.slice A26 splits.length c27) splits,Z (Ai .i64) (.slice A31 attempts.length c32) attempts,gl]:=by rw [List.map_append];exact H
   have hz9:(ls++[(⟨⟨0,0,⟨5,((sN:Nat):Int),((aN:Nat):Int),0,0,0,0,(Ay dg C.J M1.sp).2⟩⟩,.slice none 0 0,[],.slice none 0 0,[]⟩:A_ BM)]).map Ca=W1.ts.flatMap (DD dg C):=Rp hz hts (by rw [ZC hM1 h65,hsp1,hat1];rfl)
   have hWt9:∀ M∈W1.ts,ER M:=by rw [hts];exact fun M h=>(List.mem_append.1 h).elim (hWt M) (fun g=>by rw [List.mem_singleton.1 g];exact hokM)
   have hhd9:HY (B3 f0 (sN*4+aN) true) W1.ts:=by rw [hts];exact OU hhd hsp1 hat1 (by omega)
   have hWl9:W1.ts.length=W.ts.length+1:=by rw [hts,List.length_append];rfl
   replace H:=H.p4.p4.p4.p4
   exact Bi (s:=(i,W,f0,undef,ls)) (i+1,W1,B3 f0 (sN*4+aN) true,v67,ls++[(⟨⟨0,0,⟨5,((sN:Nat):Int),((aN:Nat):Int),0,0,0,0,(Ay dg C.J M1.sp).2⟩⟩,.slice none 0 0,[],.slice none 0 0,[]⟩:A_ BM)]) ⟨rfl,rfl,rfl,rfl,rfl,rfl,(by rw [hWl9];rfl),rfl,trivial⟩ ⟨H,by (try dsimp only);omega,⟨hrs1.trans hWs.1,hov1⟩,hWt9,by (try dsimp only);omega,hhd9,hz9,by (try dsimp only);rw [List.length_append];simp only [List.length_cons,List.length_nil];omega⟩ (by (try dsimp only);omega)
  refine Av (Aa (Ab ?_))
  have hgd:¬ (Ay dg C.J M1.sp).2≠0:=h65
  refine Ae (Ah 4 U (sc (Ml b64 C.J M1 (by first |assumption|omega|(unfold AA;omega)|exact hWr|exact hW2r|decide)) H l0 U U (At J9 U U) ?_))
  rintro v68 _ w rfl H
  replace H:=H.h1 (A:=Y (Ai .i64) v68 (Bj dg C.J M1.sp M1.att))
  obtain ⟨A69,c70,rfl,hc71,hm72,hp73⟩:=H.fA 0 rfl
  refine V U U (Co (parts:=[(0,.const (.int .i64 4)),(1,.tmp 143),(2,.tmp 144),(8,.tmp 146)]) (vs:=[.int .i64 4,.int .i64 ((sN:Nat):Int),.int .i64 ((aN:Nat):Int),.slice A69 ((Bj dg C.J M1.sp M1.att).length) c70]) (cs:=[.int .i64 4,.int .i64 ((sN:Nat):Int),.int .i64 ((aN:Nat):Int),.int .i64 0,.int .i64 0,.int .i64 0,.int .i64 0,.int .i64 0,.slice A69 ((Bj dg C.J M1.sp M1.att).length) c70,.slice none 0 0]) U EI U U) (V U U (Co (parts:=[(2,.tmp 147)]) (vs:=[.agg #[.int .i64 4,.int .i64 ((sN:Nat):Int),.int .i64 ((aN:Nat):Int),.int .i64 0,.int .i64 0,.int .i64 0,.int .i64 0,.int .i64 0,.slice A69 ((Bj dg C.J M1.sp M1.att).length) c70,.slice none 0 0]]) (cs:=[.int .i64 0,.int .i64 0,.int .i64 4,.int .i64 ((sN:Nat):Int),.int .i64 ((aN:Nat):Int),.int .i64 0,.int .i64 0,.int .i64 0,.int .i64 0,.int .i64 0,.slice A69 ((Bj dg C.J M1.sp M1.att).length) c70,.slice none 0 0]) U Hg U U) ?_)
  refine BX (parts:=[(0,.tmp 148)]) (vs:=[.agg #[.int .i64 0,.int .i64 0,.int .i64 4,.int .i64 ((sN:Nat):Int),.int .i64 ((aN:Nat):Int),.int .i64 0,.int .i64 0,.int .i64 0,.int .i64 0,.int .i64 0,.slice A69 ((Bj dg C.J M1.sp M1.att).length) c70,.slice none 0 0]]) (cs:=[.int .i64 0,.int .i64 0,.int .i64 4,.int .i64 ((sN:Nat):Int),.int .i64 ((aN:Nat):Int),.int .i64 0,.int .i64 0,.int .i64 0,.int .i64 0,.int .i64 0,.slice A69 ((Bj dg C.J M1.sp M1.att).length) c70,.slice none 0 0]) U U U DL E9 U (by decide) (by decide) U U H (fun b74 w H=>?_)
  replace H:=H.p6
  refine Ct (xs:=ls.map AY) (ys:=[(⟨⟨0,0,⟨4,((sN:Nat):Int),((aN:Nat):Int),0,0,0,0,0⟩⟩,⟨A69,(Bj dg C.J M1.sp M1.att).length,c70⟩,⟨none,0,0⟩⟩:D2 BM)]) U U U DL E9 U (by decide) U U H (by first |omega|(simp only [List.length_append,List.length_cons,List.length_nil,List.length_map];omega)) (fun F hA hR=>Cm (hA _ (List.mem_of_getElem? (i:=0) U)) U (by decide) (AW.flat_eq.2 U)) (fun v75 w H=>(Ad U (Ac (Aa ?_))))
  replace H:Hd _ _ _ [Y B0 v75 ((ls.map AY)++[(⟨⟨0,0,⟨4,((sN:Nat):Int),((aN:Nat):Int),0,0,0,0,0⟩⟩,⟨A69,(Bj dg C.J M1.sp M1.att).length,c70⟩,⟨none,0,0⟩⟩:D2 BM)]),blk b74 [.int .i64 0,.int .i64 0,.int .i64 4,.int .i64 ((sN:Nat):Int),.int .i64 ((aN:Nat):Int),.int .i64 0,.int .i64 0,.int .i64 0,.int .i64 0,.int .i64 0,.slice A69 ((Bj dg C.J M1.sp M1.att).length) c70,.slice none 0 0] 121,Y (Ai .i64) (.slice A69 ((Bj dg C.J M1.sp M1.att).length) c70) (Bj dg C.J M1.sp M1.att),BW b64 C.J M1,blk b47 (C3 (B3 f0 (sN*4+aN) true)) 117,Bp b46 C W1,blk b36 [.slice A1 C.J.us.length c2,.int .i64 C.J.parts,.slice A6 C.J.map.length c7,.slice A11 C.J.comb.length c12,.slice A16 C.J.red.length c17,.int .i64 C.J.chunk,.int .i64 C.J.window,.int .i64 C.J.fuel,.slice A21 C.J.marks.length c22,.int .i64 C.w,.int .i64 C.t,.int .i64 C.o] 28,Br ls] [Z (Am Ag) (.slice A1 C.J.us.length c2) C.J.us,Z (Bg Ag) (.slice A1 C.J.us.length c2) ss,Z Af (.slice A6 C.J.map.length c7) C.J.map,Z Af (.slice A11 C.J.comb.length c12) C.J.comb,Z Af (.slice A16 C.J.red.length c17) C.J.red,Z (Ai .i64) (.slice A21 C.J.marks.length c22) C.J.marks,Z (Ai .i64) (.slice A26 splits.length c27) splits,Z (Ai .i64) (.slice A31 attempts.length c32) attempts,gl]:=H
  refine Ab ?_
  replace H:=H.p3.p1.p4.p5.p6.p7.p7.k7
  obtain ⟨zc,hzc⟩:∃ z:A_ BM,z=(⟨⟨0,0,⟨4,((sN:Nat):Int),((aN:Nat):Int),0,0,0,0,0⟩⟩,.slice A69 ((Bj dg C.J M1.sp M1.att).length) c70,Bj dg C.J M1.sp M1.att,.slice none 0 0,[]⟩:A_ BM):=⟨_,rfl⟩
  replace H:=H.newnil Ag|>.p1
  replace H:=Hd.twN (r:=(⟨⟨0,0,⟨4,((sN:Nat):Int),((aN:Nat):Int),0,0,0,0,0⟩⟩,.slice A69 ((Bj dg C.J M1.sp M1.att).length) c70,Bj dg C.J M1.sp M1.att,.slice none 0 0,[]⟩:A_ BM)) H
  rw [←hzc] at H
  replace H:Hd _ _ _ [Br (ls++[zc]),blk b36 [.slice A1 C.J.us.length c2,.int .i64 C.J.parts,.slice A6 C.J.map.length c7,.slice A11 C.J.comb.length c12,.slice A16 C.J.red.length c17,.int .i64 C.J.chunk,.int .i64 C.J.window,.int .i64 C.J.fuel,.slice A21 C.J.marks.length c22,.int .i64 C.w,.int .i64 C.t,.int .i64 C.o] 28,Bp b46 C W1,blk b47 (C3 (B3 f0 (sN*4+aN) true)) 117,Y B0 v75 ((ls.map AY)++[(⟨⟨0,0,⟨4,((sN:Nat):Int),((aN:Nat):Int),0,0,0,0,0⟩⟩,⟨A69,(Bj dg C.J M1.sp M1.att).length,c70⟩,⟨none,0,0⟩⟩:D2 BM)]),BW b64 C.J M1] [Z (Am Ag) (.slice A1 C.J.us.length c2) C.J.us,Z (Bg Ag) (.slice A1 C.J.us.length c2) ss,Z Af (.slice A6 C.J.map.length c7) C.J.map,Z Af (.slice A11 C.J.comb.length c12) C.J.comb,Z Af (.slice A16 C.J.red.length c17) C.J.red,Z (Ai .i64) (.slice A21 C.J.marks.length c22) C.J.marks,Z (Ai .i64) (.slice A26 splits.length c27) splits,Z (Ai .i64) (.slice A31 attempts.length c32) attempts,gl]:=H
  replace H:Hd w0 F0 w [Br (ls++[zc]),blk b36 [.slice A1 C.J.us.length c2,.int .i64 C.J.parts,.slice A6 C.J.map.length c7,.slice A11 C.J.comb.length c12,.slice A16 C.J.red.length c17,.int .i64 C.J.chunk,.int .i64 C.J.window,.int .i64 C.J.fuel,.slice A21 C.J.marks.length c22,.int .i64 C.w,.int .i64 C.t,.int .i64 C.o] 28,Bp b46 C W1,blk b47 (C3 (B3 f0 (sN*4+aN) true)) 117,Y B0 v75 ((ls++[zc]).map AY),BW b64 C.J M1] [Z (Am Ag) (.slice A1 C.J.us.length c2) C.J.us,Z (Bg Ag) (.slice A1 C.J.us.length c2) ss,Z Af (.slice A6 C.J.map.length c7) C.J.map,Z Af (.slice A11 C.J.comb.length c12) C.J.comb,Z Af (.slice A16 C.J.red.length c17) C.J.red,Z (Ai .i64) (.slice A21 C.J.marks.length c22) C.J.marks,Z (Ai .i64) (.slice A26 splits.length c27) splits,Z (Ai .i64) (.slice A31 attempts.length c32) attempts,gl]:=by rw [List.map_append,hzc];rw [hzc] at H;exact H
  refine Ae (Ad U ?_)
  replace H:=H.p5
  refine sc (Qb b64 C.J M1 (by first |assumption|omega|(unfold AA;omega)|exact hWr|exact hW2r|decide) (by first |assumption|omega|(unfold AA;omega)|exact hWr|exact hW2r|decide)) H l0 U U (At Py U U) ?_
  rintro v78 _ w ⟨zs76,rfl,hf77⟩ H
  replace H:=H.h1 (A:=Y J1 v78 zs76)
  obtain ⟨A79,c80,rfl,hc81,hm82,hp83⟩:=H.fA 0 rfl
  replace H:=Hd.twO H
  replace H:=H.h2 (A:=Y DG (.slice A79 zs76.length c80) (zs76.map AY)) (B:=Br zs76)
  have hzl4:=P1 hokM hf77
  have hzf:(zs76.map AY).length=zs76.length:=List.length_map ..
  refine Ad U (Ac (Aa (Ab (Ae (Ad U (Ac (Aa (AS ?_))))))))
  replace H:Hd w0 F0 w [Y DG (.slice A79 zs76.length c80) (zs76.map AY),Br zs76,BW b64 C.J M1,Br (ls++[zc]),blk b36 [.slice A1 C.J.us.length c2,.int .i64 C.J.parts,.slice A6 C.J.map.length c7,.slice A11 C.J.comb.length c12,.slice A16 C.J.red.length c17,.int .i64 C.J.chunk,.int .i64 C.J.window,.int .i64 C.J.fuel,.slice A21 C.J.marks.length c22,.int .i64 C.w,.int .i64 C.t,.int .i64 C.o] 28,Bp b46 C W1,blk b47 (C3 (B3 f0 (sN*4+aN) true)) 117,Y B0 v75 (((ls++[zc])++(zs76.take 0).map (lf C)).map AY)] [Z (Am Ag) (.slice A1 C.J.us.length c2) C.J.us,Z (Bg Ag) (.slice A1 C.J.us.length c2) ss,Z Af (.slice A6 C.J.map.length c7) C.J.map,Z Af (.slice A11 C.J.comb.length c12) C.J.comb,Z Af (.slice A16 C.J.red.length c17) C.J.red,Z (Ai .i64) (.slice A21 C.J.marks.length c22) C.J.marks,Z (Ai .i64) (.slice A26 splits.length c27) splits,Z (Ai .i64) (.slice A31 attempts.length c32) attempts,gl]:=by rw [List.take_zero,List.map_nil,List.append_nil];exact H
  replace H:=H.p3.p7.p2.p7.p7.p7
  refine BQ (σ:=Nat×Value) (fun (j,q2)=>[(2,.slice A26 splits.length c27),(3,.slice A31 attempts.length c32),(4,.pointer (some ⟨b36,0,none⟩)),(9,.pointer (some ⟨b46,0,none⟩)),(11,q2),(12,.pointer (some ⟨b47,0,none⟩)),(13,.int .i64 ((W.ts.length+1:Nat):Int)),(14,.int .i64 ((i:Nat):Int)),(19,.slice A79 zs76.length c80),(20,.int .i64 ((j:Nat):Int))]) (fun (j,q2) w=>(Hd w0 F0 w [blk b36 [.slice A1 C.J.us.length c2,.int .i64 C.J.parts,.slice A6 C.J.map.length c7,.slice A11 C.J.comb.length c12,.slice A16 C.J.red.length c17,.int .i64 C.J.chunk,.int .i64 C.J.window,.int .i64 C.J.fuel,.slice A21 C.J.marks.length c22,.int .i64 C.w,.int .i64 C.t,.int .i64 C.o] 28,Bp b46 C W1,blk b47 (C3 (B3 f0 (sN*4+aN) true)) 117,Y DG (.slice A79 zs76.length c80) (zs76.map AY),Y B0 q2 (((ls++[zc])++(zs76.take j).map (lf C)).map AY),Br (ls++[zc]),Br zs76,BW b64 C.J M1] [Z (Am Ag) (.slice A1 C.J.us.length c2) C.J.us,Z (Bg Ag) (.slice A1 C.J.us.length c2) ss,Z Af (.slice A6 C.J.map.length c7) C.J.map,Z Af (.slice A11 C.J.comb.length c12) C.J.comb,Z Af (.slice A16 C.J.red.length c17) C.J.red,Z (Ai .i64) (.slice A21 C.J.marks.length c22) C.J.marks,Z (Ai .i64) (.slice A26 splits.length c27) splits,Z (Ai .i64) (.slice A31 attempts.length c32) attempts,gl])∧(j≤(zs76.map AY).length)) (fun (j,q2)=>(zs76.map AY).length - j) (0,v75) ⟨rfl,rfl,rfl,rfl,rfl,rfl,rfl,rfl,rfl,rfl,trivial⟩ ⟨H,Nat.zero_le _⟩ ?_
  rintro ⟨j,q2⟩ w ⟨H,hj⟩
  have hlt9:(((ls++[zc])++(zs76.take j).map (lf C)).map AY).length≤4001*13+j:=by simp only [List.length_map,List.length_append,List.length_cons,List.length_nil,List.length_take];omega
  refine Ab (Ab (Ae (Ah 2 U (V U U (A8 U RH U) (V U U (Bd U U U) (Ac (Aa ?_)))))))
  refine Ax U (fun h84=>?_) (fun h84=>?_)
  ·refine Av (Aa (Ab (AS ?_)))
   obtain ⟨x85,hx86⟩:∃ z9,(zs76.map AY)[j]?=some z9:=⟨_,List.getElem?_eq_getElem (show j<(zs76.map AY).length by omega)⟩
   obtain ⟨m9,hm9,hxe9⟩:=P0 hx86
   have hp64:AA x85.h.part:=by rw [hxe9];exact Qy hokM hf77 hm9
   replace H:=H.p7.p7.p7.p6.p6.p6.p6.h8 (I:=Y B0 q2 (((ls++[zc])++(zs76.take j).map (lf C)).map AY))
   refine BY (.e 0 (.e 1 (.e 2 (.e 3 (.e 4 (.e 5 (.e 6 (.e 8 (.e 9 (.e 10 (.e 11 (.m 7 (.e 12 (.m 13 (.m 14 (.e 15 .z)))))))))))))))) (fun w=>∃ Ar,Hd w0 F0 w (blk b36 [.slice A1 C.J.us.length c2,.int .i64 C.J.parts,.slice A6 C.J.map.length c7,.slice A11 C.J.comb.length c12,.slice A16 C.J.red.length c17,.int .i64 C.J.chunk,.int .i64 C.J.window,.int .i64 C.J.fuel,.slice A21 C.J.marks.length c22,.int .i64 C.w,.int .i64 C.t,.int .i64 C.o] 28::Bp b46 C W1::blk b47 (C3 (B3 f0 (sN*4+aN) true)) 117::Y DG (.slice A79 zs76.length c80) (zs76.map AY)::Br (ls++[zc])::Br zs76::BW b64 C.J M1::Ar) [Z (Am Ag) (.slice A1 C.J.us.length c2) C.J.us,Z (Bg Ag) (.slice A1 C.J.us.length c2) ss,Z Af (.slice A6 C.J.map.length c7) C.J.map,Z Af (.slice A11 C.J.comb.length c12) C.J.comb,Z Af (.slice A16 C.J.red.length c17) C.J.red,Z (Ai .i64) (.slice A21 C.J.marks.length c22) C.J.marks,Z (Ai .i64) (.slice A26 splits.length c27) splits,Z (Ai .i64) (.slice A31 attempts.length c32) attempts,gl]) mo (by kernel_rfl) (fun w H=>⟨_,H⟩) H (fun w H=>?_)
   refine Au U (Ao U U U (fun w ⟨Ar,H⟩=>Bq (cs:=[.slice A1 C.J.us.length c2,.int .i64 C.J.parts,.slice A6 C.J.map.length c7,.slice A11 C.J.comb.length c12,.slice A16 C.J.red.length c17,.int .i64 C.J.chunk,.int .i64 C.J.window,.int .i64 C.J.fuel,.slice A21 C.J.marks.length c22,.int .i64 C.w,.int .i64 C.t,.int .i64 C.o]) U DE U U (H.cellsI 0 U U)) (Au U (Au U ?_)))
   have th87:=H.thA 3 rfl hx86
   refine Ao U U U (fun w ⟨Ar,H⟩=>AZ (p:=AP A79+j*10) U Jh U U (by omega) (by omega) th87 U) (Ao U U U (fun w ⟨Ar,H⟩=>Aj U HW U) (Ao U U U (fun w ⟨Ar,H⟩=>Ak U AB U (H.elA 3 U hx86 (q:=3) U U)) (Au U (Au U ?_))))
   have th88:=H.thA 3 rfl hx86
   refine Ao U U U (fun w ⟨Ar,H⟩=>AZ (p:=AP A79+j*10) U Jh U U (by omega) (by omega) th88 U) (Ao U U U (fun w ⟨Ar,H⟩=>Bq (cs:=[.int .i64 x85.h.kind,.int .i64 x85.h.sp,.int .i64 x85.h.att,.int .i64 x85.h.part,.int .i64 x85.h.seq,.int .i64 x85.h.next,.int .i64 x85.h.ep,.int .i64 x85.h.why,.slice x85.hs.A x85.hs.n x85.hs.c,.slice x85.hp.A x85.hp.n x85.hp.c]) U E6 U U (H.elsA 3 U hx86 U)) (AO U (sc (J0 (.slice A1 C.J.us.length c2) (.slice A6 C.J.map.length c7) (.slice A11 C.J.comb.length c12) (.slice A16 C.J.red.length c17) (.slice A21 C.J.marks.length c22) C x85.h.part (by first |assumption|omega|(unfold AA;omega)|exact hWr|exact hW2r|decide)) H (lR 0 U (lR 2 U (lR 3 U (lR 4 U (lR 5 U l0))))) U U (At J_ U U) ?_)))
   rintro _ _ w ⟨rfl,rfl⟩ H
   refine AE ⟨_,H⟩ (Ao U U U (fun w ⟨Ar,H⟩=>Co (parts:=[(1,.tmp 166),(2,.tmp 170)]) (vs:=[.int .i64 (C4 C x85.h.part),.agg #[.int .i64 x85.h.kind,.int .i64 x85.h.sp,.int .i64 x85.h.att,.int .i64 x85.h.part,.int .i64 x85.h.seq,.int .i64 x85.h.next,.int .i64 x85.h.ep,.int .i64 x85.h.why,.slice x85.hs.A x85.hs.n x85.hs.c,.slice x85.hp.A x85.hp.n x85.hp.c]]) (cs:=[.int .i64 0,.int .i64 (C4 C x85.h.part),.int .i64 x85.h.kind,.int .i64 x85.h.sp,.int .i64 x85.h.att,.int .i64 x85.h.part,.int .i64 x85.h.seq,.int .i64 x85.h.next,.int .i64 x85.h.ep,.int .i64 x85.h.why,.slice x85.hs.A x85.hs.n x85.hs.c,.slice x85.hp.A x85.hp.n x85.hp.c]) U Hg U U) (AO U (BX (parts:=[(0,.tmp 171)]) (vs:=[.agg #[.int .i64 0,.int .i64 (C4 C x85.h.part),.int .i64 x85.h.kind,.int .i64 x85.h.sp,.int .i64 x85.h.att,.int .i64 x85.h.part,.int .i64 x85.h.seq,.int .i64 x85.h.next,.int .i64 x85.h.ep,.int .i64 x85.h.why,.slice x85.hs.A x85.hs.n x85.hs.c,.slice x85.hp.A x85.hp.n x85.hp.c]]) (cs:=[.int .i64 0,.int .i64 (C4 C x85.h.part),.int .i64 x85.h.kind,.int .i64 x85.h.sp,.int .i64 x85.h.att,.int .i64 x85.h.part,.int .i64 x85.h.seq,.int .i64 x85.h.next,.int .i64 x85.h.ep,.int .i64 x85.h.why,.slice x85.hs.A x85.hs.n x85.hs.c,.slice x85.hp.A x85.hp.n x85.hp.c]) U U U DL E9 U (by decide) (by decide) U U H (fun b89 w H=>?_))))
   replace H:=H.h1 (A:=blk b89 [.int .i64 0,.int .i64 (C4 C x85.h.part),.int .i64 x85.h.kind,.int .i64 x85.h.sp,.int .i64 x85.h.att,.int .i64 x85.h.part,.int .i64 x85.h.seq,.int .i64 x85.h.next,.int .i64 x85.h.ep,.int .i64 x85.h.why,.slice x85.hs.A x85.hs.n x85.hs.c,.slice x85.hp.A x85.hp.n x85.hp.c] 121)|>.p7|>.p7|>.p7|>.p7|>.p7|>.p7|>.p7
   refine AE ⟨_,H⟩ (AO U ?_)
   replace H:=H.p8
   refine Ct (xs:=((ls++[zc])++(zs76.take j).map (lf C)).map AY) (ys:=[(⟨⟨0,C4 C x85.h.part,⟨x85.h.kind,x85.h.sp,x85.h.att,x85.h.part,x85.h.seq,x85.h.next,x85.h.ep,x85.h.why⟩⟩,⟨x85.hs.A,x85.hs.n,x85.hs.c⟩,⟨x85.hp.A,x85.hp.n,x85.hp.c⟩⟩:D2 BM)]) U U U DL E9 U (by decide) U U H (by first |omega|(simp only [List.length_append,List.length_cons,List.length_nil,List.length_map];omega)) (fun F hA hR=>Cm (hA _ (List.mem_of_getElem? (i:=7) U)) U (by decide) (AW.flat_eq.2 U)) (fun v90 w H=>?_)
   replace H:=H.h1 (A:=Y B0 v90 ((((ls++[zc])++(zs76.take j).map (lf C)).map AY)++[(⟨⟨0,C4 C x85.h.part,⟨x85.h.kind,x85.h.sp,x85.h.att,x85.h.part,x85.h.seq,x85.h.next,x85.h.ep,x85.h.why⟩⟩,⟨x85.hs.A,x85.hs.n,x85.hs.c⟩,⟨x85.hp.A,x85.hp.n,x85.hp.c⟩⟩:D2 BM)]))|>.p7|>.p7|>.p7|>.p7|>.p7|>.p7|>.p7
   refine AE ⟨_,H⟩ (Au U (BP (AU (Aa (Ae (Ad U (V U U (AT (z:=((j+1:Nat):Int)) U U U (by rw [AC (by omega) (by omega)];omega)) (Ad U (Ac ?_)))))))))
   replace H:=H.p7.p4.p4.p4.p4.k8
   replace H:Hd w0 F0 w [blk b36 [.slice A1 C.J.us.length c2,.int .i64 C.J.parts,.slice A6 C.J.map.length c7,.slice A11 C.J.comb.length c12,.slice A16 C.J.red.length c17,.int .i64 C.J.chunk,.int .i64 C.J.window,.int .i64 C.J.fuel,.slice A21 C.J.marks.length c22,.int .i64 C.w,.int .i64 C.t,.int .i64 C.o] 28,Bp b46 C W1,blk b47 (C3 (B3 f0 (sN*4+aN) true)) 117,Y DG (.slice A79 zs76.length c80) (zs76.map AY),Y B0 v90 (((ls++[zc])++(zs76.take (j+1)).map (lf C)).map AY),Br (ls++[zc]),Br zs76,BW b64 C.J M1] [Z (Am Ag) (.slice A1 C.J.us.length c2) C.J.us,Z (Bg Ag) (.slice A1 C.J.us.length c2) ss,Z Af (.slice A6 C.J.map.length c7) C.J.map,Z Af (.slice A11 C.J.comb.length c12) C.J.comb,Z Af (.slice A16 C.J.red.length c17) C.J.red,Z (Ai .i64) (.slice A21 C.J.marks.length c22) C.J.marks,Z (Ai .i64) (.slice A26 splits.length c27) splits,Z (Ai .i64) (.slice A31 attempts.length c32) attempts,gl]:=by rw [hxe9] at H;rw [Mf hm9,←List.append_assoc,List.map_append];exact H
   exact Bi (s:=(j,undef)) (j+1,v90) ⟨rfl,rfl,rfl,rfl,rfl,rfl,rfl,rfl,rfl,rfl,trivial⟩ ⟨H,by (try dsimp only);omega⟩ (by (try dsimp only);omega)
  refine BC (AM (AM (BD (AU (Aa (Ae (Ad U (V U U (AT (z:=((i+1:Nat):Int)) U U U (by rw [AC (by omega) (by omega)];omega)) (Ad U (Ac ?_))))))))))
  replace H:=H.h5 (E:=Y B0 q2 (((ls++[zc])++(zs76.take j).map (lf C)).map AY))
  replace H:Hd w0 F0 w [blk b36 [.slice A1 C.J.us.length c2,.int .i64 C.J.parts,.slice A6 C.J.map.length c7,.slice A11 C.J.comb.length c12,.slice A16 C.J.red.length c17,.int .i64 C.J.chunk,.int .i64 C.J.window,.int .i64 C.J.fuel,.slice A21 C.J.marks.length c22,.int .i64 C.w,.int .i64 C.t,.int .i64 C.o] 28,Bp b46 C W1,blk b47 (C3 (B3 f0 (sN*4+aN) true)) 117,Y DG (.slice A79 zs76.length c80) (zs76.map AY),Y B0 q2 (((ls++[zc])++zs76.map (lf C)).map AY),Br (ls++[zc]),Br zs76,BW b64 C.J M1] [Z (Am Ag) (.slice A1 C.J.us.length c2) C.J.us,Z (Bg Ag) (.slice A1 C.J.us.length c2) ss,Z Af (.slice A6 C.J.map.length c7) C.J.map,Z Af (.slice A11 C.J.comb.length c12) C.J.comb,Z Af (.slice A16 C.J.red.length c17) C.J.red,Z (Ai .i64) (.slice A21 C.J.marks.length c22) C.J.marks,Z (Ai .i64) (.slice A26 splits.length c27) splits,Z (Ai .i64) (.slice A31 attempts.length c32) attempts,gl]:=by rw [List.take_of_length_le (l:=zs76) (by omega)] at H;exact H
  replace H:=H.p4.p3.p3.p3.p6.p6.k6
  rw [←Rq C] at H
  replace H:=Rt H
  replace H:Hd _ _ _ [Br ((ls++[zc])++zs76.map (lf C)),blk b36 [.slice A1 C.J.us.length c2,.int .i64 C.J.parts,.slice A6 C.J.map.length c7,.slice A11 C.J.comb.length c12,.slice A16 C.J.red.length c17,.int .i64 C.J.chunk,.int .i64 C.J.window,.int .i64 C.J.fuel,.slice A21 C.J.marks.length c22,.int .i64 C.w,.int .i64 C.t,.int .i64 C.o] 28,Bp b46 C W1,blk b47 (C3 (B3 f0 (sN*4+aN) true)) 117,Y B0 q2 (((ls++[zc])++zs76.map (lf C)).map AY)] [Z (Am Ag) (.slice A1 C.J.us.length c2) C.J.us,Z (Bg Ag) (.slice A1 C.J.us.length c2) ss,Z Af (.slice A6 C.J.map.length c7) C.J.map,Z Af (.slice A11 C.J.comb.length c12) C.J.comb,Z Af (.slice A16 C.J.red.length c17) C.J.red,Z (Ai .i64) (.slice A21 C.J.marks.length c22) C.J.marks,Z (Ai .i64) (.slice A26 splits.length c27) splits,Z (Ai .i64) (.slice A31 attempts.length c32) attempts,gl]:=H
  have hz9:((ls++[zc])++zs76.map (lf C)).map Ca=W1.ts.flatMap (DD dg C):=by rw [List.append_assoc];exact Rp hz hts (by rw [ZD hgd hf77,hsp1,hat1];show Ca zc::(zs76.map (lf C)).map Ca=_;rw [hzc];first |rfl|(rw [←hsp1,←hat1];rfl))
  have hWt9:∀ M∈W1.ts,ER M:=by rw [hts];exact fun M h=>(List.mem_append.1 h).elim (hWt M) (fun g=>by rw [List.mem_singleton.1 g];exact hokM)
  have hhd9:HY (B3 f0 (sN*4+aN) true) W1.ts:=by rw [hts];exact OU hhd hsp1 hat1 (by omega)
  have hWl9:W1.ts.length=W.ts.length+1:=by rw [hts,List.length_append];rfl
  replace H:=H.p4.p4.p4.p4
  exact Bi (s:=(i,W,f0,undef,ls)) (i+1,W1,B3 f0 (sN*4+aN) true,q2,(ls++[zc])++zs76.map (lf C)) ⟨rfl,rfl,rfl,rfl,rfl,rfl,(by rw [hWl9];rfl),rfl,trivial⟩ ⟨H,by (try dsimp only);omega,⟨hrs1.trans hWs.1,hov1⟩,hWt9,by (try dsimp only);omega,hhd9,hz9,by (try dsimp only);rw [List.length_append,List.length_append,List.length_map];simp only [List.length_cons,List.length_nil];omega⟩ (by (try dsimp only);omega)
 refine BC (AM (AM (BD (Aa (Ab ?_)))))
 have hWr:∀ R∈W.rs,Cv 99999 R:=by rw [hWs.1];exact WE _ _
 have hrl:W.rs.length≤4:=by rw [hWs.1,WB];have h9:=O4 C (1+lo42) C.J.parts.toNat;omega
 have hWl:W.ts.length≤1000∧W.rs.length≤1000:=⟨by omega,by omega⟩
 have hrl1:W.rs.length≤1000:=by omega
 have hpl:(W.rs.map Df).length=W.rs.length:=List.length_map ..
 refine Ae (Ad U ?_)
 replace H:=H.p1.h5 (A:=Bp b46 C W) (C:=blk b47 (C3 f0) 117) (D:=Y B0 q (ls.map AY)) (E:=Br ls)
 refine sc (KZ b46 C W (by first |assumption|omega|(unfold AA;omega)|exact hWr|exact hW2r|decide) (by first |assumption|omega|(unfold AA;omega)|exact hWr|exact hW2r|decide) (by first |assumption|omega|(unfold AA;omega)|exact hWr|exact hW2r|decide) (by first |assumption|omega|(unfold AA;omega)|exact hWr|exact hW2r|decide) (by first |assumption|omega|(unfold AA;omega)|exact hWr|exact hW2r|decide)) H (lR 8 U l0) U U (At Ka U U) ?_
 rintro v93 _ w ⟨zs91,rfl,hf92⟩ H
 replace H:=H.h1 (A:=Y BZ v93 zs91)
 obtain ⟨A94,c95,rfl,hc96,hm97,hp98⟩:=H.fA 0 rfl
 have hzw:=hf92
 have htl:=ZL hWs.2 hzw hz
 have htk:=ZM hWs.2 hzw hz
 replace H:=H.p5.p5
 replace H:=Hd.twI H
 replace H:=H.h1 (A:=Y BZ q ls)
 obtain ⟨A99,c100,rfl,hc101,hm102,hp103⟩:=H.fA 0 rfl
 refine Ad U (Ac (Aa (Ab (Ab (Ae (Ad U ?_))))))
 replace H:=H.p2
 refine sc (M6 b46 C W) H l0 U U (At L4 U U) ?_
 rintro _ _ w ⟨rfl,rfl⟩ H
 refine Ad U (V U U (CX U U U) (Ad U ?_))
 refine AK (d:=180) U (fun h104=>?_) (fun h104=>?_)
 ·first |exact (h104 rfl).elim|exact (h104 (by omega)).elim
 refine Ad U (V U U (A8 U GG U) (Ad U (V U U (A8 U GG U) (Ad U ?_))))
 replace H:Hd _ _ _ [Bp b46 C W,Y BZ (.slice A99 ls.length c100) ls,Y BZ (.slice A94 zs91.length c95) zs91,blk b36 [.slice A1 C.J.us.length c2,.int .i64 C.J.parts,.slice A6 C.J.map.length c7,.slice A11 C.J.comb.length c12,.slice A16 C.J.red.length c17,.int .i64 C.J.chunk,.int .i64 C.J.window,.int .i64 C.J.fuel,.slice A21 C.J.marks.length c22,.int .i64 C.w,.int .i64 C.t,.int .i64 C.o] 28,blk b47 (C3 f0) 117] [Z (Am Ag) (.slice A1 C.J.us.length c2) C.J.us,Z (Bg Ag) (.slice A1 C.J.us.length c2) ss,Z Af (.slice A6 C.J.map.length c7) C.J.map,Z Af (.slice A11 C.J.comb.length c12) C.J.comb,Z Af (.slice A16 C.J.red.length c17) C.J.red,Z (Ai .i64) (.slice A21 C.J.marks.length c22) C.J.marks,Z (Ai .i64) (.slice A26 splits.length c27) splits,Z (Ai .i64) (.slice A31 attempts.length c32) attempts,gl]:=H
 refine sc (M5 b46 C W (by first |assumption|omega|(unfold AA;omega)|exact hWr|exact hW2r|decide)) H l0 U U (At L5 U U) ?_
 rintro v105 _ w rfl H
 obtain ⟨A106,c107,rfl,hc108,hm109,hp110⟩:=H.fA 0 rfl
 refine V U U (A8 U Ea U) (V U U (AT (z:=((ls.length+(W.rs.map Df).length:Nat):Int)) U U U (by rw [AC (by omega) (by omega)];omega)) (V U U (CX U U U) (Ah 2 U ?_)))
 refine AK (d:=191) U (fun h111=>?_) (fun h111=>?_)
 ·first |exact (h111 rfl).elim|exact (h111 (by omega)).elim
 refine Ah 2 U (V U U (A8 U GG U) (V U U (Ku U DL U U (by omega) (by omega) U) (Ad U ?_)))
 replace H:Hd _ _ _ [Y (Ai .i64) (.slice A106 ((W.rs.map Df).length) c107) (W.rs.map Df),Bp b46 C W,Y BZ (.slice A99 ls.length c100) ls,Y BZ (.slice A94 zs91.length c95) zs91,blk b36 [.slice A1 C.J.us.length c2,.int .i64 C.J.parts,.slice A6 C.J.map.length c7,.slice A11 C.J.comb.length c12,.slice A16 C.J.red.length c17,.int .i64 C.J.chunk,.int .i64 C.J.window,.int .i64 C.J.fuel,.slice A21 C.J.marks.length c22,.int .i64 C.w,.int .i64 C.t,.int .i64 C.o] 28,blk b47 (C3 f0) 117] [Z (Am Ag) (.slice A1 C.J.us.length c2) C.J.us,Z (Bg Ag) (.slice A1 C.J.us.length c2) ss,Z Af (.slice A6 C.J.map.length c7) C.J.map,Z Af (.slice A11 C.J.comb.length c12) C.J.comb,Z Af (.slice A16 C.J.red.length c17) C.J.red,Z (Ai .i64) (.slice A21 C.J.marks.length c22) C.J.marks,Z (Ai .i64) (.slice A26 splits.length c27) splits,Z (Ai .i64) (.slice A31 attempts.length c32) attempts,gl]:=H
 refine sc (Rc (.slice A94 ls.length c95) (zs91.take ls.length) (.slice A99 ls.length c100) ls) H (lX (fun F hA hR=>Q5 (BJ F (hA _ (List.mem_of_getElem? (i:=3) U))) (i:=ls.length) (by omega)) (lA 2 U BJ l0)) U U (At PB U U) ?_
 rintro _ _ w ⟨rfl,rfl⟩ H
 refine V U U (D_ U U) (Ad U (Ac (Aa ?_)))
 refine Ax U (fun h112=>?_) (fun h112=>?_)
 ·exact (h112 htk).elim
 refine Av (Aa (Ab (Ab (Ae (Ad U (Ac (Aa (AS ?_))))))))
 replace H:=H.p3.p3.p3.p4.k4
 refine BQ (σ:=Nat) (fun k=>[(9,.pointer (some ⟨b46,0,none⟩)),(11,.slice A99 ls.length c100),(21,.slice A94 zs91.length c95),(22,.int .i64 ((k:Nat):Int))]) (fun k w=>(Hd w0 F0 w [blk b36 [.slice A1 C.J.us.length c2,.int .i64 C.J.parts,.slice A6 C.J.map.length c7,.slice A11 C.J.comb.length c12,.slice A16 C.J.red.length c17,.int .i64 C.J.chunk,.int .i64 C.J.window,.int .i64 C.J.fuel,.slice A21 C.J.marks.length c22,.int .i64 C.w,.int .i64 C.t,.int .i64 C.o] 28,Bp b46 C W,Y BZ (.slice A99 ls.length c100) ls,Y BZ (.slice A94 zs91.length c95) zs91] [Z (Am Ag) (.slice A1 C.J.us.length c2) C.J.us,Z (Bg Ag) (.slice A1 C.J.us.length c2) ss,Z Af (.slice A6 C.J.map.length c7) C.J.map,Z Af (.slice A11 C.J.comb.length c12) C.J.comb,Z Af (.slice A16 C.J.red.length c17) C.J.red,Z (Ai .i64) (.slice A21 C.J.marks.length c22) C.J.marks,Z (Ai .i64) (.slice A26 splits.length c27) splits,Z (Ai .i64) (.slice A31 attempts.length c32) attempts,gl])∧(k≤(W.rs.map Df).length)) (fun k=>(W.rs.map Df).length - k) 0 ⟨rfl,rfl,rfl,rfl,trivial⟩ ⟨H,Nat.zero_le _⟩ ?_
 rintro k w ⟨H,hk⟩
 refine Ab (Ab (Ae (Ah 2 U ?_)))
 replace H:=H.p1
 refine sc (M5 b46 C W (by first |assumption|omega|(unfold AA;omega)|exact hWr|exact hW2r|decide)) H l0 U U (At L5 U U) ?_
 rintro v113 _ w rfl H
 obtain ⟨A114,c115,rfl,hc116,hm117,hp118⟩:=H.fA 0 rfl
 refine V U U (A8 U Ea U) (V U U (Bd U U U) (Ac (Aa ?_)))
 replace H:Hd _ _ _ [Y (Ai .i64) (.slice A114 ((W.rs.map Df).length) c115) (W.rs.map Df),Bp b46 C W,blk b36 [.slice A1 C.J.us.length c2,.int .i64 C.J.parts,.slice A6 C.J.map.length c7,.slice A11 C.J.comb.length c12,.slice A16 C.J.red.length c17,.int .i64 C.J.chunk,.int .i64 C.J.window,.int .i64 C.J.fuel,.slice A21 C.J.marks.length c22,.int .i64 C.w,.int .i64 C.t,.int .i64 C.o] 28,Y BZ (.slice A99 ls.length c100) ls,Y BZ (.slice A94 zs91.length c95) zs91] [Z (Am Ag) (.slice A1 C.J.us.length c2) C.J.us,Z (Bg Ag) (.slice A1 C.J.us.length c2) ss,Z Af (.slice A6 C.J.map.length c7) C.J.map,Z Af (.slice A11 C.J.comb.length c12) C.J.comb,Z Af (.slice A16 C.J.red.length c17) C.J.red,Z (Ai .i64) (.slice A21 C.J.marks.length c22) C.J.marks,Z (Ai .i64) (.slice A26 splits.length c27) splits,Z (Ai .i64) (.slice A31 attempts.length c32) attempts,gl]:=H
 refine Ax U (fun h119=>?_) (fun h119=>?_)
 ·refine Av (Aa (Ab (AS (Ab ?_))))
  obtain ⟨y9,hy9⟩:∃ z9,(W.rs.map Df)[k]?=some z9:=⟨_,List.getElem?_eq_getElem (by omega)⟩
  refine Ae (Ah 2 U (V U U (A8 U GG U) (Ad U (V U U (AT (z:=((ls.length+k:Nat):Int)) U U U (by rw [AC (by omega) (by omega)];omega)) ?_))))
  obtain ⟨⟨⟨a122,a123,⟨a124,a125,a126,a127,a128,a129,a130,a131⟩⟩,sv132,se133,pv134,pr135⟩,hx121⟩:∃ z9,zs91[ls.length+k]?=some z9:=⟨_,List.getElem?_eq_getElem (show ls.length+k<zs91.length by omega)⟩
  obtain ⟨A136,c137,A138,c139,rfl,rfl,m140,m141,m142,m143⟩:=H.nestAt 4 rfl hx121
  have th144:=H.thAt 4 rfl hx121
  refine V U U (AZ (p:=AP A94+(ls.length+k)*12) U DL U U (by omega) (by omega) th144 U) (V U U (Bq (cs:=[.int .i64 a122,.int .i64 a123,.int .i64 a124,.int .i64 a125,.int .i64 a126,.int .i64 a127,.int .i64 a128,.int .i64 a129,.int .i64 a130,.int .i64 a131,.slice A136 se133.length c137,.slice A138 pr135.length c139]) U Rv U U (H.elsAt 4 U hx121 0 12 U U)) (Dg U U U E9 H (fun b145 w H=>(BE U U U Rv U U H U (Nat.le_of_ble_eq_true U) (fun u hu=>by simp [Value.cells] at hu;rcases hu with rfl|rfl|rfl|rfl|rfl|rfl|rfl|rfl|rfl|rfl|rfl|rfl<;>rfl) (fun w H=>?_)))))
  replace H:Hd _ _ _ [blk b145 [.int .i64 a122,.int .i64 a123,.int .i64 a124,.int .i64 a125,.int .i64 a126,.int .i64 a127,.int .i64 a128,.int .i64 a129,.int .i64 a130,.int .i64 a131,.slice A136 se133.length c137,.slice A138 pr135.length c139] 121,Y (Ai .i64) (.slice A114 ((W.rs.map Df).length) c115) (W.rs.map Df),Bp b46 C W,blk b36 [.slice A1 C.J.us.length c2,.int .i64 C.J.parts,.slice A6 C.J.map.length c7,.slice A11 C.J.comb.length c12,.slice A16 C.J.red.length c17,.int .i64 C.J.chunk,.int .i64 C.J.window,.int .i64 C.J.fuel,.slice A21 C.J.marks.length c22,.int .i64 C.w,.int .i64 C.t,.int .i64 C.o] 28,Y BZ (.slice A99 ls.length c100) ls,Y BZ (.slice A94 zs91.length c95) zs91] [Z (Am Ag) (.slice A1 C.J.us.length c2) C.J.us,Z (Bg Ag) (.slice A1 C.J.us.length c2) ss,Z Af (.slice A6 C.J.map.length c7) C.J.map,Z Af (.slice A11 C.J.comb.length c12) C.J.comb,Z Af (.slice A16 C.J.red.length c17) C.J.red,Z (Ai .i64) (.slice A21 C.J.marks.length c22) C.J.marks,Z (Ai .i64) (.slice A26 splits.length c27) splits,Z (Ai .i64) (.slice A31 attempts.length c32) attempts,gl]:=H
  refine Ac (Aa (Ab ?_))
  have hx9:=ZK hn1 hWs.2 hWs.1 hzw hz rfl hx121 hy9
  refine BY (.e 0 (.e 1 (.e 2 (.e 3 (.e 4 (.e 5 (.e 6 (.e 7 (.e 9 (.m 8 (.e 10 (.m 11 (.e 12 (.e 13 (.e 14 (.e 15 (.e 16 (.e 17 (.e 18 (.e 19 .z)))))))))))))))))))) (fun w=>∃ Ar,Hd w0 F0 w (blk b145 [.int .i64 a122,.int .i64 a123,.int .i64 a124,.int .i64 a125,.int .i64 a126,.int .i64 a127,.int .i64 a128,.int .i64 a129,.int .i64 a130,.int .i64 a131,.slice A136 se133.length c137,.slice A138 pr135.length c139] 121::Y (Ai .i64) (.slice A114 ((W.rs.map Df).length) c115) (W.rs.map Df)::Bp b46 C W::blk b36 [.slice A1 C.J.us.length c2,.int .i64 C.J.parts,.slice A6 C.J.map.length c7,.slice A11 C.J.comb.length c12,.slice A16 C.J.red.length c17,.int .i64 C.J.chunk,.int .i64 C.J.window,.int .i64 C.J.fuel,.slice A21 C.J.marks.length c22,.int .i64 C.w,.int .i64 C.t,.int .i64 C.o] 28::Y BZ (.slice A99 ls.length c100) ls::Y BZ (.slice A94 zs91.length c95) zs91::Ar) [Z (Am Ag) (.slice A1 C.J.us.length c2) C.J.us,Z (Bg Ag) (.slice A1 C.J.us.length c2) ss,Z Af (.slice A6 C.J.map.length c7) C.J.map,Z Af (.slice A11 C.J.comb.length c12) C.J.comb,Z Af (.slice A16 C.J.red.length c17) C.J.red,Z (Ai .i64) (.slice A21 C.J.marks.length c22) C.J.marks,Z (Ai .i64) (.slice A26 splits.length c27) splits,Z (Ai .i64) (.slice A31 attempts.length c32) attempts,gl]) mo (by kernel_rfl) (fun w H=>⟨_,H⟩) H (fun w H=>?_)
  refine Ao U U U (fun w ⟨Ar,H⟩=>Aj U JP U) (Ao U U U (fun w ⟨Ar,H⟩=>Ak U AB U (H.cellI 0 U U)) (Ao U U U (fun w ⟨Ar,H⟩=>CX U U U) (Au U ?_)))
  refine IG (d:=217) U (fun h146=>?_) (fun h146=>?_)
  ·first |exact (h146 (congrArg Ds.to hx9)).elim|exact (h146 (congrArg (fun z:Ds=>z.m.part) hx9)).elim|exact (h146 (congrArg (fun z:Ds=>z.m.kind) hx9)).elim
  refine Ao U U U (fun w ⟨Ar,H⟩=>Aj U II U) (Ao U U U (fun w ⟨Ar,H⟩=>Aj U HW U) (Ao U U U (fun w ⟨Ar,H⟩=>Ak U AB U (H.cellI 0 U U)) (Au U (Au U (AO U ?_)))))
  replace H:=H.p2
  refine sc (M5 b46 C W (by first |assumption|omega|(unfold AA;omega)|exact hWr|exact hW2r|decide)) H l0 U U (At L5 U U) ?_
  rintro v147 _ w rfl H
  replace H:=H.h1 (A:=Y (Ai .i64) v147 (W.rs.map Df))|>.p6|>.p6|>.p6|>.p4|>.p6|>.p6
  refine AE ⟨_,H⟩ ?_
  obtain ⟨A148,c149,rfl,hc150,hm151,hp152⟩:=H.fA 6 rfl
  have th153:=H.thA 6 rfl hy9
  refine Ao U U U (fun w ⟨Ar,H⟩=>AZ (p:=AP A148+k*1) U Dx U U (by omega) (by omega) th153 U) (AO U (V U U (Ak U AB U (H.elA 6 U hy9 (q:=0) U U)) (AE ⟨_,H⟩ (Ao U U U (fun w ⟨Ar,H⟩=>CX U U U) (Au U (Au U ?_))))))
  refine IG (d:=228) U (fun h154=>?_) (fun h154=>?_)
  ·first |exact (h154 (congrArg Ds.to hx9)).elim|exact (h154 (congrArg (fun z:Ds=>z.m.part) hx9)).elim|exact (h154 (congrArg (fun z:Ds=>z.m.kind) hx9)).elim
  refine Ao U U U (fun w ⟨Ar,H⟩=>Aj U II U) (Ao U U U (fun w ⟨Ar,H⟩=>Aj U Fh U) (Ao U U U (fun w ⟨Ar,H⟩=>Ak U AB U (H.cellI 0 U U)) (Ao U U U (fun w ⟨Ar,H⟩=>CX U U U) (Au U (BP (Aa ?_))))))
  refine Ax U (fun h155=>?_) (fun h155=>?_)
  ·first |exact (h155 (congrArg Ds.to hx9)).elim|exact (h155 (congrArg (fun z:Ds=>z.m.part) hx9)).elim|exact (h155 (congrArg (fun z:Ds=>z.m.kind) hx9)).elim
  refine Av (AU (Aa (Ae (Ad U (V U U (AT (z:=((k+1:Nat):Int)) U U U (by rw [AC (by omega) (by omega)];omega)) (Ad U (Ac ?_)))))))
  replace H:=H.p5.p5.p4.p5.k4
  exact Bi (s:=k) (k+1) ⟨rfl,rfl,rfl,rfl,trivial⟩ ⟨H,by (try dsimp only);omega⟩ (by (try dsimp only);omega)
 refine BC (AM (AM (BD (Aa (Ab (Ae (Ad U (V U U (Co (parts:=[(0,.const (.int .i64 9))]) (vs:=[.int .i64 9]) (cs:=[.int .i64 9,.int .i64 0,.int .i64 0,.int .i64 0,.int .i64 0,.int .i64 0,.int .i64 0,.int .i64 0,.slice none 0 0,.slice none 0 0]) U EI U U) ?_))))))))
 replace H:=H.p1
 refine sc (Iy b46 C W 1 9 0 0 (by first |assumption|omega|(unfold AA;omega)|exact hWr|exact hW2r|decide) (by first |assumption|omega|(unfold AA;omega)|exact hWr|exact hW2r|decide) (by first |assumption|omega|(unfold AA;omega)|exact hWr|exact hW2r|decide) (by first |assumption|omega|(unfold AA;omega)|exact hWr|exact hW2r|decide) (by first |assumption|omega|(unfold AA;omega)|exact hWr|exact hW2r|decide)) H (lR 8 U l0) U U (At Ia U U) ?_
 rintro _ _ w ⟨rfl,rfl⟩ H
 replace H:=H.h1 (A:=Bp b46 C (DR dg C W 1 9 0 0))
 rw [OZ] at H
 replace H:Hd _ _ _ [Bp b46 C W,Y (Ai .i64) (.slice A114 ((W.rs.map Df).length) c115) (W.rs.map Df),blk b36 [.slice A1 C.J.us.length c2,.int .i64 C.J.parts,.slice A6 C.J.map.length c7,.slice A11 C.J.comb.length c12,.slice A16 C.J.red.length c17,.int .i64 C.J.chunk,.int .i64 C.J.window,.int .i64 C.J.fuel,.slice A21 C.J.marks.length c22,.int .i64 C.w,.int .i64 C.t,.int .i64 C.o] 28,Y BZ (.slice A99 ls.length c100) ls,Y BZ (.slice A94 zs91.length c95) zs91] [Z (Am Ag) (.slice A1 C.J.us.length c2) C.J.us,Z (Bg Ag) (.slice A1 C.J.us.length c2) ss,Z Af (.slice A6 C.J.map.length c7) C.J.map,Z Af (.slice A11 C.J.comb.length c12) C.J.comb,Z Af (.slice A16 C.J.red.length c17) C.J.red,Z (Ai .i64) (.slice A21 C.J.marks.length c22) C.J.marks,Z (Ai .i64) (.slice A26 splits.length c27) splits,Z (Ai .i64) (.slice A31 attempts.length c32) attempts,gl]:=H
 refine Ac (Aa (Ab (Ab (Ae (Ad U (sc (KY b46 C W) H l0 U U (At Kb U U) ?_))))))
 rintro _ _ w ⟨rfl,rfl⟩ H
 refine Ac (Aa ?_)
 refine DN (b:=W.over) U (fun h156=>?_) (fun h156=>?_)
 ·exact absurd (hWs.2.symm.trans h156) (by decide)
 refine Av (Aa (Ab (Ae (Ad U (V U U (Co (parts:=[(0,.const (.int .i64 9))]) (vs:=[.int .i64 9]) (cs:=[.int .i64 9,.int .i64 0,.int .i64 0,.int .i64 0,.int .i64 0,.int .i64 0,.int .i64 0,.int .i64 0,.slice none 0 0,.slice none 0 0]) U EI U U) (sc (Iy b46 C W 0 9 0 0 (by first |assumption|omega|(unfold AA;omega)|exact hWr|exact hW2r|decide) (by first |assumption|omega|(unfold AA;omega)|exact hWr|exact hW2r|decide) (by first |assumption|omega|(unfold AA;omega)|exact hWr|exact hW2r|decide) (by first |assumption|omega|(unfold AA;omega)|exact hWr|exact hW2r|decide) (by first |assumption|omega|(unfold AA;omega)|exact hWr|exact hW2r|decide)) H (lR 8 U l0) U U (At Ia U U) ?_))))))
 rintro _ _ w ⟨rfl,rfl⟩ H
 replace H:=H.h1 (A:=Bp b46 C (DR dg C W 0 9 0 0))
 rw [Uk] at H
 obtain ⟨W2,hW2⟩:∃ z:CC,z={ W with ts:=[],over:=true }:=⟨_,rfl⟩
 rw [←hW2] at H
 replace H:Hd _ _ _ [Bp b46 C W2,Y (Ai .i64) (.slice A114 ((W.rs.map Df).length) c115) (W.rs.map Df),blk b36 [.slice A1 C.J.us.length c2,.int .i64 C.J.parts,.slice A6 C.J.map.length c7,.slice A11 C.J.comb.length c12,.slice A16 C.J.red.length c17,.int .i64 C.J.chunk,.int .i64 C.J.window,.int .i64 C.J.fuel,.slice A21 C.J.marks.length c22,.int .i64 C.w,.int .i64 C.t,.int .i64 C.o] 28,Y BZ (.slice A99 ls.length c100) ls,Y BZ (.slice A94 zs91.length c95) zs91] [Z (Am Ag) (.slice A1 C.J.us.length c2) C.J.us,Z (Bg Ag) (.slice A1 C.J.us.length c2) ss,Z Af (.slice A6 C.J.map.length c7) C.J.map,Z Af (.slice A11 C.J.comb.length c12) C.J.comb,Z Af (.slice A16 C.J.red.length c17) C.J.red,Z (Ai .i64) (.slice A21 C.J.marks.length c22) C.J.marks,Z (Ai .i64) (.slice A26 splits.length c27) splits,Z (Ai .i64) (.slice A31 attempts.length c32) attempts,gl]:=H
 have hW2t:∀ M∈W2.ts,ER M:=by rw [hW2];exact fun M h=>by cases h
 have hW2r:∀ R∈W2.rs,Cv 99999 R:=by rw [hW2];exact hWr
 have hW2l:W2.ts.length≤1000∧W2.rs.length≤1000:=by rw [hW2];exact ⟨Nat.zero_le _,hWl.2⟩
 have hW2o:W2.over=true:=by rw [hW2]
 have hW2n:W2.ts.length=0:=by rw [hW2];rfl
 refine Ac (Aa (Ab (Ae (Ad U (sc (KY b46 C W2) H l0 U U (At Kb U U) ?_)))))
 rintro _ _ w ⟨rfl,rfl⟩ H
 refine Ad U ?_
 refine E3 (d:=244) (b:=W2.over) U (fun h157=>?_) (fun h157=>?_)
 ·refine Ad U ?_
  replace H:Hd _ _ _ [Bp b46 C W2,Y (Ai .i64) (.slice A114 ((W.rs.map Df).length) c115) (W.rs.map Df),blk b36 [.slice A1 C.J.us.length c2,.int .i64 C.J.parts,.slice A6 C.J.map.length c7,.slice A11 C.J.comb.length c12,.slice A16 C.J.red.length c17,.int .i64 C.J.chunk,.int .i64 C.J.window,.int .i64 C.J.fuel,.slice A21 C.J.marks.length c22,.int .i64 C.w,.int .i64 C.t,.int .i64 C.o] 28,Y BZ (.slice A99 ls.length c100) ls,Y BZ (.slice A94 zs91.length c95) zs91] [Z (Am Ag) (.slice A1 C.J.us.length c2) C.J.us,Z (Bg Ag) (.slice A1 C.J.us.length c2) ss,Z Af (.slice A6 C.J.map.length c7) C.J.map,Z Af (.slice A11 C.J.comb.length c12) C.J.comb,Z Af (.slice A16 C.J.red.length c17) C.J.red,Z (Ai .i64) (.slice A21 C.J.marks.length c22) C.J.marks,Z (Ai .i64) (.slice A26 splits.length c27) splits,Z (Ai .i64) (.slice A31 attempts.length c32) attempts,gl]:=H
  refine sc (M6 b46 C W2) H l0 U U (At L4 U U) ?_
  rintro _ _ w ⟨rfl,rfl⟩ H
  refine V U U (Bb U U U) (Ah 2 U ?_)
  refine AK (d:=249) U (fun h158=>?_) (fun h158=>?_)
  ·refine Ad U ?_
   replace H:Hd _ _ _ [Bp b46 C W2,Y (Ai .i64) (.slice A114 ((W.rs.map Df).length) c115) (W.rs.map Df),blk b36 [.slice A1 C.J.us.length c2,.int .i64 C.J.parts,.slice A6 C.J.map.length c7,.slice A11 C.J.comb.length c12,.slice A16 C.J.red.length c17,.int .i64 C.J.chunk,.int .i64 C.J.window,.int .i64 C.J.fuel,.slice A21 C.J.marks.length c22,.int .i64 C.w,.int .i64 C.t,.int .i64 C.o] 28,Y BZ (.slice A99 ls.length c100) ls,Y BZ (.slice A94 zs91.length c95) zs91] [Z (Am Ag) (.slice A1 C.J.us.length c2) C.J.us,Z (Bg Ag) (.slice A1 C.J.us.length c2) ss,Z Af (.slice A6 C.J.map.length c7) C.J.map,Z Af (.slice A11 C.J.comb.length c12) C.J.comb,Z Af (.slice A16 C.J.red.length c17) C.J.red,Z (Ai .i64) (.slice A21 C.J.marks.length c22) C.J.marks,Z (Ai .i64) (.slice A26 splits.length c27) splits,Z (Ai .i64) (.slice A31 attempts.length c32) attempts,gl]:=H
   refine sc (KZ b46 C W2 (by first |assumption|omega|(unfold AA;omega)|exact hWr|exact hW2r|decide) (by first |assumption|omega|(unfold AA;omega)|exact hWr|exact hW2r|decide) (by first |assumption|omega|(unfold AA;omega)|exact hWr|exact hW2r|decide) (by first |assumption|omega|(unfold AA;omega)|exact hWr|exact hW2r|decide) (by first |assumption|omega|(unfold AA;omega)|exact hWr|exact hW2r|decide)) H (lR 8 U l0) U U (At Ka U U) ?_
   rintro v161 _ w ⟨zs159,rfl,hf160⟩ H
   replace H:=H.h1 (A:=Y BZ v161 zs159)
   obtain ⟨A162,c163,rfl,hc164,hm165,hp166⟩:=H.fA 0 rfl
   have hz2:zs159.map Ca=[]:=by rw [hf160];unfold Fr;rw [if_pos hW2o]
   have hz2l:zs159.length=0:=by have h9:=congrArg List.length hz2;rw [List.length_map] at h9;exact h9
   refine V U U (A8 U GG U) (V U U (Bb U U U) (Ah 2 U ?_))
   refine AK (d:=255) U (fun h167=>?_) (fun h167=>?_)
   ·refine sc (HD) H (lR 8 U l0) U U (At H_ U U) ?_
    rintro _ _ w ⟨rfl,rfl⟩ H
    refine Ah 2 U (Ac (Aa (An (Aq U U ?_))))
    replace H:=H.nil
    exact Al ⟨rfl,rfl⟩ H
   exact (h167 (by omega)).elim
  exact (h158 (by omega)).elim
 exact absurd (hW2o.symm.trans h157) (by decide)
theorem aX (vS vM vC vR vK:Value) (ss:List (List Ap)) (map comb red:List BG) (marks:List Int) (parts chunk window fuel:Int) (wj:((∀ x∈ss,(∀ p∈x,p.key.size≤9223372036854775807∧p.val.size≤9223372036854775807)∧x.length≤9223372036854775807)∧ss.length≤9223372036854775807)∧((∀ p∈map,AA p.op∧AA p.a∧p.s.size≤9223372036854775807)∧map.length≤9223372036854775807)∧((∀ p∈comb,AA p.op∧AA p.a∧p.s.size≤9223372036854775807)∧comb.length≤9223372036854775807)∧((∀ p∈red,AA p.op∧AA p.a∧p.s.size≤9223372036854775807)∧red.length≤9223372036854775807)∧(∀ x∈marks,AA x)∧marks.length≤9223372036854775807) (wn:AA parts∧AA chunk∧AA window∧AA fuel) (cw ct co:Int) (wc:AA cw∧AA ct∧AA co) (k1:Int) (g1:AA k1) (vq:Value) (splits:List Int) (wsplits:(∀ x∈splits,AA x)∧splits.length≤9223372036854775807) (va:Value) (attempts:List Int) (wattempts:(∀ x∈attempts,AA x)∧attempts.length≤9223372036854775807):
  Cn Tryz.prog 14 [.agg #[vS,.int .i64 parts,vM,vC,vR,.int .i64 chunk,.int .i64 window,.int .i64 fuel,vK,.int .i64 cw,.int .i64 ct,.int .i64 co],.int .i64 k1,vq,va] [] [Z (Bg Ag) vS ss,Z Af vM map,Z Af vC comb,Z Af vR red,Z (Ai .i64) vK marks,Z (Ai .i64) vq splits,Z (Ai .i64) va attempts,gl] (fun v Bs=>v=.bool true∧Bs=[]):=
 Cn.heads0 fun us hus=>aW vS vM vC vR vK ⟨⟨us,parts,map,comb,red,chunk,window,fuel,marks⟩,cw,ct,co⟩ ss (fun i hi=>(wj.2.1.1 i hi).2.1) (fun i hi=>(wj.2.2.1.1 i hi).2.1) (fun i hi=>(wj.2.2.2.1.1 i hi).2.1) k1 g1 vq splits wsplits va attempts wattempts
theorem M4 {P:Program} {W:World} {name:String} {g:Nat} {cs:Array Value} (hg:P.globalNamed name=some g) (h:W.var? P name=some cs):E_ W g:=by
 unfold World.var? at h
 rw [hg] at h
 simp only [Option.bind_some] at h
 show g<W.heap.size
 rcases Nat.lt_or_ge g W.heap.size with h'|h'
 ·exact h'
 ·simp [Array.getElem?_eq_none h'] at h
theorem Rk: "*" ++ "errors.errorString" = "*errors.errorString" :=by decide
theorem Qv (u:TypeId) (h:Tryz.prog.typeName? 3 u=some "*errors.errorString"):u=409:=typeName_ptr_named (nm:= "errors.errorString") (by rw [Rk];kernel_rfl) (by kernel_rfl) (by decide) u (by rw [Rk];exact h)
theorem LO:Tryz.prog.globalNamed "internal/strconv.uint64pow10" =some 2:=by kernel_rfl
theorem Ud:(Tryz.prog.globals[2]?).map (·.type)=some 406:=by kernel_rfl
theorem LP:Tryz.prog.globalNamed "strconv.ErrSyntax" =some 0:=by kernel_rfl
theorem Ue:(Tryz.prog.globals[0]?).map (·.type)=some 370:=by kernel_rfl
theorem LQ:Tryz.prog.globalNamed "strconv.ErrRange" =some 1:=by kernel_rfl
theorem Uf:(Tryz.prog.globals[1]?).map (·.type)=some 370:=by kernel_rfl
theorem PM:Tryz.prog.underlying 370=some (.interface (Tryz.prog.methodsAt 370)):=by kernel_rfl
theorem V1:Tryz.prog.underlying 406=some (.array 20 270):=by kernel_rfl
theorem V0:Tryz.prog.underlying 270=some (.int .u64):=by kernel_rfl
theorem PN:Tryz.prog.underlying 409=some (.pointer 411):=by kernel_rfl
theorem PO:Tryz.prog.underlying 411=some (.struct #[⟨ "s",9,0,false, "", "errors",0⟩]):=by kernel_rfl
theorem PP:Tryz.prog.underlying 9=some (.string):=by kernel_rfl
theorem VT:Tryz.prog.cellsOf 270=1:=by kernel_rfl
theorem VU:Tryz.prog.cellsOf 406=20:=by kernel_rfl
theorem PE:Tryz.prog.cellsOf 411=1:=by kernel_rfl
theorem PF:Tryz.prog.cellsOf 9=1:=by kernel_rfl
theorem T5 {W:World} (h:laidMet Tryz.prog Rows.checkOrdersRow.laid W):gl.P W (E_ W):=by
 refine ⟨?_,?_,?_⟩
 ·have h0:laidMet Tryz.prog [("internal/strconv.uint64pow10",Lib.tabData .u64 Lib.pow10Tab)] W:=by
   have e:Rows.checkOrdersRow.laid.filter (fun x=>x.1== "internal/strconv.uint64pow10")=[("internal/strconv.uint64pow10",Lib.tabData .u64 Lib.pow10Tab)]:=by kernel_rfl
   have:=h.filter (fun x=>x.1== "internal/strconv.uint64pow10");rw [e] at this;exact this
  have hv:=Lib.tabIs_of_head LO Ud V1 V0 VT VU h0
  exact ⟨_,LO,M4 LO hv,_,hv,rfl⟩
 ·have h0:laidMet Tryz.prog [("strconv.ErrSyntax",Rows.laid_strconv_ErrSyntax)] W:=by
   have e:Rows.checkOrdersRow.laid.filter (fun x=>x.1== "strconv.ErrSyntax")=[("strconv.ErrSyntax",Rows.laid_strconv_ErrSyntax)]:=by kernel_rfl
   have:=h.filter (fun x=>x.1== "strconv.ErrSyntax");rw [e] at this;exact this
  obtain ⟨a0,s0,hv, -⟩:=laid_sentinel h0 LP Ue PM Qv PN PO rfl rfl PP PE PF
  exact ⟨_,LP,M4 LP hv,_,hv,_,_,rfl⟩
 ·have h0:laidMet Tryz.prog [("strconv.ErrRange",Rows.laid_strconv_ErrRange)] W:=by
   have e:Rows.checkOrdersRow.laid.filter (fun x=>x.1== "strconv.ErrRange")=[("strconv.ErrRange",Rows.laid_strconv_ErrRange)]:=by kernel_rfl
   have:=h.filter (fun x=>x.1== "strconv.ErrRange");rw [e] at this;exact this
  obtain ⟨a0,s0,hv, -⟩:=laid_sentinel h0 LQ Uf PM Qv PN PO rfl rfl PP PE PF
  exact ⟨_,LQ,M4 LQ hv,_,hv,_,_,rfl⟩
end Go.Proofs.YthgehekecfpikaaGreatDoor.X
