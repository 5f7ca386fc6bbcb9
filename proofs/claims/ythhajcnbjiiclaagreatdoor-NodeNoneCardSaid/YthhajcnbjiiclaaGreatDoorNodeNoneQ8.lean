/- NodeNone: texts WK3, WK2, WK4, ND6, LW1, LN2, N8, L2, L3, L4, XA24, LN3, G1, joined by a program of ours; what nothing names is left out. -/
import Derived.Test.YthhajcnbjiiclaaGreatDoorNodeNoneQ7
import Derived.Test.YthhajcnbjiiclaaGreatDoorRows
import Derived.LaidSub
import Derived.Lib.LaidTab
import Derived.Stop.LaidErr
set_option linter.unusedVariables false
set_option linter.unusedSimpArgs false
set_option maxHeartbeats 8000000
namespace Go.Proofs.YthhajcnbjiiclaaGreatDoor.X
open Go
theorem eV (b:Nat) (vS:Value) (vM:Value) (vC:Value) (vR:Value) (vK:Value) (J2:AS) (C:Cf) (ep:Int) (pv:Value) (kb:Nat) (tv:Value) (ov:Bool) (mb:Nat) (M:Cu) (hC:DE C) (hJ:Df C.J) (hsj:Bj J2 C.J) (hM:GE M):
    Cn Tryz.prog 83 [.pointer (some ⟨b,0,none⟩),.agg #[.int .i64 ((M.sp:Nat):Int),.int .i64 M.att,.pointer (some ⟨mb,0,none⟩)]] [C8 mb C.J M] [blk b [vS,.int .i64 J2.parts,vM,vC,vR,.int .i64 J2.chunk,.int .i64 J2.window,.int .i64 J2.fuel,vK,.int .i64 C.w,.int .i64 C.t,.int .i64 C.o,.int .i64 ep,pv,.map (some kb),tv,.int .u32 (Cp ov)] 103,Ae (At Ag) vS J2.us,Ae Af vM J2.map,Ae Af vC J2.comb,Ae Af vR J2.red,Ae (Ai .i64) vK J2.marks,gl] (fun v Bs=>∃ zs:List (Bk BB),Bs=[Y BO v zs,C8 mb C.J M]∧(zs.map BZ=EN dg C M)):=by
 intro w0 F0 H
 refine enter Tryz.func83 U U (Nat.le_of_ble_eq_true U) (Aa (Ad (CT U U U U H (fun b1 w H=>(Ac U (Ab (Z ?_)))))))
 replace H:Hd _ _ _ [blk b1 [.int .i64 ((M.sp:Nat):Int),.int .i64 M.att,.pointer (some ⟨mb,0,none⟩)] 151,C8 mb C.J M] [blk b [vS,.int .i64 J2.parts,vM,vC,vR,.int .i64 J2.chunk,.int .i64 J2.window,.int .i64 J2.fuel,vK,.int .i64 C.w,.int .i64 C.t,.int .i64 C.o,.int .i64 ep,pv,.map (some kb),tv,.int .u32 (Cp ov)] 103,Ae (At Ag) vS J2.us,Ae Af vM J2.map,Ae Af vC J2.comb,Ae Af vR J2.red,Ae (Ai .i64) vK J2.marks,gl]:=H
 refine Hj (σ:=Nat×Value) (fun (bb,uv)=>[(0,.pointer (some ⟨b,0,none⟩)),(3,.pointer (some ⟨b1,0,none⟩)),(5,.pointer (some ⟨bb,0,none⟩))]) (fun (bb,uv) w=>(Hd w0 F0 w [blk bb [.int .i64 4,.int .i64 ((M.sp:Nat):Int),.int .i64 M.att,.int .i64 0,.int .i64 0,.int .i64 0,.int .i64 0,.int .i64 0,uv,.slice none 0 0] 49,Y (Ai .i64) uv (CU dg C.J M.sp M.att),blk b1 [.int .i64 ((M.sp:Nat):Int),.int .i64 M.att,.pointer (some ⟨mb,0,none⟩)] 151,C8 mb C.J M] [blk b [vS,.int .i64 J2.parts,vM,vC,vR,.int .i64 J2.chunk,.int .i64 J2.window,.int .i64 J2.fuel,vK,.int .i64 C.w,.int .i64 C.t,.int .i64 C.o,.int .i64 ep,pv,.map (some kb),tv,.int .u32 (Cp ov)] 103,Ae (At Ag) vS J2.us,Ae Af vM J2.map,Ae Af vC J2.comb,Ae Af vR J2.red,Ae (Ai .i64) vK J2.marks,gl])) ?_ ?_
 ·refine Cc (.e 0 (.e 1 (.e 2 (.e 3 (.e 4 (.e 5 (.b 6 8 (.e 7 (.m 8 (.m 9 .z))) (.m 6 (.e 7 (.m 9 .z)))))))))) (fun w=>∃ Ar,Hd w0 F0 w (blk b1 [.int .i64 ((M.sp:Nat):Int),.int .i64 M.att,.pointer (some ⟨mb,0,none⟩)] 151::C8 mb C.J M::Ar) [blk b [vS,.int .i64 J2.parts,vM,vC,vR,.int .i64 J2.chunk,.int .i64 J2.window,.int .i64 J2.fuel,vK,.int .i64 C.w,.int .i64 C.t,.int .i64 C.o,.int .i64 ep,pv,.map (some kb),tv,.int .u32 (Cp ov)] 103,Ae (At Ag) vS J2.us,Ae Af vM J2.map,Ae Af vC J2.comb,Ae Af vR J2.red,Ae (Ai .i64) vK J2.marks,gl]) mo (by kernel_rfl) (fun w H=>⟨_,H⟩) H (fun w H=>(Ao U U U (fun w ⟨Ar,H⟩=>Aj U O9 U) (Ao U U U (fun w ⟨Ar,H⟩=>An U AE U (H.cellI 0 U U)) (Ao U U U (fun w ⟨Ar,H⟩=>Aj U O_ U) (Ao U U U (fun w ⟨Ar,H⟩=>An U AE U (H.cellI 0 U U)) ?_)))))
  refine Ao U U U (fun w ⟨Ar,H⟩=>Aj U Km U) (Ao U U U (fun w ⟨Ar,H⟩=>An U Lw U (H.cellI 0 U U)) ?_)
  refine Gu U U ?_ ?_
  ·replace H:=H.p1
   refine sc (Q_ mb C.J M (by first |assumption|omega)) H l0 U U (Av P0 U U) ?_
   rintro v2 _ w rfl H
   obtain ⟨A3,c4,rfl,hc5,hm6,hp7⟩:=H.fA 0 rfl
   replace H:Hd _ _ _ [Y (Ai .i64) (.slice A3 ((CU dg C.J M.sp M.att).length) c4) (CU dg C.J M.sp M.att),C8 mb C.J M,blk b1 [.int .i64 ((M.sp:Nat):Int),.int .i64 M.att,.pointer (some ⟨mb,0,none⟩)] 151] [blk b [vS,.int .i64 J2.parts,vM,vC,vR,.int .i64 J2.chunk,.int .i64 J2.window,.int .i64 J2.fuel,vK,.int .i64 C.w,.int .i64 C.t,.int .i64 C.o,.int .i64 ep,pv,.map (some kb),tv,.int .u32 (Cp ov)] 103,Ae (At Ag) vS J2.us,Ae Af vM J2.map,Ae Af vC J2.comb,Ae Af vR J2.red,Ae (Ai .i64) vK J2.marks,gl]:=H
   replace H:=H.p1.p2
   refine AG ⟨_,H⟩ (Ao U U U (fun w ⟨Ar,H⟩=>Di (parts:=[(0,.const (.int .i64 4)),(1,.tmp 10),(2,.tmp 12),(8,.tmp 15)]) (vs:=[.int .i64 4,.int .i64 ((M.sp:Nat):Int),.int .i64 M.att,.slice A3 ((CU dg C.J M.sp M.att).length) c4]) (cs:=[.int .i64 4,.int .i64 ((M.sp:Nat):Int),.int .i64 M.att,.int .i64 0,.int .i64 0,.int .i64 0,.int .i64 0,.int .i64 0,.slice A3 ((CU dg C.J M.sp M.att).length) c4,.slice none 0 0]) U HK U U) (AO U (Dz U U U I4 H (fun b8 w H=>?_))))
   replace H:=H.h1 (A:=blk b8 [.int .i64 0,.int .i64 0,.int .i64 0,.int .i64 0,.int .i64 0,.int .i64 0,.int .i64 0,.int .i64 0,.slice none 0 0,.slice none 0 0] 49)|>.p2|>.p2
   refine AG ⟨_,H⟩ (AO U ?_)
   replace H:=H.p2
   refine Bx U U U Fq U U H U (Nat.le_of_ble_eq_true U) (fun u hu=>by simp [Value.cells] at hu;rcases hu with rfl|rfl|rfl|rfl|rfl|rfl|rfl|rfl|rfl|rfl<;>rfl) (fun w H=>?_)
   replace H:=H.h1 (A:=blk b8 [.int .i64 4,.int .i64 ((M.sp:Nat):Int),.int .i64 M.att,.int .i64 0,.int .i64 0,.int .i64 0,.int .i64 0,.int .i64 0,.slice A3 ((CU dg C.J M.sp M.att).length) c4,.slice none 0 0] 49)|>.p2|>.p2
   refine AG ⟨_,H⟩ (BN ?_)
   replace H:=H.p3.p3
   exact Dh (b8,.slice A3 ((CU dg C.J M.sp M.att).length) c4) ⟨rfl,rfl,rfl,trivial⟩ H
  refine Dz U U U I4 H (fun b9 w H=>?_)
  replace H:=H.h1 (A:=blk b9 [.int .i64 0,.int .i64 0,.int .i64 0,.int .i64 0,.int .i64 0,.int .i64 0,.int .i64 0,.int .i64 0,.slice none 0 0,.slice none 0 0] 49)|>.p2|>.p2
  refine AG ⟨_,H⟩ (AO U ?_)
  replace H:=H.p1
  refine sc (Q_ mb C.J M (by first |assumption|omega)) H l0 U U (Av P0 U U) ?_
  rintro v10 _ w rfl H
  obtain ⟨A11,c12,rfl,hc13,hm14,hp15⟩:=H.fA 0 rfl
  replace H:Hd _ _ _ [Y (Ai .i64) (.slice A11 ((CU dg C.J M.sp M.att).length) c12) (CU dg C.J M.sp M.att),C8 mb C.J M,blk b1 [.int .i64 ((M.sp:Nat):Int),.int .i64 M.att,.pointer (some ⟨mb,0,none⟩)] 151,blk b9 [.int .i64 0,.int .i64 0,.int .i64 0,.int .i64 0,.int .i64 0,.int .i64 0,.int .i64 0,.int .i64 0,.slice none 0 0,.slice none 0 0] 49] [blk b [vS,.int .i64 J2.parts,vM,vC,vR,.int .i64 J2.chunk,.int .i64 J2.window,.int .i64 J2.fuel,vK,.int .i64 C.w,.int .i64 C.t,.int .i64 C.o,.int .i64 ep,pv,.map (some kb),tv,.int .u32 (Cp ov)] 103,Ae (At Ag) vS J2.us,Ae Af vM J2.map,Ae Af vC J2.comb,Ae Af vR J2.red,Ae (Ai .i64) vK J2.marks,gl]:=H
  replace H:=H.p1.p2
  refine AG ⟨_,H⟩ (Ao U U U (fun w ⟨Ar,H⟩=>Di (parts:=[(0,.const (.int .i64 4)),(1,.tmp 10),(2,.tmp 12),(8,.tmp 15)]) (vs:=[.int .i64 4,.int .i64 ((M.sp:Nat):Int),.int .i64 M.att,.slice A11 ((CU dg C.J M.sp M.att).length) c12]) (cs:=[.int .i64 4,.int .i64 ((M.sp:Nat):Int),.int .i64 M.att,.int .i64 0,.int .i64 0,.int .i64 0,.int .i64 0,.int .i64 0,.slice A11 ((CU dg C.J M.sp M.att).length) c12,.slice none 0 0]) U HK U U) (AO U ?_))
  replace H:=H.p3
  refine Bx U U U Fq U U H U (Nat.le_of_ble_eq_true U) (fun u hu=>by simp [Value.cells] at hu;rcases hu with rfl|rfl|rfl|rfl|rfl|rfl|rfl|rfl|rfl|rfl<;>rfl) (fun w H=>?_)
  replace H:=H.h1 (A:=blk b9 [.int .i64 4,.int .i64 ((M.sp:Nat):Int),.int .i64 M.att,.int .i64 0,.int .i64 0,.int .i64 0,.int .i64 0,.int .i64 0,.slice A11 ((CU dg C.J M.sp M.att).length) c12,.slice none 0 0] 49)|>.p2|>.p2
  refine AG ⟨_,H⟩ (BN ?_)
  replace H:=H.p3.p3
  exact Dh (b9,.slice A11 ((CU dg C.J M.sp M.att).length) c12) ⟨rfl,rfl,rfl,trivial⟩ H
 rintro ⟨bb,uv⟩ w H
 refine Hj (σ:=Int×Int×Value×List Int) (fun (kd,wy,sv,se)=>[(0,.pointer (some ⟨b,0,none⟩)),(3,.pointer (some ⟨b1,0,none⟩)),(5,.pointer (some ⟨bb,0,none⟩))]) (fun (kd,wy,sv,se) w=>(Hd w0 F0 w [blk bb [.int .i64 kd,.int .i64 ((M.sp:Nat):Int),.int .i64 M.att,.int .i64 0,.int .i64 0,.int .i64 0,.int .i64 0,.int .i64 wy,sv,.slice none 0 0] 49,Y (Ai .i64) sv se,blk b1 [.int .i64 ((M.sp:Nat):Int),.int .i64 M.att,.pointer (some ⟨mb,0,none⟩)] 151,C8 mb C.J M] [blk b [vS,.int .i64 J2.parts,vM,vC,vR,.int .i64 J2.chunk,.int .i64 J2.window,.int .i64 J2.fuel,vK,.int .i64 C.w,.int .i64 C.t,.int .i64 C.o,.int .i64 ep,pv,.map (some kb),tv,.int .u32 (Cp ov)] 103,Ae (At Ag) vS J2.us,Ae Af vM J2.map,Ae Af vC J2.comb,Ae Af vR J2.red,Ae (Ai .i64) vK J2.marks,gl])∧((⟨0,0,⟨kd,M.sp,M.att,0,0,0,0,wy,se,[]⟩⟩:EQ)=doneL dg C.J M)) ?_ ?_
 ·refine Aa ?_
  obtain ⟨A16,c17,rfl,hc18,hm19,hp20⟩:=H.fA 1 rfl
  replace H:Hd _ _ _ [blk bb [.int .i64 4,.int .i64 ((M.sp:Nat):Int),.int .i64 M.att,.int .i64 0,.int .i64 0,.int .i64 0,.int .i64 0,.int .i64 0,.slice A16 ((CU dg C.J M.sp M.att).length) c17,.slice none 0 0] 49,Y (Ai .i64) (.slice A16 ((CU dg C.J M.sp M.att).length) c17) (CU dg C.J M.sp M.att),blk b1 [.int .i64 ((M.sp:Nat):Int),.int .i64 M.att,.pointer (some ⟨mb,0,none⟩)] 151,C8 mb C.J M] [blk b [vS,.int .i64 J2.parts,vM,vC,vR,.int .i64 J2.chunk,.int .i64 J2.window,.int .i64 J2.fuel,vK,.int .i64 C.w,.int .i64 C.t,.int .i64 C.o,.int .i64 ep,pv,.map (some kb),tv,.int .u32 (Cp ov)] 103,Ae (At Ag) vS J2.us,Ae Af vM J2.map,Ae Af vC J2.comb,Ae Af vR J2.red,Ae (Ai .i64) vK J2.marks,gl]:=H
  refine Ad (V U U (Aj U Km U) (V U U (An U Lw U (H.cellI 2 U U)) ?_))
  replace H:=H.p3
  refine sc (Ra mb C.J M) H l0 U U (Av Mu U U) ?_
  rintro _ _ w ⟨rfl,rfl⟩ H
  refine V U U (CG U U U) (Ab (Z ?_))
  refine AC U (fun h21=>?_) (fun h21=>?_)
  ·replace H:=H.p3.p3.p2
   refine Cc (.e 0 (.e 1 (.e 2 (.e 3 (.e 4 (.e 5 (.m 6 (.e 7 (.m 8 .z))))))))) (fun w=>∃ Ar,Hd w0 F0 w (C8 mb C.J M::Y (Ai .i64) (.slice A16 ((CU dg C.J M.sp M.att).length) c17) (CU dg C.J M.sp M.att)::blk b1 [.int .i64 ((M.sp:Nat):Int),.int .i64 M.att,.pointer (some ⟨mb,0,none⟩)] 151::Ar) [blk b [vS,.int .i64 J2.parts,vM,vC,vR,.int .i64 J2.chunk,.int .i64 J2.window,.int .i64 J2.fuel,vK,.int .i64 C.w,.int .i64 C.t,.int .i64 C.o,.int .i64 ep,pv,.map (some kb),tv,.int .u32 (Cp ov)] 103,Ae (At Ag) vS J2.us,Ae Af vM J2.map,Ae Af vC J2.comb,Ae Af vR J2.red,Ae (Ai .i64) vK J2.marks,gl]) mo (by kernel_rfl) (fun w H=>⟨_,H⟩) H (fun w H=>(Ao U U U (fun w ⟨Ar,H⟩=>Aj U O9 U) (Ao U U U (fun w ⟨Ar,H⟩=>An U AE U (H.cellI 2 U U)) (Ao U U U (fun w ⟨Ar,H⟩=>Aj U O_ U) ?_))))
   refine Ao U U U (fun w ⟨Ar,H⟩=>An U AE U (H.cellI 2 U U)) (Ao U U U (fun w ⟨Ar,H⟩=>Aj U Km U) (Ao U U U (fun w ⟨Ar,H⟩=>An U Lw U (H.cellI 2 U U)) (AO U (sc (Ra mb C.J M) H l0 U U (Av Mu U U) ?_))))
   rintro _ _ w ⟨rfl,rfl⟩ H
   refine AG ⟨_,H⟩ (Ao U U U (fun w ⟨Ar,H⟩=>Di (parts:=[(0,.const (.int .i64 5)),(1,.tmp 22),(2,.tmp 24),(7,.tmp 27)]) (vs:=[.int .i64 5,.int .i64 ((M.sp:Nat):Int),.int .i64 M.att,.int .i64 ((AZ dg C.J M.sp).2)]) (cs:=[.int .i64 5,.int .i64 ((M.sp:Nat):Int),.int .i64 M.att,.int .i64 0,.int .i64 0,.int .i64 0,.int .i64 0,.int .i64 ((AZ dg C.J M.sp).2),.slice none 0 0,.slice none 0 0]) U HK U U) (AO U ?_))
   replace H:=H.p3
   refine Bx U U U Fq U U H U (Nat.le_of_ble_eq_true U) (fun u hu=>by simp [Value.cells] at hu;rcases hu with rfl|rfl|rfl|rfl|rfl|rfl|rfl|rfl|rfl|rfl<;>rfl) (fun w H=>?_)
   replace H:=H.h1 (A:=blk bb [.int .i64 5,.int .i64 ((M.sp:Nat):Int),.int .i64 M.att,.int .i64 0,.int .i64 0,.int .i64 0,.int .i64 0,.int .i64 ((AZ dg C.J M.sp).2),.slice none 0 0,.slice none 0 0] 49)|>.p3|>.p3|>.p3
   refine AG ⟨_,H⟩ (BN ?_)
   replace H:=H.newnil (Ai .i64)|>.p3|>.p1|>.p4|>.k4
   exact Dh (5,(AZ dg C.J M.sp).2,.slice none 0 0,[]) ⟨rfl,rfl,rfl,trivial⟩ ⟨H,by unfold doneL;rw [if_pos h21]⟩
  refine AB ?_
  replace H:=H.p3.p3.p3
  exact Dh (4,0,.slice A16 ((CU dg C.J M.sp M.att).length) c17,CU dg C.J M.sp M.att) ⟨rfl,rfl,rfl,trivial⟩ ⟨H,by unfold doneL;rw [if_neg h21]⟩
 rintro ⟨kd,wy,sv,se⟩ w ⟨H,hd⟩
 refine Aa ?_
 obtain ⟨A22,c23,rfl,hc24,hm25,hp26⟩:=H.fA 1 rfl
 replace H:Hd _ _ _ [blk bb [.int .i64 kd,.int .i64 ((M.sp:Nat):Int),.int .i64 M.att,.int .i64 0,.int .i64 0,.int .i64 0,.int .i64 0,.int .i64 wy,.slice A22 se.length c23,.slice none 0 0] 49,Y (Ai .i64) (.slice A22 se.length c23) se,blk b1 [.int .i64 ((M.sp:Nat):Int),.int .i64 M.att,.pointer (some ⟨mb,0,none⟩)] 151,C8 mb C.J M] [blk b [vS,.int .i64 J2.parts,vM,vC,vR,.int .i64 J2.chunk,.int .i64 J2.window,.int .i64 J2.fuel,vK,.int .i64 C.w,.int .i64 C.t,.int .i64 C.o,.int .i64 ep,pv,.map (some kb),tv,.int .u32 (Cp ov)] 103,Ae (At Ag) vS J2.us,Ae Af vM J2.map,Ae Af vC J2.comb,Ae Af vR J2.red,Ae (Ai .i64) vK J2.marks,gl]:=H
 refine Ad (V U U (BD (cs:=[.int .i64 kd,.int .i64 ((M.sp:Nat):Int),.int .i64 M.att,.int .i64 0,.int .i64 0,.int .i64 0,.int .i64 0,.int .i64 wy,.slice A22 se.length c23,.slice none 0 0]) U Fq U U (H.cellsI 0 U U)) (V U U (Di (parts:=[(2,.tmp 29)]) (vs:=[.agg #[.int .i64 kd,.int .i64 ((M.sp:Nat):Int),.int .i64 M.att,.int .i64 0,.int .i64 0,.int .i64 0,.int .i64 0,.int .i64 wy,.slice A22 se.length c23,.slice none 0 0]]) (cs:=[.int .i64 0,.int .i64 0,.int .i64 kd,.int .i64 ((M.sp:Nat):Int),.int .i64 M.att,.int .i64 0,.int .i64 0,.int .i64 0,.int .i64 0,.int .i64 wy,.slice A22 se.length c23,.slice none 0 0]) U J3 U U) (Cb (parts:=[(0,.tmp 30)]) (vs:=[.agg #[.int .i64 0,.int .i64 0,.int .i64 kd,.int .i64 ((M.sp:Nat):Int),.int .i64 M.att,.int .i64 0,.int .i64 0,.int .i64 0,.int .i64 0,.int .i64 wy,.slice A22 se.length c23,.slice none 0 0]]) (cs:=[.int .i64 0,.int .i64 0,.int .i64 kd,.int .i64 ((M.sp:Nat):Int),.int .i64 M.att,.int .i64 0,.int .i64 0,.int .i64 0,.int .i64 0,.int .i64 wy,.slice A22 se.length c23,.slice none 0 0]) U U U EB F_ U (by decide) (by decide) U U H (fun b27 w H=>?_))))
 replace H:=H.h1 (A:=blk b27 [.int .i64 0,.int .i64 0,.int .i64 kd,.int .i64 ((M.sp:Nat):Int),.int .i64 M.att,.int .i64 0,.int .i64 0,.int .i64 0,.int .i64 0,.int .i64 wy,.slice A22 se.length c23,.slice none 0 0] 51)
 refine Ac U (Ab (Z (Aa (Aa ?_))))
 replace H:Hd w0 F0 w [Y B8 (.slice (some ⟨b27,0,none⟩) 1 1) [(⟨⟨0,0,⟨kd,((M.sp:Nat):Int),M.att,0,0,0,0,wy⟩⟩,⟨A22,se.length,c23⟩,⟨none,0,0⟩⟩:Dg BB)],blk bb [.int .i64 kd,.int .i64 ((M.sp:Nat):Int),.int .i64 M.att,.int .i64 0,.int .i64 0,.int .i64 0,.int .i64 0,.int .i64 wy,.slice A22 se.length c23,.slice none 0 0] 49,Y (Ai .i64) (.slice A22 se.length c23) se,blk b1 [.int .i64 ((M.sp:Nat):Int),.int .i64 M.att,.pointer (some ⟨mb,0,none⟩)] 151,C8 mb C.J M] [blk b [vS,.int .i64 J2.parts,vM,vC,vR,.int .i64 J2.chunk,.int .i64 J2.window,.int .i64 J2.fuel,vK,.int .i64 C.w,.int .i64 C.t,.int .i64 C.o,.int .i64 ep,pv,.map (some kb),tv,.int .u32 (Cp ov)] 103,Ae (At Ag) vS J2.us,Ae Af vM J2.map,Ae Af vC J2.comb,Ae Af vR J2.red,Ae (Ai .i64) vK J2.marks,gl]:=H.turn (fun F h=>Il h rfl (by decide) rfl)
 obtain ⟨z0,hz0⟩:∃ z:Bk BB,z=(⟨⟨0,0,⟨kd,M.sp,M.att,0,0,0,0,wy⟩⟩,.slice A22 se.length c23,se,.slice none 0 0,[]⟩:Bk BB):=⟨_,rfl⟩
 replace H:Hd w0 F0 w [Y B8 (.slice (some ⟨b27,0,none⟩) 1 1) ([z0].map A9),blk bb [.int .i64 kd,.int .i64 ((M.sp:Nat):Int),.int .i64 M.att,.int .i64 0,.int .i64 0,.int .i64 0,.int .i64 0,.int .i64 wy,.slice A22 se.length c23,.slice none 0 0] 49,Y (Ai .i64) (.slice A22 se.length c23) se,blk b1 [.int .i64 ((M.sp:Nat):Int),.int .i64 M.att,.pointer (some ⟨mb,0,none⟩)] 151,C8 mb C.J M] [blk b [vS,.int .i64 J2.parts,vM,vC,vR,.int .i64 J2.chunk,.int .i64 J2.window,.int .i64 J2.fuel,vK,.int .i64 C.w,.int .i64 C.t,.int .i64 C.o,.int .i64 ep,pv,.map (some kb),tv,.int .u32 (Cp ov)] 103,Ae (At Ag) vS J2.us,Ae Af vM J2.map,Ae Af vC J2.comb,Ae Af vR J2.red,Ae (Ai .i64) vK J2.marks,gl]:=by rw [hz0];exact H
 refine Ad (V U U (Aj U Km U) (V U U (An U Lw U (H.cellI 3 U U)) ?_))
 replace H:=H.p4
 refine sc (YH mb C.J M (by first |assumption|omega) (by first |assumption|omega)) H l0 U U (Av V5 U U) ?_
 rintro v30 _ w ⟨zs28,rfl,hf29⟩ H
 replace H:=H.h1 (A:=Y Jm v30 zs28)
 obtain ⟨A31,c32,rfl,hc33,hm34,hp35⟩:=H.fA 0 rfl
 replace H:=Hd.twO H
 replace H:=H.h2 (A:=Y EH (.slice A31 zs28.length c32) (zs28.map A9)) (B:=BC zs28)
 have hzl4:=X6 hM hf29
 have hzf:(zs28.map A9).length=zs28.length:=List.length_map ..
 refine V U U (Bn U d6 U) (Ac U (Ab (Z (AX ?_))))
 replace H:=H.h4 (D:=Y B8 (.slice (some ⟨b27,0,none⟩) 1 1) (([z0]++(zs28.take 0).map (lf C)).map A9))|>.p5|>.p2|>.p4|>.p3|>.k5
 refine B1 (σ:=Nat×Value) (fun (k,q)=>[(0,.pointer (some ⟨b,0,none⟩)),(6,q),(34,.slice A31 zs28.length c32),(35,.int .i64 ((zs28.length:Nat):Int)),(36,.int .i64 ((k:Nat):Int))]) (fun (k,q) w=>(Hd w0 F0 w [Y EH (.slice A31 zs28.length c32) (zs28.map A9),Y B8 q (([z0]++(zs28.take k).map (lf C)).map A9),BC zs28,Y (Ai .i64) (.slice A22 se.length c23) se,C8 mb C.J M] [blk b [vS,.int .i64 J2.parts,vM,vC,vR,.int .i64 J2.chunk,.int .i64 J2.window,.int .i64 J2.fuel,vK,.int .i64 C.w,.int .i64 C.t,.int .i64 C.o,.int .i64 ep,pv,.map (some kb),tv,.int .u32 (Cp ov)] 103,Ae (At Ag) vS J2.us,Ae Af vM J2.map,Ae Af vC J2.comb,Ae Af vR J2.red,Ae (Ai .i64) vK J2.marks,gl])∧(k≤(zs28.map A9).length)) (fun (k,q)=>(zs28.map A9).length - k) (0,.slice (some ⟨b27,0,none⟩) 1 1) ⟨rfl,rfl,rfl,rfl,rfl,trivial⟩ ⟨H,Nat.zero_le _⟩ ?_
 rintro ⟨k,q⟩ w ⟨H,hk⟩
 have hlt9:(([z0]++(zs28.take k).map (lf C)).map A9).length≤k+1:=by simp only [List.length_map,List.length_append,List.length_cons,List.length_nil,List.length_take];omega
 refine Aa (Ad (V U U (Br U U U) (Ab (Z (Aa ?_)))))
 refine AC U (fun h36=>?_) (fun h36=>?_)
 ·refine AB (Z (Aa (AX (Aa (Ad ?_)))))
  obtain ⟨x37,hx38⟩:∃ z9,(zs28.map A9)[k]?=some z9:=⟨_,List.getElem?_eq_getElem (show k<(zs28.map A9).length by omega)⟩
  have th39:=H.thA 0 rfl hx38
  refine V U U (Bi (p:=A_ A31+k*10) U Nt U U (by omega) (by omega) th39 U) (V U U (BD (cs:=[.int .i64 x37.h.kind,.int .i64 x37.h.sp,.int .i64 x37.h.att,.int .i64 x37.h.part,.int .i64 x37.h.seq,.int .i64 x37.h.next,.int .i64 x37.h.ep,.int .i64 x37.h.why,.slice x37.hs.A x37.hs.n x37.hs.c,.slice x37.hp.A x37.hp.n x37.hp.c]) U Fq U U (H.elsA 0 U hx38 U)) (Dz U U U I4 H (fun b40 w H=>(Bx U U U Fq U U H U (Nat.le_of_ble_eq_true U) (fun u hu=>by simp [Value.cells] at hu;rcases hu with rfl|rfl|rfl|rfl|rfl|rfl|rfl|rfl|rfl|rfl<;>rfl) (fun w H=>?_)))))
  replace H:=H.h3 (A:=blk b40 [.int .i64 x37.h.kind,.int .i64 x37.h.sp,.int .i64 x37.h.att,.int .i64 x37.h.part,.int .i64 x37.h.seq,.int .i64 x37.h.next,.int .i64 x37.h.ep,.int .i64 x37.h.why,.slice x37.hs.A x37.hs.n x37.hs.c,.slice x37.hp.A x37.hp.n x37.hp.c] 49) (C:=Y B8 q (([z0]++(zs28.take k).map (lf C)).map A9))
  refine Ab (Z ?_)
  obtain ⟨m9,hm9,hxe9⟩:=X5 hx38
  have hp64:AL x37.h.part:=by rw [hxe9];exact Zs hM hf29 hm9
  replace H:=H.p5.p5.p5.p4.p4
  refine Cc (.e 0 (.e 1 (.e 2 (.e 3 (.e 4 (.e 5 (.e 6 (.e 8 (.m 7 (.e 9 (.m 10 (.m 11 (.e 12 .z))))))))))))) (fun w=>∃ Ar,Hd w0 F0 w (blk b40 [.int .i64 x37.h.kind,.int .i64 x37.h.sp,.int .i64 x37.h.att,.int .i64 x37.h.part,.int .i64 x37.h.seq,.int .i64 x37.h.next,.int .i64 x37.h.ep,.int .i64 x37.h.why,.slice x37.hs.A x37.hs.n x37.hs.c,.slice x37.hp.A x37.hp.n x37.hp.c] 49::Y EH (.slice A31 zs28.length c32) (zs28.map A9)::BC zs28::Y (Ai .i64) (.slice A22 se.length c23) se::C8 mb C.J M::Ar) [blk b [vS,.int .i64 J2.parts,vM,vC,vR,.int .i64 J2.chunk,.int .i64 J2.window,.int .i64 J2.fuel,vK,.int .i64 C.w,.int .i64 C.t,.int .i64 C.o,.int .i64 ep,pv,.map (some kb),tv,.int .u32 (Cp ov)] 103,Ae (At Ag) vS J2.us,Ae Af vM J2.map,Ae Af vC J2.comb,Ae Af vR J2.red,Ae (Ai .i64) vK J2.marks,gl]) mo (by kernel_rfl) (fun w H=>⟨_,H⟩) H (fun w H=>?_)
  refine Au U (Au U (Ao U U U (fun w ⟨Ar,H⟩=>AH U U) (Ao U U U (fun w ⟨Ar,H⟩=>Aj U O7 U) (Ao U U U (fun w ⟨Ar,H⟩=>BD (cs:=[vS,.int .i64 J2.parts,vM,vC,vR,.int .i64 J2.chunk,.int .i64 J2.window,.int .i64 J2.fuel,vK,.int .i64 C.w,.int .i64 C.t,.int .i64 C.o]) U EY U U (H.cellsRI 0 U U)) (Ao U U U (fun w ⟨Ar,H⟩=>Aj U Mb U) (Ao U U U (fun w ⟨Ar,H⟩=>An U AE U (H.cellI 0 U U)) (Ao U U U (fun w ⟨Ar,H⟩=>BD (cs:=[.int .i64 x37.h.kind,.int .i64 x37.h.sp,.int .i64 x37.h.att,.int .i64 x37.h.part,.int .i64 x37.h.seq,.int .i64 x37.h.next,.int .i64 x37.h.ep,.int .i64 x37.h.why,.slice x37.hs.A x37.hs.n x37.hs.c,.slice x37.hp.A x37.hp.n x37.hp.c]) U Fq U U (H.cellsI 0 U U)) (AO U (sc (Mp vS vM vC vR vK (Bw J2 C) x37.h.part (by first |assumption|omega)) H (lR 1 U (lR 2 U (lR 3 U (lR 4 U (lR 5 U l0))))) U U (Av Mr U U) ?_)))))))))
  rintro _ _ w ⟨rfl,rfl⟩ H
  refine AG ⟨_,H⟩ (Ao U U U (fun w ⟨Ar,H⟩=>Di (parts:=[(1,.tmp 47),(2,.tmp 48)]) (vs:=[.int .i64 (DR (Bw J2 C) x37.h.part),.agg #[.int .i64 x37.h.kind,.int .i64 x37.h.sp,.int .i64 x37.h.att,.int .i64 x37.h.part,.int .i64 x37.h.seq,.int .i64 x37.h.next,.int .i64 x37.h.ep,.int .i64 x37.h.why,.slice x37.hs.A x37.hs.n x37.hs.c,.slice x37.hp.A x37.hp.n x37.hp.c]]) (cs:=[.int .i64 0,.int .i64 (DR (Bw J2 C) x37.h.part),.int .i64 x37.h.kind,.int .i64 x37.h.sp,.int .i64 x37.h.att,.int .i64 x37.h.part,.int .i64 x37.h.seq,.int .i64 x37.h.next,.int .i64 x37.h.ep,.int .i64 x37.h.why,.slice x37.hs.A x37.hs.n x37.hs.c,.slice x37.hp.A x37.hp.n x37.hp.c]) U J3 U U) (AO U (Cb (parts:=[(0,.tmp 49)]) (vs:=[.agg #[.int .i64 0,.int .i64 (DR (Bw J2 C) x37.h.part),.int .i64 x37.h.kind,.int .i64 x37.h.sp,.int .i64 x37.h.att,.int .i64 x37.h.part,.int .i64 x37.h.seq,.int .i64 x37.h.next,.int .i64 x37.h.ep,.int .i64 x37.h.why,.slice x37.hs.A x37.hs.n x37.hs.c,.slice x37.hp.A x37.hp.n x37.hp.c]]) (cs:=[.int .i64 0,.int .i64 (DR (Bw J2 C) x37.h.part),.int .i64 x37.h.kind,.int .i64 x37.h.sp,.int .i64 x37.h.att,.int .i64 x37.h.part,.int .i64 x37.h.seq,.int .i64 x37.h.next,.int .i64 x37.h.ep,.int .i64 x37.h.why,.slice x37.hs.A x37.hs.n x37.hs.c,.slice x37.hp.A x37.hp.n x37.hp.c]) U U U EB F_ U (by decide) (by decide) U U H (fun b41 w H=>?_))))
  replace H:=H.h1 (A:=blk b41 [.int .i64 0,.int .i64 (DR (Bw J2 C) x37.h.part),.int .i64 x37.h.kind,.int .i64 x37.h.sp,.int .i64 x37.h.att,.int .i64 x37.h.part,.int .i64 x37.h.seq,.int .i64 x37.h.next,.int .i64 x37.h.ep,.int .i64 x37.h.why,.slice x37.hs.A x37.hs.n x37.hs.c,.slice x37.hp.A x37.hp.n x37.hp.c] 51)|>.p5|>.p5|>.p5|>.p5|>.p5
  refine AG ⟨_,H⟩ (AO U ?_)
  replace H:=H.p6
  refine CA (xs:=([z0]++(zs28.take k).map (lf C)).map A9) (ys:=[(⟨⟨0,DR (Bw J2 C) x37.h.part,⟨x37.h.kind,x37.h.sp,x37.h.att,x37.h.part,x37.h.seq,x37.h.next,x37.h.ep,x37.h.why⟩⟩,⟨x37.hs.A,x37.hs.n,x37.hs.c⟩,⟨x37.hp.A,x37.hp.n,x37.hp.c⟩⟩:Dg BB)]) U U U EB F_ U (by decide) U U H (by first |omega|(simp only [List.length_append,List.length_cons,List.length_nil,List.length_map];omega)) (fun F hA hR=>Cy (hA _ (List.mem_of_getElem? (i:=5) U)) U (by decide) (Bc.flat_eq.2 U)) (fun v42 w H=>?_)
  replace H:=H.h1 (A:=Y B8 v42 ((([z0]++(zs28.take k).map (lf C)).map A9)++[(⟨⟨0,DR (Bw J2 C) x37.h.part,⟨x37.h.kind,x37.h.sp,x37.h.att,x37.h.part,x37.h.seq,x37.h.next,x37.h.ep,x37.h.why⟩⟩,⟨x37.hs.A,x37.hs.n,x37.hs.c⟩,⟨x37.hp.A,x37.hp.n,x37.hp.c⟩⟩:Dg BB)]))|>.p5|>.p5|>.p5|>.p5|>.p5
  refine AG ⟨_,H⟩ (Au U (BN (Bb (Z (Ad (V U U (Be (z:=((k+1:Nat):Int)) U U U (by rw [AI (by omega) (by omega)];omega)) (Ac U (Ab ?_))))))))
  replace H:=H.p4.p4.p4.p5.p5.k5
  replace H:Hd w0 F0 w [Y EH (.slice A31 zs28.length c32) (zs28.map A9),Y B8 v42 (([z0]++(zs28.take (k+1)).map (lf C)).map A9),BC zs28,Y (Ai .i64) (.slice A22 se.length c23) se,C8 mb C.J M] [blk b [vS,.int .i64 J2.parts,vM,vC,vR,.int .i64 J2.chunk,.int .i64 J2.window,.int .i64 J2.fuel,vK,.int .i64 C.w,.int .i64 C.t,.int .i64 C.o,.int .i64 ep,pv,.map (some kb),tv,.int .u32 (Cp ov)] 103,Ae (At Ag) vS J2.us,Ae Af vM J2.map,Ae Af vC J2.comb,Ae Af vR J2.red,Ae (Ai .i64) vK J2.marks,gl]:=by rw [(HY hsj).home,hxe9] at H;rw [KH hm9,←List.append_assoc,List.map_append];exact H
  exact Bo (s:=(k,undef)) (k+1,v42) ⟨rfl,rfl,rfl,rfl,rfl,trivial⟩ ⟨H,by (try dsimp only);omega⟩ (by (try dsimp only);omega)
 refine BW (A8 (A8 (BX (Z (Aa (Ad (Ah 2 U (Ab (Z (Am (Aq U U ?_)))))))))))
 replace H:=H.h2 (B:=Y B8 q (([z0]++(zs28.take k).map (lf C)).map A9))
 replace H:Hd w0 F0 w [Y EH (.slice A31 zs28.length c32) (zs28.map A9),Y B8 q ((z0::zs28.map (lf C)).map A9),BC zs28,Y (Ai .i64) (.slice A22 se.length c23) se,C8 mb C.J M] [blk b [vS,.int .i64 J2.parts,vM,vC,vR,.int .i64 J2.chunk,.int .i64 J2.window,.int .i64 J2.fuel,vK,.int .i64 C.w,.int .i64 C.t,.int .i64 C.o,.int .i64 ep,pv,.map (some kb),tv,.int .u32 (Cp ov)] 103,Ae (At Ag) vS J2.us,Ae Af vM J2.map,Ae Af vC J2.comb,Ae Af vR J2.red,Ae (Ai .i64) vK J2.marks,gl]:=by rw [List.take_of_length_le (l:=zs28) (by omega)] at H;exact H
 replace H:=H.p4.p2.p3.p4.k4
 rw [←dM C] at H
 subst hz0
 replace H:=H.newnil Ag|>.p1
 replace H:=Hd.twC (r:=(⟨⟨0,0,⟨kd,M.sp,M.att,0,0,0,0,wy⟩⟩,.slice A22 se.length c23,se,.slice none 0 0,[]⟩:Bk BB)) H
 replace H:Hd _ _ _ [BC ((⟨⟨0,0,⟨kd,M.sp,M.att,0,0,0,0,wy⟩⟩,.slice A22 se.length c23,se,.slice none 0 0,[]⟩:Bk BB)::zs28.map (lf C)),Y B8 q (((⟨⟨0,0,⟨kd,M.sp,M.att,0,0,0,0,wy⟩⟩,.slice A22 se.length c23,se,.slice none 0 0,[]⟩:Bk BB)::zs28.map (lf C)).map A9),C8 mb C.J M] [blk b [vS,.int .i64 J2.parts,vM,vC,vR,.int .i64 J2.chunk,.int .i64 J2.window,.int .i64 J2.fuel,vK,.int .i64 C.w,.int .i64 C.t,.int .i64 C.o,.int .i64 ep,pv,.map (some kb),tv,.int .u32 (Cp ov)] 103,Ae (At Ag) vS J2.us,Ae Af vM J2.map,Ae Af vC J2.comb,Ae Af vR J2.red,Ae (Ai .i64) vK J2.marks,gl]:=H
 replace H:=H.p1
 replace H:=Hd.twI H
 replace H:=H.h1 (A:=Y BO q ((⟨⟨0,0,⟨kd,M.sp,M.att,0,0,0,0,wy⟩⟩,.slice A22 se.length c23,se,.slice none 0 0,[]⟩:Bk BB)::zs28.map (lf C)))
 exact Al ⟨((⟨⟨0,0,⟨kd,M.sp,M.att,0,0,0,0,wy⟩⟩,.slice A22 se.length c23,se,.slice none 0 0,[]⟩:Bk BB)::zs28.map (lf C)),rfl,dH hd hf29⟩ H
theorem eW (b:Nat) (C:Cf) (W:Fs) (hC:DE C) (hJ:Df C.J) (hWt:∀ M∈W.ts,GE M) (hWr:∀ R∈W.rs,CX 99999 R) (hl:W.ts.length≤1000∧W.rs.length≤1000):
    Cn Tryz.prog 50 [.pointer (some ⟨b,0,none⟩)] [Ch b C W] [gl] (fun v Bs=>∃ zs:List (Bk BB),Bs=[Y BO v zs,Ch b C W]∧(zs.map BZ=Ec dg C W)):=by
 intro w0 F0 H
 refine enter Tryz.func50 U U (Nat.le_of_ble_eq_true U) (Aa (Ad (Ac U (Ab (Z (Aa (Aa (Ad (Ac U (V U U (C1 U NE U U) (Ah 2 U (sc (eS b C W) H l0 U U (Av Xs U U) ?_))))))))))))
 rintro _ _ w ⟨rfl,rfl⟩ H
 refine Ac U (Ab (Z ?_))
 replace H:Hd _ _ _ [Ch b C W] [gl]:=H
 refine Dx (b:=W.over) U (fun h1=>?_) (fun h1=>?_)
 ·refine Aa (Ad (Ac U (Ab (Z (Am (Az (Aq U U ?_)))))))
  replace H:=H.newnil BO
  have e:([]:List (Bk BB)).map BZ=Ec dg C W:=by unfold Ec;rw [if_pos (by simpa using h1)];rfl
  exact Al ⟨[],rfl,e⟩ H
 refine AB (Z (Aa (Ad (Ac U (Ab (Z (Aa (Aa ?_))))))))
 have hov:W.over=false:=by simpa using h1
 obtain ⟨vS2,vM3,vC4,vR5,vK6,J7,pv8,kb9,tv10,rl11,tl12,⟨hsj13,hrl14,htl15⟩,H⟩:=SO b C W H
 replace H:Hd _ _ _ [blk b [vS2,.int .i64 J7.parts,vM3,vC4,vR5,.int .i64 J7.chunk,.int .i64 J7.window,.int .i64 J7.fuel,vK6,.int .i64 C.w,.int .i64 C.t,.int .i64 C.o,.int .i64 W.ep,pv8,.map (some kb9),tv10,.int .u32 (Cp W.over)] 103,Y (At Ag) vS2 J7.us,Y Af vM3 J7.map,Y Af vC4 J7.comb,Y Af vR5 J7.red,Y (Ai .i64) vK6 J7.marks,Y (Ai .i64) pv8 (rl11.map Bt),B5 Co kb9 (rl11.map Cz),CS C rl11,Y Dl tv10 (tl12.map BG),Dt C.J tl12] [gl]:=H
 obtain ⟨A16,c17,rfl,hc18,hm19,hp20⟩:=H.fA 6 rfl
 obtain ⟨A21,c22,rfl,hc23,hm24,hp25⟩:=H.fA 9 rfl
 replace H:=H.newnil B8
 replace H:=Hd.tw0 (α:=BB) H
 replace H:=H.h1 (A:=BC ([]:List (Bk BB)))|>.h2 (B:=Y B8 (.slice none 0 0) (([]:List (Bk BB)).map A9))
 have hts:W.ts.length=tl12.length:=by rw [←htl15,List.length_map]
 have hrs:W.rs.length=rl11.length:=by rw [←hrl14,List.length_map]
 have htf:(tl12.map BG).length=tl12.length:=List.length_map ..
 have hrf:(rl11.map Bt).length=rl11.length:=List.length_map ..
 refine Ad (Ac U (V U U (AH U U) (V U U (Aj U UR U) (V U U (An U dW U (H.cellI 2 U U)) (V U U (Bn U eB U) (Ac U (Ab (Z (AX ?_)))))))))
 replace H:=H.p1.pick 12 rfl|>.pick 12 rfl|>.pick 12 rfl|>.pick 12 rfl|>.pick 12 rfl|>.pick 12 rfl|>.pick 12 rfl|>.pick 12 rfl|>.pick 12 rfl|>.pick 12 rfl|>.pick 12 rfl
 refine B1 (σ:=Nat×Value×List (Bk BB)) (fun (k,q,ls)=>[(0,.pointer (some ⟨b,0,none⟩)),(2,.slice none 0 0),(3,q),(17,.slice A21 ((tl12.map BG).length) c22),(18,.int .i64 (((tl12.map BG).length:Nat):Int)),(19,.int .i64 ((k:Nat):Int))]) (fun (k,q,ls) w=>(Hd w0 F0 w [blk b [vS2,.int .i64 J7.parts,vM3,vC4,vR5,.int .i64 J7.chunk,.int .i64 J7.window,.int .i64 J7.fuel,vK6,.int .i64 C.w,.int .i64 C.t,.int .i64 C.o,.int .i64 W.ep,.slice A16 ((rl11.map Bt).length) c17,.map (some kb9),.slice A21 ((tl12.map BG).length) c22,.int .u32 (Cp W.over)] 103,Y (At Ag) vS2 J7.us,Y Af vM3 J7.map,Y Af vC4 J7.comb,Y Af vR5 J7.red,Y (Ai .i64) vK6 J7.marks,Y (Ai .i64) (.slice A16 ((rl11.map Bt).length) c17) (rl11.map Bt),B5 Co kb9 (rl11.map Cz),CS C rl11,Y Dl (.slice A21 ((tl12.map BG).length) c22) (tl12.map BG),Dt C.J tl12,Y B8 q (ls.map A9),BC ls] [gl])∧(k≤(tl12.map BG).length)∧(ls.map BZ=(W.ts.take k).flatMap (EN dg C))∧(ls.length≤4001*k)) (fun (k,q,ls)=>(tl12.map BG).length - k) (0,.slice none 0 0,[]) ⟨rfl,rfl,rfl,rfl,rfl,rfl,trivial⟩ ⟨H,Nat.zero_le _,rfl,Nat.zero_le _⟩ ?_
 rintro ⟨k,q,ls⟩ w ⟨H,hk,hz,hll⟩
 have hlf:(ls.map A9).length=ls.length:=List.length_map ..
 refine Aa (Ad (V U U (Br U U U) (Ab (Z (Aa ?_)))))
 refine AC U (fun h26=>?_) (fun h26=>?_)
 ·refine AB (Z (Aa (AX (Aa (Ad ?_)))))
  obtain ⟨x27,hx28⟩:∃ z9,(tl12.map BG)[k]?=some z9:=⟨_,List.getElem?_eq_getElem (show k<(tl12.map BG).length by omega)⟩
  have th29:=H.thA 9 rfl hx28
  refine V U U (Bi (p:=A_ A21+k*3) U cG U U (by omega) (by omega) th29 U) (V U U (BD (cs:=[.int .i64 x27.sp,.int .i64 x27.att,.pointer (some ⟨x27.b,0,none⟩)]) U ND U U (H.elsA 9 U hx28 U)) (Dz U U U fK H (fun b30 w H=>(Bx U U U ND U U H U (Nat.le_of_ble_eq_true U) (fun u hu=>by simp [Value.cells] at hu;rcases hu with rfl|rfl|rfl<;>rfl) (fun w H=>?_)))))
  replace H:Hd _ _ _ [blk b30 [.int .i64 x27.sp,.int .i64 x27.att,.pointer (some ⟨x27.b,0,none⟩)] 151,blk b [vS2,.int .i64 J7.parts,vM3,vC4,vR5,.int .i64 J7.chunk,.int .i64 J7.window,.int .i64 J7.fuel,vK6,.int .i64 C.w,.int .i64 C.t,.int .i64 C.o,.int .i64 W.ep,.slice A16 ((rl11.map Bt).length) c17,.map (some kb9),.slice A21 ((tl12.map BG).length) c22,.int .u32 (Cp W.over)] 103,Y (At Ag) vS2 J7.us,Y Af vM3 J7.map,Y Af vC4 J7.comb,Y Af vR5 J7.red,Y (Ai .i64) vK6 J7.marks,Y (Ai .i64) (.slice A16 ((rl11.map Bt).length) c17) (rl11.map Bt),B5 Co kb9 (rl11.map Cz),CS C rl11,Y Dl (.slice A21 ((tl12.map BG).length) c22) (tl12.map BG),Dt C.J tl12,Y B8 q (ls.map A9),BC ls] [gl]:=H
  refine Ab (Z ?_)
  obtain ⟨e9,he9,hw9,hxe9⟩:=dF htl15 hx28
  subst hxe9
  have hM9:GE e9.2:=hWt _ (List.mem_of_getElem? hw9)
  replace H:=H.h1 (A:=blk b30 [.int .i64 ((BG e9).sp),.int .i64 ((BG e9).att),.pointer (some ⟨(BG e9).b,0,none⟩)] 151)
  refine Ad (Ah 2 U (V U U (BD (cs:=[.int .i64 ((BG e9).sp),.int .i64 ((BG e9).att),.pointer (some ⟨(BG e9).b,0,none⟩)]) U ND U U (H.cellsI 0 U U)) ?_))
  replace H:=H.pick 11 rfl
  replace H:=Hd.bigO (f:=(fun e:Nat×Cu=>C8 e.1 C.J e.2)) k he9 H
  replace H:=H.h2 (A:=C8 e9.1 C.J e9.2) (B:=BK (fun e:Nat×Cu=>C8 e.1 C.J e.2) (tl12.eraseIdx k))
  refine sc (eV b vS2 vM3 vC4 vR5 vK6 J7 C W.ep (.slice A16 ((rl11.map Bt).length) c17) kb9 (.slice A21 ((tl12.map BG).length) c22) W.over e9.1 e9.2 (by first |assumption|omega|exact CX.pairs (by assumption)) (by first |assumption|omega|exact CX.pairs (by assumption)) (by first |assumption|omega|exact CX.pairs (by assumption)) (by first |assumption|omega|exact CX.pairs (by assumption))) H (lA 2 U (fun _ h=>h) (lA 3 U B3 (lA 4 U B3 (lA 5 U B3 (lA 6 U B3 (lA 7 U B3 (lR 0 U l0))))))) U U (Av Xt U U) ?_
  rintro v33 _ w ⟨zs31,rfl,hf32⟩ H
  replace H:=H.h1 (A:=Y BO v33 zs31)|>.p2|>.p2
  replace H:=Hd.bigI (f:=(fun e:Nat×Cu=>C8 e.1 C.J e.2)) (x:=e9) k (KF he9) H
  rw [Lj he9] at H
  replace H:Hd _ _ _ [Dt C.J tl12,Y BO v33 zs31,blk b30 [.int .i64 ((BG e9).sp),.int .i64 ((BG e9).att),.pointer (some ⟨(BG e9).b,0,none⟩)] 151,blk b [vS2,.int .i64 J7.parts,vM3,vC4,vR5,.int .i64 J7.chunk,.int .i64 J7.window,.int .i64 J7.fuel,vK6,.int .i64 C.w,.int .i64 C.t,.int .i64 C.o,.int .i64 W.ep,.slice A16 ((rl11.map Bt).length) c17,.map (some kb9),.slice A21 ((tl12.map BG).length) c22,.int .u32 (Cp W.over)] 103,Y (At Ag) vS2 J7.us,Y Af vM3 J7.map,Y Af vC4 J7.comb,Y Af vR5 J7.red,Y (Ai .i64) vK6 J7.marks,Y (Ai .i64) (.slice A16 ((rl11.map Bt).length) c17) (rl11.map Bt),B5 Co kb9 (rl11.map Cz),CS C rl11,Y Dl (.slice A21 ((tl12.map BG).length) c22) (tl12.map BG),Y B8 q (ls.map A9),BC ls] [gl]:=H
  have hz3l:zs31.length≤4001:=by have h:=congrArg List.length hf32;rw [List.length_map] at h;have h9:=Sn (D:=dg) (C:=C) hM9;omega
  obtain ⟨A34,c35,rfl,hc36,hm37,hp38⟩:=H.fA 1 rfl
  replace H:=H.p1
  replace H:=Hd.twO H
  replace H:=H.h2 (A:=Y B8 (.slice A34 zs31.length c35) (zs31.map A9)) (B:=BC zs31)|>.pick 14 rfl
  have hf3l:(zs31.map A9).length=zs31.length:=List.length_map ..
  refine CA (xs:=ls.map A9) (ys:=zs31.map A9) U U U EB F_ U (by decide) U U H (by omega) (fun F hA hR=>B3 F (hA _ (List.mem_of_getElem? (i:=0) U))) (fun v39 w H=>?_)
  rw [←List.map_append] at H
  replace H:Hd _ _ _ [Y B8 v39 ((ls++zs31).map A9),Y B8 (.slice A34 zs31.length c35) (zs31.map A9),BC zs31,Dt C.J tl12,blk b30 [.int .i64 ((BG e9).sp),.int .i64 ((BG e9).att),.pointer (some ⟨(BG e9).b,0,none⟩)] 151,blk b [vS2,.int .i64 J7.parts,vM3,vC4,vR5,.int .i64 J7.chunk,.int .i64 J7.window,.int .i64 J7.fuel,vK6,.int .i64 C.w,.int .i64 C.t,.int .i64 C.o,.int .i64 W.ep,.slice A16 ((rl11.map Bt).length) c17,.map (some kb9),.slice A21 ((tl12.map BG).length) c22,.int .u32 (Cp W.over)] 103,Y (At Ag) vS2 J7.us,Y Af vM3 J7.map,Y Af vC4 J7.comb,Y Af vR5 J7.red,Y (Ai .i64) vK6 J7.marks,Y (Ai .i64) (.slice A16 ((rl11.map Bt).length) c17) (rl11.map Bt),B5 Co kb9 (rl11.map Cz),CS C rl11,Y Dl (.slice A21 ((tl12.map BG).length) c22) (tl12.map BG),BC ls] [gl]:=H
  replace H:=H.p2.pick 15 rfl
  replace H:=NA H
  replace H:=H.h1 (A:=BC (ls++zs31))|>.pick 14 rfl|>.pick 14 rfl|>.pick 14 rfl|>.pick 14 rfl|>.pick 14 rfl|>.pick 14 rfl|>.pick 14 rfl|>.pick 14 rfl|>.pick 14 rfl|>.pick 14 rfl|>.pick 14 rfl|>.pick 14 rfl|>.pick 13 rfl|>.pick 13 rfl|>.keep 14
  refine Ac U (Ab (Bb (Z (Ad (V U U (Be (z:=((k+1:Nat):Int)) U U U (by rw [AI (by omega) (by omega)];omega)) (Ac U (Ab ?_)))))))
  replace H:=H.p1.p2.pick 13 rfl|>.pick 13 rfl|>.pick 13 rfl|>.pick 13 rfl|>.pick 13 rfl|>.pick 13 rfl|>.pick 13 rfl|>.pick 13 rfl|>.pick 13 rfl|>.pick 13 rfl|>.keep 13
  exact Bo (s:=(k,undef,ls)) (k+1,v39,ls++zs31) ⟨rfl,rfl,rfl,rfl,rfl,rfl,trivial⟩ ⟨H,by (try dsimp only);omega,by rw [List.map_append,hz,hf32];exact (UO hw9).symm,by (try dsimp only);rw [List.length_append];omega⟩ (by (try dsimp only);omega)
 refine BW (A8 (A8 (BX (Z (Aa (Aa (Ad (Ac U (V U U (AH U U) (V U U (Aj U L4 U) (V U U (An U DY U (H.cellI 0 U U)) (V U U (Bn U EC U) (Ac U (Ab (Z (AX ?_))))))))))))))))
 have hzA:ls.map BZ=W.ts.flatMap (EN dg C)++(W.rs.take 0).map (Ge dg C.J):=by rw [hz,List.take_of_length_le (by omega),List.take_zero,List.map_nil,List.append_nil]
 replace H:Hd _ _ _ [blk b [vS2,.int .i64 J7.parts,vM3,vC4,vR5,.int .i64 J7.chunk,.int .i64 J7.window,.int .i64 J7.fuel,vK6,.int .i64 C.w,.int .i64 C.t,.int .i64 C.o,.int .i64 W.ep,.slice A16 ((rl11.map Bt).length) c17,.map (some kb9),.slice A21 ((tl12.map BG).length) c22,.int .u32 (Cp W.over)] 103,Y (At Ag) vS2 J7.us,Y Af vM3 J7.map,Y Af vC4 J7.comb,Y Af vR5 J7.red,Y (Ai .i64) vK6 J7.marks,Y (Ai .i64) (.slice A16 ((rl11.map Bt).length) c17) (rl11.map Bt),B5 Co kb9 (rl11.map Cz),CS C rl11,Y Dl (.slice A21 ((tl12.map BG).length) c22) (tl12.map BG),Dt C.J tl12,Y B8 q (ls.map A9),BC ls] [gl]:=H
 refine B1 (σ:=Nat×Value×List (Bk BB)) (fun (j,q2,l2)=>[(0,.pointer (some ⟨b,0,none⟩)),(2,.slice none 0 0),(3,q2),(32,.slice A16 ((rl11.map Bt).length) c17),(33,.int .i64 (((rl11.map Bt).length:Nat):Int)),(34,.int .i64 ((j:Nat):Int))]) (fun (j,q2,l2) w=>(Hd w0 F0 w [blk b [vS2,.int .i64 J7.parts,vM3,vC4,vR5,.int .i64 J7.chunk,.int .i64 J7.window,.int .i64 J7.fuel,vK6,.int .i64 C.w,.int .i64 C.t,.int .i64 C.o,.int .i64 W.ep,.slice A16 ((rl11.map Bt).length) c17,.map (some kb9),.slice A21 ((tl12.map BG).length) c22,.int .u32 (Cp W.over)] 103,Y (At Ag) vS2 J7.us,Y Af vM3 J7.map,Y Af vC4 J7.comb,Y Af vR5 J7.red,Y (Ai .i64) vK6 J7.marks,Y (Ai .i64) (.slice A16 ((rl11.map Bt).length) c17) (rl11.map Bt),B5 Co kb9 (rl11.map Cz),CS C rl11,Y Dl (.slice A21 ((tl12.map BG).length) c22) (tl12.map BG),Dt C.J tl12,Y B8 q2 (l2.map A9),BC l2] [gl])∧(j≤(rl11.map Bt).length)∧(l2.map BZ=W.ts.flatMap (EN dg C)++(W.rs.take j).map (Ge dg C.J))∧(l2.length≤4001000+j)) (fun (j,q2,l2)=>(rl11.map Bt).length - j) (0,q,ls) ⟨rfl,rfl,rfl,rfl,rfl,rfl,trivial⟩ ⟨H,Nat.zero_le _,hzA,by (try dsimp only);omega⟩ ?_
 rintro ⟨j,q2,l2⟩ w ⟨H,hj,hz2,hl2⟩
 have hlf2:(l2.map A9).length=l2.length:=List.length_map ..
 refine Aa (Ad (V U U (Br U U U) (Ab (Z (Aa ?_)))))
 refine AC U (fun h40=>?_) (fun h40=>?_)
 ·refine AB (Z (Aa (AX (Aa (Ad ?_)))))
  obtain ⟨x41,hx42⟩:∃ z9,(rl11.map Bt)[j]?=some z9:=⟨_,List.getElem?_eq_getElem (show j<(rl11.map Bt).length by omega)⟩
  have th43:=H.thA 6 rfl hx42
  refine V U U (Bi (p:=A_ A16+j*1) U DA U U (by omega) (by omega) th43 U) (V U U (An U AE U (H.elA 6 U hx42 (q:=0) U U)) (Ac U (Ab (Z ?_))))
  replace H:Hd _ _ _ [blk b [vS2,.int .i64 J7.parts,vM3,vC4,vR5,.int .i64 J7.chunk,.int .i64 J7.window,.int .i64 J7.fuel,vK6,.int .i64 C.w,.int .i64 C.t,.int .i64 C.o,.int .i64 W.ep,.slice A16 ((rl11.map Bt).length) c17,.map (some kb9),.slice A21 ((tl12.map BG).length) c22,.int .u32 (Cp W.over)] 103,Y (At Ag) vS2 J7.us,Y Af vM3 J7.map,Y Af vC4 J7.comb,Y Af vR5 J7.red,Y (Ai .i64) vK6 J7.marks,Y (Ai .i64) (.slice A16 ((rl11.map Bt).length) c17) (rl11.map Bt),B5 Co kb9 (rl11.map Cz),CS C rl11,Y Dl (.slice A21 ((tl12.map BG).length) c22) (tl12.map BG),Dt C.J tl12,Y B8 q2 (l2.map A9),BC l2] [gl]:=H
  obtain ⟨e8,he8,hr8,rfl⟩:=Zd hrl14 hx42
  obtain ⟨_,_,_,_,hnd,_⟩:=(H.pick 7 rfl).mapKf
  refine Ad (Ah 2 U (V U U (AH U U) (V U U (Aj U O8 U) (V U U (An U Sw U (H.cellI 0 U U)) (Ac U (V U U (ZI SQ U SD fL U (Bt e8) U H 7 U ((ME _ _).trans (congrArg Value.pointer (aO hnd he8)))) ?_))))))
  replace H:=H.p8
  replace H:=Hd.bigO (f:=(fun e:Nat×AV=>Gi e.1 C e.2)) j he8 H
  replace H:=H.h2 (A:=Gi e8.1 C e8.2) (B:=BK (fun e:Nat×AV=>Gi e.1 C e.2) (rl11.eraseIdx j))
  obtain ⟨vS44,vM45,vC46,vR47,vK48,J49,sb50,hsj51,H⟩:=aL e8.1 C e8.2 H
  replace H:=H.h1 (A:=EA e8.1 vS44 vM45 vC46 vR47 vK48 J49 C.w C.t C.o sb50 e8.2)
  have hB8:CX 99999 e8.2:=hWr _ (List.mem_of_getElem? hr8)
  have hbp8:∀ i,(e8.2.g i).pairs.length≤1000:=hB8.pairs
  have h6:J49.us.length≤6:=by have:=hC.1.1;have:=hsj51.len;omega
  have hmk:J49.marks.length≤1000:=by have:=hC.1.2.2.1;rw [hsj51.marks];omega
  have hred:∀ i∈J49.red,AL i.a:=by rw [hsj51.red];exact hJ.red
  have hf64:AL J49.fuel:=by rw [hsj51.fuel];have:=hC.1.2.2.2.2.2.2.2.2.2.2;unfold AL;omega
  have hus:=hJ.us
  obtain ⟨hv52,vs53,us54,hsets55,H⟩:=aM e8.1 vS44 vM45 vC46 vR47 vK48 J49 C.w C.t C.o sb50 e8.2 H
  replace H:=H.h9 (A:=blk e8.1 (BF vS44 vM45 vC46 vR47 vK48 J49 C.w C.t C.o e8.2.part e8.2.ep e8.2.g hv52 sb50 vs53) 197) (B:=Y (At Ag) vS44 J49.us) (C:=Y Af vM45 J49.map) (D:=Y Af vC46 J49.comb) (E:=Y Af vR47 J49.red) (F:=Y (Ai .i64) vK48 J49.marks) (G:=BY (e8.2.g) hv52) (I:=Y (At (Ai .i64)) vs53 us54) (J:=CO 275 sb50 (e8.2.st))
  obtain ⟨A56,c57,rfl,hc58,hm59,hp60⟩:=H.fA 1 rfl
  refine sc (Vq e8.1 A56 c57 vM45 vC46 vR47 vK48 J49 C.w C.t C.o e8.2.part e8.2.ep e8.2 hv52 sb50 vs53 (by first |assumption|omega|exact CX.pairs (by assumption)) (by first |assumption|omega|exact CX.pairs (by assumption)) (by first |assumption|omega|exact CX.pairs (by assumption)) (by first |assumption|omega|exact CX.pairs (by assumption)) (by first |assumption|omega|exact CX.pairs (by assumption)) (by first |assumption|omega|exact CX.pairs (by assumption))) H (lA 0 U (fun _ h=>h) (lA 6 U (fun _ h=>h) (lA 4 U B3 (lR 0 U l0)))) U U (Av Xu U U) ?_
  rintro _ _ w ⟨u61,rfl,rfl⟩ H
  replace H:=H.h1 (A:=Y (Ai .i64) u61 ((AT dg J49 e8.2).set))|>.p9|>.p9|>.p9|>.p9|>.p9|>.p9|>.p9|>.p9|>.p9
  replace H:=RT e8.1 (.slice A56 J49.us.length c57) vM45 vC46 vR47 vK48 J49 C.w C.t C.o sb50 e8.2 hv52 vs53 us54 hsets55 H
  replace H:=H.h1 (A:=EA e8.1 (.slice A56 J49.us.length c57) vM45 vC46 vR47 vK48 J49 C.w C.t C.o sb50 e8.2)
  rw [Bj.hello hsj51] at H ⊢
  replace H:Hd _ _ _ [EA e8.1 (.slice A56 J49.us.length c57) vM45 vC46 vR47 vK48 J49 C.w C.t C.o sb50 e8.2,Y (Ai .i64) u61 ((AT dg C.J e8.2).set),BK (fun e:Nat×AV=>Gi e.1 C e.2) (rl11.eraseIdx j),blk b [vS2,.int .i64 J7.parts,vM3,vC4,vR5,.int .i64 J7.chunk,.int .i64 J7.window,.int .i64 J7.fuel,vK6,.int .i64 C.w,.int .i64 C.t,.int .i64 C.o,.int .i64 W.ep,.slice A16 ((rl11.map Bt).length) c17,.map (some kb9),.slice A21 ((tl12.map BG).length) c22,.int .u32 (Cp W.over)] 103,Y (At Ag) vS2 J7.us,Y Af vM3 J7.map,Y Af vC4 J7.comb,Y Af vR5 J7.red,Y (Ai .i64) vK6 J7.marks,Y (Ai .i64) (.slice A16 ((rl11.map Bt).length) c17) (rl11.map Bt),B5 Co kb9 (rl11.map Cz),Y Dl (.slice A21 ((tl12.map BG).length) c22) (tl12.map BG),Dt C.J tl12,Y B8 q2 (l2.map A9),BC l2] [gl]:=H
  replace H:=H.p2.p1
  replace H:=RS e8.1 C e8.2 (.slice A56 J49.us.length c57) vM45 vC46 vR47 vK48 J49 sb50 hsj51 H
  replace H:=H.h1 (A:=Gi e8.1 C e8.2)
  replace H:=Hd.bigI (f:=(fun e:Nat×AV=>Gi e.1 C e.2)) (x:=e8) j (KF he8) H
  rw [Lj he8] at H
  replace H:Hd _ _ _ [CS C rl11,Y (Ai .i64) u61 ((AT dg C.J e8.2).set),blk b [vS2,.int .i64 J7.parts,vM3,vC4,vR5,.int .i64 J7.chunk,.int .i64 J7.window,.int .i64 J7.fuel,vK6,.int .i64 C.w,.int .i64 C.t,.int .i64 C.o,.int .i64 W.ep,.slice A16 ((rl11.map Bt).length) c17,.map (some kb9),.slice A21 ((tl12.map BG).length) c22,.int .u32 (Cp W.over)] 103,Y (At Ag) vS2 J7.us,Y Af vM3 J7.map,Y Af vC4 J7.comb,Y Af vR5 J7.red,Y (Ai .i64) vK6 J7.marks,Y (Ai .i64) (.slice A16 ((rl11.map Bt).length) c17) (rl11.map Bt),B5 Co kb9 (rl11.map Cz),Y Dl (.slice A21 ((tl12.map BG).length) c22) (tl12.map BG),Dt C.J tl12,Y B8 q2 (l2.map A9),BC l2] [gl]:=H
  obtain ⟨A62,c63,rfl,hc64,hm65,hp66⟩:=H.fA 1 rfl
  refine V U U (Di (parts:=[(2,.tmp 45)]) (vs:=[.agg #[.int .i64 ((AT dg C.J e8.2).kind),.int .i64 ((AT dg C.J e8.2).sp),.int .i64 ((AT dg C.J e8.2).att),.int .i64 ((AT dg C.J e8.2).part),.int .i64 ((AT dg C.J e8.2).seq),.int .i64 ((AT dg C.J e8.2).next),.int .i64 ((AT dg C.J e8.2).ep),.int .i64 ((AT dg C.J e8.2).why),.slice A62 (((AT dg C.J e8.2).set).length) c63,.slice none 0 0]]) (cs:=[.int .i64 0,.int .i64 0,.int .i64 ((AT dg C.J e8.2).kind),.int .i64 ((AT dg C.J e8.2).sp),.int .i64 ((AT dg C.J e8.2).att),.int .i64 ((AT dg C.J e8.2).part),.int .i64 ((AT dg C.J e8.2).seq),.int .i64 ((AT dg C.J e8.2).next),.int .i64 ((AT dg C.J e8.2).ep),.int .i64 ((AT dg C.J e8.2).why),.slice A62 (((AT dg C.J e8.2).set).length) c63,.slice none 0 0]) U J3 U U) (Cb (parts:=[(0,.tmp 46)]) (vs:=[.agg #[.int .i64 0,.int .i64 0,.int .i64 ((AT dg C.J e8.2).kind),.int .i64 ((AT dg C.J e8.2).sp),.int .i64 ((AT dg C.J e8.2).att),.int .i64 ((AT dg C.J e8.2).part),.int .i64 ((AT dg C.J e8.2).seq),.int .i64 ((AT dg C.J e8.2).next),.int .i64 ((AT dg C.J e8.2).ep),.int .i64 ((AT dg C.J e8.2).why),.slice A62 (((AT dg C.J e8.2).set).length) c63,.slice none 0 0]]) (cs:=[.int .i64 0,.int .i64 0,.int .i64 ((AT dg C.J e8.2).kind),.int .i64 ((AT dg C.J e8.2).sp),.int .i64 ((AT dg C.J e8.2).att),.int .i64 ((AT dg C.J e8.2).part),.int .i64 ((AT dg C.J e8.2).seq),.int .i64 ((AT dg C.J e8.2).next),.int .i64 ((AT dg C.J e8.2).ep),.int .i64 ((AT dg C.J e8.2).why),.slice A62 (((AT dg C.J e8.2).set).length) c63,.slice none 0 0]) U U U EB F_ U (by decide) (by decide) U U H (fun b67 w H=>?_))
  replace H:=H.pick 13 rfl
  refine CA (xs:=l2.map A9) (ys:=[(⟨⟨0,0,⟨(AT dg C.J e8.2).kind,(AT dg C.J e8.2).sp,(AT dg C.J e8.2).att,(AT dg C.J e8.2).part,(AT dg C.J e8.2).seq,(AT dg C.J e8.2).next,(AT dg C.J e8.2).ep,(AT dg C.J e8.2).why⟩⟩,⟨A62,((AT dg C.J e8.2).set).length,c63⟩,⟨none,0,0⟩⟩:Dg BB)]) U U U EB F_ U (by decide) U U H (by first |omega|(simp only [List.length_append,List.length_cons,List.length_nil,List.length_map];omega)) (fun F hA hR=>Cy (hA _ (List.mem_of_getElem? (i:=0) U)) U (by decide) (Bc.flat_eq.2 U)) (fun v68 w H=>(Ac U (Ab (Bb (Z ?_)))))
  replace H:Hd _ _ _ [Y B8 v68 ((l2.map A9)++[(⟨⟨0,0,⟨(AT dg C.J e8.2).kind,(AT dg C.J e8.2).sp,(AT dg C.J e8.2).att,(AT dg C.J e8.2).part,(AT dg C.J e8.2).seq,(AT dg C.J e8.2).next,(AT dg C.J e8.2).ep,(AT dg C.J e8.2).why⟩⟩,⟨A62,((AT dg C.J e8.2).set).length,c63⟩,⟨none,0,0⟩⟩:Dg BB)]),blk b67 [.int .i64 0,.int .i64 0,.int .i64 ((AT dg C.J e8.2).kind),.int .i64 ((AT dg C.J e8.2).sp),.int .i64 ((AT dg C.J e8.2).att),.int .i64 ((AT dg C.J e8.2).part),.int .i64 ((AT dg C.J e8.2).seq),.int .i64 ((AT dg C.J e8.2).next),.int .i64 ((AT dg C.J e8.2).ep),.int .i64 ((AT dg C.J e8.2).why),.slice A62 (((AT dg C.J e8.2).set).length) c63,.slice none 0 0] 51,CS C rl11,Y (Ai .i64) (.slice A62 (((AT dg C.J e8.2).set).length) c63) ((AT dg C.J e8.2).set),blk b [vS2,.int .i64 J7.parts,vM3,vC4,vR5,.int .i64 J7.chunk,.int .i64 J7.window,.int .i64 J7.fuel,vK6,.int .i64 C.w,.int .i64 C.t,.int .i64 C.o,.int .i64 W.ep,.slice A16 ((rl11.map Bt).length) c17,.map (some kb9),.slice A21 ((tl12.map BG).length) c22,.int .u32 (Cp W.over)] 103,Y (At Ag) vS2 J7.us,Y Af vM3 J7.map,Y Af vC4 J7.comb,Y Af vR5 J7.red,Y (Ai .i64) vK6 J7.marks,Y (Ai .i64) (.slice A16 ((rl11.map Bt).length) c17) (rl11.map Bt),B5 Co kb9 (rl11.map Cz),Y Dl (.slice A21 ((tl12.map BG).length) c22) (tl12.map BG),Dt C.J tl12,BC l2] [gl]:=H
  refine Ad (V U U (Be (z:=((j+1:Nat):Int)) U U U (by rw [AI (by omega) (by omega)];omega)) (Ac U (Ab ?_)))
  replace H:=H.pick 13 rfl|>.pick 13 rfl|>.p4|>.pick 13 rfl|>.pick 13 rfl|>.pick 13 rfl|>.pick 13 rfl|>.pick 13 rfl|>.pick 13 rfl|>.pick 13 rfl|>.pick 13 rfl|>.pick 11 rfl|>.pick 14 rfl|>.pick 14 rfl|>.keep 14|>.newnil Ag|>.p1
  replace H:=Hd.twN (r:=(⟨⟨0,0,⟨(AT dg C.J e8.2).kind,(AT dg C.J e8.2).sp,(AT dg C.J e8.2).att,(AT dg C.J e8.2).part,(AT dg C.J e8.2).seq,(AT dg C.J e8.2).next,(AT dg C.J e8.2).ep,(AT dg C.J e8.2).why⟩⟩,.slice A62 (((AT dg C.J e8.2).set).length) c63,(AT dg C.J e8.2).set,.slice none 0 0,[]⟩:Bk BB)) H
  replace H:=H.h1 (A:=BC (l2++[(⟨⟨0,0,⟨(AT dg C.J e8.2).kind,(AT dg C.J e8.2).sp,(AT dg C.J e8.2).att,(AT dg C.J e8.2).part,(AT dg C.J e8.2).seq,(AT dg C.J e8.2).next,(AT dg C.J e8.2).ep,(AT dg C.J e8.2).why⟩⟩,.slice A62 (((AT dg C.J e8.2).set).length) c63,(AT dg C.J e8.2).set,.slice none 0 0,[]⟩:Bk BB)]))
  replace H:Hd w0 F0 w [BC (l2++[(⟨⟨0,0,⟨(AT dg C.J e8.2).kind,(AT dg C.J e8.2).sp,(AT dg C.J e8.2).att,(AT dg C.J e8.2).part,(AT dg C.J e8.2).seq,(AT dg C.J e8.2).next,(AT dg C.J e8.2).ep,(AT dg C.J e8.2).why⟩⟩,.slice A62 (((AT dg C.J e8.2).set).length) c63,(AT dg C.J e8.2).set,.slice none 0 0,[]⟩:Bk BB)]),Y B8 v68 ((l2++[(⟨⟨0,0,⟨(AT dg C.J e8.2).kind,(AT dg C.J e8.2).sp,(AT dg C.J e8.2).att,(AT dg C.J e8.2).part,(AT dg C.J e8.2).seq,(AT dg C.J e8.2).next,(AT dg C.J e8.2).ep,(AT dg C.J e8.2).why⟩⟩,.slice A62 (((AT dg C.J e8.2).set).length) c63,(AT dg C.J e8.2).set,.slice none 0 0,[]⟩:Bk BB)]).map A9),blk b [vS2,.int .i64 J7.parts,vM3,vC4,vR5,.int .i64 J7.chunk,.int .i64 J7.window,.int .i64 J7.fuel,vK6,.int .i64 C.w,.int .i64 C.t,.int .i64 C.o,.int .i64 W.ep,.slice A16 ((rl11.map Bt).length) c17,.map (some kb9),.slice A21 ((tl12.map BG).length) c22,.int .u32 (Cp W.over)] 103,Y (At Ag) vS2 J7.us,Y Af vM3 J7.map,Y Af vC4 J7.comb,Y Af vR5 J7.red,Y (Ai .i64) vK6 J7.marks,Y (Ai .i64) (.slice A16 ((rl11.map Bt).length) c17) (rl11.map Bt),B5 Co kb9 (rl11.map Cz),CS C rl11,Y Dl (.slice A21 ((tl12.map BG).length) c22) (tl12.map BG),Dt C.J tl12] [gl]:=by rw [List.map_append];exact H
  replace H:=H.p1.pick 12 rfl|>.pick 12 rfl|>.pick 12 rfl|>.pick 12 rfl|>.pick 12 rfl|>.pick 12 rfl|>.pick 12 rfl|>.pick 12 rfl|>.pick 12 rfl|>.pick 12 rfl|>.pick 12 rfl
  have hzn:(l2++[(⟨⟨0,0,⟨(AT dg C.J e8.2).kind,(AT dg C.J e8.2).sp,(AT dg C.J e8.2).att,(AT dg C.J e8.2).part,(AT dg C.J e8.2).seq,(AT dg C.J e8.2).next,(AT dg C.J e8.2).ep,(AT dg C.J e8.2).why⟩⟩,.slice A62 (((AT dg C.J e8.2).set).length) c63,(AT dg C.J e8.2).set,.slice none 0 0,[]⟩:Bk BB)]).map BZ=W.ts.flatMap (EN dg C)++(W.rs.take (j+1)).map (Ge dg C.J):=by rw [List.map_append,hz2,KH hr8,←List.append_assoc];exact congrArg (fun m:DK=>_++[(⟨0,0,m⟩:EQ)]) (X8 Vr)
  exact Bo (s:=(j,undef,l2)) (j+1,v68,l2++[(⟨⟨0,0,⟨(AT dg C.J e8.2).kind,(AT dg C.J e8.2).sp,(AT dg C.J e8.2).att,(AT dg C.J e8.2).part,(AT dg C.J e8.2).seq,(AT dg C.J e8.2).next,(AT dg C.J e8.2).ep,(AT dg C.J e8.2).why⟩⟩,.slice A62 (((AT dg C.J e8.2).set).length) c63,(AT dg C.J e8.2).set,.slice none 0 0,[]⟩:Bk BB)]) ⟨rfl,rfl,rfl,rfl,rfl,rfl,trivial⟩ ⟨H,by (try dsimp only);omega,hzn,by (try dsimp only);rw [List.length_append];simp only [List.length_cons,List.length_nil];omega⟩ (by (try dsimp only);omega)
 refine BW (A8 (A8 (BX (Z (Aa (Ad (Ah 2 U (Ab (Z (Am (Aq U U ?_)))))))))))
 replace H:=H.pick 12 rfl|>.pick 12 rfl|>.h2 (A:=Y B8 q2 (l2.map A9)) (B:=BC l2)
 replace H:=Hd.twI H
 replace H:=H.h1 (A:=Y BO q2 l2)
 have e:l2.map BZ=Ec dg C W:=by rw [hz2,List.take_of_length_le (l:=W.rs) (by omega)];unfold Ec;rw [if_neg (by rw [hov];decide)]
 replace H:=H.pick 11 rfl|>.pick 11 rfl|>.pick 11 rfl|>.pick 11 rfl|>.pick 11 rfl|>.pick 11 rfl|>.pick 11 rfl|>.pick 11 rfl|>.pick 11 rfl|>.pick 11 rfl|>.pick 11 rfl
 replace H:=NO b C W vS2 vM3 vC4 vR5 vK6 J7 (.slice A16 ((rl11.map Bt).length) c17) kb9 (.slice A21 ((tl12.map BG).length) c22) rl11 tl12 ⟨hsj13,hrl14,htl15⟩ H
 replace H:=H.h1 (A:=Ch b C W)|>.p1
 exact Al ⟨l2,rfl,e⟩ H
theorem Yn  :
    Cn Tryz.prog 20 [.pointer none] [] [] (fun v Bs=>v=.slice none 0 0∧Bs=[]):=by
 intro w0 F0 H
 refine enter Tryz.func20 U U (Nat.le_of_ble_eq_true U) (Aa (Ad (Ac U (Ab (Z (Aa (AX (Aa (Ad (Ac U (sc (Js) H l0 U U (Av HT U U) ?_)))))))))))
 rintro _ _ w ⟨rfl,rfl⟩ H
 refine V U U (Ek U U U) (Ac U (Ab (Z ?_)))
 replace H:Hd _ _ _ [] []:=H
 exact Ct U (Aa (Ad (Ac U (Ab (Z (Am (AY (Az (Aq U U (Al ⟨rfl,rfl⟩ H))))))))))
theorem Yo (b:Nat) (C:Cf) (N:Da) (hC:DE C) (hJ:Df C.J) (hup:N.up=true) (hWt:∀ M∈N.W.ts,GE M) (hWr:∀ R∈N.W.rs,CX 99999 R) (hWl:N.W.ts.length≤1000∧N.W.rs.length≤1000) (hnb:N.n≤N.b.length∧N.b.length≤1000000) (hhl:N.held.length≤10000000):
    Cn Tryz.prog 20 [.pointer (some ⟨b,0,none⟩)] [Dm b C N] [gl] (fun v Bs=>∃ z2:List (Bk BB),Bs=[Y BO v z2,Dm b C (FD N (Ec dg C N.W))]∧(z2.map BZ=HZ N (Ec dg C N.W))):=by
 intro w0 F0 H
 obtain ⟨vS1,vM2,vC3,vR4,vK5,J6,d7,hv8,zs9,wb10,⟨hsj11,hzs12⟩,H⟩:=Jv b C N H
 replace H:Hd _ _ _ [blk b [vS1,.int .i64 J6.parts,vM2,vC3,vR4,.int .i64 J6.chunk,.int .i64 J6.window,.int .i64 J6.fuel,vK5,.int .i64 C.w,.int .i64 C.t,.int .i64 C.o,.int .i64 N.id,.bool N.up,.pointer (some ⟨d7,0,none⟩),hv8,.pointer none,.pointer (some ⟨wb10,0,none⟩)] 93,Y (At Ag) vS1 J6.us,Y Af vM2 J6.map,Y Af vC3 J6.comb,Y Af vR4 J6.red,Y (Ai .i64) vK5 J6.marks,BP d7 N.b N.n,Y BO hv8 zs9,Ch wb10 (Bw J6 C) N.W] [gl]:=H
 obtain ⟨A13,c14,rfl,hc15,hm16,hp17⟩:=H.fA 7 rfl
 refine enter Tryz.func20 U U (Nat.le_of_ble_eq_true U) (Aa (Ad (Ac U (Ab (Z (Aa (AX (Aa (Ad (Ac U (sc (QY b vS1 vM2 vC3 vR4 vK5 J6 C N.id N.up d7 (.slice A13 zs9.length c14) wb10) H (lA 0 U (fun _ h=>h) l0) U U (Av HT U U) ?_)))))))))))
 rintro _ _ w ⟨rfl,rfl⟩ H
 refine V U U (Ek U U U) (Ac U (Ab (Z ?_)))
 refine Dx (b:=!N.up) U (fun h18=>?_) (fun h18=>?_)
 ·exact absurd h18 (by rw [hup];decide)
 refine Aa (Ad (Ac U (V U U (AH U U) (V U U (Aj U Pz U) (V U U (An U Sv U (H.cellI 0 U U)) (V U U (Hz U NF U U) (Ac U (Ab (Z (Cq U (AB (Bb (Z (Aa (Cc (.e 0 (.e 1 (.e 2 (.e 3 (.e 4 (.e 5 (.m 6 (.m 7 (.m 8 (.e 9 .z)))))))))) (fun w=>∃ Ar,Hd w0 F0 w (Ar) [gl]) mo (by kernel_rfl) (fun w H=>⟨_,H⟩) H (fun w H=>(Au U (Ao U U U (fun w ⟨Ar,H⟩=>AH U U) (Ao U U U (fun w ⟨Ar,H⟩=>Aj U FQ U) (Au U (Ao U U U (fun w ⟨Ar,H⟩=>AH U U) (Ao U U U (fun w ⟨Ar,H⟩=>Aj U PA U) (AO U (V U U (An U Su U (H.cellI 0 U U)) (AG ⟨_,H⟩ (AO U ?_))))))))))))))))))))))))))
 have hO2:Df J6:=hsj11.symm.ok hJ
 have hC2:DE (Bw J6 C):=(HY hsj11).symm.may hC
 replace H:=H.p8
 refine sc (eW wb10 (Bw J6 C) N.W (by first |assumption|omega) (by first |assumption|omega) (by first |assumption|omega) (by first |assumption|omega) (by first |assumption|omega)) H (lR 0 U l0) U U (Av Xj U U) ?_
 rintro v21 _ w ⟨zs19,rfl,hf20⟩ H
 replace H:=H.h1 (A:=Y BO v21 zs19)
 have hzw:=(hf20).trans ((HY hsj11).wake dg N.W)
 have hwl:=eY hWt hWl hzw
 replace H:=H.p1.p9.p9.p9.p9.p9.p9.p9.p9
 replace H:=IG b C N vS1 vM2 vC3 vR4 vK5 J6 d7 (.slice A13 zs9.length c14) zs9 wb10 ⟨hsj11,hzs12⟩ H
 replace H:=H.h1 (A:=Dm b C N)
 refine AG ⟨_,H⟩ (AO U ?_)
 have hlN2:zs19.length≤10000000∧N.held.length≤10000000:=⟨hwl,hhl⟩
 refine sc (QX b C N v21 zs19 (by first |assumption|omega) (by first |assumption|omega)) H l0 U U (Av Ql U U) ?_
 rintro v24 _ w ⟨z22,rfl,hf23⟩ H
 replace H:=H.h2 (A:=Y BO v24 z22) (B:=Dm b C (FD N (zs19.map BZ)))
 rw [hzw] at H
 replace H:Hd _ _ _ [Y BO v24 z22,Dm b C (FD N (Ec dg C N.W))] [gl]:=H
 have hsn:=hf23
 rw [hzw] at hsn
 exact AG ⟨_,H⟩ (Au U (BN (Z (Am (Aq U U (Al ⟨z22,rfl,hsn⟩ H))))))
theorem bZ (va:Value) (a:List (Bk BB)) (vb:Value) (b:List (Bk BB)):
    Cn Tryz.prog 41 [va,vb] [] [Ae BO va a,Ae BO vb b] (fun v Bs=>v=.bool (decide (a.map BZ=b.map BZ))∧Bs=[]):=by
 intro w0 F0 H
 obtain ⟨A1,c2,rfl,hc3,hm4,hp5⟩:=H.fR 0 rfl
 obtain ⟨A6,c7,rfl,hc8,hm9,hp10⟩:=H.fR 1 rfl
 refine enter Tryz.func41 U U (Nat.le_of_ble_eq_true U) (Aa (Ad (Ac U (Ab (Z ?_)))))
 replace H:Hd _ _ _ [] [Ae BO (.slice A1 a.length c2) a,Ae BO (.slice A6 b.length c7) b]:=H
 refine Aa (Aa (Ad (Ac U (V U U (Bn U Hb U) (Ac U (V U U (Bn U Hb U) (V U U (CG U U U) (Ab (Z ?_)))))))))
 refine AC U (fun h11=>?_) (fun h11=>?_)
 ·refine Aa (Ad (Ac U (Ab (Z (Am (Az (Aq U U ?_)))))))
  have e:¬ a.map BZ=b.map BZ:=fun e=>by have:=congrArg List.length e;rw [List.length_map,List.length_map] at this;omega
  exact Al ⟨by rw [decide_eq_false e]<;>rfl,rfl⟩ H
 refine AB (Z (Aa (Aa (Ad (Ac U (Ab (Z (AX ?_))))))))
 have hle:a.length=b.length:=by omega
 refine B1 (σ:=Nat) (fun k=>[(0,.slice A1 a.length c2),(1,.slice A6 b.length c7),(5,.int .i64 ((k:Nat):Int))]) (fun k w=>(Hd w0 F0 w [] [Ae BO (.slice A1 a.length c2) a,Ae BO (.slice A6 b.length c7) b])∧(k≤a.length)∧(a.length=b.length)∧((a.take k).map BZ=(b.take k).map BZ)) (fun k=>a.length - k) 0 ⟨rfl,rfl,rfl,trivial⟩ ⟨H,by omega,hle,rfl⟩ ?_
 rintro k w ⟨H,hk,hle,ht⟩
 refine Aa (Aa (Ad (Ah 2 U (V U U (Bn U Hb U) (V U U (Br U U U) (Ab (Z ?_)))))))
 refine AC U (fun h12=>?_) (fun h12=>?_)
 ·refine AB (Z (Aa (AX (Aa (Cc (.e 0 (.e 1 (.e 2 (.e 3 (.e 4 (.e 5 (.e 6 (.e 7 (.e 8 (.e 9 (.e 10 (.e 11 (.e 12 (.e 13 (.e 14 (.e 15 (.e 16 (.e 17 (.e 18 (.e 19 (.e 20 (.e 21 (.e 22 (.e 23 (.e 24 (.e 25 (.e 26 (.e 27 (.e 28 (.e 29 (.e 30 (.e 31 (.e 32 (.e 33 (.e 34 (.m 35 (.e 36 (.e 37 .z)))))))))))))))))))))))))))))))))))))) (fun w=>∃ Ar,Hd w0 F0 w (Ar) [Ae BO (.slice A1 a.length c2) a,Ae BO (.slice A6 b.length c7) b]) mo (by kernel_rfl) (fun w H=>⟨_,H⟩) H (fun w H=>(Au U (Au U ?_))))))))
  obtain ⟨⟨⟨a15,a16,⟨a17,a18,a19,a20,a21,a22,a23,a24⟩⟩,sv25,se26,pv27,pr28⟩,hx14⟩:∃ z9,a[k]?=some z9:=⟨_,List.getElem?_eq_getElem (show k<a.length by omega)⟩
  obtain ⟨A29,c30,A31,c32,rfl,rfl,m33,m34,m35,m36⟩:=H.nestRt 0 rfl hx14
  have th37:=H.thRt 0 rfl hx14
  refine Ao U U U (fun w ⟨Ar,H⟩=>Bi (p:=A_ A1+k*12) U EB U U (by omega) (by omega) th37 U) (Ao U U U (fun w ⟨Ar,H⟩=>Aj U Me U) (Ao U U U (fun w ⟨Ar,H⟩=>An U AE U (H.elRt 0 U hx14 (q:=0) U U)) (Au U (Au U ?_))))
  obtain ⟨⟨⟨a40,a41,⟨a42,a43,a44,a45,a46,a47,a48,a49⟩⟩,sv50,se51,pv52,pr53⟩,hx39⟩:∃ z9,b[k]?=some z9:=⟨_,List.getElem?_eq_getElem (show k<b.length by omega)⟩
  obtain ⟨A54,c55,A56,c57,rfl,rfl,m58,m59,m60,m61⟩:=H.nestRt 1 rfl hx39
  have th62:=H.thRt 1 rfl hx39
  refine Ao U U U (fun w ⟨Ar,H⟩=>Bi (p:=A_ A6+k*12) U EB U U (by omega) (by omega) th62 U) (Ao U U U (fun w ⟨Ar,H⟩=>Aj U Me U) (Ao U U U (fun w ⟨Ar,H⟩=>An U AE U (H.elRt 1 U hx39 (q:=0) U U)) (Ao U U U (fun w ⟨Ar,H⟩=>CG U U U) (Au U ?_))))
  refine Ka (d:=28) U (fun h63=>?_) (fun h63=>?_)
  ·refine Au U (Au U (Au U (Au U (Au U (Au U (Au U (Au U (Au U (Au U (Au U (Au U (Au U (Au U (Au U (Au U (Au U (Au U (Au U (Au U (Au U (Au U (Au U (Jb U ⟨_,H⟩ U U (Au U (Au U (BN (Z (Ct U (Aa (Ad (Ac U (Ab (Z (Am (AY (Az (Az (AY (Az (Aq U U ?_))))))))))))))))))))))))))))))))))))))))
   have e:¬ a.map BZ=b.map BZ:=fun e=>by obtain ⟨g1,g2,g3⟩:=Jp.1 (MH hx14 hx39 e);first |exact absurd g1 h63|exact absurd g2 h63|exact absurd g3 h63
   replace H:Hd _ _ _ [] [Ae BO (.slice A1 a.length c2) a,Ae BO (.slice A6 b.length c7) b]:=H
   exact Al ⟨by rw [decide_eq_false e]<;>rfl,rfl⟩ H
  refine Au U (Au U ?_)
  have th64:=H.thRt 0 rfl hx14
  refine Ao U U U (fun w ⟨Ar,H⟩=>Bi (p:=A_ A1+k*12) U EB U U (by omega) (by omega) th64 U) (Ao U U U (fun w ⟨Ar,H⟩=>Aj U Px U) (Ao U U U (fun w ⟨Ar,H⟩=>An U AE U (H.elRt 0 U hx14 (q:=1) U U)) (Au U (Au U ?_))))
  have th65:=H.thRt 1 rfl hx39
  refine Ao U U U (fun w ⟨Ar,H⟩=>Bi (p:=A_ A6+k*12) U EB U U (by omega) (by omega) th65 U) (Ao U U U (fun w ⟨Ar,H⟩=>Aj U Px U) (Ao U U U (fun w ⟨Ar,H⟩=>An U AE U (H.elRt 1 U hx39 (q:=1) U U)) (Ao U U U (fun w ⟨Ar,H⟩=>CG U U U) (Au U (Au U ?_)))))
  refine Ka (d:=41) U (fun h66=>?_) (fun h66=>?_)
  ·refine Au U (Au U (Au U (Au U (Au U (Au U (Au U (Au U (Au U (Au U (Jb U ⟨_,H⟩ U U (Au U (Au U (BN (Z (Ct U (Aa (Ad (Ac U (Ab (Z (Am (AY (Az (Az (AY (Az (Aq U U ?_)))))))))))))))))))))))))))
   have e:¬ a.map BZ=b.map BZ:=fun e=>by obtain ⟨g1,g2,g3⟩:=Jp.1 (MH hx14 hx39 e);first |exact absurd g1 h66|exact absurd g2 h66|exact absurd g3 h66
   replace H:Hd _ _ _ [] [Ae BO (.slice A1 a.length c2) a,Ae BO (.slice A6 b.length c7) b]:=H
   exact Al ⟨by rw [decide_eq_false e]<;>rfl,rfl⟩ H
  refine Au U (Au U ?_)
  have th67:=H.thRt 0 rfl hx14
  refine Ao U U U (fun w ⟨Ar,H⟩=>Bi (p:=A_ A1+k*12) U EB U U (by omega) (by omega) th67 U) (Ao U U U (fun w ⟨Ar,H⟩=>Aj U Mf U) (Ao U U U (fun w ⟨Ar,H⟩=>BD (cs:=[.int .i64 a17,.int .i64 a18,.int .i64 a19,.int .i64 a20,.int .i64 a21,.int .i64 a22,.int .i64 a23,.int .i64 a24,.slice A29 se26.length c30,.slice A31 pr28.length c32]) U Fq U U (H.elsRt 0 U hx14 2 10 U U)) (Au U (Au U ?_))))
  have th68:=H.thRt 1 rfl hx39
  refine Ao U U U (fun w ⟨Ar,H⟩=>Bi (p:=A_ A6+k*12) U EB U U (by omega) (by omega) th68 U) (Ao U U U (fun w ⟨Ar,H⟩=>Aj U Mf U) (Ao U U U (fun w ⟨Ar,H⟩=>BD (cs:=[.int .i64 a42,.int .i64 a43,.int .i64 a44,.int .i64 a45,.int .i64 a46,.int .i64 a47,.int .i64 a48,.int .i64 a49,.slice A54 se51.length c55,.slice A56 pr53.length c57]) U Fq U U (H.elsRt 1 U hx39 2 10 U U)) (AO U (sc (b0 (⟨a17,a18,a19,a20,a21,a22,a23,a24⟩:CE) (.slice A29 se26.length c30) se26 (.slice A31 pr28.length c32) pr28 (⟨a42,a43,a44,a45,a46,a47,a48,a49⟩:CE) (.slice A54 se51.length c55) se51 (.slice A56 pr53.length c57) pr53) H (lX (fun F hA hR=>NC (hR _ (List.mem_of_getElem? (i:=0) U)) hx14) (lX (fun F hA hR=>NB (hR _ (List.mem_of_getElem? (i:=0) U)) hx14) (lX (fun F hA hR=>NC (hR _ (List.mem_of_getElem? (i:=1) U)) hx39) (lX (fun F hA hR=>NB (hR _ (List.mem_of_getElem? (i:=1) U)) hx39) l0)))) U U (Av Xm U U) ?_))))
  rintro _ _ w ⟨rfl,rfl⟩ H
  replace H:Hd _ _ _ [] [Ae BO (.slice A1 a.length c2) a,Ae BO (.slice A6 b.length c7) b]:=H
  refine AG ⟨_,H⟩ (Ao U U U (fun w ⟨Ar,H⟩=>D3 U U) (Au U (BN (Z ?_))))
  refine AC U (fun h69=>?_) (fun h69=>?_)
  ·refine Aa (Ad (Ac U (Ab (Z (Am (AY (Az (Az (AY (Az (Aq U U ?_)))))))))))
   have e:¬ a.map BZ=b.map BZ:=fun e=>by obtain ⟨g1,g2,g3⟩:=Jp.1 (MH hx14 hx39 e);first |exact absurd g1 h69|exact absurd g2 h69|exact absurd g3 h69
   exact Al ⟨by rw [decide_eq_false e]<;>rfl,rfl⟩ H
  refine AB (Bb (Z (Ad (Ac U (V U U (Be (z:=((k+1:Nat):Int)) U U U (by rw [AI (by omega) (by omega)];omega)) (Ac U (Ab ?_)))))))
  have e3:BZ (⟨⟨a15,a16,⟨a17,a18,a19,a20,a21,a22,a23,a24⟩⟩,.slice A29 se26.length c30,se26,.slice A31 pr28.length c32,pr28⟩:Bk BB)=BZ (⟨⟨a40,a41,⟨a42,a43,a44,a45,a46,a47,a48,a49⟩⟩,.slice A54 se51.length c55,se51,.slice A56 pr53.length c57,pr53⟩:Bk BB):=Jp.2 ⟨by first |assumption|exact Classical.not_not.1 (by assumption),by first |assumption|exact Classical.not_not.1 (by assumption),by first |assumption|exact Classical.not_not.1 (by assumption)⟩
  exact Bo (s:=k) (k+1) ⟨rfl,rfl,rfl,trivial⟩ ⟨H,by (try dsimp only);omega,hle,XS hx14 hx39 e3 ht⟩ (by (try dsimp only);omega)
 refine BW (A8 (A8 (BX (Z (Aa (Ad (Ac U (Ab (Z (Am (Aq U U ?_)))))))))))
 have e:a.map BZ=b.map BZ:=by rw [←GJ (xs:=a) (k:=k) (by omega),←GJ (xs:=b) (k:=k) (by omega)];exact ht
 exact Al ⟨by rw [decide_eq_true e]<;>rfl,rfl⟩ H
theorem Oh  :
    Cn Tryz.prog 10 [] [] [gl] (fun v Bs=>v=.bool true∧Bs=[]):=by
 intro w0 F0 H
 have hC:=Nv
 have hJ:=cI
 have hid1:(1:Int)≤1∧(1:Int)≤Ce.w:=⟨by decide,show (1:Int)≤1 by decide⟩
 refine enter Tryz.func10 U U (Nat.le_of_ble_eq_true U) (Aa (Ad (Ac U (Ab (Z (Aa (Ad (sc (cJ) H l0 U U (Av Xe U U) ?_))))))))
 rintro _ _ w ⟨vS1,vP2,rfl,rfl⟩ H
 replace H:Hd _ _ _ [Y (At Ag) vS1 [(FW,[])],Y Af vP2 EG] [gl]:=H
 refine sc (Yk vS1 vP2 (.slice none 0 0) vP2 (.slice none 0 0) Ce 1 (by first |assumption|omega|decide) (by first |assumption|omega|decide) (by first |assumption|omega|decide)) H (lA 0 U B3 (lA 1 U B3 (lX (fun F _ _=>IR _ _ F trivial (by decide)) (lA 1 U B3 (lX (fun F _ _=>IR _ _ F trivial (by decide)) l0))))) U U (Av VW U U) ?_
 rintro _ _ w ⟨b3,rfl,rfl⟩ H
 replace H:=H.h1 (A:=Dm b3 Ce (Fb Ce 1))
 obtain ⟨N0,hN0⟩:∃ z:Da,z=Fb Ce 1:=⟨_,rfl⟩
 rw [←hN0] at H
 replace H:Hd _ _ _ [Dm b3 Ce N0,Y (At Ag) vS1 [(FW,[])],Y Af vP2 EG] [gl]:=H
 have hl0:HJ 0 N0:=by rw [hN0];exact Qz _ _
 have hup0:=hl0.up
 have hW0:N0.W=⟨1,[C9 1 0 1 []],[],false⟩:=by rw [hN0];exact R9
 have hWt0:∀ M∈N0.W.ts,GE M:=by rw [hW0];exact fun M h=>by cases h
 have hWr0:∀ R∈N0.W.rs,CX 99999 R:=by rw [hW0];exact fun R h=>by rw [List.mem_singleton.1 h];exact (CX.new (rs:=[]) fun r hr=>by cases hr).mono (by decide)
 have hWl0:N0.W.ts.length≤1000∧N0.W.rs.length≤1000:=by rw [hW0];exact ⟨Nat.zero_le _,by decide⟩
 have hok0:=hl0.ok (Nat.zero_le _)
 have hnb0:N0.n≤N0.b.length∧N0.b.length≤1000000:=⟨hok0.1.1,by omega⟩
 have hhl0:N0.held.length≤10000000:=by omega
 obtain ⟨hs1,hs2⟩:=bL dg
 rw [←hN0] at hs1 hs2
 refine Ah 5 U (Ab (Z (Aa (Aa (Ad (Ac U (V U U (CG U U U) (Ah 2 U (V U U (C1 U F7 U U) (Ac U (Ab (Z (Cq U (AB (Z (Aa (Ad (Ac U (sc (Yo b3 Ce N0 (by first |assumption|omega|decide) (by first |assumption|omega|decide) (by first |assumption|omega|decide) (by first |assumption|omega|decide) (by first |assumption|omega|decide) (by first |assumption|omega|decide) (by first |assumption|omega|decide) (by first |assumption|omega|decide)) H (lR 0 U l0) U U (Av P8 U U) ?_)))))))))))))))))))
 rintro v6 _ w ⟨z4,rfl,hf5⟩ H
 replace H:=H.h2 (A:=Y BO v6 z4) (B:=Dm b3 Ce (FD N0 (Ec dg Ce N0.W)))
 obtain ⟨A7,c8,rfl,hc9,hm10,hp11⟩:=H.fA 0 rfl
 have hz0:=(hf5).trans hs2
 have hz0l:=congrArg List.length hz0
 rw [List.length_map] at hz0l
 have hz0m:z4.length=0:=hz0l
 obtain ⟨N1,hN1⟩:∃ z:Da,z=FD N0 (Ec dg Ce N0.W):=⟨_,rfl⟩
 rw [←hN1] at H
 replace H:Hd _ _ _ [Y BO (.slice A7 z4.length c8) z4,Dm b3 Ce N1,Y (At Ag) vS1 [(FW,[])],Y Af vP2 EG] [gl]:=H
 have hN1e:N1={ N0 with held:=[⟨1,0,⟨6,0,0,0,0,0,1,0,[],[]⟩⟩] }:=by rw [hN1];exact hs1
 have hh1:N1.held=[⟨1,0,⟨6,0,0,0,0,0,1,0,[],[]⟩⟩]:=by rw [hN1e]
 have hh1l:N1.held.length=1:=by rw [hh1];rfl
 have hup1:N1.up=true:=by rw [hN1e];exact hup0
 have hnb1:N1.n≤N1.b.length∧N1.b.length≤1000000:=by rw [hN1e];exact hnb0
 have hhl1:N1.held.length≤10000000:=by omega
 have hb1:N1.b.length=64:=by rw [hN1e];exact hl0.len
 refine Ac U (Ab (Z (Aa (Ad (Ac U ?_)))))
 replace H:=H.p1
 refine sc (Yh b3 Ce N1) H l0 U U (Av Qa U U) ?_
 rintro _ _ w ⟨rfl,rfl⟩ H
 refine Ac U (Ab (Z (Aa (Ad (Ac U (sc (Ye b3 Ce N1 (by first |assumption|omega|decide) (by first |assumption|omega|decide) (by first |assumption|omega|decide)) H l0 U U (Av P2 U U) ?_))))))
 rintro v14 _ w ⟨z12,rfl,hf13⟩ H
 replace H:=H.h2 (A:=Y BO v14 z12) (B:=Dm b3 Ce (Iu N1))
 obtain ⟨A15,c16,rfl,hc17,hm18,hp19⟩:=H.fA 0 rfl
 have hz1:=(hf13).trans hh1
 obtain ⟨N2,hN2⟩:∃ z:Da,z=Iu N1:=⟨_,rfl⟩
 rw [←hN2] at H
 replace H:Hd _ _ _ [Y BO (.slice A15 z12.length c16) z12,Dm b3 Ce N2,Y BO (.slice A7 z4.length c8) z4,Y (At Ag) vS1 [(FW,[])],Y Af vP2 EG] [gl]:=H
 have hn2:N2.n=64:=by rw [hN2];exact hb1
 refine Ac U (Ab (Z (Aa (Ad (Ac U (V U U (Bn U Hb U) (V U U (Bg U U U) (Ac U ?_))))))))
 refine AR (d:=26) U (fun h20=>?_) (fun h20=>?_)
 ·refine Ac U (V U U (Bg U U U) (Ah 2 U ?_))
  refine AR (d:=30) U (fun h21=>?_) (fun h21=>?_)
  ·refine Ac U (V U U (Di (parts:=[(0,.const (.int .i64 6)),(6,.const (.int .i64 1))]) (vs:=[.int .i64 6,.int .i64 1]) (cs:=[.int .i64 6,.int .i64 0,.int .i64 0,.int .i64 0,.int .i64 0,.int .i64 0,.int .i64 1,.int .i64 0,.slice none 0 0,.slice none 0 0]) U HK U U) (V U U (Di (parts:=[(0,.const (.int .i64 1)),(2,.tmp 32)]) (vs:=[.int .i64 1,.agg #[.int .i64 6,.int .i64 0,.int .i64 0,.int .i64 0,.int .i64 0,.int .i64 0,.int .i64 1,.int .i64 0,.slice none 0 0,.slice none 0 0]]) (cs:=[.int .i64 1,.int .i64 0,.int .i64 6,.int .i64 0,.int .i64 0,.int .i64 0,.int .i64 0,.int .i64 0,.int .i64 1,.int .i64 0,.slice none 0 0,.slice none 0 0]) U J3 U U) (Cb (parts:=[(0,.tmp 33)]) (vs:=[.agg #[.int .i64 1,.int .i64 0,.int .i64 6,.int .i64 0,.int .i64 0,.int .i64 0,.int .i64 0,.int .i64 0,.int .i64 1,.int .i64 0,.slice none 0 0,.slice none 0 0]]) (cs:=[.int .i64 1,.int .i64 0,.int .i64 6,.int .i64 0,.int .i64 0,.int .i64 0,.int .i64 0,.int .i64 0,.int .i64 1,.int .i64 0,.slice none 0 0,.slice none 0 0]) U U U EB F_ U (by decide) (by decide) U U H (fun b22 w H=>?_))))
   replace H:=H.h1 (A:=blk b22 [.int .i64 1,.int .i64 0,.int .i64 6,.int .i64 0,.int .i64 0,.int .i64 0,.int .i64 0,.int .i64 0,.int .i64 1,.int .i64 0,.slice none 0 0,.slice none 0 0] 51)
   replace H:Hd w0 F0 w [Y B8 (.slice (some ⟨b22,0,none⟩) 1 1) [(⟨⟨1,0,⟨6,0,0,0,0,0,1,0⟩⟩,⟨none,0,0⟩,⟨none,0,0⟩⟩:Dg BB)],Y BO (.slice A15 z12.length c16) z12,Dm b3 Ce N2,Y BO (.slice A7 z4.length c8) z4,Y (At Ag) vS1 [(FW,[])],Y Af vP2 EG] [gl]:=H.turn (fun F h=>Il h rfl (by decide) rfl)
   refine sc (bZ (.slice A15 z12.length c16) z12 (.slice (some ⟨b22,0,none⟩) 1 1) [(⟨⟨1,0,⟨6,0,0,0,0,0,1,0⟩⟩,.slice none 0 0,[],.slice none 0 0,[]⟩:Bk BB)]) H (lA 1 U (fun F h=>B3 F h) (lX (fun F hA hR=>dP (us:=[(⟨⟨1,0,⟨6,0,0,0,0,0,1,0⟩⟩,.slice none 0 0,[],.slice none 0 0,[]⟩:Bk BB)]) (B3 F (hA _ (List.mem_of_getElem? (i:=0) U))) (fun r hr=>by rw [List.mem_singleton.1 hr];exact ⟨IR _ _ _ trivial (by decide),IR _ _ _ trivial (by decide)⟩)) l0)) U U (Av Xf U U) ?_
   rintro _ _ w ⟨rfl,rfl⟩ H
   refine Ah 2 U ?_
   refine AR (d:=37) U (fun h23=>?_) (fun h23=>?_)
   ·refine Ac U ?_
    replace H:=H.p2
    replace H:Hd _ _ _ [Dm b3 Ce N2,Y B8 (.slice (some ⟨b22,0,none⟩) 1 1) [(⟨⟨1,0,⟨6,0,0,0,0,0,1,0⟩⟩,⟨none,0,0⟩,⟨none,0,0⟩⟩:Dg BB)],Y BO (.slice A15 z12.length c16) z12,Y BO (.slice A7 z4.length c8) z4,Y (At Ag) vS1 [(FW,[])],Y Af vP2 EG] [gl]:=H
    obtain ⟨vS24,vM25,vC26,vR27,vK28,J29,d30,hv31,zs32,wb33,⟨hsj34,hzs35⟩,H⟩:=Jv b3 Ce N2 H
    replace H:=H.h9 (A:=blk b3 [vS24,.int .i64 J29.parts,vM25,vC26,vR27,.int .i64 J29.chunk,.int .i64 J29.window,.int .i64 J29.fuel,vK28,.int .i64 Ce.w,.int .i64 Ce.t,.int .i64 Ce.o,.int .i64 N2.id,.bool N2.up,.pointer (some ⟨d30,0,none⟩),hv31,.pointer none,.pointer (some ⟨wb33,0,none⟩)] 93) (B:=Y (At Ag) vS24 J29.us) (C:=Y Af vM25 J29.map) (D:=Y Af vC26 J29.comb) (E:=Y Af vR27 J29.red) (F:=Y (Ai .i64) vK28 J29.marks) (G:=BP d30 N2.b N2.n) (I:=Y BO hv31 zs32) (J:=Ch wb33 (Bw J29 Ce) N2.W)
    obtain ⟨A36,c37,rfl,hc38,hm39,hp40⟩:=H.fA 7 rfl
    refine sc (Yb b3 vS24 vM25 vC26 vR27 vK28 J29 Ce N2.id N2.up d30 (.slice A36 zs32.length c37) wb33) H (lA 0 U (fun _ h=>h) l0) U U (Av P9 U U) ?_
    rintro _ _ w ⟨rfl,rfl⟩ H
    replace H:=H.p6
    refine sc (Ug d30 N2.b N2.n) H l0 U U (Av WZ U U) ?_
    rintro _ _ w ⟨rfl,rfl⟩ H
    refine V U U (Bg U U U) (Ah 2 U ?_)
    refine AR (d:=43) U (fun h41=>?_) (fun h41=>?_)
    ·refine Ac U ?_
     replace H:Hd _ _ _ [BP d30 N2.b N2.n,blk b3 [vS24,.int .i64 J29.parts,vM25,vC26,vR27,.int .i64 J29.chunk,.int .i64 J29.window,.int .i64 J29.fuel,vK28,.int .i64 Ce.w,.int .i64 Ce.t,.int .i64 Ce.o,.int .i64 N2.id,.bool N2.up,.pointer (some ⟨d30,0,none⟩),.slice A36 zs32.length c37,.pointer none,.pointer (some ⟨wb33,0,none⟩)] 93,Y (At Ag) vS24 J29.us,Y Af vM25 J29.map,Y Af vC26 J29.comb,Y Af vR27 J29.red,Y (Ai .i64) vK28 J29.marks,Y BO (.slice A36 zs32.length c37) zs32,Ch wb33 (Bw J29 Ce) N2.W,Y B8 (.slice (some ⟨b22,0,none⟩) 1 1) [(⟨⟨1,0,⟨6,0,0,0,0,0,1,0⟩⟩,⟨none,0,0⟩,⟨none,0,0⟩⟩:Dg BB)],Y BO (.slice A15 z12.length c16) z12,Y BO (.slice A7 z4.length c8) z4,Y (At Ag) vS1 [(FW,[])],Y Af vP2 EG] [gl]:=H
     refine sc (Yj b3 vS24 vM25 vC26 vR27 vK28 J29 Ce N2.id N2.up d30 (.slice A36 zs32.length c37) wb33) H (lA 1 U (fun _ h=>h) l0) U U (Av Qk U U) ?_
     rintro _ _ w ⟨rfl,rfl⟩ H
     refine V U U (C1 U NF U U) (Ah 2 U (Ab (Z (Am (Aq U U ?_)))))
     replace H:=H.nil
     exact Al ⟨rfl,rfl⟩ H
    exact (h41 (by omega)).elim
   exact (h23 hz1).elim
  exact (h21 (by omega)).elim
 exact (h20 (by omega)).elim
structure LH where
 act:Int
 x:Int
 fr:Int
 to:Int
 m:CE
def cB:Fg LH where
 sz:=14
 enc a s p:=[.int .i64 a.act,.int .i64 a.x,.int .i64 a.fr,.int .i64 a.to,.int .i64 a.m.kind,.int .i64 a.m.sp,.int .i64 a.m.att,.int .i64 a.m.part,.int .i64 a.m.seq,.int .i64 a.m.next,.int .i64 a.m.ep,.int .i64 a.m.why,s,p]
 len _ _ _:=rfl
 one _ _ _ c h:=by
  simp only [List.mem_cons,List.not_mem_nil,or_false] at h
  rcases h with rfl|rfl|rfl|rfl|rfl|rfl|rfl|rfl|rfl|rfl|rfl|rfl|rfl|rfl<;>first |exact .inr (.inr rfl)|exact .inl rfl|exact .inr (.inl rfl)
 pos:=by omega
abbrev VO:=EI cB
section
variable {P:Program} {t:TypeId}
theorem YS {j i:TypeId} {W2:Ap→Prop} (hs:GI P t=some [(i,0,1),(i,1,1),(j,2,10)]) (hc:P.cellsOf t=12) (hi:P.underlying i=some (.int .i64)) (hm:Ga P j Jm (Ig If W2)):
  Ga P t BO (Ig (fun a=>AL a.fr∧AL a.to∧If a.m) W2):=by
 intro H enc w fuel cs x h
 obtain ⟨hl,n,hf⟩:=KU hs h
 rw [hc] at hl
 match cs,hl with
 |[c0,c11,c1,c2,c3,c4,c5,c6,c7,c8,c9,c10],_=>
  obtain ⟨y0,g0⟩:=hf 0 _ _ _ rfl
  obtain ⟨y2,g2⟩:=hf 1 _ _ _ rfl
  obtain ⟨y1,g1⟩:=hf 2 _ _ _ rfl
  obtain ⟨a0,r0,w0⟩:=Fz hi enc w n _ _ g0
  obtain ⟨a1,r1,w1⟩:=hm enc w n _ _ g1
  obtain ⟨a2,r2,w2⟩:=Fz hi enc w n _ _ g2
  have q0:[c0]=[Value.int .i64 a0]:=r0
  have q2:[c11]=[Value.int .i64 a2]:=r2
  obtain ⟨e,r3,r4⟩:=r1
  have e':[c1,c2,c3,c4,c5,c6,c7,c8,c9,c10]=Lo.e a1:=e
  simp only [List.cons.injEq,and_true] at q0 q2
  refine ⟨⟨⟨a0,a2,a1.h⟩,a1.sv,a1.set,a1.pv,a1.pairs⟩,⟨?_,r3,r4⟩,⟨w0,w2,w1.1⟩,w1.2⟩
  simp only [Lo,Fg.e,List.cons.injEq,and_true] at e'
  obtain ⟨e1,e2,e3,e4,e5,e6,e7,e8,e9,e10⟩:=e'
  rw [q0,q2,e1,e2,e3,e4,e5,e6,e7,e8,e9,e10]
  rfl
theorem YR {j i:TypeId} {W2:Ap→Prop} (hs:GI P t=some [(i,0,1),(i,1,1),(j,2,12)]) (hc:P.cellsOf t=14) (hi:P.underlying i=some (.int .i64)) (hm:Ga P j BO (Ig (fun a=>AL a.fr∧AL a.to∧If a.m) W2)):
  Ga P t VO (Ig (fun a=>AL a.act∧AL a.x∧AL a.fr∧AL a.to∧If a.m) W2):=by
 intro H enc w fuel cs x h
 obtain ⟨hl,n,hf⟩:=KU hs h
 rw [hc] at hl
 match cs,hl with
 |[c0,c13,c11,c12,c1,c2,c3,c4,c5,c6,c7,c8,c9,c10],_=>
  obtain ⟨y0,g0⟩:=hf 0 _ _ _ rfl
  obtain ⟨y2,g2⟩:=hf 1 _ _ _ rfl
  obtain ⟨y1,g1⟩:=hf 2 _ _ _ rfl
  obtain ⟨a0,r0,w0⟩:=Fz hi enc w n _ _ g0
  obtain ⟨a1,r1,w1⟩:=hm enc w n _ _ g1
  obtain ⟨a2,r2,w2⟩:=Fz hi enc w n _ _ g2
  have q0:[c0]=[Value.int .i64 a0]:=r0
  have q2:[c13]=[Value.int .i64 a2]:=r2
  obtain ⟨e,r3,r4⟩:=r1
  have e':[c11,c12,c1,c2,c3,c4,c5,c6,c7,c8,c9,c10]=Ln.e a1:=e
  simp only [List.cons.injEq,and_true] at q0 q2
  refine ⟨⟨⟨a0,a2,a1.h.fr,a1.h.to,a1.h.m⟩,a1.sv,a1.set,a1.pv,a1.pairs⟩,⟨?_,r3,r4⟩,⟨w0,w2,w1.1.1,w1.1.2.1,w1.1.2.2⟩,w1.2⟩
  simp only [Ln,Fg.e,List.cons.injEq,and_true] at e'
  obtain ⟨e1,e2,e3,e4,e5,e6,e7,e8,e9,e10,e11,e12⟩:=e'
  rw [q0,q2,e1,e2,e3,e4,e5,e6,e7,e8,e9,e10,e11,e12]
  rfl
end
theorem Yf (x:BB) (xsv:Value) (xse:List Int) (xpv:Value) (xpr:List Ap):
    Cn Tryz.prog 21 [.pointer none,.agg #[.int .i64 x.fr,.int .i64 x.to,.int .i64 x.m.kind,.int .i64 x.m.sp,.int .i64 x.m.att,.int .i64 x.m.part,.int .i64 x.m.seq,.int .i64 x.m.next,.int .i64 x.m.ep,.int .i64 x.m.why,xsv,xpv]] [] [] (fun v Bs=>v=.slice none 0 0∧Bs=[]):=by
 intro w0 F0 H
 refine enter Tryz.func21 U U (Nat.le_of_ble_eq_true U) (Aa (Ad (CT U U U U H (fun b1 w H=>(Ac U (Ab (Z ?_)))))))
 replace H:Hd _ _ _ [blk b1 [.int .i64 x.fr,.int .i64 x.to,.int .i64 x.m.kind,.int .i64 x.m.sp,.int .i64 x.m.att,.int .i64 x.m.part,.int .i64 x.m.seq,.int .i64 x.m.next,.int .i64 x.m.ep,.int .i64 x.m.why,xsv,xpv] 51] []:=H
 refine Aa (AX (Aa (Ad (Ac U (sc (Js) H l0 U U (Av HT U U) ?_)))))
 rintro _ _ w ⟨rfl,rfl⟩ H
 refine V U U (Ek U U U) (Ac U (Ab (Z (Ct U (Aa (Ad (Ac U (Ab (Z (Am (AY (Az (Aq U U ?_)))))))))))))
 replace H:=H.nil
 exact Al ⟨rfl,rfl⟩ H
theorem Yd  :
    Cn Tryz.prog 15 [.pointer none] [] [] (fun v Bs=>v=.slice none 0 0∧Bs=[]):=by
 intro w0 F0 H
 refine enter Tryz.func15 U U (Nat.le_of_ble_eq_true U) (Aa (Ad (Ac U (Ab (Z (Aa (Aa (Ad (Ac U (sc (Js) H l0 U U (Av HT U U) ?_))))))))))
 rintro _ _ w ⟨rfl,rfl⟩ H
 refine V U U (Ek U U U) (Ab (Z ?_))
 replace H:Hd _ _ _ [] []:=H
 exact Ct U (Aa (Ad (Ac U (Ab (Z (Am (Az (Aq U U (Al ⟨rfl,rfl⟩ H)))))))))
theorem Yc (kp:Int):
    Cn Tryz.prog 16 [.pointer none,.int .i64 kp] [] [] (fun v Bs=>v=.int .i64 1∧Bs=[]):=by
 intro w0 F0 H
 refine enter Tryz.func16 U U (Nat.le_of_ble_eq_true U) (Aa (Ad (Ac U (Ab (Z (Aa (AX (Aa (Ad (Ac U (V U U (C1 U F7 U U) (Ac U (Ab (Z (Ct U (Aa (Ad (Ac U (Ab (Z (Am (AY (Az (Aq U U ?_))))))))))))))))))))))))
 replace H:Hd _ _ _ [] []:=H
 exact Al ⟨rfl,rfl⟩ H
theorem Yl  :
    Cn Tryz.prog 17 [.pointer none] [] [] (fun v Bs=>v=.int .i64 1∧Bs=[]):=by
 intro w0 F0 H
 refine enter Tryz.func17 U U (Nat.le_of_ble_eq_true U) (Aa (Ad (Ac U (Ab (Z (Aa (AX (Aa (Ad (Ac U (V U U (C1 U F7 U U) (Ac U (Ab (Z (Ct U (Aa (Ad (Ac U (Ab (Z (Am (AY (Az (Aq U U ?_))))))))))))))))))))))))
 replace H:Hd _ _ _ [] []:=H
 exact Al ⟨rfl,rfl⟩ H
theorem Ym  :
    Cn Tryz.prog 19 [.pointer none] [] [] (fun v Bs=>v=.tuple #[]∧Bs=[]):=by
 intro w0 F0 H
 refine enter Tryz.func19 U U (Nat.le_of_ble_eq_true U) (Aa (Ad (Ac U (sc (Js) H l0 U U (Av HT U U) ?_))))
 rintro _ _ w ⟨rfl,rfl⟩ H
 refine Ab (Z ?_)
 replace H:Hd _ _ _ [] []:=H
 exact Cq U (AB (DX U (Al ⟨rfl,rfl⟩ H)))
theorem YB (x:LH) (xsv:Value) (xse:List Int) (xpv:Value) (xpr:List Ap) (wx:Ig (fun a:LH=>AL a.act∧AL a.x∧AL a.fr∧AL a.to∧If a.m) (fun p:Ap=>p.key.size≤9223372036854775807∧p.val.size≤9223372036854775807) ⟨x,xsv,xse,xpv,xpr⟩):
    Cn Tryz.prog 7 [.agg #[.int .i64 x.act,.int .i64 x.x,.int .i64 x.fr,.int .i64 x.to,.int .i64 x.m.kind,.int .i64 x.m.sp,.int .i64 x.m.att,.int .i64 x.m.part,.int .i64 x.m.seq,.int .i64 x.m.next,.int .i64 x.m.ep,.int .i64 x.m.why,xsv,xpv]] [] [Ae (Ai .i64) xsv xse,Ae Ag xpv xpr,gl] (fun v Bs=>v=.bool true∧Bs=[]):=by
 intro w0 F0 H
 obtain ⟨A1,c2,rfl,hc3,hm4,hp5⟩:=H.fR 0 rfl
 obtain ⟨A6,c7,rfl,hc8,hm9,hp10⟩:=H.fR 1 rfl
 refine enter Tryz.func7 U U (Nat.le_of_ble_eq_true U) (Aa (Ad (CT U U U U H (fun b11 w H=>(Ac U (Ab (Z ?_)))))))
 replace H:Hd _ _ _ [blk b11 [.int .i64 x.act,.int .i64 x.x,.int .i64 x.fr,.int .i64 x.to,.int .i64 x.m.kind,.int .i64 x.m.sp,.int .i64 x.m.att,.int .i64 x.m.part,.int .i64 x.m.seq,.int .i64 x.m.next,.int .i64 x.m.ep,.int .i64 x.m.why,.slice A1 xse.length c2,.slice A6 xpr.length c7] 53] [Ae (Ai .i64) (.slice A1 xse.length c2) xse,Ae Ag (.slice A6 xpr.length c7) xpr,gl]:=H
 refine Aa (Aa (Ad (V U U (Aj U Py U) (V U U (Aj U Mf U) (V U U (BD (cs:=[.int .i64 x.m.kind,.int .i64 x.m.sp,.int .i64 x.m.att,.int .i64 x.m.part,.int .i64 x.m.seq,.int .i64 x.m.next,.int .i64 x.m.ep,.int .i64 x.m.why,.slice A1 xse.length c2,.slice A6 xpr.length c7]) U Fq U U (H.cellsI 0 U U)) (sc (Vh (⟨x.m.kind,x.m.sp,x.m.att,x.m.part,x.m.seq,x.m.next,x.m.ep,x.m.why⟩:CE) (.slice A1 xse.length c2) xse (.slice A6 xpr.length c7) xpr) H (lR 0 U (lR 1 U l0)) U U (Av Xa U U) ?_))))))
 rintro _ _ w ⟨rfl,rfl⟩ H
 refine Ab (Z ?_)
 refine Dx (b:=Ku xse xpr) U (fun h12=>?_) (fun h12=>?_)
 ·refine Aa (Ad (sc (Oh) H (lR 2 U l0) U U (Av PX U U) ?_))
  rintro _ _ w ⟨rfl,rfl⟩ H
  refine Ac U (Ab (Z (Am (Az (Aq U U ?_)))))
  replace H:=H.nil
  exact Al ⟨rfl,rfl⟩ H
 refine AB (Z (Aa (Ad (Ac U (Ab (Z (Aa (Ad (Ac U (sc (Ym) H l0 U U (Av Wh U U) ?_))))))))))
 rintro _ _ w ⟨rfl,rfl⟩ H
 refine Ab (Z (Aa (Ad (Ac U (sc (Yn) H l0 U U (Av P8 U U) ?_)))))
 rintro _ _ w ⟨rfl,rfl⟩ H
 refine V U U (Bn U Hb U) (V U U (Bg U U U) (Ah 2 U (V U U (Aj U Py U) (V U U (BD (cs:=[.int .i64 x.fr,.int .i64 x.to,.int .i64 x.m.kind,.int .i64 x.m.sp,.int .i64 x.m.att,.int .i64 x.m.part,.int .i64 x.m.seq,.int .i64 x.m.next,.int .i64 x.m.ep,.int .i64 x.m.why,.slice A1 xse.length c2,.slice A6 xpr.length c7]) U Ly U U (H.cellsI 0 U U)) (sc (Yf (⟨x.fr,x.to,⟨x.m.kind,x.m.sp,x.m.att,x.m.part,x.m.seq,x.m.next,x.m.ep,x.m.why⟩⟩:BB) (.slice A1 xse.length c2) xse (.slice A6 xpr.length c7) xpr) H l0 U U (Av Wq U U) ?_)))))
 rintro _ _ w ⟨rfl,rfl⟩ H
 refine V U U (Bn U Hb U) (V U U (Bg U U U) (Ah 3 U (sc (Yd) H l0 U U (Av P2 U U) ?_)))
 rintro _ _ w ⟨rfl,rfl⟩ H
 refine V U U (Bn U Hb U) (V U U (Bg U U U) (Ah 3 U (V U U (Aj U U4 U) (V U U (An U AE U (H.cellI 0 U U)) (sc (Yc x.x) H l0 U U (Av Wc U U) ?_)))))
 rintro _ _ w ⟨rfl,rfl⟩ H
 refine V U U (Bg U U U) (Ah 3 U (sc (Yl) H l0 U U (Av Wd U U) ?_))
 rintro _ _ w ⟨rfl,rfl⟩ H
 refine V U U (Bg U U U) (Ah 3 U (sc (Js) H l0 U U (Av HT U U) ?_))
 rintro _ _ w ⟨rfl,rfl⟩ H
 refine V U U (Ek U U U) (Ah 3 U (sc (Yg) H l0 U U (Av Qa U U) ?_))
 rintro _ _ w ⟨rfl,rfl⟩ H
 refine V U U (Bg U U U) (Ah 3 U (sc (Ya) H l0 U U (Av P9 U U) ?_))
 rintro _ _ w ⟨rfl,rfl⟩ H
 refine V U U (C1 U Id U U) (Ah 3 U (sc (Yi) H l0 U U (Av Qk U U) ?_))
 rintro _ _ w ⟨rfl,rfl⟩ H
 refine V U U (C1 U NF U U) (Ah 3 U (sc (Yp) H l0 U U (Av V2 U U) ?_))
 rintro _ _ w ⟨rfl,rfl⟩ H
 refine V U U (C1 U NE U U) (Ah 2 U (sc (Oh) H (lR 2 U l0) U U (Av PX U U) ?_))
 rintro _ _ w ⟨rfl,rfl⟩ H
 refine Ah 2 U (Ab (Z (Am (Aq U U ?_))))
 replace H:=H.nil
 exact Al ⟨rfl,rfl⟩ H
theorem NI {P:Program} {W:World} {name:String} {g:Nat} {cs:Array Value} (hg:P.globalNamed name=some g) (h:W.var? P name=some cs):Gr W g:=by
 unfold World.var? at h
 rw [hg] at h
 simp only [Option.bind_some] at h
 show g<W.heap.size
 rcases Nat.lt_or_ge g W.heap.size with h'|h'
 ·exact h'
 ·simp [Array.getElem?_eq_none h'] at h
theorem Sj: "*" ++ "errors.errorString" = "*errors.errorString" :=by decide
theorem Ry (u:TypeId) (h:Tryz.prog.typeName? 3 u=some "*errors.errorString"):u=426:=typeName_ptr_named (nm:= "errors.errorString") (by rw [Sj];kernel_rfl) (by kernel_rfl) (by decide) u (by rw [Sj];exact h)
theorem Ml:Tryz.prog.globalNamed "internal/strconv.uint64pow10" =some 2:=by kernel_rfl
theorem Vk:(Tryz.prog.globals[2]?).map (·.type)=some 423:=by kernel_rfl
theorem Mm:Tryz.prog.globalNamed "strconv.ErrSyntax" =some 0:=by kernel_rfl
theorem Vl:(Tryz.prog.globals[0]?).map (·.type)=some 382:=by kernel_rfl
theorem Mn:Tryz.prog.globalNamed "strconv.ErrRange" =some 1:=by kernel_rfl
theorem Vm:(Tryz.prog.globals[1]?).map (·.type)=some 382:=by kernel_rfl
theorem QH:Tryz.prog.underlying 382=some (.interface (Tryz.prog.methodsAt 382)):=by kernel_rfl
theorem XN:Tryz.prog.underlying 423=some (.array 20 222):=by kernel_rfl
theorem XM:Tryz.prog.underlying 222=some (.int .u64):=by kernel_rfl
theorem QI:Tryz.prog.underlying 426=some (.pointer 428):=by kernel_rfl
theorem QJ:Tryz.prog.underlying 428=some (.struct #[⟨ "s",9,0,false, "", "errors",0⟩]):=by kernel_rfl
theorem QK:Tryz.prog.underlying 9=some (.string):=by kernel_rfl
theorem XC:Tryz.prog.cellsOf 222=1:=by kernel_rfl
theorem XD:Tryz.prog.cellsOf 423=20:=by kernel_rfl
theorem Qu:Tryz.prog.cellsOf 428=1:=by kernel_rfl
theorem Qv:Tryz.prog.cellsOf 9=1:=by kernel_rfl
theorem Vd {W:World} (h:laidMet Tryz.prog Rows.nodeLivesRow.laid W):gl.P W (Gr W):=by
 refine ⟨?_,?_,?_⟩
 ·have h0:laidMet Tryz.prog [("internal/strconv.uint64pow10",Lib.tabData .u64 Lib.pow10Tab)] W:=by
   have e:Rows.nodeLivesRow.laid.filter (fun x=>x.1== "internal/strconv.uint64pow10")=[("internal/strconv.uint64pow10",Lib.tabData .u64 Lib.pow10Tab)]:=by kernel_rfl
   have:=h.filter (fun x=>x.1== "internal/strconv.uint64pow10");rw [e] at this;exact this
  have hv:=Lib.tabIs_of_head Ml Vk XN XM XC XD h0
  exact ⟨_,Ml,NI Ml hv,_,hv,rfl⟩
 ·have h0:laidMet Tryz.prog [("strconv.ErrSyntax",Rows.laid_strconv_ErrSyntax)] W:=by
   have e:Rows.nodeLivesRow.laid.filter (fun x=>x.1== "strconv.ErrSyntax")=[("strconv.ErrSyntax",Rows.laid_strconv_ErrSyntax)]:=by kernel_rfl
   have:=h.filter (fun x=>x.1== "strconv.ErrSyntax");rw [e] at this;exact this
  obtain ⟨a0,s0,hv, -⟩:=laid_sentinel h0 Mm Vl QH Ry QI QJ rfl rfl QK Qu Qv
  exact ⟨_,Mm,NI Mm hv,_,hv,_,_,rfl⟩
 ·have h0:laidMet Tryz.prog [("strconv.ErrRange",Rows.laid_strconv_ErrRange)] W:=by
   have e:Rows.nodeLivesRow.laid.filter (fun x=>x.1== "strconv.ErrRange")=[("strconv.ErrRange",Rows.laid_strconv_ErrRange)]:=by kernel_rfl
   have:=h.filter (fun x=>x.1== "strconv.ErrRange");rw [e] at this;exact this
  obtain ⟨a0,s0,hv, -⟩:=laid_sentinel h0 Mn Vm QH Ry QI QJ rfl rfl QK Qu Qv
  exact ⟨_,Mn,NI Mn hv,_,hv,_,_,rfl⟩
end Go.Proofs.YthhajcnbjiiclaaGreatDoor.X
