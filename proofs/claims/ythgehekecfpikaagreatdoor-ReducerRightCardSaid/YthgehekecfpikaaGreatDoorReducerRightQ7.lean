/- ReducerRight: texts M1, K1, K2, M2, M3, W1, M4, XMprA, A1, M5, M6, M7, L10, G1, joined by a program of ours; what nothing names is left out. -/
import Derived.Test.YthgehekecfpikaaGreatDoorReducerRightQ6
import Derived.KernelRfl
import Derived.Test.YthgehekecfpikaaGreatDoorRows
import Derived.LaidSub
import Derived.Lib.LaidTab
import Derived.Stop.LaidErr
set_option linter.unusedVariables false
set_option linter.unusedSimpArgs false
set_option maxHeartbeats 8000000
namespace Go.Proofs.YthgehekecfpikaaGreatDoor.X
open Go
theorem Ti (c:Int) (a:Int) (hc:1≤c∧c≤7):
    Cn Tryz.prog 168 [.int .i64 c,.int .i64 a] [] [] (fun v Bs=>v=.int .i64 (CK c a)∧Bs=[]):=by
 intro w0 F0 H
 refine enter Tryz.func168 U U (Nat.le_of_ble_eq_true U) (Ab (Ae (Ad U (Ac (Z (Ab (Ab (Ae (Ad U (V U U (Hf (z:=a.tmod 2) U U U (by omega) U) (V U U (CN U U U) (Ac (Z ?_)))))))))))))
 refine Az U (fun h1=>?_) (fun h1=>?_)
 ·refine Ab (Ae (Ad U (V U U (A0 (z:=c+1) U U U (AF (by omega) (by omega))) (Ad U (Ac (Z (Ap (AA (Aq U U ?_)))))))))
  replace H:Hd _ _ _ [] []:=H
  exact Am ⟨congrArg (Value.int .i64) (if_pos h1).symm,rfl⟩ H
 refine Aw (Z (Ab (Ae (Ah 2 U (Ac (Z (Ap (Aq U U ?_))))))))
 replace H:Hd _ _ _ [] []:=H
 exact Am ⟨congrArg (Value.int .i64) (if_neg h1).symm,rfl⟩ H
theorem Lk (n:Int) (size:Int) (hn:0≤n∧n≤1000000):
    Cn Tryz.prog 105 [.int .i64 n,.int .i64 size] [] [] (fun v Bs=>v=.int .i64 (De n size)∧Bs=[]):=by
 intro w0 F0 H
 refine enter Tryz.func105 U U (Nat.le_of_ble_eq_true U) (Ab (Ae (Ad U (Ac (Z (Ab (Ab (Ae (Ad U (V U U (Bd U U U) (Ad U ?_)))))))))))
 refine AU (d:=7) U (fun h1=>?_) (fun h1=>?_)
 ·refine Ah 3 U (Ac (Z (B8 U (Ab (Ae (Ad U (Ac (Z (Ap (AA (Aq U U ?_)))))))))))
  replace H:Hd _ _ _ [] []:=H
  exact Am ⟨congrArg (Value.int .i64) (if_pos (by omega)).symm,rfl⟩ H
 refine Ad U (V U U (Bd U U U) (Ad U (Ac (Z ?_))))
 refine Az U (fun h2=>?_) (fun h2=>?_)
 ·refine Ab (Ae (Ad U (Ac (Z (Ap (AA (Aq U U ?_)))))))
  replace H:Hd _ _ _ [] []:=H
  exact Am ⟨congrArg (Value.int .i64) (if_pos (by omega)).symm,rfl⟩ H
 refine Aw (Z (Ab ?_))
 have htd:=ZU (n:=n - 1) (size:=size) (by omega) (by omega)
 refine Ae (Ad U (V U U (Cj (z:=n - 1) U U U (AF (by omega) (by omega))) (Ad U (V U U (Ky (z:=(n - 1).tdiv size) U U U (by omega) (AF (by omega) (by omega))) (V U U (A0 (z:=((n - 1).tdiv size)+1) U U U (AF (by omega) (by omega))) (Ad U (Ac (Z (Ap (Aq U U ?_))))))))))
 replace H:Hd _ _ _ [] []:=H
 exact Am ⟨congrArg (Value.int .i64) (if_neg (by omega)).symm,rfl⟩ H
theorem Tg (vps:Value) (ps:List Al) (size:Int) (q:Int) (hl:ps.length≤1000) (hs:1≤size∧size≤8):
    Cn Tryz.prog 113 [vps,.int .i64 size,.int .i64 q] [] [Aa Ag vps ps] (fun v Bs=>Bs=[Y Ag v (D7 ps size q)]):=by
 intro w0 F0 H
 obtain ⟨A1,c2,rfl,hc3,hm4,hp5⟩:=H.fR 0 rfl
 refine enter Tryz.func113 U U (Nat.le_of_ble_eq_true U) (Ab (Ae (Ad U (Ac (Z ?_)))))
 replace H:Hd _ _ _ [] [Aa Ag (.slice A1 ps.length c2) ps]:=H
 refine Ab (Ab (Ae (Ad U (V U U (Bd U U U) (Ad U ?_)))))
 refine AU (d:=10) U (fun h6=>?_) (fun h6=>?_)
 ·refine Ah 7 U (Ac (Z (B8 U (Ab (Ae (Ad U (Ac (Z (Ap (AA (Aq U U ?_)))))))))))
  replace H:=H.newnil Ag|>.tellK (ys:=D7 ps size q) (by rw [N2 (by omega)])|>.h1 (A:=Y Ag (.slice none 0 0) (D7 ps size q))
  exact Am U H
 refine Ah 2 U (V U U (A8 U CH U) (Ad U (sc (Lk ((ps.length:Nat):Int) size (by first |assumption|omega|(simp only [List.length_take,List.length_drop];omega))) H l0 U U (At LU U U) ?_)))
 rintro _ _ w ⟨rfl,rfl⟩ H
 refine V U U (Cw U U U) (Ad U (Ac (Z ?_)))
 refine Az U (fun h7=>?_) (fun h7=>?_)
 ·refine Ab (Ae (Ad U (Ac (Z (Ap (AA (Aq U U ?_)))))))
  replace H:=H.newnil Ag|>.tellK (ys:=D7 ps size q) (by rw [N2 (by omega)])|>.h1 (A:=Y Ag (.slice none 0 0) (D7 ps size q))
  exact Am U H
 refine Aw (Z (Ab ?_))
 have hlo:=SR (n:=ps.length) (size:=size) (q:=q) (by omega) (by omega) hs.1
 obtain ⟨m,hm⟩:∃ m:Nat,q*size=(m:Int):=⟨(q*size).toNat,by omega⟩
 obtain ⟨k,hk⟩:∃ k:Nat,min size (((ps.length - m:Nat):Int))=(k:Int):=⟨(min size (((ps.length - m:Nat):Int))).toNat,by omega⟩
 refine Ae (Ah 3 U (V U U (He (z:=((m:Nat):Int)) U U U (by rw [hm];exact AF (by omega) (by omega))) (V U U (Js U BA U U (by omega) (by omega) U) (Ad U (Ac (Z (Ab (Ae (Ah 3 U (V U U (A8 U CH U) (V U U (IB (z:=((k:Nat):Int)) U U U hk) (V U U (Jr U BA U U (by omega) (by omega) U) (sc (Hx (.slice (DG A1 c2 m 2) k (c2 - m)) ((ps.drop m).take k) (by first |assumption|omega|(simp only [List.length_take,List.length_drop];omega))) H (lX (fun F hA hR=>KD (hR _ (List.mem_of_getElem? (i:=0) U)) (i:=m) (m':=k) (by omega)) l0) U U (At HJ U U) ?_)))))))))))))
 rintro v8 _ w rfl H
 replace H:=H.h1 (A:=Y Ag v8 ((ps.drop m).take k))
 refine Ad U (Ac (Z (Ap (Aq U U ?_))))
 replace H:=H.tellK (ys:=D7 ps size q) (by rw [Th (by omega) (by omega) hs.1 hm hk])|>.h1 (A:=Y Ag v8 (D7 ps size q))
 exact Am U H
theorem NT (vb:Value) (bs:List UInt8) (n:Nat) (hb:bs.length≤1000000) (hn:n<9223372036854775808):
    Cn Tryz.prog 159 [vb,.int .i64 ((n:Nat):Int)] [] [Aa B2 vb bs] (fun v Bs=>Bs=[Y B2 v (bs++Cd n)]):=by
 intro w0 F0 H
 obtain ⟨A1,c2,rfl,hc3,hm4,hp5⟩:=H.fR 0 rfl
 refine enter Tryz.func159 U U (Nat.le_of_ble_eq_true U) (Ab (Ae (Ad U (Ac (Z ?_)))))
 replace H:Hd _ _ _ [] [Aa B2 (.slice A1 bs.length c2) bs]:=H
 refine Ab (Ae (Ad U (V U U (A8 U GJ U) (Ad U (V U U (A8 U GJ U) (V U U (A0 (z:=((bs.length+8:Nat):Int)) U U U (by rw [AF (by omega) (by omega)];omega)) (Y2 (m:=bs.length) (c:=bs.length+8) (a0:=(0:UInt8)) (enc:=EO) U U U Hi K7 U (by decide) UC U U (by omega) (by omega) (by omega) H (fun b6 w H=>?_))))))))
 replace H:=H.h1 (A:=IF EO b6 5 (List.replicate (bs.length+8) (0:UInt8)))
 refine Ad U (Ac (Z (Ab (Ae (Ah 2 U (YZ (ys:=bs) U U U Hi U U H (by simp) (by omega) (fun F hA hR=>hR _ (List.mem_of_getElem? (i:=0) U)) (fun w H=>?_)))))))
 replace H:Hd w0 F0 w [Y B2 (.slice (some ⟨b6,0,none⟩) bs.length (bs.length+8)) bs] [Aa B2 (.slice A1 bs.length c2) bs]:=H.turn (fun F h=>YI h (by simp) rfl (by simp) (by omega))
 refine Ac (Z (Ab (Ab (Ae (Ad U (Ac (Z (AW ?_))))))))
 replace H:Hd w0 F0 w [Y B2 (.slice (some ⟨b6,0,none⟩) bs.length (bs.length+8)) (bs++(Cd n).take 0)] [Aa B2 (.slice A1 bs.length c2) bs]:=by rw [List.take_zero,List.append_nil];exact H
 refine BT (σ:=Nat×Value) (fun (i,q)=>[(1,.int .i64 ((n:Nat):Int)),(4,.slice none 0 0),(5,q),(16,.int .i64 ((i:Nat):Int))]) (fun (i,q) w=>(Hd w0 F0 w [Y B2 q (bs++(Cd n).take i)] [Aa B2 (.slice A1 bs.length c2) bs])∧(i≤8)) (fun (i,q)=>8 - i) (0,.slice (some ⟨b6,0,none⟩) bs.length (bs.length+8)) ⟨rfl,rfl,rfl,rfl,trivial⟩ ⟨H,Nat.zero_le _⟩ ?_
 rintro ⟨i,q⟩ w ⟨H,hi⟩
 have hbl:=FH n
 have htl:((Cd n).take i).length≤8:=by rw [List.length_take];omega
 refine Ab (Ae (V U U (Bd U U U) (Ac (Z (Ab ?_)))))
 refine Az U (fun h7=>?_) (fun h7=>?_)
 ·refine Aw (Z (Ab (AW (Ab (Ae (Ah 2 U (Ac (Z (Ae (Ah 2 U (V U U (DC (z:=((n:Nat):Int)) U U Dj HW (Fs (by omega) (by omega))) (Ad U (V U U (Cj (z:=7 - ((i:Nat):Int)) U U U (AF (by omega) (by omega))) (V U U (He (z:=8*(7 - ((i:Nat):Int))) U U U (AF (by omega) (by omega))) (V U U (DC (z:=8*(7 - ((i:Nat):Int))) U U Dj Fb (Fs (by omega) (by omega))) (V U U (IC (z:=((n / 256^(7 - i):Nat):Int)) U U U (by omega) (Zo n (by omega))) (V U U (DC (z:=((UInt8.ofNat (n / 256^(7 - i))).toNat:Int)) U U HW HY (bB _)) (BU (parts:=[(0,.tmp 27)]) (vs:=[.int .u8 ((UInt8.ofNat (n / 256^(7 - i))).toNat:Int)]) (cs:=[.int .u8 ((UInt8.ofNat (n / 256^(7 - i))).toNat:Int)]) U U U Hi K7 U (by decide) (by decide) U U H (fun b8 w H=>?_)))))))))))))))))))
  replace H:=H.p1
  refine CG (xs:=bs++(Cd n).take i) (ys:=[UInt8.ofNat (n / 256^(7 - i))]) U U U Hi K7 U (by decide) U U H (by first |omega|(simp only [List.length_append,List.length_cons,List.length_nil];omega)) (fun F hA hR=>Ch (hA _ (List.mem_of_getElem? (i:=0) U)) U (by decide) (AZ.flat_eq.2 U)) (fun v9 w H=>(Ad U (Ac (A_ (Z ?_)))))
  replace H:Hd _ _ _ [Y B2 v9 ((bs++(Cd n).take i)++[UInt8.ofNat (n / 256^(7 - i))]),blk b8 [.int .u8 ((UInt8.ofNat (n / 256^(7 - i))).toNat:Int)] 5] [Aa B2 (.slice A1 bs.length c2) bs]:=H
  refine Ae (V U U (A0 (z:=((i+1:Nat):Int)) U U U (by rw [AF (by omega) (by omega)];omega)) (Ad U (Ac ?_)))
  replace H:=H.k1
  replace H:Hd w0 F0 w [Y B2 v9 (bs++(Cd n).take (i+1))] [Aa B2 (.slice A1 bs.length c2) bs]:=by rw [Sr n (by omega),←List.append_assoc];exact H
  exact Bl (s:=(i,undef)) (i+1,v9) ⟨rfl,rfl,rfl,rfl,trivial⟩ ⟨H,by (try dsimp only);omega⟩ (by (try dsimp only);omega)
 refine BM (AR (AR (BN (Z (Ab (Ae (Ah 2 U (Ac (Z (Ap (Aq U U ?_)))))))))))
 replace H:=H.h1 (A:=Y B2 q (bs++(Cd n).take i))
 replace H:Hd w0 F0 w [Y B2 q (bs++Cd n)] [Aa B2 (.slice A1 bs.length c2) bs]:=by rw [List.take_of_length_le (by omega)] at H;exact H
 exact Am U H
theorem NU (vb:Value) (bs:List UInt8) (s:ByteArray) (hb:bs.length≤900000) (hs:s.size≤900000):
    Cn Tryz.prog 160 [vb,.string s] [] [Aa B2 vb bs] (fun v Bs=>Bs=[Y B2 v (bs++Dd s)]):=by
 intro w0 F0 H
 refine enter Tryz.func160 U U (Nat.le_of_ble_eq_true U) (Ab (Ae (Ad U (Ac (Z (Ab (Ae (Ah 2 U (V U U (Dn U Ct U) (sc (NT vb bs s.size (by first |assumption|omega) (by first |assumption|omega)) H (lR 0 U l0) U U (At O9 U U) ?_))))))))))
 rintro v1 _ w rfl H
 refine Ad U (YV U U U Hi K7 U (by decide) Ct U U H (by rw [List.length_append,FH];omega) (fun v2 w H=>(Ad U (Ac (Z ?_)))))
 replace H:Hd _ _ _ [Y B2 v2 ((bs++Cd s.size)++Cq s)] [Aa B2 vb bs]:=H
 refine Ap (Aq U U ?_)
 replace H:Hd w0 F0 w [Y B2 v2 (bs++Dd s)] [Aa B2 vb bs]:=by unfold Dd;rw [←List.append_assoc];exact H
 exact Am U H
theorem QH (vb:Value) (bs:List UInt8) (a:Int) (hb:bs.length≤1000000) (ha:Ax a):
    Cn Tryz.prog 203 [vb,.int .i64 a] [] [Aa B2 vb bs] (fun v Bs=>v=.tuple #[.int .i64 ((Cr bs a).1),.int .i64 ((Cr bs a).2.1),.bool ((Cr bs a).2.2)]∧Bs=[]):=by
 intro w0 F0 H
 obtain ⟨A1,c2,rfl,hc3,hm4,hp5⟩:=H.fR 0 rfl
 unfold Ax at ha
 refine enter Tryz.func203 U U (Nat.le_of_ble_eq_true U) (Ab (Ae (Ah 3 U (Ac (Z ?_)))))
 replace H:Hd _ _ _ [] [Aa B2 (.slice A1 bs.length c2) bs]:=H
 refine Ab (Ab (Ae (Ad U (V U U (Bd U U U) (Ad U ?_)))))
 refine AU (d:=12) U (fun h6=>?_) (fun h6=>?_)
 ·refine Ah 12 U (Ac (Z (B8 U (Ab (Ae (Ah 3 U (Ac (Z (Ap (AA (Ge U U U U ?_)))))))))))
  have e:=Ju (b:=bs) (at_:=a) (by omega)
  exact Am ⟨by rw [e]<;>rfl,rfl⟩ H
 refine Ah 2 U (V U U (A8 U GJ U) (V U U (Ca U U U) (Ah 2 U ?_)))
 refine AU (d:=18) U (fun h7=>?_) (fun h7=>?_)
 ·refine Ah 6 U (Ac (Z (B8 U (Ab (Ae (Ah 3 U (Ac (Z (Ap (AA (Ge U U U U ?_)))))))))))
  have e:=Ju (b:=bs) (at_:=a) (by omega)
  exact Am ⟨by rw [e]<;>rfl,rfl⟩ H
 refine Ad U (V U U (A8 U GJ U) (Ad U (V U U (Cj (z:=((bs.length:Nat):Int) - a) U U U (AF (by omega) (by omega))) (V U U (Bd U U U) (Ad U (Ac (Z ?_)))))))
 refine Az U (fun h8=>?_) (fun h8=>?_)
 ·refine Ab (Ae (Ah 3 U (Ac (Z (Ap (AA (Ge U U U U ?_)))))))
  have e:=Ju (b:=bs) (at_:=a) (by omega)
  exact Am ⟨by rw [e]<;>rfl,rfl⟩ H
 refine Aw (Z (Ab (Ae (Ad U (Ac (Z (Ab (Ab (Ae (Ah 3 U (V U U (A0 (z:=a+8) U U U (AF (by omega) (by omega))) (V U U (Qs (i':=(a).toNat) (j':=(a+8).toNat) (m':=8) U Hi U U U (by omega) (by omega) (by omega) U U (by omega)) (V U U (A8 U GJ U) (Ad U (Ac (Z (AW (BT (σ:=Nat) (fun i=>[(1,.int .i64 a),(4,.int .i64 0),(5,.int .i64 0),(6,.bool false),(7,.int .u64 ((EX (((bs.drop (a).toNat).take 8).take i):Nat):Int)),(29,.slice (DG A1 c2 ((a).toNat) 1) 8 (c2 - ((a).toNat))),(30,.int .i64 ((8:Nat):Int)),(31,.int .i64 ((i:Nat):Int))]) (fun i w=>(Hd w0 F0 w [] [Aa B2 (.slice A1 bs.length c2) bs])∧(i≤8)) (fun i=>8 - i) 0 ⟨rfl,rfl,rfl,rfl,rfl,rfl,rfl,rfl,trivial⟩ ⟨H,Nat.zero_le _⟩ ?_))))))))))))))))))
 rintro i w ⟨H,hi⟩
 have hlt:=Yi (((bs.drop (a).toNat).take 8).take i) 0
 have hle8:(((bs.drop (a).toNat).take 8).take i).length≤i:=by rw [List.length_take];omega
 refine Ab (Ae (V U U (Bd U U U) (Ac (Z (Ab ?_)))))
 refine Az U (fun h9=>?_) (fun h9=>?_)
 ·refine Aw (Z (Ab (AW (Ab (Ae ?_)))))
  obtain ⟨x10,hx11⟩:∃ z9,((bs.drop ((a).toNat)).take 8)[i]?=some z9:=⟨_,List.getElem?_eq_getElem (show i<((bs.drop ((a).toNat)).take 8).length by simp only [List.length_take,List.length_drop];omega)⟩
  have th12:=H.thX (fun F hA hR=>KD (hR _ (List.mem_of_getElem? (i:=0) rfl)) (i:=(a).toNat) (m':=8) (by omega)) hx11
  refine V U U (Ba (p:=AT (DG A1 c2 ((a).toNat) 1)+i*1) U Hi U U (by omega) (by omega) th12 U) (V U U (Ao U Z8 U (H.elX (fun F hA hR=>KD (hR _ (List.mem_of_getElem? (i:=0) U)) (i:=(a).toNat) (m':=8) (by omega)) hx11 (q:=0) U U)) (Ad U (Ac (Z ?_))))
  have hx8:=UInt8.toNat_lt x10
  have hm7:EX (((bs.drop (a).toNat).take 8).take i)<72057594037927936:=Nat.lt_of_lt_of_le hlt (Nat.le_trans (Nat.pow_le_pow_right (by omega) (show _≤7 by omega)) (by decide))
  refine Ae (Ad U (V U U (Yg (z:=((EX (((bs.drop (a).toNat).take 8).take i)*256:Nat):Int)) U U U (by omega) (Zn hm7)) (Ad U (V U U (DC (z:=((x10.toNat:Nat):Int)) U U HY HW (Fs (by omega) (by omega))) (V U U (X2 (z:=((EX (((bs.drop (a).toNat).take 8).take i)*256+x10.toNat:Nat):Int)) U (by simp) U U (Xj hm7 _)) (Ad U (Ac (A_ (Z (Ae (V U U (A0 (z:=((i+1:Nat):Int)) U U U (by rw [AF (by omega) (by omega)];omega)) (Ad U (Ac ?_)))))))))))))
  have hst:=Yk hx11
  exact Bl (s:=i) (i+1) ⟨rfl,rfl,rfl,rfl,(by (try dsimp only);rw [hst];rfl),rfl,rfl,rfl,trivial⟩ ⟨H,by (try dsimp only);omega⟩ (by (try dsimp only);omega)
 refine BM (AR (AR (BN (Z (Ab (Ae (Ad U (V U U (DC (z:=IntKind.i64.wrap ((EX ((bs.drop (a).toNat).take 8):Nat):Int)) U U HW Dj (by rw [List.take_of_length_le (by rw [List.length_take];omega)])) (Ad U (V U U (A0 (z:=a+8) U U U (AF (by omega) (by omega))) (Ah 3 U (Ac (Z (Ap (Ge U U U U ?_)))))))))))))))
 have e:=MI (b:=bs) (at_:=a) (by omega)
 exact Am ⟨by rw [e]<;>rfl,rfl⟩ H
theorem QI (vb:Value) (bs:List UInt8) (a:Int) (hb:bs.length≤1000000) (ha:Ax a):
    Cn Tryz.prog 204 [vb,.int .i64 a] [] [Aa B2 vb bs] (fun v Bs=>v=.tuple #[.string ((Fp bs a).1),.int .i64 ((Fp bs a).2.1),.bool ((Fp bs a).2.2)]∧Bs=[]):=by
 intro w0 F0 H
 obtain ⟨A1,c2,rfl,hc3,hm4,hp5⟩:=H.fR 0 rfl
 refine enter Tryz.func204 U U (Nat.le_of_ble_eq_true U) (Ab (Ae (Ah 3 U (Ac (Z ?_)))))
 replace H:Hd _ _ _ [] [Aa B2 (.slice A1 bs.length c2) bs]:=H
 refine Ab (Ae (Ah 2 U (sc (QH (.slice A1 bs.length c2) bs a (by first |assumption|omega) (by first |assumption|omega)) H (lR 0 U l0) U U (At Pe U U) ?_)))
 rintro _ _ w ⟨rfl,rfl⟩ H
 refine Ah 7 U (Ac (Z (Ab (Ab ?_))))
 have hi6:=@Yl bs a
 have hin:=@Ym bs a
 refine Ae (Ad U (V U U (Ep U U U) (Ad U ?_)))
 refine Es (d:=19) (b:=!((Cr bs a).2.2)) U (fun h6=>?_) (fun h6=>?_)
 ·refine Ah 11 U (Ac (Z (B8 U (Ab (Ae (Ah 3 U (Ac (Z (Ap (AA (Ge U U U U ?_)))))))))))
  have e:=Yn (b:=bs) (at_:=a) (by simpa using h6)
  exact Am ⟨by rw [e]<;>rfl,rfl⟩ H
 have hii:=hin (by simpa using h6)
 refine Ad U (V U U (Bd U U U) (Ah 2 U ?_))
 refine AU (d:=23) U (fun h7=>?_) (fun h7=>?_)
 ·refine Ah 7 U (Ac (Z (B8 U (Ab (Ae (Ah 3 U (Ac (Z (Ap (AA (Ge U U U U ?_)))))))))))
  have e:=(MJ (b:=bs) (at_:=a) (by simpa using h6)).trans (if_pos (by omega))
  exact Am ⟨by rw [e]<;>rfl,rfl⟩ H
 refine Ah 2 U (V U U (A8 U GJ U) (Ad U (V U U (Cj (z:=((bs.length:Nat):Int) - ((Cr bs a).2.1)) U U U (AF (by omega) (by omega))) (V U U (Ca U U U) (Ad U (Ac (Z ?_)))))))
 refine Az U (fun h8=>?_) (fun h8=>?_)
 ·refine Ab (Ae (Ah 3 U (Ac (Z (Ap (AA (Ge U U U U ?_)))))))
  have e:=(MJ (b:=bs) (at_:=a) (by simpa using h6)).trans (if_pos (by omega))
  exact Am ⟨by rw [e]<;>rfl,rfl⟩ H
 refine Aw (Z (Ab (Ae (Ah 4 U (V U U (A0 (z:=((Cr bs a).2.1)+((Cr bs a).1)) U U U (AF (by omega) (by omega))) (V U U (Qs (i':=((Cr bs a).2.1).toNat) (j':=((Cr bs a).2.1+(Cr bs a).1).toNat) (m':=((Cr bs a).1).toNat) U Hi U U U (by omega) (by omega) (by omega) U U (by omega)) (V U U (H.read fun F hA hR=>Qq U GJ HY Ct U U (KD (hR _ (List.mem_of_getElem? (i:=0) U)) (i:=((Cr bs a).2.1).toNat) (m':=((Cr bs a).1).toNat) (by omega))) (Ah 2 U (V U U (A0 (z:=((Cr bs a).2.1)+((Cr bs a).1)) U U U (AF (by omega) (by omega))) (Ah 3 U (Ac (Z (Ap (Ge U U U U ?_))))))))))))))
 have e:=(MJ (b:=bs) (at_:=a) (by simpa using h6)).trans (if_neg (by omega))
 exact Am ⟨by rw [e]<;>rfl,rfl⟩ H
theorem Xy (vps:Value) (ps:List Al) (hl:ps.length≤1000) (hsz:∀ p∈ps,p.key.size≤100∧p.val.size≤100):
    Cn Tryz.prog 97 [vps] [] [Aa Ag vps ps] (fun v Bs=>v=.string (Bi ps)∧Bs=[]):=by
 intro w0 F0 H
 obtain ⟨A1,c2,rfl,hc3,hm4,hp5⟩:=H.fR 0 rfl
 refine enter Tryz.func97 U U (Nat.le_of_ble_eq_true U) (Ab (Ae (Ad U (Ac (Z ?_)))))
 replace H:Hd _ _ _ [] [Aa Ag (.slice A1 ps.length c2) ps]:=H
 refine Ab (Ae (Ad U (V U U (A8 U CH U) (sc (NT (.slice none 0 0) [] ps.length (by first |assumption|omega|(simp only [List.length_nil];omega)) (by first |assumption|omega|(simp only [List.length_nil];omega))) H (lX (fun F _ _=>IG _ _ F trivial (by decide)) l0) U U (At O9 U U) ?_))))
 rintro v6 _ w rfl H
 replace H:=H.h1 (A:=Y B2 v6 ([]++Cd ps.length))
 refine Ad U (Ac (Z (Ab (Ab (Ae (Ad U (V U U (A8 U CH U) (Ad U (Ac (Z (AW ?_)))))))))))
 replace H:Hd w0 F0 w [Y B2 v6 (Cd ps.length++CB (ps.take 0))] [Aa Ag (.slice A1 ps.length c2) ps]:=by rw [List.take_zero];simpa [CB] using H
 refine BT (σ:=Nat×Value) (fun (i,q)=>[(2,.string ⟨#[]⟩),(3,q),(9,.slice A1 ps.length c2),(10,.int .i64 ((ps.length:Nat):Int)),(11,.int .i64 ((i:Nat):Int))]) (fun (i,q) w=>(Hd w0 F0 w [Y B2 q (Cd ps.length++CB (ps.take i))] [Aa Ag (.slice A1 ps.length c2) ps])∧(i≤ps.length)) (fun (i,q)=>ps.length - i) (0,v6) ⟨rfl,rfl,rfl,rfl,rfl,trivial⟩ ⟨H,Nat.zero_le _⟩ ?_
 rintro ⟨i,q⟩ w ⟨H,hi⟩
 have hpl:=Mw (ps:=ps.take i) (fun p hp=>hsz p (List.mem_of_mem_take hp))
 have hpi:(ps.take i).length≤i:=by rw [List.length_take];omega
 have hbl:(Cd ps.length++CB (ps.take i)).length=8+(CB (ps.take i)).length:=by rw [List.length_append,FH]
 refine Ab (Ae (V U U (Bd U U U) (Ac (Z (Ab ?_)))))
 refine Az U (fun h7=>?_) (fun h7=>?_)
 ·refine Aw (Z (Ab (AW (Ab (Ae ?_)))))
  obtain ⟨x8,hx9⟩:∃ z9,ps[i]?=some z9:=⟨_,List.getElem?_eq_getElem (show i<ps.length by omega)⟩
  have th10:=H.thR 0 rfl hx9
  refine V U U (Ba (p:=AT A1+i*2) U BA U U (by omega) (by omega) th10 U) (V U U (Bu (cs:=[.string x8.key,.string x8.val]) U Cb U U (H.elsR 0 U hx9 U)) (Dr U U U CT H (fun b11 w H=>(Bo U U U Cb U U H U (Nat.le_of_ble_eq_true U) (fun u hu=>by simp [Value.cells] at hu;rcases hu with rfl|rfl<;>rfl) (fun w H=>?_)))))
  replace H:=H.h2 (A:=blk b11 [.string x8.key,.string x8.val] 106) (B:=Y B2 q (Cd ps.length++CB (ps.take i)))
  refine Ac (Z ?_)
  have hxs:=hsz _ (B6 hx9)
  have htk:=IP x8.key
  have hbl2:((Cd ps.length++CB (ps.take i))++Dd x8.key).length=(Cd ps.length++CB (ps.take i)).length+(Dd x8.key).length:=List.length_append
  refine BP (.e 0 (.e 1 (.e 2 (.e 4 (.e 5 (.m 3 (.m 6 (.e 7 .z)))))))) (fun w=>∃ Ar,Hd w0 F0 w (blk b11 [.string x8.key,.string x8.val] 106::Y B2 q (Cd ps.length++CB (ps.take i))::Ar) [Aa Ag (.slice A1 ps.length c2) ps]) mo (by kernel_rfl) (fun w H=>⟨_,H⟩) H (fun w H=>(Au U (An U U U (fun w ⟨Ar,H⟩=>Aj U Fh U) (An U U U (fun w ⟨Ar,H⟩=>Ao U BV U (H.cellI 0 U U)) (An U U U (fun w ⟨Ar,H⟩=>Aj U Ih U) (An U U U (fun w ⟨Ar,H⟩=>Ao U BV U (H.cellI 0 U U)) (AK U (sc (NU q (Cd ps.length++CB (ps.take i)) x8.key (by first |assumption|omega|(simp only [List.length_nil];omega)) (by first |assumption|omega|(simp only [List.length_nil];omega))) H (lA 1 U BE l0) U U (At O_ U U) ?_))))))))
  rintro v12 _ w rfl H
  replace H:=H.h1 (A:=Y B2 v12 ((Cd ps.length++CB (ps.take i))++Dd x8.key))|>.p2|>.p2
  refine AH ⟨_,H⟩ (AK U (sc (NU v12 ((Cd ps.length++CB (ps.take i))++Dd x8.key) x8.val (by first |assumption|omega|(simp only [List.length_nil];omega)) (by first |assumption|omega|(simp only [List.length_nil];omega))) H (lA 2 U BE l0) U U (At O_ U U) ?_))
  rintro v13 _ w rfl H
  replace H:=H.h1 (A:=Y B2 v13 (((Cd ps.length++CB (ps.take i))++Dd x8.key)++Dd x8.val))|>.p2|>.p2
  refine AH ⟨_,H⟩ (Au U (BH (A_ (Z (Ae (V U U (A0 (z:=((i+1:Nat):Int)) U U U (by rw [AF (by omega) (by omega)];omega)) (Ad U (Ac ?_))))))))
  replace H:=H.p2.k1
  replace H:Hd w0 F0 w [Y B2 v13 (Cd ps.length++CB (ps.take (i+1)))] [Aa Ag (.slice A1 ps.length c2) ps]:=by rw [Fr hx9,Qb,←List.append_assoc,←List.append_assoc];exact H
  exact Bl (s:=(i,undef)) (i+1,v13) ⟨rfl,rfl,rfl,rfl,rfl,trivial⟩ ⟨H,by (try dsimp only);omega⟩ (by (try dsimp only);omega)
 refine BM (AR (AR (BN (Z (Ab (Ae (Ad U ?_)))))))
 obtain ⟨A14,c15,rfl,hc16,hm17,hp18⟩:=H.fA 0 rfl
 refine V U U (H.read fun F hA hR=>Qq U GJ HY Ct U U (BE F (hA _ (List.mem_of_getElem? (i:=0) U)))) (Ad U (Ac (Z (Ap (Aq U U ?_)))))
 replace H:=H.nil
 have e:ps.take i=ps:=List.take_of_length_le (by omega)
 exact Am ⟨by rw [e];rfl,rfl⟩ H
theorem aF (ps:List Al) (hl:ps.length≤1000) (hsz:∀ p∈ps,p.key.size≤100∧p.val.size≤100):
    Cn Tryz.prog 167 [.string (Bi ps)] [] [] (fun v Bs=>Bs=[Y Ag v ps]):=by
 intro w0 F0 H
 have hps:=Xu hsz hl
 have hbb:(Cq (Bi ps)).length≤300000:=by rw [Gn];exact hps
 have h064:Ax (0:Int):=by unfold Ax;omega
 refine enter Tryz.func167 U U (Nat.le_of_ble_eq_true U) (Ab (Ae (Ad U (Ac (Z (Ab (Ae (Ad U (Y_ U U U Ct GJ HY U (by omega) H (fun b1 c2 w hc3 hc4 H=>(Ad U (Ac (Z (Ab (Ae (Ad U (sc (QH (.slice (some ⟨b1,0,none⟩) ((Bi ps).size) c2) (Cq (Bi ps)) 0 (by first |assumption|omega|(simp only [List.length_nil];omega)) (by first |assumption|omega|(simp only [List.length_nil];omega))) H (lR 0 U l0) U U (At Pe U U) ?_)))))))))))))))))
 rintro _ _ w ⟨rfl,rfl⟩ H
 have hq:Cr (Cq (Bi ps)) 0=(((ps.length:Nat):Int),8,true):=by rw [Mx];exact Xw (by omega)
 rw [hq]
 refine Ah 7 U (Ac (Z ?_))
 replace H:Hd _ _ _ [] [Aa B2 (.slice (some ⟨b1,0,none⟩) ((Bi ps).size) c2) (Cq (Bi ps))]:=H
 refine Ab (Ae (Ad U (Ac (Z (Ab (Ab (Ae (Ah 2 U (Ac (Z (AW ?_)))))))))))
 replace H:=H.newnil Ag
 replace H:Hd w0 F0 w [Y Ag (.slice none 0 0) (ps.take 0)] [Aa B2 (.slice (some ⟨b1,0,none⟩) ((Bi ps).size) c2) (Cq (Bi ps))]:=by rw [List.take_zero];exact H
 refine BT (σ:=Nat×Value) (fun (i,q)=>[(2,.slice none 0 0),(3,.slice (some ⟨b1,0,none⟩) ((Bi ps).size) c2),(5,.int .i64 ((DI ps i:Nat):Int)),(7,q),(17,.int .i64 ((ps.length:Nat):Int)),(18,.int .i64 ((i:Nat):Int))]) (fun (i,q) w=>(Hd w0 F0 w [Y Ag q (ps.take i)] [Aa B2 (.slice (some ⟨b1,0,none⟩) ((Bi ps).size) c2) (Cq (Bi ps))])∧(i≤ps.length)) (fun (i,q)=>ps.length - i) (0,.slice none 0 0) ⟨rfl,rfl,rfl,rfl,rfl,rfl,trivial⟩ ⟨H,Nat.zero_le _⟩ ?_
 rintro ⟨i,q⟩ w ⟨H,hi⟩
 have htl:(ps.take i).length≤i:=by rw [List.length_take];omega
 refine Ab (Ae (V U U (Bd U U U) (Ac (Z (Ab ?_)))))
 refine Az U (fun h5=>?_) (fun h5=>?_)
 ·refine Aw (Z (Ab (AW (Ab (Ae (Dr U U U CT H (fun b6 w H=>?_)))))))
  replace H:=H.h2 (A:=blk b6 [.string ⟨#[]⟩,.string ⟨#[]⟩] 106) (B:=Y Ag q (ps.take i))
  refine Ac (Z (Ab ?_))
  obtain ⟨x7,hx8⟩:∃ z9,ps[i]?=some z9:=⟨_,List.getElem?_eq_getElem (show i<ps.length by omega)⟩
  have hxs:=hsz _ (B6 hx8)
  have hkey:Fp (Cq (Bi ps)) ((DI ps i:Nat):Int)=(x7.key,((DI ps i+8+x7.key.size:Nat):Int),true):=by rw [Mx];exact Xv hx8 (by omega)
  have hval:Fp (Cq (Bi ps)) ((DI ps i+8+x7.key.size:Nat):Int)=(x7.val,((DI ps (i+1):Nat):Int),true):=by rw [Mx];exact Xx hx8 (by omega)
  have hpa:DI ps i≤300000:=Xr hsz hl i
  have hi64:Ax ((DI ps i:Nat):Int):=by unfold Ax;omega
  have hj64:Ax ((DI ps i+8+x7.key.size:Nat):Int):=by unfold Ax;omega
  refine Ae (Ah 2 U (sc (QI (.slice (some ⟨b1,0,none⟩) ((Bi ps).size) c2) (Cq (Bi ps)) ((DI ps i:Nat):Int) (by first |assumption|omega|(simp only [List.length_nil];omega)) (by first |assumption|omega|(simp only [List.length_nil];omega))) H (lR 0 U l0) U U (At Pf U U) ?_))
  rintro _ _ w ⟨rfl,rfl⟩ H
  rw [hkey]
  refine Ah 4 U (V U U (Aj U Fh U) (Bo U U U BV U U H U (Nat.le_of_ble_eq_true U) (fun u hu=>by simp [Value.cells] at hu;subst hu;rfl) (fun w H=>?_)))
  replace H:=H.h1 (A:=blk b6 [.string x7.key,.string ⟨#[]⟩] 106)
  refine Ad U (Ac (Z (Ab (Ae (Ah 2 U (sc (QI (.slice (some ⟨b1,0,none⟩) ((Bi ps).size) c2) (Cq (Bi ps)) ((DI ps i+8+x7.key.size:Nat):Int) (by first |assumption|omega|(simp only [List.length_nil];omega)) (by first |assumption|omega|(simp only [List.length_nil];omega))) H (lR 0 U l0) U U (At Pf U U) ?_))))))
  rintro _ _ w ⟨rfl,rfl⟩ H
  rw [hval]
  refine Ah 4 U (V U U (Aj U Ih U) (Bo U U U BV U U H U (Nat.le_of_ble_eq_true U) (fun u hu=>by simp [Value.cells] at hu;subst hu;rfl) (fun w H=>?_)))
  replace H:=H.h1 (A:=blk b6 [.string x7.key,.string x7.val] 106)
  refine Ad U (Ac (Z (Ae (Ad U (V U U (Bu (cs:=[.string x7.key,.string x7.val]) U Cb U U (H.cellsI 0 U U)) (BU (parts:=[(0,.tmp 37)]) (vs:=[.agg #[.string x7.key,.string x7.val]]) (cs:=[.string x7.key,.string x7.val]) U U U BA CT U (by decide) (by decide) U U H (fun b9 w H=>?_)))))))
  replace H:=H.p2
  refine CG (xs:=ps.take i) (ys:=[x7]) U U U BA CT U (by decide) U U H (by first |omega|(simp only [List.length_append,List.length_cons,List.length_nil];omega)) (fun F hA hR=>Ch (hA _ (List.mem_of_getElem? (i:=0) U)) U (by decide) (AZ.flat_eq.2 U)) (fun v10 w H=>(Ad U (Ac (A_ (Z ?_)))))
  replace H:Hd _ _ _ [Y Ag v10 ((ps.take i)++[x7]),blk b9 [.string x7.key,.string x7.val] 106,blk b6 [.string x7.key,.string x7.val] 106] [Aa B2 (.slice (some ⟨b1,0,none⟩) ((Bi ps).size) c2) (Cq (Bi ps))]:=H
  refine Ae (V U U (A0 (z:=((i+1:Nat):Int)) U U U (by rw [AF (by omega) (by omega)];omega)) (Ad U (Ac ?_)))
  replace H:=H.k1
  replace H:Hd w0 F0 w [Y Ag v10 (ps.take (i+1))] [Aa B2 (.slice (some ⟨b1,0,none⟩) ((Bi ps).size) c2) (Cq (Bi ps))]:=by rw [Fr hx8];exact H
  exact Bl (s:=(i,undef)) (i+1,v10) ⟨rfl,rfl,rfl,rfl,rfl,rfl,trivial⟩ ⟨H,by (try dsimp only);omega⟩ (by (try dsimp only);omega)
 refine BM (AR (AR (BN (Z (Ab (Ae (Ah 2 U (Ac (Z (Ap (Aq U U ?_)))))))))))
 replace H:=H.h1 (A:=Y Ag q (ps.take i))
 replace H:Hd w0 F0 w [Y Ag q ps] [Aa B2 (.slice (some ⟨b1,0,none⟩) ((Bi ps).size) c2) (Cq (Bi ps))]:=by rw [List.take_of_length_le (by omega)] at H;exact H
 replace H:=H.dropR
 replace H:Hd _ _ _ [Y Ag q ps] []:=H
 exact Am U H
theorem Wm (b:Nat) (vS:Value) (vM:Value) (vC:Value) (vR:Value) (vK:Value) (J:AG) (cw:Int) (ct:Int) (co:Int) (s:Nat) (att:Int) (cb:Nat) (fv:Value) (vw:Value):
    Cn Tryz.prog 32 [.pointer (some ⟨b,0,none⟩)] [blk cb [.int .u32 1,.int .i32 0,.int .u32 0,.int .u32 1,fv,.string (Bi (AB dg J s).1)] 234] [blk b [vS,.int .i64 J.parts,vM,vC,vR,.int .i64 J.chunk,.int .i64 J.window,.int .i64 J.fuel,vK,.int .i64 cw,.int .i64 ct,.int .i64 co,.int .i64 ((s:Nat):Int),.int .i64 att,.int .i64 ((AB dg J s).2),.pointer (some ⟨cb,0,none⟩),vw] 164] (fun v Bs=>v=.int .i64 ((AB dg J s).2)∧Bs=[blk cb [.int .u32 1,.int .i32 0,.int .u32 0,.int .u32 1,fv,.string (Bi (AB dg J s).1)] 234]):=by
 intro w0 F0 H
 refine enter Tryz.func32 U U (Nat.le_of_ble_eq_true U) (Ab (Ae (Ad U (Ac (Z (Ab (Ab (Ae (Ad U (V U U (C5 U IS U U) (Ac (Z (B9 U (Aw (Z (Ab (Ae (Ad U (V U U (AI U U) (V U U (Aj U J6 U) (V U U (Ao U DK U (H.cellRI 0 U U)) (sc (LM cb fv (Bi (AB dg J s).1)) H l0 U U (At Jh U U) ?_))))))))))))))))))))))
 rintro _ _ w ⟨rfl,rfl⟩ H
 refine Ac (Z ?_)
 replace H:Hd _ _ _ [blk cb [.int .u32 1,.int .i32 0,.int .u32 0,.int .u32 1,fv,.string (Bi (AB dg J s).1)] 234] [blk b [vS,.int .i64 J.parts,vM,vC,vR,.int .i64 J.chunk,.int .i64 J.window,.int .i64 J.fuel,vK,.int .i64 cw,.int .i64 ct,.int .i64 co,.int .i64 ((s:Nat):Int),.int .i64 att,.int .i64 ((AB dg J s).2),.pointer (some ⟨cb,0,none⟩),vw] 164]:=H
 exact Ab (Ae (Ad U (V U U (AI U U) (V U U (Aj U LA U) (V U U (Ao U AE U (H.cellRI 0 U U)) (Ad U (Ac (Z (Ap (Aq U U (Am ⟨rfl,rfl⟩ H)))))))))))
theorem Md (b:Nat) (vS:Value) (vM:Value) (vC:Value) (vR:Value) (vK:Value) (J:AG) (cw:Int) (ct:Int) (co:Int) (s:Nat) (att:Int) (cb:Nat) (fv:Value) (vw:Value) (p:Int) (hJ:B5 J):
    Cn Tryz.prog 106 [.pointer (some ⟨b,0,none⟩),.int .i64 p] [blk cb [.int .u32 1,.int .i32 0,.int .u32 0,.int .u32 1,fv,.string (Bi (AB dg J s).1)] 234] [blk b [vS,.int .i64 J.parts,vM,vC,vR,.int .i64 J.chunk,.int .i64 J.window,.int .i64 J.fuel,vK,.int .i64 cw,.int .i64 ct,.int .i64 co,.int .i64 ((s:Nat):Int),.int .i64 att,.int .i64 ((AB dg J s).2),.pointer (some ⟨cb,0,none⟩),vw] 164] (fun v Bs=>Bs=[Y Ag v (B0 dg J s p),blk cb [.int .u32 1,.int .i32 0,.int .u32 0,.int .u32 1,fv,.string (Bi (AB dg J s).1)] 234]):=by
 intro w0 F0 H
 have hlen:(AB dg J s).1.length≤1000:=by have:=HP dg J s;omega
 have hszs:∀ p∈(AB dg J s).1,p.key.size≤100∧p.val.size≤100:=fun x hx=>by have:=HQ G8 hJ s x hx;unfold C9 at this;omega
 have hsk:∀ x∈(AB dg J s).1,x.key.size≤9223372036854775807:=fun x hx=>by have:=(hszs x hx).1;omega
 have hpt:=hJ.parts
 have hck:=hJ.chunk1
 have hol:=HN dg J s
 refine enter Tryz.func106 U U (Nat.le_of_ble_eq_true U) (Ab (Ae (Ad U (Ac (Z (Ab (BP (.e 0 (.e 1 (.e 2 (.e 3 (.e 6 (.e 7 (.e 8 (.e 9 (.e 10 (.e 11 (.e 12 (.m 4 (.m 5 (.m 13 (.e 14 .z))))))))))))))) (fun w=>∃ Ar,Hd w0 F0 w (blk cb [.int .u32 1,.int .i32 0,.int .u32 0,.int .u32 1,fv,.string (Bi (AB dg J s).1)] 234::Ar) [blk b [vS,.int .i64 J.parts,vM,vC,vR,.int .i64 J.chunk,.int .i64 J.window,.int .i64 J.fuel,vK,.int .i64 cw,.int .i64 ct,.int .i64 co,.int .i64 ((s:Nat):Int),.int .i64 att,.int .i64 ((AB dg J s).2),.pointer (some ⟨cb,0,none⟩),vw] 164]) mo (by kernel_rfl) (fun w H=>⟨_,H⟩) H (fun w H=>(Au U (An U U U (fun w ⟨Ar,H⟩=>AI U U) (An U U U (fun w ⟨Ar,H⟩=>Aj U J6 U) (An U U U (fun w ⟨Ar,H⟩=>Ao U DK U (H.cellRI 0 U U)) (Au U ?_)))))))))))))
 refine An U U U (fun w ⟨Ar,H⟩=>AI U U) (An U U U (fun w ⟨Ar,H⟩=>Aj U J5 U) (An U U U (fun w ⟨Ar,H⟩=>Aj U Cu U) (An U U U (fun w ⟨Ar,H⟩=>Aj U GX U) (An U U U (fun w ⟨Ar,H⟩=>Ao U AE U (H.cellRI 0 U U)) (Au U (AK U (sc (LM cb fv (Bi (AB dg J s).1)) H l0 U U (At Jh U U) ?_)))))))
 rintro _ _ w ⟨rfl,rfl⟩ H
 replace H:Hd _ _ _ [blk cb [.int .u32 1,.int .i32 0,.int .u32 0,.int .u32 1,fv,.string (Bi (AB dg J s).1)] 234] [blk b [vS,.int .i64 J.parts,vM,vC,vR,.int .i64 J.chunk,.int .i64 J.window,.int .i64 J.fuel,vK,.int .i64 cw,.int .i64 ct,.int .i64 co,.int .i64 ((s:Nat):Int),.int .i64 att,.int .i64 ((AB dg J s).2),.pointer (some ⟨cb,0,none⟩),vw] 164]:=H
 refine AH ⟨_,H⟩ (AK U (sc (aF ((AB dg J s).1) (by first |assumption|omega|exact hlen|exact hszs) (by first |assumption|omega|exact hlen|exact hszs)) H l0 U U (At U6 U U) ?_))
 rintro v1 _ w rfl H
 replace H:=H.h1 (A:=Y Ag v1 ((AB dg J s).1))|>.p1
 refine AH ⟨_,H⟩ (AK U (sc (P7 v1 ((AB dg J s).1) J.parts p (by first |omega|(rw [Fq];omega)) (by omega) (by assumption)) H (lA 1 U BE l0) U U (At O3 U U) ?_))
 rintro v2 _ w rfl H
 replace H:=H.h1 (A:=Y Ag v2 (E8 ((AB dg J s).1) J.parts p))|>.p1
 refine AH ⟨_,H⟩ (Au U (BH (Z (Ap (Aq U U ?_)))))
 replace H:=H.p1.k2.h1 (A:=Y Ag v2 (B0 dg J s p))
 exact Am U H
theorem Me (b:Nat) (vS:Value) (vM:Value) (vC:Value) (vR:Value) (vK:Value) (J:AG) (cw:Int) (ct:Int) (co:Int) (s:Nat) (att:Int) (cb:Nat) (vw:Value) (hJ:B5 J):
    Cn Tryz.prog 107 [.pointer (some ⟨b,0,none⟩)] [] [blk b [vS,.int .i64 J.parts,vM,vC,vR,.int .i64 J.chunk,.int .i64 J.window,.int .i64 J.fuel,vK,.int .i64 cw,.int .i64 ct,.int .i64 co,.int .i64 ((s:Nat):Int),.int .i64 att,.int .i64 ((AB dg J s).2),.pointer (some ⟨cb,0,none⟩),vw] 164] (fun v Bs=>v=.int .i64 (CK J.chunk att)∧Bs=[]):=by
 intro w0 F0 H
 have hck:=hJ.chunk1
 refine enter Tryz.func107 U U (Nat.le_of_ble_eq_true U) (Ab (Ae (Ad U (Ac (Z (Ab (BP (.e 0 (.e 1 (.e 2 (.e 3 (.e 4 (.e 5 (.e 6 (.e 7 (.e 8 (.e 9 (.m 10 (.e 11 .z)))))))))))) (fun w=>∃ Ar,Hd w0 F0 w (Ar) [blk b [vS,.int .i64 J.parts,vM,vC,vR,.int .i64 J.chunk,.int .i64 J.window,.int .i64 J.fuel,vK,.int .i64 cw,.int .i64 ct,.int .i64 co,.int .i64 ((s:Nat):Int),.int .i64 att,.int .i64 ((AB dg J s).2),.pointer (some ⟨cb,0,none⟩),vw] 164]) mo (by kernel_rfl) (fun w H=>⟨_,H⟩) H (fun w H=>(Au U (An U U U (fun w ⟨Ar,H⟩=>AI U U) (An U U U (fun w ⟨Ar,H⟩=>Aj U J5 U) (An U U U (fun w ⟨Ar,H⟩=>Aj U Cu U) (An U U U (fun w ⟨Ar,H⟩=>Aj U Ow U) (An U U U (fun w ⟨Ar,H⟩=>Ao U AE U (H.cellRI 0 U U)) (Au U (An U U U (fun w ⟨Ar,H⟩=>AI U U) ?_))))))))))))))))
 refine An U U U (fun w ⟨Ar,H⟩=>Aj U T0 U) (An U U U (fun w ⟨Ar,H⟩=>Ao U AE U (H.cellRI 0 U U)) (AK U (sc (Ti J.chunk att (by first |assumption|omega|exact hlen|exact hszs)) H l0 U U (At U7 U U) ?_)))
 rintro _ _ w ⟨rfl,rfl⟩ H
 replace H:Hd _ _ _ [] [blk b [vS,.int .i64 J.parts,vM,vC,vR,.int .i64 J.chunk,.int .i64 J.window,.int .i64 J.fuel,vK,.int .i64 cw,.int .i64 ct,.int .i64 co,.int .i64 ((s:Nat):Int),.int .i64 att,.int .i64 ((AB dg J s).2),.pointer (some ⟨cb,0,none⟩),vw] 164]:=H
 exact AH ⟨_,H⟩ (Au U (BH (Z (Ap (Aq U U (Am ⟨rfl,rfl⟩ H))))))
theorem Wg (b:Nat) (vS:Value) (vM:Value) (vC:Value) (vR:Value) (vK:Value) (J:AG) (cw:Int) (ct:Int) (co:Int) (s:Nat) (att:Int) (cb:Nat) (fv:Value) (vw:Value) (hJ:B5 J):
    Cn Tryz.prog 30 [.pointer (some ⟨b,0,none⟩)] [blk cb [.int .u32 1,.int .i32 0,.int .u32 0,.int .u32 1,fv,.string (Bi (AB dg J s).1)] 234] [blk b [vS,.int .i64 J.parts,vM,vC,vR,.int .i64 J.chunk,.int .i64 J.window,.int .i64 J.fuel,vK,.int .i64 cw,.int .i64 ct,.int .i64 co,.int .i64 ((s:Nat):Int),.int .i64 att,.int .i64 ((AB dg J s).2),.pointer (some ⟨cb,0,none⟩),vw] 164] (fun v Bs=>Bs=[Y (Ai .i64) v (BI dg J s att),blk cb [.int .u32 1,.int .i32 0,.int .u32 0,.int .u32 1,fv,.string (Bi (AB dg J s).1)] 234]):=by
 intro w0 F0 H
 have hlen:(AB dg J s).1.length≤1000:=by have:=HP dg J s;omega
 have hszs:∀ p∈(AB dg J s).1,p.key.size≤100∧p.val.size≤100:=fun x hx=>by have:=HQ G8 hJ s x hx;unfold C9 at this;omega
 have hsk:∀ x∈(AB dg J s).1,x.key.size≤9223372036854775807:=fun x hx=>by have:=(hszs x hx).1;omega
 have hpt:=hJ.parts
 have hck:=hJ.chunk1
 have hol:=HN dg J s
 refine enter Tryz.func30 U U (Nat.le_of_ble_eq_true U) (Ab (Ae (Ad U (Ac (Z (Ab (Ab (Ae (Ad U (V U U (C5 U IS U U) (Ah 2 U (sc (Wm b vS vM vC vR vK J cw ct co s att cb fv vw) H (lR 0 U l0) U U (At Pr U U) ?_))))))))))))
 rintro _ _ w ⟨rfl,rfl⟩ H
 refine V U U (CN U U U) (Ad U (Ac (Z ?_)))
 replace H:Hd _ _ _ [blk cb [.int .u32 1,.int .i32 0,.int .u32 0,.int .u32 1,fv,.string (Bi (AB dg J s).1)] 234] [blk b [vS,.int .i64 J.parts,vM,vC,vR,.int .i64 J.chunk,.int .i64 J.window,.int .i64 J.fuel,vK,.int .i64 cw,.int .i64 ct,.int .i64 co,.int .i64 ((s:Nat):Int),.int .i64 att,.int .i64 ((AB dg J s).2),.pointer (some ⟨cb,0,none⟩),vw] 164]:=H
 refine Az U (fun h1=>?_) (fun h1=>?_)
 ·refine Ab (Ae (Ad U (Ac (Z (Ap (AA (Aq U U ?_)))))))
  replace H:=H.newnil (Ai .i64)|>.tellK (ys:=BI dg J s att) (by rw [N0 h1])|>.h1 (A:=Y (Ai .i64) (.slice none 0 0) (BI dg J s att))
  exact Am U H
 refine Aw (Z (Ab (Ae (Ad U (Ac (Z (Ab (Ab (Ae (Ad U (V U U (AI U U) (V U U (Aj U J5 U) (V U U (Aj U Cu U) (V U U (Aj U GX U) (V U U (Ao U AE U (H.cellRI 0 U U)) (Ad U (Ac (Z (AW ?_)))))))))))))))))))
 replace H:=H.newnil (Ai .i64)|>.tellK (ys:=DX dg J s att 0) (by rfl)
 refine BT (σ:=Nat×Value) (fun (k,q)=>[(0,.pointer (some ⟨b,0,none⟩)),(2,.slice none 0 0),(3,q),(17,.int .i64 J.parts),(18,.int .i64 ((k:Nat):Int))]) (fun (k,q) w=>(Hd w0 F0 w [Y (Ai .i64) q (DX dg J s att k),blk cb [.int .u32 1,.int .i32 0,.int .u32 0,.int .u32 1,fv,.string (Bi (AB dg J s).1)] 234] [blk b [vS,.int .i64 J.parts,vM,vC,vR,.int .i64 J.chunk,.int .i64 J.window,.int .i64 J.fuel,vK,.int .i64 cw,.int .i64 ct,.int .i64 co,.int .i64 ((s:Nat):Int),.int .i64 att,.int .i64 ((AB dg J s).2),.pointer (some ⟨cb,0,none⟩),vw] 164])∧((k:Int)≤J.parts)) (fun (k,q)=>J.parts.toNat - k) (0,.slice none 0 0) ⟨rfl,rfl,rfl,rfl,rfl,trivial⟩ ⟨H,by omega⟩ ?_
 rintro ⟨k,q⟩ w ⟨H,hk⟩
 have hcl:=NQ dg J s att k
 have holk:=hol ((k:Nat):Int)
 refine Ab (Ae (V U U (Bd U U U) (Ac (Z (Ab ?_)))))
 refine Az U (fun h2=>?_) (fun h2=>?_)
 ·refine Aw (Z (Ab (AW (Ab (Ae (Ah 2 U (Ac (Z (Ae (Ah 3 U ?_))))))))))
  replace H:=H.p1
  replace H:Hd _ _ _ [blk cb [.int .u32 1,.int .i32 0,.int .u32 0,.int .u32 1,fv,.string (Bi (AB dg J s).1)] 234,Y (Ai .i64) q (DX dg J s att k)] [blk b [vS,.int .i64 J.parts,vM,vC,vR,.int .i64 J.chunk,.int .i64 J.window,.int .i64 J.fuel,vK,.int .i64 cw,.int .i64 ct,.int .i64 co,.int .i64 ((s:Nat):Int),.int .i64 att,.int .i64 ((AB dg J s).2),.pointer (some ⟨cb,0,none⟩),vw] 164]:=H
  refine sc (Md b vS vM vC vR vK J cw ct co s att cb fv vw ((k:Nat):Int) (by first |assumption|omega|exact hlen|exact hszs)) H (lR 0 U l0) U U (At LV U U) ?_
  rintro v3 _ w rfl H
  obtain ⟨A4,c5,rfl,hc6,hm7,hp8⟩:=H.fA 0 rfl
  refine V U U (A8 U CH U) (Ad U ?_)
  replace H:Hd _ _ _ [Y Ag (.slice A4 ((B0 dg J s ((k:Nat):Int)).length) c5) (B0 dg J s ((k:Nat):Int)),blk cb [.int .u32 1,.int .i32 0,.int .u32 0,.int .u32 1,fv,.string (Bi (AB dg J s).1)] 234,Y (Ai .i64) q (DX dg J s att k)] [blk b [vS,.int .i64 J.parts,vM,vC,vR,.int .i64 J.chunk,.int .i64 J.window,.int .i64 J.fuel,vK,.int .i64 cw,.int .i64 ct,.int .i64 co,.int .i64 ((s:Nat):Int),.int .i64 att,.int .i64 ((AB dg J s).2),.pointer (some ⟨cb,0,none⟩),vw] 164]:=H
  refine sc (Me b vS vM vC vR vK J cw ct co s att cb vw (by first |assumption|omega|exact hlen|exact hszs)) H (lR 0 U l0) U U (At LW U U) ?_
  rintro _ _ w ⟨rfl,rfl⟩ H
  refine sc (Lk (((B0 dg J s ((k:Nat):Int)).length:Nat):Int) (CK J.chunk att) (by first |assumption|omega|exact hlen|exact hszs)) H l0 U U (At LU U U) ?_
  rintro _ _ w ⟨rfl,rfl⟩ H
  refine BU (parts:=[(0,.tmp 28)]) (vs:=[.int .i64 (De (((B0 dg J s ((k:Nat):Int)).length:Nat):Int) (CK J.chunk att))]) (cs:=[.int .i64 (De (((B0 dg J s ((k:Nat):Int)).length:Nat):Int) (CK J.chunk att))]) U U U Ds GK U (by decide) (by decide) U U H (fun b9 w H=>?_)
  replace H:=H.p3
  refine CG (xs:=DX dg J s att k) (ys:=[De (((B0 dg J s ((k:Nat):Int)).length:Nat):Int) (CK J.chunk att)]) U U U Ds GK U (by decide) U U H (by first |omega|(simp only [List.length_append,List.length_cons,List.length_nil];omega)) (fun F hA hR=>Ch (hA _ (List.mem_of_getElem? (i:=0) U)) U (by decide) (AZ.flat_eq.2 U)) (fun v10 w H=>(Ad U (Ac (A_ (Z ?_)))))
  replace H:Hd _ _ _ [Y (Ai .i64) v10 ((DX dg J s att k)++[De (((B0 dg J s ((k:Nat):Int)).length:Nat):Int) (CK J.chunk att)]),blk b9 [.int .i64 (De (((B0 dg J s ((k:Nat):Int)).length:Nat):Int) (CK J.chunk att))] 3,Y Ag (.slice A4 ((B0 dg J s ((k:Nat):Int)).length) c5) (B0 dg J s ((k:Nat):Int)),blk cb [.int .u32 1,.int .i32 0,.int .u32 0,.int .u32 1,fv,.string (Bi (AB dg J s).1)] 234] [blk b [vS,.int .i64 J.parts,vM,vC,vR,.int .i64 J.chunk,.int .i64 J.window,.int .i64 J.fuel,vK,.int .i64 cw,.int .i64 ct,.int .i64 co,.int .i64 ((s:Nat):Int),.int .i64 att,.int .i64 ((AB dg J s).2),.pointer (some ⟨cb,0,none⟩),vw] 164]:=H
  refine Ae (V U U (A0 (z:=((k+1:Nat):Int)) U U U (by rw [AF (by omega) (by omega)];omega)) (Ad U (Ac ?_)))
  replace H:=H.p3.p1.k2.tellK (ys:=DX dg J s att (k+1)) (by rw [NR])
  exact Bl (s:=(k,undef)) (k+1,v10) ⟨rfl,rfl,rfl,rfl,rfl,trivial⟩ ⟨H,by (try dsimp only);omega⟩ (by (try dsimp only);omega)
 refine BM (AR (AR (BN (Z (Ab (Ae (Ah 2 U (Ac (Z (Ap (Aq U U ?_)))))))))))
 have hkk:k=J.parts.toNat:=by omega
 replace H:=H.tellK (ys:=BI dg J s att) (by rw [N1 (Classical.not_not.1 h1),←hkk])
 replace H:Hd _ _ _ [Y (Ai .i64) q (BI dg J s att),blk cb [.int .u32 1,.int .i32 0,.int .u32 0,.int .u32 1,fv,.string (Bi (AB dg J s).1)] 234] [blk b [vS,.int .i64 J.parts,vM,vC,vR,.int .i64 J.chunk,.int .i64 J.window,.int .i64 J.fuel,vK,.int .i64 cw,.int .i64 ct,.int .i64 co,.int .i64 ((s:Nat):Int),.int .i64 att,.int .i64 ((AB dg J s).2),.pointer (some ⟨cb,0,none⟩),vw] 164]:=H
 exact Am U H
theorem We (b:Nat) (vS:Value) (vM:Value) (vC:Value) (vR:Value) (vK:Value) (J:AG) (cw:Int) (ct:Int) (co:Int) (s:Nat) (att:Int) (cb:Nat) (fv:Value) (vw:Value) (p:Int) (q:Int) (hJ:B5 J):
    Cn Tryz.prog 41 [.pointer (some ⟨b,0,none⟩),.int .i64 p,.int .i64 q] [blk cb [.int .u32 1,.int .i32 0,.int .u32 0,.int .u32 1,fv,.string (Bi (AB dg J s).1)] 234] [blk b [vS,.int .i64 J.parts,vM,vC,vR,.int .i64 J.chunk,.int .i64 J.window,.int .i64 J.fuel,vK,.int .i64 cw,.int .i64 ct,.int .i64 co,.int .i64 ((s:Nat):Int),.int .i64 att,.int .i64 ((AB dg J s).2),.pointer (some ⟨cb,0,none⟩),vw] 164] (fun v Bs=>Bs=[Y Ag v (B_ dg J s att p q),blk cb [.int .u32 1,.int .i32 0,.int .u32 0,.int .u32 1,fv,.string (Bi (AB dg J s).1)] 234]):=by
 intro w0 F0 H
 have hlen:(AB dg J s).1.length≤1000:=by have:=HP dg J s;omega
 have hszs:∀ p∈(AB dg J s).1,p.key.size≤100∧p.val.size≤100:=fun x hx=>by have:=HQ G8 hJ s x hx;unfold C9 at this;omega
 have hsk:∀ x∈(AB dg J s).1,x.key.size≤9223372036854775807:=fun x hx=>by have:=(hszs x hx).1;omega
 have hpt:=hJ.parts
 have hck:=hJ.chunk1
 have hol:=HN dg J s
 have hcs:=I6 (att:=att) hck
 have holp:=hol p
 refine enter Tryz.func41 U U (Nat.le_of_ble_eq_true U) (Ab (Ae (Ad U (Ac (Z (Ab (Ab (Ae (Ad U (V U U (C5 U IS U U) (Ah 2 U (V U U (Bd U U U) (Ad U (Ac (Z ?_)))))))))))))))
 refine Az U (fun h1=>?_) (fun h1=>?_)
 ·refine Ab (Ae (Ad U (Ac (Z (Ap (AA (Aq U U ?_)))))))
  replace H:=H.newnil Ag
  replace H:Hd _ _ _ [Y Ag (.slice none 0 0) [],blk cb [.int .u32 1,.int .i32 0,.int .u32 0,.int .u32 1,fv,.string (Bi (AB dg J s).1)] 234] [blk b [vS,.int .i64 J.parts,vM,vC,vR,.int .i64 J.chunk,.int .i64 J.window,.int .i64 J.fuel,vK,.int .i64 cw,.int .i64 ct,.int .i64 co,.int .i64 ((s:Nat):Int),.int .i64 att,.int .i64 ((AB dg J s).2),.pointer (some ⟨cb,0,none⟩),vw] 164]:=H
  replace H:=H.tellK (ys:=B_ dg J s att p q) (by rw [show B_ dg J s att p q=[] from if_pos h1])|>.h1 (A:=Y Ag (.slice none 0 0) (B_ dg J s att p q))
  exact Am U H
 refine Aw (Z (Ab (Ae (Ah 2 U (sc (Md b vS vM vC vR vK J cw ct co s att cb fv vw p (by first |assumption|omega|exact hlen|exact hszs)) H (lR 0 U l0) U U (At LV U U) ?_)))))
 rintro v2 _ w rfl H
 refine Ad U ?_
 replace H:Hd _ _ _ [Y Ag v2 (B0 dg J s p),blk cb [.int .u32 1,.int .i32 0,.int .u32 0,.int .u32 1,fv,.string (Bi (AB dg J s).1)] 234] [blk b [vS,.int .i64 J.parts,vM,vC,vR,.int .i64 J.chunk,.int .i64 J.window,.int .i64 J.fuel,vK,.int .i64 cw,.int .i64 ct,.int .i64 co,.int .i64 ((s:Nat):Int),.int .i64 att,.int .i64 ((AB dg J s).2),.pointer (some ⟨cb,0,none⟩),vw] 164]:=H
 refine sc (Me b vS vM vC vR vK J cw ct co s att cb vw (by first |assumption|omega|exact hlen|exact hszs)) H (lR 0 U l0) U U (At LW U U) ?_
 rintro _ _ w ⟨rfl,rfl⟩ H
 refine Ad U (sc (Tg v2 (B0 dg J s p) (CK J.chunk att) q (by first |assumption|omega|exact hlen|exact hszs) (by first |assumption|omega|exact hlen|exact hszs)) H (lA 0 U BE l0) U U (At UX U U) ?_)
 rintro v3 _ w rfl H
 replace H:=H.h1 (A:=Y Ag v3 (D7 (B0 dg J s p) (CK J.chunk att) q))
 refine Ad U (Ac (Z (Ap (Aq U U ?_))))
 replace H:=H.p2.p1.k2.tellK (ys:=B_ dg J s att p q) (by rw [show B_ dg J s att p q=D7 (B0 dg J s p) (CK J.chunk att) q from if_neg h1])|>.h1 (A:=Y Ag v3 (B_ dg J s att p q))
 exact Am U H
theorem Uz {w0 w:World} {F0:AN} {As Rs:List SP} (H:Hd w0 F0 w As Rs):Hd w0 F0 w (As++[]) Rs:=by rw [List.append_nil];exact H
theorem WW {w0 w:World} {F0:AN} {As Rs:List SP} (H:Hd w0 F0 w (As++[]) Rs):Hd w0 F0 w As Rs:=by rw [List.append_nil] at H;exact H
set_option maxRecDepth 100000 in
theorem Ts (c pl:Nat) (sm:Value) (md:Int) (fv:Value) (tx tx2:ByteArray) (Xs Ys Rs:List SP)
  (hcl:Cn Tryz.prog 170 [.pointer (some ⟨pl,0,none⟩)] (blk c [.int .u32 0,.int .i32 1,sm,.int .u32 md,fv,.string tx] 234::Xs) Rs (fun v Bs=>v=.tuple #[]∧Bs=blk c [.int .u32 0,.int .i32 1,sm,.int .u32 md,fv,.string tx2] 234::Ys)):
  Cn Tryz.prog 205 [.pointer (some ⟨c,0,none⟩),.func (.func 170) #[] #[.pointer (some ⟨pl,0,none⟩)]] (blk c [.int .u32 0,.int .i32 0,sm,.int .u32 md,fv,.string tx] 234::Xs) Rs (fun v Bs=>v=.tuple #[]∧Bs=blk c [.int .u32 1,.int .i32 0,sm,.int .u32 md,fv,.string tx2] 234::Ys):=by
 intro w F H
 have hnot:∀ (x:Bool) (w:World),(Op.unary .not (.bool x)).run Tryz.prog w=.ok (.bool (!x)) w:=fun _ _=>rfl
 go_enter_defers Tryz.func205,Tryz.ntmps205
 go_wp2_with (first
  |(go_at_call 241;refine (Gp (As:=Xs) (PD c 0 sm md fv tx) H l0).mono ?_;rintro e w1 ⟨v,rfl,Bs,⟨rfl,rfl⟩,H1⟩)
  |(go_at_call 144;refine (Gp (Cs:=[]) (Ki c 1 sm md fv tx) H1 (lA 0 rfl (fun _ h=>h) l0)).mono ?_;rintro e w2 ⟨v,rfl,Bs,⟨rfl,rfl⟩,H2⟩)
  |(go_at_call 170;refine (Gp (As:=[]) hcl (Uz H2) Kg).mono ?_;rintro e w3 ⟨v,rfl,Bs,⟨rfl,rfl⟩,H3n⟩;have H3:=WW H3n))
 refine leaves_cons (f:=142) (args:=#[.pointer (some ⟨c,0,none⟩),.bool true]) (by simp) (by simp [go_sem]) ?_
 refine (JS (As:=Ys) (Rz c 0 1 sm md fv tx2) H3 l0).mono ?_
 rintro e u' w4 ⟨rfl,v,rfl,Bs,⟨rfl,rfl⟩,H4⟩
 refine leaves_cons (f:=242) (args:=#[.pointer (some ⟨c,1,none⟩)]) (by simp [settle]) (by simp [go_sem]) ?_
 refine (JS (As:=Ys) (RO c 1 sm md fv tx2) H4 l0).mono ?_
 rintro e u' w5 ⟨rfl,v,rfl,Bs,⟨rfl,rfl⟩,H5⟩
 exact ⟨.tuple #[],by simp [results,Tryz.results205],.tuple #[],rfl,_,⟨rfl,rfl⟩,H5⟩
theorem Wn (b ba bb bc cb:Nat) (vS:Value) (vM:Value) (vC:Value) (vR:Value) (vK:Value) (J:AG) (cw ct co:Int) (s:Nat) (att:Int) (hJ:B5 J) (hs:s<J.us.length):
    Cn Tryz.prog 96 [.pointer (some ⟨ba,0,none⟩),.pointer (some ⟨bb,0,none⟩),.pointer (some ⟨bc,0,none⟩)] [blk b [vS,.int .i64 J.parts,vM,vC,vR,.int .i64 J.chunk,.int .i64 J.window,.int .i64 J.fuel,vK,.int .i64 cw,.int .i64 ct,.int .i64 co,.int .i64 ((s:Nat):Int),.int .i64 att,.int .i64 0,.pointer (some ⟨cb,0,none⟩),.slice none 0 0] 164] [blk ba [vS,.int .i64 J.parts,vM,vC,vR,.int .i64 J.chunk,.int .i64 J.window,.int .i64 J.fuel,vK,.int .i64 cw,.int .i64 ct,.int .i64 co] 28,blk bb [.int .i64 ((s:Nat):Int)] 3,blk bc [.pointer (some ⟨b,0,none⟩)] 44,Aa (Ak Ag) vS J.us,Aa Af vM J.map,Aa Af vC J.comb,Aa Af vR J.red,Aa (Ai .i64) vK J.marks,gl] (fun v Bs=>v=.string (Bi (AB dg J s).1)∧Bs=[blk b [vS,.int .i64 J.parts,vM,vC,vR,.int .i64 J.chunk,.int .i64 J.window,.int .i64 J.fuel,vK,.int .i64 cw,.int .i64 ct,.int .i64 co,.int .i64 ((s:Nat):Int),.int .i64 att,.int .i64 ((AB dg J s).2),.pointer (some ⟨cb,0,none⟩),.slice none 0 0] 164]):=by
 intro w0 F0 H
 have hlen:(AB dg J s).1.length≤1000:=by have:=HP dg J s;omega
 have hszs:∀ p∈(AB dg J s).1,p.key.size≤100∧p.val.size≤100:=fun x hx=>by have:=HQ G8 hJ s x hx;unfold C9 at this;omega
 refine enter Tryz.func96 U U (Nat.le_of_ble_eq_true U) (Ab (Ae (Ad U (Ac (Z (Ab (Ae (V U U (Aj U Cu U) (V U U (Bu (cs:=[vS,.int .i64 J.parts,vM,vC,vR,.int .i64 J.chunk,.int .i64 J.window,.int .i64 J.fuel,vK]) U FW U U (H.cellsRI 0 U U)) (V U U (Ao U AE U (H.cellRI 1 U U)) (sc (Rt vS vM vC vR vK J hJ s (by first |assumption|omega|exact hlen|exact hszs)) H (lR 3 U (lR 4 U (lR 5 U (lR 6 U (lR 7 U (lR 8 U l0)))))) U U (At Pt U U) ?_)))))))))))
 rintro _ _ w ⟨u1,rfl,rfl⟩ H
 refine Ah 5 U (Ac (Z ?_))
 replace H:Hd _ _ _ [Y Ag u1 ((AB dg J s).1),blk b [vS,.int .i64 J.parts,vM,vC,vR,.int .i64 J.chunk,.int .i64 J.window,.int .i64 J.fuel,vK,.int .i64 cw,.int .i64 ct,.int .i64 co,.int .i64 ((s:Nat):Int),.int .i64 att,.int .i64 0,.pointer (some ⟨cb,0,none⟩),.slice none 0 0] 164] [blk ba [vS,.int .i64 J.parts,vM,vC,vR,.int .i64 J.chunk,.int .i64 J.window,.int .i64 J.fuel,vK,.int .i64 cw,.int .i64 ct,.int .i64 co] 28,blk bb [.int .i64 ((s:Nat):Int)] 3,blk bc [.pointer (some ⟨b,0,none⟩)] 44,Aa (Ak Ag) vS J.us,Aa Af vM J.map,Aa Af vC J.comb,Aa Af vR J.red,Aa (Ai .i64) vK J.marks,gl]:=H
 refine Ab (Ae (V U U (Ao U HU U (H.cellRI 2 U U)) (Ad U (V U U (AI U U) (V U U (Aj U LA U) ?_)))))
 replace H:=H.p1
 refine Bo U U U AE U U H U (Nat.le_of_ble_eq_true U) (fun u hu=>by simp [Value.cells] at hu;subst hu;rfl) (fun w H=>?_)
 replace H:=H.h1 (A:=blk b [vS,.int .i64 J.parts,vM,vC,vR,.int .i64 J.chunk,.int .i64 J.window,.int .i64 J.fuel,vK,.int .i64 cw,.int .i64 ct,.int .i64 co,.int .i64 ((s:Nat):Int),.int .i64 att,.int .i64 ((AB dg J s).2),.pointer (some ⟨cb,0,none⟩),.slice none 0 0] 164)
 refine Ac (Z (Ab (Ae (Ad U (sc (Xy u1 ((AB dg J s).1) (by first |assumption|omega|exact hlen|exact hszs) (by first |assumption|omega|exact hlen|exact hszs)) H (lA 1 U BE l0) U U (At V0 U U) ?_)))))
 rintro _ _ w ⟨rfl,rfl⟩ H
 refine Ad U (Ac (Z (Ap (Aq U U ?_))))
 replace H:=H.k1
 exact Am ⟨rfl,rfl⟩ H
theorem Wj (b ba bb bc cb:Nat) (vS:Value) (vM:Value) (vC:Value) (vR:Value) (vK:Value) (J:AG) (cw ct co:Int) (s:Nat) (att:Int) (hJ:B5 J) (hs:s<J.us.length) (pl:Nat) (sm:Value) (md:Int) (tx:ByteArray):
    Cn Tryz.prog 170 [.pointer (some ⟨pl,0,none⟩)] [blk cb [.int .u32 0,.int .i32 1,sm,.int .u32 md,.func (.func 96) #[] #[.pointer (some ⟨ba,0,none⟩),.pointer (some ⟨bb,0,none⟩),.pointer (some ⟨bc,0,none⟩)],.string tx] 234,blk b [vS,.int .i64 J.parts,vM,vC,vR,.int .i64 J.chunk,.int .i64 J.window,.int .i64 J.fuel,vK,.int .i64 cw,.int .i64 ct,.int .i64 co,.int .i64 ((s:Nat):Int),.int .i64 att,.int .i64 0,.pointer (some ⟨cb,0,none⟩),.slice none 0 0] 164] [blk pl [.pointer (some ⟨cb,0,none⟩)] 161,blk ba [vS,.int .i64 J.parts,vM,vC,vR,.int .i64 J.chunk,.int .i64 J.window,.int .i64 J.fuel,vK,.int .i64 cw,.int .i64 ct,.int .i64 co] 28,blk bb [.int .i64 ((s:Nat):Int)] 3,blk bc [.pointer (some ⟨b,0,none⟩)] 44,Aa (Ak Ag) vS J.us,Aa Af vM J.map,Aa Af vC J.comb,Aa Af vR J.red,Aa (Ai .i64) vK J.marks,gl] (fun v Bs=>v=.tuple #[]∧Bs=[blk cb [.int .u32 0,.int .i32 1,sm,.int .u32 md,.func (.func 96) #[] #[.pointer (some ⟨ba,0,none⟩),.pointer (some ⟨bb,0,none⟩),.pointer (some ⟨bc,0,none⟩)],.string (Bi (AB dg J s).1)] 234,blk b [vS,.int .i64 J.parts,vM,vC,vR,.int .i64 J.chunk,.int .i64 J.window,.int .i64 J.fuel,vK,.int .i64 cw,.int .i64 ct,.int .i64 co,.int .i64 ((s:Nat):Int),.int .i64 att,.int .i64 ((AB dg J s).2),.pointer (some ⟨cb,0,none⟩),.slice none 0 0] 164]):=by
 intro w0 F0 H
 refine enter Tryz.func170 U U (Nat.le_of_ble_eq_true U) (Ab (Ae (V U U (Ao U DK U (H.cellRI 0 U U)) (V U U (AI U U) (V U U (Aj U J_ U) (V U U (Ao U KT U (H.cellI 0 U U)) (V U U (Qu U RH U U) (Ac (Z (B8 U (BP (.e 0 (.e 1 (.e 2 (.e 3 (.m 4 (.m 5 (.e 6 (.e 7 (.m 8 .z))))))))) (fun w=>∃ Ar,Hd w0 F0 w (Ar) [blk pl [.pointer (some ⟨cb,0,none⟩)] 161,blk ba [vS,.int .i64 J.parts,vM,vC,vR,.int .i64 J.chunk,.int .i64 J.window,.int .i64 J.fuel,vK,.int .i64 cw,.int .i64 ct,.int .i64 co] 28,blk bb [.int .i64 ((s:Nat):Int)] 3,blk bc [.pointer (some ⟨b,0,none⟩)] 44,Aa (Ak Ag) vS J.us,Aa Af vM J.map,Aa Af vC J.comb,Aa Af vR J.red,Aa (Ai .i64) vK J.marks,gl]) mo (by kernel_rfl) (fun w H=>⟨_,H⟩) H (fun w H=>(An U U U (fun w ⟨Ar,H⟩=>Ao U DK U (H.cellRI 0 U U)) ?_)))))))))))))
 refine An U U U (fun w ⟨Ar,H⟩=>Ao U DK U (H.cellRI 0 U U)) (An U U U (fun w ⟨Ar,H⟩=>AI U U) (An U U U (fun w ⟨Ar,H⟩=>Aj U J_ U) (AK U (V U U (Ao U KT U (H.cellI 0 U U)) (AH ⟨_,H⟩ (AK U ?_))))))
 replace H:=H.p1
 replace H:Hd _ _ _ [blk b [vS,.int .i64 J.parts,vM,vC,vR,.int .i64 J.chunk,.int .i64 J.window,.int .i64 J.fuel,vK,.int .i64 cw,.int .i64 ct,.int .i64 co,.int .i64 ((s:Nat):Int),.int .i64 att,.int .i64 0,.pointer (some ⟨cb,0,none⟩),.slice none 0 0] 164,blk cb [.int .u32 0,.int .i32 1,sm,.int .u32 md,.func (.func 96) #[] #[.pointer (some ⟨ba,0,none⟩),.pointer (some ⟨bb,0,none⟩),.pointer (some ⟨bc,0,none⟩)],.string tx] 234] [blk pl [.pointer (some ⟨cb,0,none⟩)] 161,blk ba [vS,.int .i64 J.parts,vM,vC,vR,.int .i64 J.chunk,.int .i64 J.window,.int .i64 J.fuel,vK,.int .i64 cw,.int .i64 ct,.int .i64 co] 28,blk bb [.int .i64 ((s:Nat):Int)] 3,blk bc [.pointer (some ⟨b,0,none⟩)] 44,Aa (Ak Ag) vS J.us,Aa Af vM J.map,Aa Af vC J.comb,Aa Af vR J.red,Aa (Ai .i64) vK J.marks,gl]:=H
 refine sc (Wn b ba bb bc cb vS vM vC vR vK J cw ct co s att hJ hs) H (lR 1 U (lR 2 U (lR 3 U (lR 4 U (lR 5 U (lR 6 U (lR 7 U (lR 8 U (lR 9 U l0))))))))) U U (FJ (vs:=[]) (fs:=#[]) (cs:=#[.pointer (some ⟨ba,0,none⟩),.pointer (some ⟨bb,0,none⟩),.pointer (some ⟨bc,0,none⟩)]) VZ U U U) ?_
 rintro _ _ w ⟨rfl,rfl⟩ H
 replace H:=H.h1 (A:=blk b [vS,.int .i64 J.parts,vM,vC,vR,.int .i64 J.chunk,.int .i64 J.window,.int .i64 J.fuel,vK,.int .i64 cw,.int .i64 ct,.int .i64 co,.int .i64 ((s:Nat):Int),.int .i64 att,.int .i64 ((AB dg J s).2),.pointer (some ⟨cb,0,none⟩),.slice none 0 0] 164)
 refine AH ⟨_,H⟩ (An U U U (fun w ⟨Ar,H⟩=>AI U U) (An U U U (fun w ⟨Ar,H⟩=>Aj U I_ U) (AK U ?_)))
 replace H:=H.p1
 refine Bo U U U BV U U H U (Nat.le_of_ble_eq_true U) (fun u hu=>by simp [Value.cells] at hu;subst hu;rfl) (fun w H=>?_)
 replace H:=H.h1 (A:=blk cb [.int .u32 0,.int .i32 1,sm,.int .u32 md,.func (.func 96) #[] #[.pointer (some ⟨ba,0,none⟩),.pointer (some ⟨bb,0,none⟩),.pointer (some ⟨bc,0,none⟩)],.string (Bi (AB dg J s).1)] 234)
 exact AH ⟨_,H⟩ (BH (DQ U (Am ⟨rfl,rfl⟩ H)))
theorem Wh (b ba bb bc cb:Nat) (vS:Value) (vM:Value) (vC:Value) (vR:Value) (vK:Value) (J:AG) (cw ct co:Int) (s:Nat) (att:Int) (hJ:B5 J) (hs:s<J.us.length) (pl:Nat) (sm:Value) (md:Int) (tx:ByteArray):
    Cn Tryz.prog 169 [.pointer (some ⟨cb,0,none⟩),.func (.func 170) #[] #[.pointer (some ⟨pl,0,none⟩)]] [blk cb [.int .u32 0,.int .i32 0,sm,.int .u32 md,.func (.func 96) #[] #[.pointer (some ⟨ba,0,none⟩),.pointer (some ⟨bb,0,none⟩),.pointer (some ⟨bc,0,none⟩)],.string tx] 234,blk b [vS,.int .i64 J.parts,vM,vC,vR,.int .i64 J.chunk,.int .i64 J.window,.int .i64 J.fuel,vK,.int .i64 cw,.int .i64 ct,.int .i64 co,.int .i64 ((s:Nat):Int),.int .i64 att,.int .i64 0,.pointer (some ⟨cb,0,none⟩),.slice none 0 0] 164] [blk pl [.pointer (some ⟨cb,0,none⟩)] 161,blk ba [vS,.int .i64 J.parts,vM,vC,vR,.int .i64 J.chunk,.int .i64 J.window,.int .i64 J.fuel,vK,.int .i64 cw,.int .i64 ct,.int .i64 co] 28,blk bb [.int .i64 ((s:Nat):Int)] 3,blk bc [.pointer (some ⟨b,0,none⟩)] 44,Aa (Ak Ag) vS J.us,Aa Af vM J.map,Aa Af vC J.comb,Aa Af vR J.red,Aa (Ai .i64) vK J.marks,gl] (fun v Bs=>v=.tuple #[]∧Bs=[blk cb [.int .u32 1,.int .i32 0,sm,.int .u32 md,.func (.func 96) #[] #[.pointer (some ⟨ba,0,none⟩),.pointer (some ⟨bb,0,none⟩),.pointer (some ⟨bc,0,none⟩)],.string (Bi (AB dg J s).1)] 234,blk b [vS,.int .i64 J.parts,vM,vC,vR,.int .i64 J.chunk,.int .i64 J.window,.int .i64 J.fuel,vK,.int .i64 cw,.int .i64 ct,.int .i64 co,.int .i64 ((s:Nat):Int),.int .i64 att,.int .i64 ((AB dg J s).2),.pointer (some ⟨cb,0,none⟩),.slice none 0 0] 164]):=by
 intro w0 F0 H
 refine enter Tryz.func169 U U (Nat.le_of_ble_eq_true U) (Ab (Ae (Ad U (V U U (AI U U) (V U U (Aj U LF U) (sc (Ki cb 0 sm md (.func (.func 96) #[] #[.pointer (some ⟨ba,0,none⟩),.pointer (some ⟨bb,0,none⟩),.pointer (some ⟨bc,0,none⟩)]) tx) H (lA 0 U (fun _ h=>h) l0) U U (At LY U U) ?_))))))
 rintro _ _ w ⟨rfl,rfl⟩ H
 refine V U U (Ep U U U) (Ac (Z (B8 U (Ae (Ah 2 U (sc (Ts cb pl sm md (.func (.func 96) #[] #[.pointer (some ⟨ba,0,none⟩),.pointer (some ⟨bb,0,none⟩),.pointer (some ⟨bc,0,none⟩)]) tx (Bi (AB dg J s).1) [blk b [vS,.int .i64 J.parts,vM,vC,vR,.int .i64 J.chunk,.int .i64 J.window,.int .i64 J.fuel,vK,.int .i64 cw,.int .i64 ct,.int .i64 co,.int .i64 ((s:Nat):Int),.int .i64 att,.int .i64 0,.pointer (some ⟨cb,0,none⟩),.slice none 0 0] 164] [blk b [vS,.int .i64 J.parts,vM,vC,vR,.int .i64 J.chunk,.int .i64 J.window,.int .i64 J.fuel,vK,.int .i64 cw,.int .i64 ct,.int .i64 co,.int .i64 ((s:Nat):Int),.int .i64 att,.int .i64 ((AB dg J s).2),.pointer (some ⟨cb,0,none⟩),.slice none 0 0] 164] [blk pl [.pointer (some ⟨cb,0,none⟩)] 161,blk ba [vS,.int .i64 J.parts,vM,vC,vR,.int .i64 J.chunk,.int .i64 J.window,.int .i64 J.fuel,vK,.int .i64 cw,.int .i64 ct,.int .i64 co] 28,blk bb [.int .i64 ((s:Nat):Int)] 3,blk bc [.pointer (some ⟨b,0,none⟩)] 44,Aa (Ak Ag) vS J.us,Aa Af vM J.map,Aa Af vC J.comb,Aa Af vR J.red,Aa (Ai .i64) vK J.marks,gl] (Wj b ba bb bc cb vS vM vC vR vK J cw ct co s att hJ hs pl sm md tx)) H (lR 0 U (lR 1 U (lR 2 U (lR 3 U (lR 4 U (lR 5 U (lR 6 U (lR 7 U (lR 8 U (lR 9 U l0)))))))))) U U (At Pg U U) ?_))))))
 rintro _ _ w ⟨rfl,rfl⟩ H
 refine Ac (DQ U ?_)
 replace H:Hd _ _ _ [blk cb [.int .u32 1,.int .i32 0,sm,.int .u32 md,.func (.func 96) #[] #[.pointer (some ⟨ba,0,none⟩),.pointer (some ⟨bb,0,none⟩),.pointer (some ⟨bc,0,none⟩)],.string (Bi (AB dg J s).1)] 234,blk b [vS,.int .i64 J.parts,vM,vC,vR,.int .i64 J.chunk,.int .i64 J.window,.int .i64 J.fuel,vK,.int .i64 cw,.int .i64 ct,.int .i64 co,.int .i64 ((s:Nat):Int),.int .i64 att,.int .i64 ((AB dg J s).2),.pointer (some ⟨cb,0,none⟩),.slice none 0 0] 164] [blk pl [.pointer (some ⟨cb,0,none⟩)] 161,blk ba [vS,.int .i64 J.parts,vM,vC,vR,.int .i64 J.chunk,.int .i64 J.window,.int .i64 J.fuel,vK,.int .i64 cw,.int .i64 ct,.int .i64 co] 28,blk bb [.int .i64 ((s:Nat):Int)] 3,blk bc [.pointer (some ⟨b,0,none⟩)] 44,Aa (Ak Ag) vS J.us,Aa Af vM J.map,Aa Af vC J.comb,Aa Af vR J.red,Aa (Ai .i64) vK J.marks,gl]:=H
 exact Am ⟨rfl,rfl⟩ H
theorem Wi (b ba bb bc cb:Nat) (vS:Value) (vM:Value) (vC:Value) (vR:Value) (vK:Value) (J:AG) (cw ct co:Int) (s:Nat) (att:Int) (hJ:B5 J) (hs:s<J.us.length):
    Cn Tryz.prog 109 [.pointer (some ⟨cb,0,none⟩)] [blk cb [.int .u32 0,.int .i32 0,.int .u32 0,.int .u32 0,.func (.func 96) #[] #[.pointer (some ⟨ba,0,none⟩),.pointer (some ⟨bb,0,none⟩),.pointer (some ⟨bc,0,none⟩)],.string ⟨#[]⟩] 234,blk b [vS,.int .i64 J.parts,vM,vC,vR,.int .i64 J.chunk,.int .i64 J.window,.int .i64 J.fuel,vK,.int .i64 cw,.int .i64 ct,.int .i64 co,.int .i64 ((s:Nat):Int),.int .i64 att,.int .i64 0,.pointer (some ⟨cb,0,none⟩),.slice none 0 0] 164] [blk ba [vS,.int .i64 J.parts,vM,vC,vR,.int .i64 J.chunk,.int .i64 J.window,.int .i64 J.fuel,vK,.int .i64 cw,.int .i64 ct,.int .i64 co] 28,blk bb [.int .i64 ((s:Nat):Int)] 3,blk bc [.pointer (some ⟨b,0,none⟩)] 44,Aa (Ak Ag) vS J.us,Aa Af vM J.map,Aa Af vC J.comb,Aa Af vR J.red,Aa (Ai .i64) vK J.marks,gl] (fun v Bs=>v=.string (Bi (AB dg J s).1)∧Bs=[blk cb [.int .u32 1,.int .i32 0,.int .u32 0,.int .u32 1,.func (.func 96) #[] #[.pointer (some ⟨ba,0,none⟩),.pointer (some ⟨bb,0,none⟩),.pointer (some ⟨bc,0,none⟩)],.string (Bi (AB dg J s).1)] 234,blk b [vS,.int .i64 J.parts,vM,vC,vR,.int .i64 J.chunk,.int .i64 J.window,.int .i64 J.fuel,vK,.int .i64 cw,.int .i64 ct,.int .i64 co,.int .i64 ((s:Nat):Int),.int .i64 att,.int .i64 ((AB dg J s).2),.pointer (some ⟨cb,0,none⟩),.slice none 0 0] 164]):=by
 intro w0 F0 H
 refine enter Tryz.func109 U U (Nat.le_of_ble_eq_true U) (Ab (Ae (Cy U U U U H (fun b1 w H=>(Ad U (Ac (Z ?_)))))))
 replace H:Hd _ _ _ [blk b1 [.pointer (some ⟨cb,0,none⟩)] 161,blk cb [.int .u32 0,.int .i32 0,.int .u32 0,.int .u32 0,.func (.func 96) #[] #[.pointer (some ⟨ba,0,none⟩),.pointer (some ⟨bb,0,none⟩),.pointer (some ⟨bc,0,none⟩)],.string ⟨#[]⟩] 234,blk b [vS,.int .i64 J.parts,vM,vC,vR,.int .i64 J.chunk,.int .i64 J.window,.int .i64 J.fuel,vK,.int .i64 cw,.int .i64 ct,.int .i64 co,.int .i64 ((s:Nat):Int),.int .i64 att,.int .i64 0,.pointer (some ⟨cb,0,none⟩),.slice none 0 0] 164] [blk ba [vS,.int .i64 J.parts,vM,vC,vR,.int .i64 J.chunk,.int .i64 J.window,.int .i64 J.fuel,vK,.int .i64 cw,.int .i64 ct,.int .i64 co] 28,blk bb [.int .i64 ((s:Nat):Int)] 3,blk bc [.pointer (some ⟨b,0,none⟩)] 44,Aa (Ak Ag) vS J.us,Aa Af vM J.map,Aa Af vC J.comb,Aa Af vR J.red,Aa (Ai .i64) vK J.marks,gl]:=H
 refine Ab (Ab (Ae (V U U (Ao U DK U (H.cellI 0 U U)) (V U U (C5 U JG U U) (Ac (Z (B9 U (Aw (Z (Ab (Ae (V U U (Ao U DK U (H.cellI 0 U U)) (V U U (AI U U) (V U U (Aj U LH U) ?_))))))))))))))
 replace H:=H.p1
 refine sc (MV cb 0 0 (.int .u32 0) 0 (.func (.func 96) #[] #[.pointer (some ⟨ba,0,none⟩),.pointer (some ⟨bb,0,none⟩),.pointer (some ⟨bc,0,none⟩)]) (⟨#[]⟩:ByteArray)) H l0 U U (At LX U U) ?_
 rintro _ _ w ⟨rfl,rfl⟩ H
 replace H:=H.h1 (A:=blk cb [.int .u32 0,.int .i32 0,.int .u32 0,.int .u32 1,.func (.func 96) #[] #[.pointer (some ⟨ba,0,none⟩),.pointer (some ⟨bb,0,none⟩),.pointer (some ⟨bc,0,none⟩)],.string ⟨#[]⟩] 234)
 refine Ac (Z (Ab (Ae (V U U (Ao U DK U (H.cellI 1 U U)) (V U U (AI U U) (V U U (Aj U LG U) (V U U (Hb (fs:=#[]) (cs:=#[.pointer (some ⟨b1,0,none⟩)]) U U U) ?_)))))))
 replace H:=H.p2.p1
 refine sc (Wh b ba bb bc cb vS vM vC vR vK J cw ct co s att hJ hs b1 (.int .u32 0) 1 ⟨#[]⟩) H (lA 0 U (fun _ h=>h) (lR 0 U (lR 1 U (lR 2 U (lR 3 U (lR 4 U (lR 5 U (lR 6 U (lR 7 U (lR 8 U l0)))))))))) U U (At L1 U U) ?_
 rintro _ _ w ⟨rfl,rfl⟩ H
 replace H:=H.h2 (A:=blk cb [.int .u32 1,.int .i32 0,.int .u32 0,.int .u32 1,.func (.func 96) #[] #[.pointer (some ⟨ba,0,none⟩),.pointer (some ⟨bb,0,none⟩),.pointer (some ⟨bc,0,none⟩)],.string (Bi (AB dg J s).1)] 234) (B:=blk b [vS,.int .i64 J.parts,vM,vC,vR,.int .i64 J.chunk,.int .i64 J.window,.int .i64 J.fuel,vK,.int .i64 cw,.int .i64 ct,.int .i64 co,.int .i64 ((s:Nat):Int),.int .i64 att,.int .i64 ((AB dg J s).2),.pointer (some ⟨cb,0,none⟩),.slice none 0 0] 164)
 refine Ac (Z (Ab (Ae (V U U (Ao U DK U (H.cellI 2 U U)) (V U U (AI U U) (V U U (Aj U I_ U) (V U U (Ao U BV U (H.cellI 0 U U)) (Ad U (Ac (Z (Ap (Aq U U ?_))))))))))))
 replace H:=H.k2
 exact Am ⟨rfl,rfl⟩ H
theorem Wl (b ba bb bc cb:Nat) (vS:Value) (vM:Value) (vC:Value) (vR:Value) (vK:Value) (J:AG) (cw ct co:Int) (s:Nat) (att:Int) (hJ:B5 J) (hs:s<J.us.length):
    Cn Tryz.prog 32 [.pointer (some ⟨b,0,none⟩)] [blk cb [.int .u32 0,.int .i32 0,.int .u32 0,.int .u32 0,.func (.func 96) #[] #[.pointer (some ⟨ba,0,none⟩),.pointer (some ⟨bb,0,none⟩),.pointer (some ⟨bc,0,none⟩)],.string ⟨#[]⟩] 234,blk b [vS,.int .i64 J.parts,vM,vC,vR,.int .i64 J.chunk,.int .i64 J.window,.int .i64 J.fuel,vK,.int .i64 cw,.int .i64 ct,.int .i64 co,.int .i64 ((s:Nat):Int),.int .i64 att,.int .i64 0,.pointer (some ⟨cb,0,none⟩),.slice none 0 0] 164] [blk ba [vS,.int .i64 J.parts,vM,vC,vR,.int .i64 J.chunk,.int .i64 J.window,.int .i64 J.fuel,vK,.int .i64 cw,.int .i64 ct,.int .i64 co] 28,blk bb [.int .i64 ((s:Nat):Int)] 3,blk bc [.pointer (some ⟨b,0,none⟩)] 44,Aa (Ak Ag) vS J.us,Aa Af vM J.map,Aa Af vC J.comb,Aa Af vR J.red,Aa (Ai .i64) vK J.marks,gl] (fun v Bs=>v=.int .i64 ((AB dg J s).2)∧Bs=[blk cb [.int .u32 1,.int .i32 0,.int .u32 0,.int .u32 1,.func (.func 96) #[] #[.pointer (some ⟨ba,0,none⟩),.pointer (some ⟨bb,0,none⟩),.pointer (some ⟨bc,0,none⟩)],.string (Bi (AB dg J s).1)] 234,blk b [vS,.int .i64 J.parts,vM,vC,vR,.int .i64 J.chunk,.int .i64 J.window,.int .i64 J.fuel,vK,.int .i64 cw,.int .i64 ct,.int .i64 co,.int .i64 ((s:Nat):Int),.int .i64 att,.int .i64 ((AB dg J s).2),.pointer (some ⟨cb,0,none⟩),.slice none 0 0] 164]):=by
 intro w0 F0 H
 refine enter Tryz.func32 U U (Nat.le_of_ble_eq_true U) (Ab (Ae (Ad U (Ac (Z (Ab (Ab (Ae (Ad U (V U U (C5 U IS U U) (Ac (Z (B9 U (Aw (Z (Ab (Ae (Ad U (V U U (AI U U) (V U U (Aj U J6 U) (V U U (Ao U DK U (H.cellI 1 U U)) (sc (Wi b ba bb bc cb vS vM vC vR vK J cw ct co s att hJ hs) H (lR 0 U (lR 1 U (lR 2 U (lR 3 U (lR 4 U (lR 5 U (lR 6 U (lR 7 U (lR 8 U l0))))))))) U U (At Jh U U) ?_))))))))))))))))))))))
 rintro _ _ w ⟨rfl,rfl⟩ H
 refine Ac (Z ?_)
 replace H:Hd _ _ _ [blk cb [.int .u32 1,.int .i32 0,.int .u32 0,.int .u32 1,.func (.func 96) #[] #[.pointer (some ⟨ba,0,none⟩),.pointer (some ⟨bb,0,none⟩),.pointer (some ⟨bc,0,none⟩)],.string (Bi (AB dg J s).1)] 234,blk b [vS,.int .i64 J.parts,vM,vC,vR,.int .i64 J.chunk,.int .i64 J.window,.int .i64 J.fuel,vK,.int .i64 cw,.int .i64 ct,.int .i64 co,.int .i64 ((s:Nat):Int),.int .i64 att,.int .i64 ((AB dg J s).2),.pointer (some ⟨cb,0,none⟩),.slice none 0 0] 164] [blk ba [vS,.int .i64 J.parts,vM,vC,vR,.int .i64 J.chunk,.int .i64 J.window,.int .i64 J.fuel,vK,.int .i64 cw,.int .i64 ct,.int .i64 co] 28,blk bb [.int .i64 ((s:Nat):Int)] 3,blk bc [.pointer (some ⟨b,0,none⟩)] 44,Aa (Ak Ag) vS J.us,Aa Af vM J.map,Aa Af vC J.comb,Aa Af vR J.red,Aa (Ai .i64) vK J.marks,gl]:=H
 exact Ab (Ae (Ad U (V U U (AI U U) (V U U (Aj U LA U) (V U U (Ao U AE U (H.cellI 1 U U)) (Ad U (Ac (Z (Ap (Aq U U (Am ⟨rfl,rfl⟩ H)))))))))))
theorem Wf (b ba bb bc cb:Nat) (vS:Value) (vM:Value) (vC:Value) (vR:Value) (vK:Value) (J:AG) (cw ct co:Int) (s:Nat) (att:Int) (hJ:B5 J) (hs:s<J.us.length):
    Cn Tryz.prog 30 [.pointer (some ⟨b,0,none⟩)] [blk cb [.int .u32 0,.int .i32 0,.int .u32 0,.int .u32 0,.func (.func 96) #[] #[.pointer (some ⟨ba,0,none⟩),.pointer (some ⟨bb,0,none⟩),.pointer (some ⟨bc,0,none⟩)],.string ⟨#[]⟩] 234,blk b [vS,.int .i64 J.parts,vM,vC,vR,.int .i64 J.chunk,.int .i64 J.window,.int .i64 J.fuel,vK,.int .i64 cw,.int .i64 ct,.int .i64 co,.int .i64 ((s:Nat):Int),.int .i64 att,.int .i64 0,.pointer (some ⟨cb,0,none⟩),.slice none 0 0] 164] [blk ba [vS,.int .i64 J.parts,vM,vC,vR,.int .i64 J.chunk,.int .i64 J.window,.int .i64 J.fuel,vK,.int .i64 cw,.int .i64 ct,.int .i64 co] 28,blk bb [.int .i64 ((s:Nat):Int)] 3,blk bc [.pointer (some ⟨b,0,none⟩)] 44,Aa (Ak Ag) vS J.us,Aa Af vM J.map,Aa Af vC J.comb,Aa Af vR J.red,Aa (Ai .i64) vK J.marks,gl] (fun v Bs=>Bs=[Y (Ai .i64) v (BI dg J s att),blk cb [.int .u32 1,.int .i32 0,.int .u32 0,.int .u32 1,.func (.func 96) #[] #[.pointer (some ⟨ba,0,none⟩),.pointer (some ⟨bb,0,none⟩),.pointer (some ⟨bc,0,none⟩)],.string (Bi (AB dg J s).1)] 234,blk b [vS,.int .i64 J.parts,vM,vC,vR,.int .i64 J.chunk,.int .i64 J.window,.int .i64 J.fuel,vK,.int .i64 cw,.int .i64 ct,.int .i64 co,.int .i64 ((s:Nat):Int),.int .i64 att,.int .i64 ((AB dg J s).2),.pointer (some ⟨cb,0,none⟩),.slice none 0 0] 164]):=by
 intro w0 F0 H
 have hlen:(AB dg J s).1.length≤1000:=by have:=HP dg J s;omega
 have hszs:∀ p∈(AB dg J s).1,p.key.size≤100∧p.val.size≤100:=fun x hx=>by have:=HQ G8 hJ s x hx;unfold C9 at this;omega
 have hsk:∀ x∈(AB dg J s).1,x.key.size≤9223372036854775807:=fun x hx=>by have:=(hszs x hx).1;omega
 have hpt:=hJ.parts
 have hck:=hJ.chunk1
 have hol:=HN dg J s
 refine enter Tryz.func30 U U (Nat.le_of_ble_eq_true U) (Ab (Ae (Ad U (Ac (Z (Ab (Ab (Ae (Ad U (V U U (C5 U IS U U) (Ah 2 U (sc (Wl b ba bb bc cb vS vM vC vR vK J cw ct co s att hJ hs) H (lR 0 U (lR 1 U (lR 2 U (lR 3 U (lR 4 U (lR 5 U (lR 6 U (lR 7 U (lR 8 U l0))))))))) U U (At Pr U U) ?_))))))))))))
 rintro _ _ w ⟨rfl,rfl⟩ H
 refine V U U (CN U U U) (Ad U (Ac (Z ?_)))
 replace H:Hd _ _ _ [blk cb [.int .u32 1,.int .i32 0,.int .u32 0,.int .u32 1,.func (.func 96) #[] #[.pointer (some ⟨ba,0,none⟩),.pointer (some ⟨bb,0,none⟩),.pointer (some ⟨bc,0,none⟩)],.string (Bi (AB dg J s).1)] 234,blk b [vS,.int .i64 J.parts,vM,vC,vR,.int .i64 J.chunk,.int .i64 J.window,.int .i64 J.fuel,vK,.int .i64 cw,.int .i64 ct,.int .i64 co,.int .i64 ((s:Nat):Int),.int .i64 att,.int .i64 ((AB dg J s).2),.pointer (some ⟨cb,0,none⟩),.slice none 0 0] 164] [blk ba [vS,.int .i64 J.parts,vM,vC,vR,.int .i64 J.chunk,.int .i64 J.window,.int .i64 J.fuel,vK,.int .i64 cw,.int .i64 ct,.int .i64 co] 28,blk bb [.int .i64 ((s:Nat):Int)] 3,blk bc [.pointer (some ⟨b,0,none⟩)] 44,Aa (Ak Ag) vS J.us,Aa Af vM J.map,Aa Af vC J.comb,Aa Af vR J.red,Aa (Ai .i64) vK J.marks,gl]:=H
 refine Az U (fun h1=>?_) (fun h1=>?_)
 ·refine Ab (Ae (Ad U (Ac (Z (Ap (AA (Aq U U ?_)))))))
  replace H:=H.newnil (Ai .i64)|>.tellK (ys:=BI dg J s att) (by rw [N0 h1])|>.h1 (A:=Y (Ai .i64) (.slice none 0 0) (BI dg J s att))
  exact Am U H
 refine Aw (Z (Ab (Ae (Ad U (Ac (Z (Ab (Ab (Ae (Ad U (V U U (AI U U) (V U U (Aj U J5 U) (V U U (Aj U Cu U) (V U U (Aj U GX U) (V U U (Ao U AE U (H.cellI 1 U U)) (Ad U (Ac (Z (AW ?_)))))))))))))))))))
 replace H:=H.newnil (Ai .i64)|>.tellK (ys:=DX dg J s att 0) (by rfl)
 refine BT (σ:=Nat×Value) (fun (k,q)=>[(0,.pointer (some ⟨b,0,none⟩)),(2,.slice none 0 0),(3,q),(17,.int .i64 J.parts),(18,.int .i64 ((k:Nat):Int))]) (fun (k,q) w=>(Hd w0 F0 w [Y (Ai .i64) q (DX dg J s att k),blk cb [.int .u32 1,.int .i32 0,.int .u32 0,.int .u32 1,.func (.func 96) #[] #[.pointer (some ⟨ba,0,none⟩),.pointer (some ⟨bb,0,none⟩),.pointer (some ⟨bc,0,none⟩)],.string (Bi (AB dg J s).1)] 234,blk b [vS,.int .i64 J.parts,vM,vC,vR,.int .i64 J.chunk,.int .i64 J.window,.int .i64 J.fuel,vK,.int .i64 cw,.int .i64 ct,.int .i64 co,.int .i64 ((s:Nat):Int),.int .i64 att,.int .i64 ((AB dg J s).2),.pointer (some ⟨cb,0,none⟩),.slice none 0 0] 164] [blk ba [vS,.int .i64 J.parts,vM,vC,vR,.int .i64 J.chunk,.int .i64 J.window,.int .i64 J.fuel,vK,.int .i64 cw,.int .i64 ct,.int .i64 co] 28,blk bb [.int .i64 ((s:Nat):Int)] 3,blk bc [.pointer (some ⟨b,0,none⟩)] 44,Aa (Ak Ag) vS J.us,Aa Af vM J.map,Aa Af vC J.comb,Aa Af vR J.red,Aa (Ai .i64) vK J.marks,gl])∧((k:Int)≤J.parts)) (fun (k,q)=>J.parts.toNat - k) (0,.slice none 0 0) ⟨rfl,rfl,rfl,rfl,rfl,trivial⟩ ⟨H,by omega⟩ ?_
 rintro ⟨k,q⟩ w ⟨H,hk⟩
 have hcl:=NQ dg J s att k
 have holk:=hol ((k:Nat):Int)
 refine Ab (Ae (V U U (Bd U U U) (Ac (Z (Ab ?_)))))
 refine Az U (fun h2=>?_) (fun h2=>?_)
 ·refine Aw (Z (Ab (AW (Ab (Ae (Ah 2 U (Ac (Z (Ae (Ah 3 U ?_))))))))))
  replace H:=H.p1
  replace H:Hd _ _ _ [blk cb [.int .u32 1,.int .i32 0,.int .u32 0,.int .u32 1,.func (.func 96) #[] #[.pointer (some ⟨ba,0,none⟩),.pointer (some ⟨bb,0,none⟩),.pointer (some ⟨bc,0,none⟩)],.string (Bi (AB dg J s).1)] 234,Y (Ai .i64) q (DX dg J s att k),blk b [vS,.int .i64 J.parts,vM,vC,vR,.int .i64 J.chunk,.int .i64 J.window,.int .i64 J.fuel,vK,.int .i64 cw,.int .i64 ct,.int .i64 co,.int .i64 ((s:Nat):Int),.int .i64 att,.int .i64 ((AB dg J s).2),.pointer (some ⟨cb,0,none⟩),.slice none 0 0] 164] [blk ba [vS,.int .i64 J.parts,vM,vC,vR,.int .i64 J.chunk,.int .i64 J.window,.int .i64 J.fuel,vK,.int .i64 cw,.int .i64 ct,.int .i64 co] 28,blk bb [.int .i64 ((s:Nat):Int)] 3,blk bc [.pointer (some ⟨b,0,none⟩)] 44,Aa (Ak Ag) vS J.us,Aa Af vM J.map,Aa Af vC J.comb,Aa Af vR J.red,Aa (Ai .i64) vK J.marks,gl]:=H
  refine sc (Md b vS vM vC vR vK J cw ct co s att cb (.func (.func 96) #[] #[.pointer (some ⟨ba,0,none⟩),.pointer (some ⟨bb,0,none⟩),.pointer (some ⟨bc,0,none⟩)]) (.slice none 0 0) ((k:Nat):Int) (by first |assumption|omega|exact hlen|exact hszs)) H (lA 1 U (fun _ h=>h) l0) U U (At LV U U) ?_
  rintro v3 _ w rfl H
  obtain ⟨A4,c5,rfl,hc6,hm7,hp8⟩:=H.fA 0 rfl
  refine V U U (A8 U CH U) (Ad U ?_)
  replace H:Hd _ _ _ [Y Ag (.slice A4 ((B0 dg J s ((k:Nat):Int)).length) c5) (B0 dg J s ((k:Nat):Int)),blk cb [.int .u32 1,.int .i32 0,.int .u32 0,.int .u32 1,.func (.func 96) #[] #[.pointer (some ⟨ba,0,none⟩),.pointer (some ⟨bb,0,none⟩),.pointer (some ⟨bc,0,none⟩)],.string (Bi (AB dg J s).1)] 234,Y (Ai .i64) q (DX dg J s att k),blk b [vS,.int .i64 J.parts,vM,vC,vR,.int .i64 J.chunk,.int .i64 J.window,.int .i64 J.fuel,vK,.int .i64 cw,.int .i64 ct,.int .i64 co,.int .i64 ((s:Nat):Int),.int .i64 att,.int .i64 ((AB dg J s).2),.pointer (some ⟨cb,0,none⟩),.slice none 0 0] 164] [blk ba [vS,.int .i64 J.parts,vM,vC,vR,.int .i64 J.chunk,.int .i64 J.window,.int .i64 J.fuel,vK,.int .i64 cw,.int .i64 ct,.int .i64 co] 28,blk bb [.int .i64 ((s:Nat):Int)] 3,blk bc [.pointer (some ⟨b,0,none⟩)] 44,Aa (Ak Ag) vS J.us,Aa Af vM J.map,Aa Af vC J.comb,Aa Af vR J.red,Aa (Ai .i64) vK J.marks,gl]:=H
  refine sc (Me b vS vM vC vR vK J cw ct co s att cb (.slice none 0 0) (by first |assumption|omega|exact hlen|exact hszs)) H (lA 3 U (fun _ h=>h) l0) U U (At LW U U) ?_
  rintro _ _ w ⟨rfl,rfl⟩ H
  refine sc (Lk (((B0 dg J s ((k:Nat):Int)).length:Nat):Int) (CK J.chunk att) (by first |assumption|omega|exact hlen|exact hszs)) H l0 U U (At LU U U) ?_
  rintro _ _ w ⟨rfl,rfl⟩ H
  refine BU (parts:=[(0,.tmp 28)]) (vs:=[.int .i64 (De (((B0 dg J s ((k:Nat):Int)).length:Nat):Int) (CK J.chunk att))]) (cs:=[.int .i64 (De (((B0 dg J s ((k:Nat):Int)).length:Nat):Int) (CK J.chunk att))]) U U U Ds GK U (by decide) (by decide) U U H (fun b9 w H=>?_)
  replace H:=H.p3
  refine CG (xs:=DX dg J s att k) (ys:=[De (((B0 dg J s ((k:Nat):Int)).length:Nat):Int) (CK J.chunk att)]) U U U Ds GK U (by decide) U U H (by first |omega|(simp only [List.length_append,List.length_cons,List.length_nil];omega)) (fun F hA hR=>Ch (hA _ (List.mem_of_getElem? (i:=0) U)) U (by decide) (AZ.flat_eq.2 U)) (fun v10 w H=>(Ad U (Ac (A_ (Z ?_)))))
  replace H:Hd _ _ _ [Y (Ai .i64) v10 ((DX dg J s att k)++[De (((B0 dg J s ((k:Nat):Int)).length:Nat):Int) (CK J.chunk att)]),blk b9 [.int .i64 (De (((B0 dg J s ((k:Nat):Int)).length:Nat):Int) (CK J.chunk att))] 3,Y Ag (.slice A4 ((B0 dg J s ((k:Nat):Int)).length) c5) (B0 dg J s ((k:Nat):Int)),blk cb [.int .u32 1,.int .i32 0,.int .u32 0,.int .u32 1,.func (.func 96) #[] #[.pointer (some ⟨ba,0,none⟩),.pointer (some ⟨bb,0,none⟩),.pointer (some ⟨bc,0,none⟩)],.string (Bi (AB dg J s).1)] 234,blk b [vS,.int .i64 J.parts,vM,vC,vR,.int .i64 J.chunk,.int .i64 J.window,.int .i64 J.fuel,vK,.int .i64 cw,.int .i64 ct,.int .i64 co,.int .i64 ((s:Nat):Int),.int .i64 att,.int .i64 ((AB dg J s).2),.pointer (some ⟨cb,0,none⟩),.slice none 0 0] 164] [blk ba [vS,.int .i64 J.parts,vM,vC,vR,.int .i64 J.chunk,.int .i64 J.window,.int .i64 J.fuel,vK,.int .i64 cw,.int .i64 ct,.int .i64 co] 28,blk bb [.int .i64 ((s:Nat):Int)] 3,blk bc [.pointer (some ⟨b,0,none⟩)] 44,Aa (Ak Ag) vS J.us,Aa Af vM J.map,Aa Af vC J.comb,Aa Af vR J.red,Aa (Ai .i64) vK J.marks,gl]:=H
  refine Ae (V U U (A0 (z:=((k+1:Nat):Int)) U U U (by rw [AF (by omega) (by omega)];omega)) (Ad U (Ac ?_)))
  replace H:=H.p4.p4.p2.k3.tellK (ys:=DX dg J s att (k+1)) (by rw [NR])
  exact Bl (s:=(k,undef)) (k+1,v10) ⟨rfl,rfl,rfl,rfl,rfl,trivial⟩ ⟨H,by (try dsimp only);omega⟩ (by (try dsimp only);omega)
 refine BM (AR (AR (BN (Z (Ab (Ae (Ah 2 U (Ac (Z (Ap (Aq U U ?_)))))))))))
 have hkk:k=J.parts.toNat:=by omega
 replace H:=H.tellK (ys:=BI dg J s att) (by rw [N1 (Classical.not_not.1 h1),←hkk])
 replace H:Hd _ _ _ [Y (Ai .i64) q (BI dg J s att),blk cb [.int .u32 1,.int .i32 0,.int .u32 0,.int .u32 1,.func (.func 96) #[] #[.pointer (some ⟨ba,0,none⟩),.pointer (some ⟨bb,0,none⟩),.pointer (some ⟨bc,0,none⟩)],.string (Bi (AB dg J s).1)] 234,blk b [vS,.int .i64 J.parts,vM,vC,vR,.int .i64 J.chunk,.int .i64 J.window,.int .i64 J.fuel,vK,.int .i64 cw,.int .i64 ct,.int .i64 co,.int .i64 ((s:Nat):Int),.int .i64 att,.int .i64 ((AB dg J s).2),.pointer (some ⟨cb,0,none⟩),.slice none 0 0] 164] [blk ba [vS,.int .i64 J.parts,vM,vC,vR,.int .i64 J.chunk,.int .i64 J.window,.int .i64 J.fuel,vK,.int .i64 cw,.int .i64 ct,.int .i64 co] 28,blk bb [.int .i64 ((s:Nat):Int)] 3,blk bc [.pointer (some ⟨b,0,none⟩)] 44,Aa (Ak Ag) vS J.us,Aa Af vM J.map,Aa Af vC J.comb,Aa Af vR J.red,Aa (Ai .i64) vK J.marks,gl]:=H
 exact Am U H
theorem Wk (ba bb bc:Nat):
    Cn Tryz.prog 95 [.func (.func 96) #[] #[.pointer (some ⟨ba,0,none⟩),.pointer (some ⟨bb,0,none⟩),.pointer (some ⟨bc,0,none⟩)]] [] [] (fun v Bs=>∃ cb,v=.pointer (some ⟨cb,0,none⟩)∧Bs=[blk cb [.int .u32 0,.int .i32 0,.int .u32 0,.int .u32 0,.func (.func 96) #[] #[.pointer (some ⟨ba,0,none⟩),.pointer (some ⟨bb,0,none⟩),.pointer (some ⟨bc,0,none⟩)],.string ⟨#[]⟩] 234]):=by
 intro w0 F0 H
 refine enter Tryz.func95 U U (Nat.le_of_ble_eq_true U) (Ab (Ae (Ad U (Ac (Z (Ab (Ae (Ad U (V U U (CM (parts:=[(2,.tmp 3)]) (vs:=[.func (.func 96) #[] #[.pointer (some ⟨ba,0,none⟩),.pointer (some ⟨bb,0,none⟩),.pointer (some ⟨bc,0,none⟩)]]) (cs:=[.int .u32 0,.int .i32 0,.int .u32 0,.int .u32 0,.func (.func 96) #[] #[.pointer (some ⟨ba,0,none⟩),.pointer (some ⟨bb,0,none⟩),.pointer (some ⟨bc,0,none⟩)],.string ⟨#[]⟩]) U NE U U) (Cy U U U U H (fun b1 w H=>(Ad U (Ac (Z ?_))))))))))))))
 replace H:Hd _ _ _ [blk b1 [.int .u32 0,.int .i32 0,.int .u32 0,.int .u32 0,.func (.func 96) #[] #[.pointer (some ⟨ba,0,none⟩),.pointer (some ⟨bb,0,none⟩),.pointer (some ⟨bc,0,none⟩)],.string ⟨#[]⟩] 234] []:=H
 exact Ap (Aq U U (Am ⟨_,rfl,rfl⟩ H))
theorem aU (c:Int) (s:Int) (h:0≤c∧c≤40∧1≤s∧s≤4):
    Cn Tryz.prog 98 [.int .i64 c,.int .i64 s] [] [] (fun v Bs=>∃ b,v=.tuple #[.pointer (some ⟨b,0,none⟩),.int .i64 0]∧Bs=[blk b [.int .i64 c,.int .i64 s,.int .i64 0,.int .i64 0] 239]):=by
 intro w0 F0 H
 refine enter Tryz.func98 U U (Nat.le_of_ble_eq_true U) (Ab (Ae (Ah 2 U (Ac (Z (Ab (Ab (Ae (Ad U (V U U (Bd U U U) (Ad U ?_)))))))))))
 refine AU (d:=8) U (fun h1=>?_) (fun h1=>?_)
 ·exact absurd h1 (by omega)
 refine Ad U (V U U (Ca U U U) (Ah 2 U ?_))
 refine AU (d:=12) U (fun h2=>?_) (fun h2=>?_)
 ·exact absurd h2 (by omega)
 refine Ad U (V U U (Bd U U U) (Ah 2 U ?_))
 refine AU (d:=16) U (fun h3=>?_) (fun h3=>?_)
 ·exact absurd h3 (by omega)
 refine Ad U (V U U (Ca U U U) (Ad U (Ac (Z ?_))))
 refine Az U (fun h4=>?_) (fun h4=>?_)
 ·exact absurd h4 (by omega)
 refine Aw (Z (Ab (Ae (Ah 2 U (V U U (CM (parts:=[(0,.tmp 20),(1,.tmp 21)]) (vs:=[.int .i64 c,.int .i64 s]) (cs:=[.int .i64 c,.int .i64 s,.int .i64 0,.int .i64 0]) U Sj U U) (Cy U U U U H (fun b5 w H=>(Ah 2 U (Ac (Z ?_))))))))))
 replace H:Hd _ _ _ [blk b5 [.int .i64 c,.int .i64 s,.int .i64 0,.int .i64 0] 239] []:=H
 exact Ap (Cm U U U (Am ⟨_,rfl,rfl⟩ H))
def EU (b:Nat) (J:AG) (M:F6):SP:=ex fun vS:Value=>ex fun vM:Value=>ex fun vC:Value=>ex fun vR:Value=>ex fun vK:Value=>ex fun J2:AG=>ex fun cw:Int=>ex fun ct:Int=>ex fun co:Int=>ex fun cb:Nat=>ex fun fv:Value=>ex fun vw:Value=>ex fun ws:List (Nat×CX)=>CO [C0 ((BC J2 J)∧(ws.map Prod.snd=M.ws)),blk b [vS,.int .i64 J2.parts,vM,vC,vR,.int .i64 J2.chunk,.int .i64 J2.window,.int .i64 J2.fuel,vK,.int .i64 cw,.int .i64 ct,.int .i64 co,.int .i64 ((M.sp:Nat):Int),.int .i64 M.att,.int .i64 ((AB dg J2 M.sp).2),.pointer (some ⟨cb,0,none⟩),vw] 164,blk cb [.int .u32 1,.int .i32 0,.int .u32 0,.int .u32 1,fv,.string (Bi (AB dg J2 M.sp).1)] 234,Y (Ak Ag) vS J2.us,Y Af vM J2.map,Y Af vC J2.comb,Y Af vR J2.red,Y (Ai .i64) vK J2.marks,Y CY vw (ws.map Prod.fst),Bf (CS 239) ws]
theorem PT (b:Nat) (J:AG) (M:F6) {w0 w:World} {F0:AN} {As Rs:List SP} (H:Hd w0 F0 w (EU b J M::As) Rs):∃ vS:Value,∃ vM:Value,∃ vC:Value,∃ vR:Value,∃ vK:Value,∃ J2:AG,∃ cw:Int,∃ ct:Int,∃ co:Int,∃ cb:Nat,∃ fv:Value,∃ vw:Value,∃ ws:List (Nat×CX),((BC J2 J)∧(ws.map Prod.snd=M.ws))∧Hd w0 F0 w ([blk b [vS,.int .i64 J2.parts,vM,vC,vR,.int .i64 J2.chunk,.int .i64 J2.window,.int .i64 J2.fuel,vK,.int .i64 cw,.int .i64 ct,.int .i64 co,.int .i64 ((M.sp:Nat):Int),.int .i64 M.att,.int .i64 ((AB dg J2 M.sp).2),.pointer (some ⟨cb,0,none⟩),vw] 164,blk cb [.int .u32 1,.int .i32 0,.int .u32 0,.int .u32 1,fv,.string (Bi (AB dg J2 M.sp).1)] 234,Y (Ak Ag) vS J2.us,Y Af vM J2.map,Y Af vC J2.comb,Y Af vR J2.red,Y (Ai .i64) vK J2.marks,Y CY vw (ws.map Prod.fst),Bf (CS 239) ws]++As) Rs:=by
 obtain ⟨vS,H⟩:=Hd.exA H
 obtain ⟨vM,H⟩:=Hd.exA H
 obtain ⟨vC,H⟩:=Hd.exA H
 obtain ⟨vR,H⟩:=Hd.exA H
 obtain ⟨vK,H⟩:=Hd.exA H
 obtain ⟨J2,H⟩:=Hd.exA H
 obtain ⟨cw,H⟩:=Hd.exA H
 obtain ⟨ct,H⟩:=Hd.exA H
 obtain ⟨co,H⟩:=Hd.exA H
 obtain ⟨cb,H⟩:=Hd.exA H
 obtain ⟨fv,H⟩:=Hd.exA H
 obtain ⟨vw,H⟩:=Hd.exA H
 obtain ⟨ws,H⟩:=Hd.exA H
 exact ⟨vS,vM,vC,vR,vK,J2,cw,ct,co,cb,fv,vw,ws,H.stA.puA⟩
theorem Mi (b:Nat) (J:AG) (M:F6) (vS:Value) (vM:Value) (vC:Value) (vR:Value) (vK:Value) (J2:AG) (cw:Int) (ct:Int) (co:Int) (cb:Nat) (fv:Value) (vw:Value) (ws:List (Nat×CX)) {w0 w:World} {F0:AN} {As Rs:List SP} (hp:(BC J2 J)∧(ws.map Prod.snd=M.ws)) (H:Hd w0 F0 w ([blk b [vS,.int .i64 J2.parts,vM,vC,vR,.int .i64 J2.chunk,.int .i64 J2.window,.int .i64 J2.fuel,vK,.int .i64 cw,.int .i64 ct,.int .i64 co,.int .i64 ((M.sp:Nat):Int),.int .i64 M.att,.int .i64 ((AB dg J2 M.sp).2),.pointer (some ⟨cb,0,none⟩),vw] 164,blk cb [.int .u32 1,.int .i32 0,.int .u32 0,.int .u32 1,fv,.string (Bi (AB dg J2 M.sp).1)] 234,Y (Ak Ag) vS J2.us,Y Af vM J2.map,Y Af vC J2.comb,Y Af vR J2.red,Y (Ai .i64) vK J2.marks,Y CY vw (ws.map Prod.fst),Bf (CS 239) ws]++As) Rs):Hd w0 F0 w (EU b J M::As) Rs:=by
 have H1:=(show Hd w0 F0 w ([C0 ((BC J2 J)∧(ws.map Prod.snd=M.ws)),blk b [vS,.int .i64 J2.parts,vM,vC,vR,.int .i64 J2.chunk,.int .i64 J2.window,.int .i64 J2.fuel,vK,.int .i64 cw,.int .i64 ct,.int .i64 co,.int .i64 ((M.sp:Nat):Int),.int .i64 M.att,.int .i64 ((AB dg J2 M.sp).2),.pointer (some ⟨cb,0,none⟩),vw] 164,blk cb [.int .u32 1,.int .i32 0,.int .u32 0,.int .u32 1,fv,.string (Bi (AB dg J2 M.sp).1)] 234,Y (Ak Ag) vS J2.us,Y Af vM J2.map,Y Af vC J2.comb,Y Af vR J2.red,Y (Ai .i64) vK J2.marks,Y CY vw (ws.map Prod.fst),Bf (CS 239) ws]++As) Rs from H.puI hp).stI
 replace H1:=Hd.exI (A:=fun ws:List (Nat×CX)=>CO [C0 ((BC J2 J)∧(ws.map Prod.snd=M.ws)),blk b [vS,.int .i64 J2.parts,vM,vC,vR,.int .i64 J2.chunk,.int .i64 J2.window,.int .i64 J2.fuel,vK,.int .i64 cw,.int .i64 ct,.int .i64 co,.int .i64 ((M.sp:Nat):Int),.int .i64 M.att,.int .i64 ((AB dg J2 M.sp).2),.pointer (some ⟨cb,0,none⟩),vw] 164,blk cb [.int .u32 1,.int .i32 0,.int .u32 0,.int .u32 1,fv,.string (Bi (AB dg J2 M.sp).1)] 234,Y (Ak Ag) vS J2.us,Y Af vM J2.map,Y Af vC J2.comb,Y Af vR J2.red,Y (Ai .i64) vK J2.marks,Y CY vw (ws.map Prod.fst),Bf (CS 239) ws]) ws H1
 replace H1:=Hd.exI (A:=fun vw:Value=>ex fun ws:List (Nat×CX)=>CO [C0 ((BC J2 J)∧(ws.map Prod.snd=M.ws)),blk b [vS,.int .i64 J2.parts,vM,vC,vR,.int .i64 J2.chunk,.int .i64 J2.window,.int .i64 J2.fuel,vK,.int .i64 cw,.int .i64 ct,.int .i64 co,.int .i64 ((M.sp:Nat):Int),.int .i64 M.att,.int .i64 ((AB dg J2 M.sp).2),.pointer (some ⟨cb,0,none⟩),vw] 164,blk cb [.int .u32 1,.int .i32 0,.int .u32 0,.int .u32 1,fv,.string (Bi (AB dg J2 M.sp).1)] 234,Y (Ak Ag) vS J2.us,Y Af vM J2.map,Y Af vC J2.comb,Y Af vR J2.red,Y (Ai .i64) vK J2.marks,Y CY vw (ws.map Prod.fst),Bf (CS 239) ws]) vw H1
 replace H1:=Hd.exI (A:=fun fv:Value=>ex fun vw:Value=>ex fun ws:List (Nat×CX)=>CO [C0 ((BC J2 J)∧(ws.map Prod.snd=M.ws)),blk b [vS,.int .i64 J2.parts,vM,vC,vR,.int .i64 J2.chunk,.int .i64 J2.window,.int .i64 J2.fuel,vK,.int .i64 cw,.int .i64 ct,.int .i64 co,.int .i64 ((M.sp:Nat):Int),.int .i64 M.att,.int .i64 ((AB dg J2 M.sp).2),.pointer (some ⟨cb,0,none⟩),vw] 164,blk cb [.int .u32 1,.int .i32 0,.int .u32 0,.int .u32 1,fv,.string (Bi (AB dg J2 M.sp).1)] 234,Y (Ak Ag) vS J2.us,Y Af vM J2.map,Y Af vC J2.comb,Y Af vR J2.red,Y (Ai .i64) vK J2.marks,Y CY vw (ws.map Prod.fst),Bf (CS 239) ws]) fv H1
 replace H1:=Hd.exI (A:=fun cb:Nat=>ex fun fv:Value=>ex fun vw:Value=>ex fun ws:List (Nat×CX)=>CO [C0 ((BC J2 J)∧(ws.map Prod.snd=M.ws)),blk b [vS,.int .i64 J2.parts,vM,vC,vR,.int .i64 J2.chunk,.int .i64 J2.window,.int .i64 J2.fuel,vK,.int .i64 cw,.int .i64 ct,.int .i64 co,.int .i64 ((M.sp:Nat):Int),.int .i64 M.att,.int .i64 ((AB dg J2 M.sp).2),.pointer (some ⟨cb,0,none⟩),vw] 164,blk cb [.int .u32 1,.int .i32 0,.int .u32 0,.int .u32 1,fv,.string (Bi (AB dg J2 M.sp).1)] 234,Y (Ak Ag) vS J2.us,Y Af vM J2.map,Y Af vC J2.comb,Y Af vR J2.red,Y (Ai .i64) vK J2.marks,Y CY vw (ws.map Prod.fst),Bf (CS 239) ws]) cb H1
 replace H1:=Hd.exI (A:=fun co:Int=>ex fun cb:Nat=>ex fun fv:Value=>ex fun vw:Value=>ex fun ws:List (Nat×CX)=>CO [C0 ((BC J2 J)∧(ws.map Prod.snd=M.ws)),blk b [vS,.int .i64 J2.parts,vM,vC,vR,.int .i64 J2.chunk,.int .i64 J2.window,.int .i64 J2.fuel,vK,.int .i64 cw,.int .i64 ct,.int .i64 co,.int .i64 ((M.sp:Nat):Int),.int .i64 M.att,.int .i64 ((AB dg J2 M.sp).2),.pointer (some ⟨cb,0,none⟩),vw] 164,blk cb [.int .u32 1,.int .i32 0,.int .u32 0,.int .u32 1,fv,.string (Bi (AB dg J2 M.sp).1)] 234,Y (Ak Ag) vS J2.us,Y Af vM J2.map,Y Af vC J2.comb,Y Af vR J2.red,Y (Ai .i64) vK J2.marks,Y CY vw (ws.map Prod.fst),Bf (CS 239) ws]) co H1
 replace H1:=Hd.exI (A:=fun ct:Int=>ex fun co:Int=>ex fun cb:Nat=>ex fun fv:Value=>ex fun vw:Value=>ex fun ws:List (Nat×CX)=>CO [C0 ((BC J2 J)∧(ws.map Prod.snd=M.ws)),blk b [vS,.int .i64 J2.parts,vM,vC,vR,.int .i64 J2.chunk,.int .i64 J2.window,.int .i64 J2.fuel,vK,.int .i64 cw,.int .i64 ct,.int .i64 co,.int .i64 ((M.sp:Nat):Int),.int .i64 M.att,.int .i64 ((AB dg J2 M.sp).2),.pointer (some ⟨cb,0,none⟩),vw] 164,blk cb [.int .u32 1,.int .i32 0,.int .u32 0,.int .u32 1,fv,.string (Bi (AB dg J2 M.sp).1)] 234,Y (Ak Ag) vS J2.us,Y Af vM J2.map,Y Af vC J2.comb,Y Af vR J2.red,Y (Ai .i64) vK J2.marks,Y CY vw (ws.map Prod.fst),Bf (CS 239) ws]) ct H1
 replace H1:=Hd.exI (A:=fun cw:Int=>ex fun ct:Int=>ex fun co:Int=>ex fun cb:Nat=>ex fun fv:Value=>ex fun vw:Value=>ex fun ws:List (Nat×CX)=>CO [C0 ((BC J2 J)∧(ws.map Prod.snd=M.ws)),blk b [vS,.int .i64 J2.parts,vM,vC,vR,.int .i64 J2.chunk,.int .i64 J2.window,.int .i64 J2.fuel,vK,.int .i64 cw,.int .i64 ct,.int .i64 co,.int .i64 ((M.sp:Nat):Int),.int .i64 M.att,.int .i64 ((AB dg J2 M.sp).2),.pointer (some ⟨cb,0,none⟩),vw] 164,blk cb [.int .u32 1,.int .i32 0,.int .u32 0,.int .u32 1,fv,.string (Bi (AB dg J2 M.sp).1)] 234,Y (Ak Ag) vS J2.us,Y Af vM J2.map,Y Af vC J2.comb,Y Af vR J2.red,Y (Ai .i64) vK J2.marks,Y CY vw (ws.map Prod.fst),Bf (CS 239) ws]) cw H1
 replace H1:=Hd.exI (A:=fun J2:AG=>ex fun cw:Int=>ex fun ct:Int=>ex fun co:Int=>ex fun cb:Nat=>ex fun fv:Value=>ex fun vw:Value=>ex fun ws:List (Nat×CX)=>CO [C0 ((BC J2 J)∧(ws.map Prod.snd=M.ws)),blk b [vS,.int .i64 J2.parts,vM,vC,vR,.int .i64 J2.chunk,.int .i64 J2.window,.int .i64 J2.fuel,vK,.int .i64 cw,.int .i64 ct,.int .i64 co,.int .i64 ((M.sp:Nat):Int),.int .i64 M.att,.int .i64 ((AB dg J2 M.sp).2),.pointer (some ⟨cb,0,none⟩),vw] 164,blk cb [.int .u32 1,.int .i32 0,.int .u32 0,.int .u32 1,fv,.string (Bi (AB dg J2 M.sp).1)] 234,Y (Ak Ag) vS J2.us,Y Af vM J2.map,Y Af vC J2.comb,Y Af vR J2.red,Y (Ai .i64) vK J2.marks,Y CY vw (ws.map Prod.fst),Bf (CS 239) ws]) J2 H1
 replace H1:=Hd.exI (A:=fun vK:Value=>ex fun J2:AG=>ex fun cw:Int=>ex fun ct:Int=>ex fun co:Int=>ex fun cb:Nat=>ex fun fv:Value=>ex fun vw:Value=>ex fun ws:List (Nat×CX)=>CO [C0 ((BC J2 J)∧(ws.map Prod.snd=M.ws)),blk b [vS,.int .i64 J2.parts,vM,vC,vR,.int .i64 J2.chunk,.int .i64 J2.window,.int .i64 J2.fuel,vK,.int .i64 cw,.int .i64 ct,.int .i64 co,.int .i64 ((M.sp:Nat):Int),.int .i64 M.att,.int .i64 ((AB dg J2 M.sp).2),.pointer (some ⟨cb,0,none⟩),vw] 164,blk cb [.int .u32 1,.int .i32 0,.int .u32 0,.int .u32 1,fv,.string (Bi (AB dg J2 M.sp).1)] 234,Y (Ak Ag) vS J2.us,Y Af vM J2.map,Y Af vC J2.comb,Y Af vR J2.red,Y (Ai .i64) vK J2.marks,Y CY vw (ws.map Prod.fst),Bf (CS 239) ws]) vK H1
 replace H1:=Hd.exI (A:=fun vR:Value=>ex fun vK:Value=>ex fun J2:AG=>ex fun cw:Int=>ex fun ct:Int=>ex fun co:Int=>ex fun cb:Nat=>ex fun fv:Value=>ex fun vw:Value=>ex fun ws:List (Nat×CX)=>CO [C0 ((BC J2 J)∧(ws.map Prod.snd=M.ws)),blk b [vS,.int .i64 J2.parts,vM,vC,vR,.int .i64 J2.chunk,.int .i64 J2.window,.int .i64 J2.fuel,vK,.int .i64 cw,.int .i64 ct,.int .i64 co,.int .i64 ((M.sp:Nat):Int),.int .i64 M.att,.int .i64 ((AB dg J2 M.sp).2),.pointer (some ⟨cb,0,none⟩),vw] 164,blk cb [.int .u32 1,.int .i32 0,.int .u32 0,.int .u32 1,fv,.string (Bi (AB dg J2 M.sp).1)] 234,Y (Ak Ag) vS J2.us,Y Af vM J2.map,Y Af vC J2.comb,Y Af vR J2.red,Y (Ai .i64) vK J2.marks,Y CY vw (ws.map Prod.fst),Bf (CS 239) ws]) vR H1
 replace H1:=Hd.exI (A:=fun vC:Value=>ex fun vR:Value=>ex fun vK:Value=>ex fun J2:AG=>ex fun cw:Int=>ex fun ct:Int=>ex fun co:Int=>ex fun cb:Nat=>ex fun fv:Value=>ex fun vw:Value=>ex fun ws:List (Nat×CX)=>CO [C0 ((BC J2 J)∧(ws.map Prod.snd=M.ws)),blk b [vS,.int .i64 J2.parts,vM,vC,vR,.int .i64 J2.chunk,.int .i64 J2.window,.int .i64 J2.fuel,vK,.int .i64 cw,.int .i64 ct,.int .i64 co,.int .i64 ((M.sp:Nat):Int),.int .i64 M.att,.int .i64 ((AB dg J2 M.sp).2),.pointer (some ⟨cb,0,none⟩),vw] 164,blk cb [.int .u32 1,.int .i32 0,.int .u32 0,.int .u32 1,fv,.string (Bi (AB dg J2 M.sp).1)] 234,Y (Ak Ag) vS J2.us,Y Af vM J2.map,Y Af vC J2.comb,Y Af vR J2.red,Y (Ai .i64) vK J2.marks,Y CY vw (ws.map Prod.fst),Bf (CS 239) ws]) vC H1
 replace H1:=Hd.exI (A:=fun vM:Value=>ex fun vC:Value=>ex fun vR:Value=>ex fun vK:Value=>ex fun J2:AG=>ex fun cw:Int=>ex fun ct:Int=>ex fun co:Int=>ex fun cb:Nat=>ex fun fv:Value=>ex fun vw:Value=>ex fun ws:List (Nat×CX)=>CO [C0 ((BC J2 J)∧(ws.map Prod.snd=M.ws)),blk b [vS,.int .i64 J2.parts,vM,vC,vR,.int .i64 J2.chunk,.int .i64 J2.window,.int .i64 J2.fuel,vK,.int .i64 cw,.int .i64 ct,.int .i64 co,.int .i64 ((M.sp:Nat):Int),.int .i64 M.att,.int .i64 ((AB dg J2 M.sp).2),.pointer (some ⟨cb,0,none⟩),vw] 164,blk cb [.int .u32 1,.int .i32 0,.int .u32 0,.int .u32 1,fv,.string (Bi (AB dg J2 M.sp).1)] 234,Y (Ak Ag) vS J2.us,Y Af vM J2.map,Y Af vC J2.comb,Y Af vR J2.red,Y (Ai .i64) vK J2.marks,Y CY vw (ws.map Prod.fst),Bf (CS 239) ws]) vM H1
 replace H1:=Hd.exI (A:=fun vS:Value=>ex fun vM:Value=>ex fun vC:Value=>ex fun vR:Value=>ex fun vK:Value=>ex fun J2:AG=>ex fun cw:Int=>ex fun ct:Int=>ex fun co:Int=>ex fun cb:Nat=>ex fun fv:Value=>ex fun vw:Value=>ex fun ws:List (Nat×CX)=>CO [C0 ((BC J2 J)∧(ws.map Prod.snd=M.ws)),blk b [vS,.int .i64 J2.parts,vM,vC,vR,.int .i64 J2.chunk,.int .i64 J2.window,.int .i64 J2.fuel,vK,.int .i64 cw,.int .i64 ct,.int .i64 co,.int .i64 ((M.sp:Nat):Int),.int .i64 M.att,.int .i64 ((AB dg J2 M.sp).2),.pointer (some ⟨cb,0,none⟩),vw] 164,blk cb [.int .u32 1,.int .i32 0,.int .u32 0,.int .u32 1,fv,.string (Bi (AB dg J2 M.sp).1)] 234,Y (Ak Ag) vS J2.us,Y Af vM J2.map,Y Af vC J2.comb,Y Af vR J2.red,Y (Ai .i64) vK J2.marks,Y CY vw (ws.map Prod.fst),Bf (CS 239) ws]) vS H1
 exact H1
theorem PN (vS:Value) (vM:Value) (vC:Value) (vR:Value) (vK:Value) (C:Cf) (s:Nat) (att:Int) (hC:D1 C) (hO:B5 C.J) (hgo:s<C.J.us.length∧1≤att∧att≤C.t):
    Cn Tryz.prog 27 [.agg #[vS,.int .i64 C.J.parts,vM,vC,vR,.int .i64 C.J.chunk,.int .i64 C.J.window,.int .i64 C.J.fuel,vK,.int .i64 C.w,.int .i64 C.t,.int .i64 C.o],.int .i64 ((s:Nat):Int),.int .i64 att] [] [Aa (Ak Ag) vS C.J.us,Aa Af vM C.J.map,Aa Af vC C.J.comb,Aa Af vR C.J.red,Aa (Ai .i64) vK C.J.marks,gl] (fun v Bs=>∃ b:Nat,v=.tuple #[.pointer (some ⟨b,0,none⟩),.int .i64 0]∧Bs=[EU b C.J (FO dg C.J s att)]):=by
 intro w0 F0 H
 obtain ⟨A1,c2,rfl,hc3,hm4,hp5⟩:=H.fR 0 rfl
 obtain ⟨A6,c7,rfl,hc8,hm9,hp10⟩:=H.fR 1 rfl
 obtain ⟨A11,c12,rfl,hc13,hm14,hp15⟩:=H.fR 2 rfl
 obtain ⟨A16,c17,rfl,hc18,hm19,hp20⟩:=H.fR 3 rfl
 obtain ⟨A21,c22,rfl,hc23,hm24,hp25⟩:=H.fR 4 rfl
 refine enter Tryz.func27 U U (Nat.le_of_ble_eq_true U) (Ab (Ae (Cy U U U U H (fun b26 w H=>(Cy U U U U H (fun b27 w H=>(Ah 2 U (Ac (Z ?_)))))))))
 replace H:Hd _ _ _ [blk b27 [.int .i64 ((s:Nat):Int)] 3,blk b26 [.slice A1 C.J.us.length c2,.int .i64 C.J.parts,.slice A6 C.J.map.length c7,.slice A11 C.J.comb.length c12,.slice A16 C.J.red.length c17,.int .i64 C.J.chunk,.int .i64 C.J.window,.int .i64 C.J.fuel,.slice A21 C.J.marks.length c22,.int .i64 C.w,.int .i64 C.t,.int .i64 C.o] 28] [Aa (Ak Ag) (.slice A1 C.J.us.length c2) C.J.us,Aa Af (.slice A6 C.J.map.length c7) C.J.map,Aa Af (.slice A11 C.J.comb.length c12) C.J.comb,Aa Af (.slice A16 C.J.red.length c17) C.J.red,Aa (Ai .i64) (.slice A21 C.J.marks.length c22) C.J.marks,gl]:=H
 refine Ab (Ab (Ae (V U U (Bu (cs:=[.slice A1 C.J.us.length c2,.int .i64 C.J.parts,.slice A6 C.J.map.length c7,.slice A11 C.J.comb.length c12,.slice A16 C.J.red.length c17,.int .i64 C.J.chunk,.int .i64 C.J.window,.int .i64 C.J.fuel,.slice A21 C.J.marks.length c22,.int .i64 C.w,.int .i64 C.t,.int .i64 C.o]) U Ek U U (H.cellsI 1 U U)) (sc (Mh (.slice A1 C.J.us.length c2) (.slice A6 C.J.map.length c7) (.slice A11 C.J.comb.length c12) (.slice A16 C.J.red.length c17) (.slice A21 C.J.marks.length c22) C) H (lR 0 U (lR 1 U (lR 2 U (lR 3 U (lR 4 U l0))))) U U (At L3 U U) ?_))))
 rintro _ _ w ⟨rfl,rfl⟩ H
 refine V U U (DD U U) (Ad U ?_)
 refine AU (d:=16) U (fun h28=>?_) (fun h28=>?_)
 ·first |exact (h28 hC).elim|(exfalso;omega)
 refine V U U (Ao U AE U (H.cellI 0 U U)) (V U U (Bd U U U) (Ah 2 U ?_))
 refine AU (d:=20) U (fun h29=>?_) (fun h29=>?_)
 ·first |exact (h29 hC).elim|(exfalso;omega)
 refine V U U (Ao U AE U (H.cellI 0 U U)) (V U U (Aj U Cu U) (V U U (Aj U Dw U) (V U U (Ao U Dy U (H.cellI 1 U U)) (V U U (A8 U Dz U) (V U U (Cw U U U) (Ah 2 U ?_))))))
 refine AU (d:=28) U (fun h30=>?_) (fun h30=>?_)
 ·first |exact (h30 hC).elim|(exfalso;omega)
 refine Ad U (V U U (Bd U U U) (Ah 2 U ?_))
 refine AU (d:=32) U (fun h31=>?_) (fun h31=>?_)
 ·first |exact (h31 hC).elim|(exfalso;omega)
 refine Ad U (V U U (Aj U Jc U) (V U U (Ao U AE U (H.cellI 1 U U)) (V U U (Ca U U U) (Ad U (Ac (Z ?_))))))
 replace H:Hd _ _ _ [blk b27 [.int .i64 ((s:Nat):Int)] 3,blk b26 [.slice A1 C.J.us.length c2,.int .i64 C.J.parts,.slice A6 C.J.map.length c7,.slice A11 C.J.comb.length c12,.slice A16 C.J.red.length c17,.int .i64 C.J.chunk,.int .i64 C.J.window,.int .i64 C.J.fuel,.slice A21 C.J.marks.length c22,.int .i64 C.w,.int .i64 C.t,.int .i64 C.o] 28] [Aa (Ak Ag) (.slice A1 C.J.us.length c2) C.J.us,Aa Af (.slice A6 C.J.map.length c7) C.J.map,Aa Af (.slice A11 C.J.comb.length c12) C.J.comb,Aa Af (.slice A16 C.J.red.length c17) C.J.red,Aa (Ai .i64) (.slice A21 C.J.marks.length c22) C.J.marks,gl]:=H
 refine Az U (fun h32=>?_) (fun h32=>?_)
 ·first |exact (h32 hC).elim|(exfalso;omega)
 refine Aw (Z (Ab (Ae (V U U (Bu (cs:=[.slice A1 C.J.us.length c2,.int .i64 C.J.parts,.slice A6 C.J.map.length c7,.slice A11 C.J.comb.length c12,.slice A16 C.J.red.length c17,.int .i64 C.J.chunk,.int .i64 C.J.window,.int .i64 C.J.fuel,.slice A21 C.J.marks.length c22,.int .i64 C.w,.int .i64 C.t,.int .i64 C.o]) U Ek U U (H.cellsI 1 U U)) (sc (P_ (.slice A1 C.J.us.length c2) (.slice A6 C.J.map.length c7) (.slice A11 C.J.comb.length c12) (.slice A16 C.J.red.length c17) (.slice A21 C.J.marks.length c22) C (by first |assumption|omega)) H (lR 0 U (lR 1 U (lR 2 U (lR 3 U (lR 4 U l0))))) U U (At Py U U) ?_)))))
 rintro _ _ w ⟨J33,vS34,vM35,vC36,vR37,vK38,rfl,rfl,hf39⟩ H
 have hsj:=hf39
 have hJ:B5 J33:=hsj.symm.ok hO
 have hs:s<J33.us.length:=by have:=hsj.len;omega
 have hpt:=hJ.parts
 have hwi:=hJ.window1
 have hcl:(BI dg J33 s att).length≤1000:=by rw [I5];split<;>omega
 obtain ⟨A40,c41,rfl,hc42,hm43,hp44⟩:=H.fA 0 rfl
 obtain ⟨A45,c46,rfl,hc47,hm48,hp49⟩:=H.fA 1 rfl
 obtain ⟨A50,c51,rfl,hc52,hm53,hp54⟩:=H.fA 2 rfl
 obtain ⟨A55,c56,rfl,hc57,hm58,hp59⟩:=H.fA 3 rfl
 obtain ⟨A60,c61,rfl,hc62,hm63,hp64⟩:=H.fA 4 rfl
 replace H:=H.p6
 refine Bo U U U Ek U U H U (Nat.le_of_ble_eq_true U) (fun u hu=>by simp [Value.cells] at hu;rcases hu with rfl|rfl|rfl|rfl|rfl|rfl|rfl|rfl|rfl|rfl|rfl|rfl<;>rfl) (fun w H=>?_)
 replace H:Hd _ _ _ [blk b26 [.slice A40 J33.us.length c41,.int .i64 J33.parts,.slice A45 J33.map.length c46,.slice A50 J33.comb.length c51,.slice A55 J33.red.length c56,.int .i64 J33.chunk,.int .i64 J33.window,.int .i64 J33.fuel,.slice A60 J33.marks.length c61,.int .i64 C.w,.int .i64 C.t,.int .i64 C.o] 28,Y (Ak Ag) (.slice A40 J33.us.length c41) J33.us,Y Af (.slice A45 J33.map.length c46) J33.map,Y Af (.slice A50 J33.comb.length c51) J33.comb,Y Af (.slice A55 J33.red.length c56) J33.red,Y (Ai .i64) (.slice A60 J33.marks.length c61) J33.marks,blk b27 [.int .i64 ((s:Nat):Int)] 3] [Aa (Ak Ag) (.slice A1 C.J.us.length c2) C.J.us,Aa Af (.slice A6 C.J.map.length c7) C.J.map,Aa Af (.slice A11 C.J.comb.length c12) C.J.comb,Aa Af (.slice A16 C.J.red.length c17) C.J.red,Aa (Ai .i64) (.slice A21 C.J.marks.length c22) C.J.marks,gl]:=H
 refine Ac (Z (Ab (Ae (V U U (Bu (cs:=[.slice A40 J33.us.length c41,.int .i64 J33.parts,.slice A45 J33.map.length c46,.slice A50 J33.comb.length c51,.slice A55 J33.red.length c56,.int .i64 J33.chunk,.int .i64 J33.window,.int .i64 J33.fuel,.slice A60 J33.marks.length c61,.int .i64 C.w,.int .i64 C.t,.int .i64 C.o]) U Ek U U (H.cellsI 0 U U)) (V U U (Ao U AE U (H.cellI 6 U U)) (Ad U (V U U (CM (parts:=[(0,.tmp 40),(1,.tmp 41),(2,.tmp 42)]) (vs:=[.agg #[.slice A40 J33.us.length c41,.int .i64 J33.parts,.slice A45 J33.map.length c46,.slice A50 J33.comb.length c51,.slice A55 J33.red.length c56,.int .i64 J33.chunk,.int .i64 J33.window,.int .i64 J33.fuel,.slice A60 J33.marks.length c61,.int .i64 C.w,.int .i64 C.t,.int .i64 C.o],.int .i64 ((s:Nat):Int),.int .i64 att]) (cs:=[.slice A40 J33.us.length c41,.int .i64 J33.parts,.slice A45 J33.map.length c46,.slice A50 J33.comb.length c51,.slice A55 J33.red.length c56,.int .i64 J33.chunk,.int .i64 J33.window,.int .i64 J33.fuel,.slice A60 J33.marks.length c61,.int .i64 C.w,.int .i64 C.t,.int .i64 C.o,.int .i64 ((s:Nat):Int),.int .i64 att,.int .i64 0,.pointer none,.slice none 0 0]) U Sg U U) ?_)))))))
 refine Cy U U U U H (fun b65 w H=>(Dr U U U bF H (fun b66 w H=>(Bo U U U HU U U H U (Nat.le_of_ble_eq_true U) (fun u hu=>by simp [Value.cells] at hu;subst hu;rfl) (fun w H=>?_)))))
 replace H:=H.h2 (A:=blk b66 [.pointer (some ⟨b65,0,none⟩)] 44) (B:=blk b65 [.slice A40 J33.us.length c41,.int .i64 J33.parts,.slice A45 J33.map.length c46,.slice A50 J33.comb.length c51,.slice A55 J33.red.length c56,.int .i64 J33.chunk,.int .i64 J33.window,.int .i64 J33.fuel,.slice A60 J33.marks.length c61,.int .i64 C.w,.int .i64 C.t,.int .i64 C.o,.int .i64 ((s:Nat):Int),.int .i64 att,.int .i64 0,.pointer none,.slice none 0 0] 164)
 refine Ac (Z (Ab ?_))
 replace H:=H.p8.p8.p8.p8.p8.p8.p8.p7
 refine BP (.e 0 (.e 1 (.m 2 (.e 3 (.e 4 (.m 5 .z)))))) (fun w=>∃ Ar,Hd w0 F0 w (blk b66 [.pointer (some ⟨b65,0,none⟩)] 44::blk b26 [.slice A40 J33.us.length c41,.int .i64 J33.parts,.slice A45 J33.map.length c46,.slice A50 J33.comb.length c51,.slice A55 J33.red.length c56,.int .i64 J33.chunk,.int .i64 J33.window,.int .i64 J33.fuel,.slice A60 J33.marks.length c61,.int .i64 C.w,.int .i64 C.t,.int .i64 C.o] 28::Y (Ak Ag) (.slice A40 J33.us.length c41) J33.us::Y Af (.slice A45 J33.map.length c46) J33.map::Y Af (.slice A50 J33.comb.length c51) J33.comb::Y Af (.slice A55 J33.red.length c56) J33.red::Y (Ai .i64) (.slice A60 J33.marks.length c61) J33.marks::blk b27 [.int .i64 ((s:Nat):Int)] 3::Ar) [Aa (Ak Ag) (.slice A1 C.J.us.length c2) C.J.us,Aa Af (.slice A6 C.J.map.length c7) C.J.map,Aa Af (.slice A11 C.J.comb.length c12) C.J.comb,Aa Af (.slice A16 C.J.red.length c17) C.J.red,Aa (Ai .i64) (.slice A21 C.J.marks.length c22) C.J.marks,gl]) mo (by kernel_rfl) (fun w H=>⟨_,H⟩) H (fun w H=>?_)
 refine An U U U (fun w ⟨Ar,H⟩=>Ao U HU U (H.cellI 0 U U)) (An U U U (fun w ⟨Ar,H⟩=>Hb (fs:=#[]) (cs:=#[.pointer (some ⟨b26,0,none⟩),.pointer (some ⟨b27,0,none⟩),.pointer (some ⟨b66,0,none⟩)]) U U U) (AK U (sc (Wk b26 b27 b66) H l0 U U (At Pz U U) ?_)))
 rintro _ _ w ⟨cb67,rfl,rfl⟩ H
 replace H:=H.h1 (A:=blk cb67 [.int .u32 0,.int .i32 0,.int .u32 0,.int .u32 0,.func (.func 96) #[] #[.pointer (some ⟨b26,0,none⟩),.pointer (some ⟨b27,0,none⟩),.pointer (some ⟨b66,0,none⟩)],.string ⟨#[]⟩] 234)|>.p8|>.p8|>.p8|>.p8|>.p8|>.p8|>.p8|>.p8
 refine AH ⟨_,H⟩ (An U U U (fun w ⟨Ar,H⟩=>AI U U) (An U U U (fun w ⟨Ar,H⟩=>Aj U J6 U) (AK U ?_)))
 replace H:=H.p9
 refine Bo U U U DK U U H U (Nat.le_of_ble_eq_true U) (fun u hu=>by simp [Value.cells] at hu;subst hu;rfl) (fun w H=>?_)
 replace H:=H.h1 (A:=blk b65 [.slice A40 J33.us.length c41,.int .i64 J33.parts,.slice A45 J33.map.length c46,.slice A50 J33.comb.length c51,.slice A55 J33.red.length c56,.int .i64 J33.chunk,.int .i64 J33.window,.int .i64 J33.fuel,.slice A60 J33.marks.length c61,.int .i64 C.w,.int .i64 C.t,.int .i64 C.o,.int .i64 ((s:Nat):Int),.int .i64 att,.int .i64 0,.pointer (some ⟨cb67,0,none⟩),.slice none 0 0] 164)|>.p8|>.p8|>.p8|>.p8|>.p8|>.p8|>.p8|>.p8
 refine AH ⟨_,H⟩ (BH (Z (Ab (Ab (Ae (V U U (Ao U HU U (H.cellI 0 U U)) ?_))))))
 replace H:=H.p8.p9
 refine sc (Wf b65 b26 b27 b66 cb67 (.slice A40 J33.us.length c41) (.slice A45 J33.map.length c46) (.slice A50 J33.comb.length c51) (.slice A55 J33.red.length c56) (.slice A60 J33.marks.length c61) J33 C.w C.t C.o s att hJ hs) H (lA 1 U (fun _ h=>h) (lA 7 U (fun _ h=>h) (lA 0 U (fun _ h=>h) (lA 2 U BE (lA 3 U BE (lA 4 U BE (lA 5 U BE (lA 6 U BE (lR 5 U l0))))))))) U U (At L5 U U) ?_
 rintro v68 _ w rfl H
 obtain ⟨A69,c70,rfl,hc71,hm72,hp73⟩:=H.fA 0 rfl
 refine V U U (A8 U DL U) (Ad U (Ac (Z ?_)))
 replace H:Hd _ _ _ [Y (Ai .i64) (.slice A69 ((BI dg J33 s att).length) c70) (BI dg J33 s att),blk cb67 [.int .u32 1,.int .i32 0,.int .u32 0,.int .u32 1,.func (.func 96) #[] #[.pointer (some ⟨b26,0,none⟩),.pointer (some ⟨b27,0,none⟩),.pointer (some ⟨b66,0,none⟩)],.string (Bi (AB dg J33 s).1)] 234,blk b65 [.slice A40 J33.us.length c41,.int .i64 J33.parts,.slice A45 J33.map.length c46,.slice A50 J33.comb.length c51,.slice A55 J33.red.length c56,.int .i64 J33.chunk,.int .i64 J33.window,.int .i64 J33.fuel,.slice A60 J33.marks.length c61,.int .i64 C.w,.int .i64 C.t,.int .i64 C.o,.int .i64 ((s:Nat):Int),.int .i64 att,.int .i64 ((AB dg J33 s).2),.pointer (some ⟨cb67,0,none⟩),.slice none 0 0] 164,blk b66 [.pointer (some ⟨b65,0,none⟩)] 44,blk b26 [.slice A40 J33.us.length c41,.int .i64 J33.parts,.slice A45 J33.map.length c46,.slice A50 J33.comb.length c51,.slice A55 J33.red.length c56,.int .i64 J33.chunk,.int .i64 J33.window,.int .i64 J33.fuel,.slice A60 J33.marks.length c61,.int .i64 C.w,.int .i64 C.t,.int .i64 C.o] 28,Y (Ak Ag) (.slice A40 J33.us.length c41) J33.us,Y Af (.slice A45 J33.map.length c46) J33.map,Y Af (.slice A50 J33.comb.length c51) J33.comb,Y Af (.slice A55 J33.red.length c56) J33.red,Y (Ai .i64) (.slice A60 J33.marks.length c61) J33.marks,blk b27 [.int .i64 ((s:Nat):Int)] 3] [Aa (Ak Ag) (.slice A1 C.J.us.length c2) C.J.us,Aa Af (.slice A6 C.J.map.length c7) C.J.map,Aa Af (.slice A11 C.J.comb.length c12) C.J.comb,Aa Af (.slice A16 C.J.red.length c17) C.J.red,Aa (Ai .i64) (.slice A21 C.J.marks.length c22) C.J.marks,gl]:=H
 refine AW ?_
 replace H:=H.p4.p9.p9.p9.p9.p9.p8.p8.p8.k10.newnil CY
 replace H:=Hd.tellK (ys:=([]:List (Nat×CX)).map Prod.fst) H rfl
 replace H:=Hd.big0 (CS 239) H
 replace H:=H.h2 (A:=Bf (CS 239) ([]:List (Nat×CX))) (B:=Y CY (.slice none 0 0) (([]:List (Nat×CX)).map Prod.fst))
 refine BT (σ:=Nat×Value×List (Nat×CX)) (fun (k,vw,ws)=>[(3,.pointer (some ⟨b26,0,none⟩)),(6,.pointer none),(7,.int .i64 0),(8,.pointer (some ⟨b66,0,none⟩)),(51,.slice A69 ((BI dg J33 s att).length) c70),(52,.int .i64 (((BI dg J33 s att).length:Nat):Int)),(53,.int .i64 ((k:Nat):Int))]) (fun (k,vw,ws) w=>(Hd w0 F0 w [Bf (CS 239) ws,Y CY vw (ws.map Prod.fst),Y (Ai .i64) (.slice A69 ((BI dg J33 s att).length) c70) (BI dg J33 s att),blk cb67 [.int .u32 1,.int .i32 0,.int .u32 0,.int .u32 1,.func (.func 96) #[] #[.pointer (some ⟨b26,0,none⟩),.pointer (some ⟨b27,0,none⟩),.pointer (some ⟨b66,0,none⟩)],.string (Bi (AB dg J33 s).1)] 234,blk b65 [.slice A40 J33.us.length c41,.int .i64 J33.parts,.slice A45 J33.map.length c46,.slice A50 J33.comb.length c51,.slice A55 J33.red.length c56,.int .i64 J33.chunk,.int .i64 J33.window,.int .i64 J33.fuel,.slice A60 J33.marks.length c61,.int .i64 C.w,.int .i64 C.t,.int .i64 C.o,.int .i64 ((s:Nat):Int),.int .i64 att,.int .i64 ((AB dg J33 s).2),.pointer (some ⟨cb67,0,none⟩),vw] 164,Y (Ak Ag) (.slice A40 J33.us.length c41) J33.us,Y Af (.slice A45 J33.map.length c46) J33.map,Y Af (.slice A50 J33.comb.length c51) J33.comb,Y Af (.slice A55 J33.red.length c56) J33.red,Y (Ai .i64) (.slice A60 J33.marks.length c61) J33.marks,blk b26 [.slice A40 J33.us.length c41,.int .i64 J33.parts,.slice A45 J33.map.length c46,.slice A50 J33.comb.length c51,.slice A55 J33.red.length c56,.int .i64 J33.chunk,.int .i64 J33.window,.int .i64 J33.fuel,.slice A60 J33.marks.length c61,.int .i64 C.w,.int .i64 C.t,.int .i64 C.o] 28,blk b66 [.pointer (some ⟨b65,0,none⟩)] 44] [Aa (Ak Ag) (.slice A1 C.J.us.length c2) C.J.us,Aa Af (.slice A6 C.J.map.length c7) C.J.map,Aa Af (.slice A11 C.J.comb.length c12) C.J.comb,Aa Af (.slice A16 C.J.red.length c17) C.J.red,Aa (Ai .i64) (.slice A21 C.J.marks.length c22) C.J.marks,gl])∧(k≤(BI dg J33 s att).length)∧(ws.map Prod.snd=((BI dg J33 s att).take k).map (RU J33))) (fun (k,vw,ws)=>(BI dg J33 s att).length - k) (0,.slice none 0 0,[]) ⟨rfl,rfl,rfl,rfl,rfl,rfl,rfl,trivial⟩ ⟨H,Nat.zero_le _,rfl⟩ ?_
 rintro ⟨k,vw,ws⟩ w ⟨H,hk,hws⟩
 have hwl:=congrArg List.length hws
 rw [List.length_map,List.length_map,List.length_take] at hwl
 have hwf:(ws.map Prod.fst).length=ws.length:=List.length_map ..
 refine Ab (Ae (V U U (Bd U U U) (Ac (Z (Ab ?_)))))
 refine Az U (fun h74=>?_) (fun h74=>?_)
 ·refine Aw (Z (Ab (AW (Ab (Ae ?_)))))
  obtain ⟨x75,hx76⟩:∃ z9,(BI dg J33 s att)[k]?=some z9:=⟨_,List.getElem?_eq_getElem (show k<(BI dg J33 s att).length by omega)⟩
  have th77:=H.thA 2 rfl hx76
  refine V U U (Ba (p:=AT A69+k*1) U Ds U U (by omega) (by omega) th77 U) (V U U (Ao U AE U (H.elA 2 U hx76 (q:=0) U U)) (Ad U (Ac (Z (Ab ?_)))))
  have hci:=Td (B6 hx76)
  refine Ae (Ad U (V U U (Aj U Cu U) (V U U (Aj U Ox U) (V U U (Ao U AE U (H.cellI 10 U U)) (sc (aU x75 J33.window (by omega)) H l0 U U (At V1 U U) ?_)))))
  rintro _ _ w ⟨b78,rfl,rfl⟩ H
  replace H:=H.h6 (A:=blk b78 [.int .i64 x75,.int .i64 J33.window,.int .i64 0,.int .i64 0] 239) (B:=Bf (CS 239) ws) (C:=Y CY vw (ws.map Prod.fst)) (F:=blk b65 [.slice A40 J33.us.length c41,.int .i64 J33.parts,.slice A45 J33.map.length c46,.slice A50 J33.comb.length c51,.slice A55 J33.red.length c56,.int .i64 J33.chunk,.int .i64 J33.window,.int .i64 J33.fuel,.slice A60 J33.marks.length c61,.int .i64 C.w,.int .i64 C.t,.int .i64 C.o,.int .i64 ((s:Nat):Int),.int .i64 att,.int .i64 ((AB dg J33 s).2),.pointer (some ⟨cb67,0,none⟩),vw] 164)
  refine Ah 5 U (Ac (Z ?_))
  replace H:=H.pick 12 rfl|>.pick 12 rfl|>.pick 12 rfl|>.pick 12 rfl|>.pick 12 rfl|>.pick 12 rfl|>.pick 12 rfl|>.pick 11 rfl|>.pick 11 rfl|>.pick 10 rfl|>.pick 10 rfl
  refine BP (.e 0 (.e 1 (.e 2 (.e 3 (.e 5 (.b 4 6 (.m 6 (.m 7 (.e 8 (.e 9 (.m 10 .z))))) (.m 4 (.m 7 (.e 8 (.e 9 (.m 10 .z))))))))))) (fun w=>∃ Ar,Hd w0 F0 w (blk b78 [.int .i64 x75,.int .i64 J33.window,.int .i64 0,.int .i64 0] 239::Bf (CS 239) ws::Y (Ai .i64) (.slice A69 ((BI dg J33 s att).length) c70) (BI dg J33 s att)::blk cb67 [.int .u32 1,.int .i32 0,.int .u32 0,.int .u32 1,.func (.func 96) #[] #[.pointer (some ⟨b26,0,none⟩),.pointer (some ⟨b27,0,none⟩),.pointer (some ⟨b66,0,none⟩)],.string (Bi (AB dg J33 s).1)] 234::Y (Ak Ag) (.slice A40 J33.us.length c41) J33.us::Y Af (.slice A45 J33.map.length c46) J33.map::Y Af (.slice A50 J33.comb.length c51) J33.comb::Y Af (.slice A55 J33.red.length c56) J33.red::Y (Ai .i64) (.slice A60 J33.marks.length c61) J33.marks::blk b26 [.slice A40 J33.us.length c41,.int .i64 J33.parts,.slice A45 J33.map.length c46,.slice A50 J33.comb.length c51,.slice A55 J33.red.length c56,.int .i64 J33.chunk,.int .i64 J33.window,.int .i64 J33.fuel,.slice A60 J33.marks.length c61,.int .i64 C.w,.int .i64 C.t,.int .i64 C.o] 28::blk b66 [.pointer (some ⟨b65,0,none⟩)] 44::Ar) [Aa (Ak Ag) (.slice A1 C.J.us.length c2) C.J.us,Aa Af (.slice A6 C.J.map.length c7) C.J.map,Aa Af (.slice A11 C.J.comb.length c12) C.J.comb,Aa Af (.slice A16 C.J.red.length c17) C.J.red,Aa (Ai .i64) (.slice A21 C.J.marks.length c22) C.J.marks,gl]) mo (by kernel_rfl) (fun w H=>⟨_,H⟩) H (fun w H=>?_)
  refine An U U U (fun w ⟨Ar,H⟩=>Ao U HU U (H.cellI 10 U U)) (An U U U (fun w ⟨Ar,H⟩=>Ao U HU U (H.cellI 10 U U)) (An U U U (fun w ⟨Ar,H⟩=>AI U U) (An U U U (fun w ⟨Ar,H⟩=>Aj U LB U) (Au U ?_))))
  refine Hy U U ?_ ?_
  ·refine V U U (Ao U KS U (H.cellI 12 U U)) (AH ⟨_,H⟩ (AK U (BU (parts:=[(0,.tmp 70)]) (vs:=[.pointer (some ⟨b78,0,none⟩)]) (cs:=[.pointer (some ⟨b78,0,none⟩)]) U U U KK K5 U (by decide) (by decide) U U H (fun b79 w H=>?_))))
   replace H:=H.h1 (A:=blk b79 [.pointer (some ⟨b78,0,none⟩)] 168)|>.pick 11 rfl|>.pick 11 rfl|>.pick 11 rfl|>.pick 11 rfl|>.pick 11 rfl|>.pick 11 rfl|>.pick 11 rfl|>.pick 11 rfl|>.pick 11 rfl|>.pick 11 rfl|>.pick 11 rfl
   refine AH ⟨_,H⟩ (AK U ?_)
   replace H:=H.pick 12 rfl
   refine CG (xs:=ws.map Prod.fst) (ys:=[b78]) U U U KK K5 U (by decide) U U H (by first |omega|(simp only [List.length_append,List.length_cons,List.length_nil];omega)) (fun F hA hR=>Ch (hA _ (List.mem_of_getElem? (i:=11) U)) U (by decide) (AZ.flat_eq.2 U)) (fun v80 w H=>?_)
   replace H:=H.h1 (A:=Y CY v80 ((ws.map Prod.fst)++[b78]))|>.pick 11 rfl|>.pick 11 rfl|>.pick 11 rfl|>.pick 11 rfl|>.pick 11 rfl|>.pick 11 rfl|>.pick 11 rfl|>.pick 11 rfl|>.pick 11 rfl|>.pick 11 rfl|>.pick 11 rfl
   refine AH ⟨_,H⟩ (An U U U (fun w ⟨Ar,H⟩=>AI U U) (An U U U (fun w ⟨Ar,H⟩=>Aj U LB U) (AK U ?_)))
   obtain ⟨A81,c82,rfl,hc83,hm84,hp85⟩:=H.fA 11 rfl
   replace H:=H.pick 13 rfl
   refine Bo U U U KS U U H U (Nat.le_of_ble_eq_true U) (fun u hu=>by simp [Value.cells] at hu;subst hu;rfl) (fun w H=>?_)
   replace H:Hd _ _ _ [blk b65 [.slice A40 J33.us.length c41,.int .i64 J33.parts,.slice A45 J33.map.length c46,.slice A50 J33.comb.length c51,.slice A55 J33.red.length c56,.int .i64 J33.chunk,.int .i64 J33.window,.int .i64 J33.fuel,.slice A60 J33.marks.length c61,.int .i64 C.w,.int .i64 C.t,.int .i64 C.o,.int .i64 ((s:Nat):Int),.int .i64 att,.int .i64 ((AB dg J33 s).2),.pointer (some ⟨cb67,0,none⟩),.slice A81 (((ws.map Prod.fst)++[b78]).length) c82] 164,blk b78 [.int .i64 x75,.int .i64 J33.window,.int .i64 0,.int .i64 0] 239,Bf (CS 239) ws,Y (Ai .i64) (.slice A69 ((BI dg J33 s att).length) c70) (BI dg J33 s att),blk cb67 [.int .u32 1,.int .i32 0,.int .u32 0,.int .u32 1,.func (.func 96) #[] #[.pointer (some ⟨b26,0,none⟩),.pointer (some ⟨b27,0,none⟩),.pointer (some ⟨b66,0,none⟩)],.string (Bi (AB dg J33 s).1)] 234,Y (Ak Ag) (.slice A40 J33.us.length c41) J33.us,Y Af (.slice A45 J33.map.length c46) J33.map,Y Af (.slice A50 J33.comb.length c51) J33.comb,Y Af (.slice A55 J33.red.length c56) J33.red,Y (Ai .i64) (.slice A60 J33.marks.length c61) J33.marks,blk b26 [.slice A40 J33.us.length c41,.int .i64 J33.parts,.slice A45 J33.map.length c46,.slice A50 J33.comb.length c51,.slice A55 J33.red.length c56,.int .i64 J33.chunk,.int .i64 J33.window,.int .i64 J33.fuel,.slice A60 J33.marks.length c61,.int .i64 C.w,.int .i64 C.t,.int .i64 C.o] 28,blk b66 [.pointer (some ⟨b65,0,none⟩)] 44,Y CY (.slice A81 (((ws.map Prod.fst)++[b78]).length) c82) ((ws.map Prod.fst)++[b78]),blk b79 [.pointer (some ⟨b78,0,none⟩)] 168] [Aa (Ak Ag) (.slice A1 C.J.us.length c2) C.J.us,Aa Af (.slice A6 C.J.map.length c7) C.J.map,Aa Af (.slice A11 C.J.comb.length c12) C.J.comb,Aa Af (.slice A16 C.J.red.length c17) C.J.red,Aa (Ai .i64) (.slice A21 C.J.marks.length c22) C.J.marks,gl]:=H
   replace H:=H.pick 11 rfl|>.pick 11 rfl|>.pick 11 rfl|>.pick 11 rfl|>.pick 11 rfl|>.pick 11 rfl|>.pick 11 rfl|>.pick 11 rfl|>.pick 11 rfl|>.pick 11 rfl|>.pick 11 rfl
   refine AH ⟨_,H⟩ (BH (A_ (Z (Ae (V U U (A0 (z:=((k+1:Nat):Int)) U U U (by rw [AF (by omega) (by omega)];omega)) (Ad U (Ac ?_)))))))
   replace H:=H.pick 11 rfl|>.p4|>.p4|>.pick 12 rfl|>.p5|>.p5|>.keep 13
   replace H:=Hd.bigN (f:=CS 239) (x:=(b78,(⟨x75,J33.window,0,0⟩:CX))) H
   replace H:Hd w0 F0 w [Bf (CS 239) (ws++[(b78,(⟨x75,J33.window,0,0⟩:CX))]),Y CY (.slice A81 (((ws.map Prod.fst)++[b78]).length) c82) ((ws++[(b78,(⟨x75,J33.window,0,0⟩:CX))]).map Prod.fst),Y (Ai .i64) (.slice A69 ((BI dg J33 s att).length) c70) (BI dg J33 s att),blk cb67 [.int .u32 1,.int .i32 0,.int .u32 0,.int .u32 1,.func (.func 96) #[] #[.pointer (some ⟨b26,0,none⟩),.pointer (some ⟨b27,0,none⟩),.pointer (some ⟨b66,0,none⟩)],.string (Bi (AB dg J33 s).1)] 234,blk b65 [.slice A40 J33.us.length c41,.int .i64 J33.parts,.slice A45 J33.map.length c46,.slice A50 J33.comb.length c51,.slice A55 J33.red.length c56,.int .i64 J33.chunk,.int .i64 J33.window,.int .i64 J33.fuel,.slice A60 J33.marks.length c61,.int .i64 C.w,.int .i64 C.t,.int .i64 C.o,.int .i64 ((s:Nat):Int),.int .i64 att,.int .i64 ((AB dg J33 s).2),.pointer (some ⟨cb67,0,none⟩),.slice A81 (((ws.map Prod.fst)++[b78]).length) c82] 164,Y (Ak Ag) (.slice A40 J33.us.length c41) J33.us,Y Af (.slice A45 J33.map.length c46) J33.map,Y Af (.slice A50 J33.comb.length c51) J33.comb,Y Af (.slice A55 J33.red.length c56) J33.red,Y (Ai .i64) (.slice A60 J33.marks.length c61) J33.marks,blk b26 [.slice A40 J33.us.length c41,.int .i64 J33.parts,.slice A45 J33.map.length c46,.slice A50 J33.comb.length c51,.slice A55 J33.red.length c56,.int .i64 J33.chunk,.int .i64 J33.window,.int .i64 J33.fuel,.slice A60 J33.marks.length c61,.int .i64 C.w,.int .i64 C.t,.int .i64 C.o] 28,blk b66 [.pointer (some ⟨b65,0,none⟩)] 44] [Aa (Ak Ag) (.slice A1 C.J.us.length c2) C.J.us,Aa Af (.slice A6 C.J.map.length c7) C.J.map,Aa Af (.slice A11 C.J.comb.length c12) C.J.comb,Aa Af (.slice A16 C.J.red.length c17) C.J.red,Aa (Ai .i64) (.slice A21 C.J.marks.length c22) C.J.marks,gl]:=by rw [List.map_append];exact H
   exact Bl (s:=(k,undef,ws)) (k+1,.slice A81 (((ws.map Prod.fst)++[b78]).length) c82,ws++[(b78,(⟨x75,J33.window,0,0⟩:CX))]) ⟨rfl,rfl,rfl,rfl,rfl,rfl,rfl,trivial⟩ ⟨H,by (try dsimp only);omega,by (try dsimp only);rw [List.map_append,hws,Fr hx76,List.map_append];rfl⟩ (by (try dsimp only);omega)
  refine BU (parts:=[(0,.tmp 70)]) (vs:=[.pointer (some ⟨b78,0,none⟩)]) (cs:=[.pointer (some ⟨b78,0,none⟩)]) U U U KK K5 U (by decide) (by decide) U U H (fun b86 w H=>?_)
  replace H:=H.h1 (A:=blk b86 [.pointer (some ⟨b78,0,none⟩)] 168)|>.pick 11 rfl|>.pick 11 rfl|>.pick 11 rfl|>.pick 11 rfl|>.pick 11 rfl|>.pick 11 rfl|>.pick 11 rfl|>.pick 11 rfl|>.pick 11 rfl|>.pick 11 rfl|>.pick 11 rfl
  refine AH ⟨_,H⟩ (AK U (V U U (Ao U KS U (H.cellI 13 U U)) (AH ⟨_,H⟩ (AK U ?_))))
  replace H:=H.pick 12 rfl
  refine CG (xs:=ws.map Prod.fst) (ys:=[b78]) U U U KK K5 U (by decide) U U H (by first |omega|(simp only [List.length_append,List.length_cons,List.length_nil];omega)) (fun F hA hR=>Ch (hA _ (List.mem_of_getElem? (i:=11) U)) U (by decide) (AZ.flat_eq.2 U)) (fun v87 w H=>?_)
  replace H:=H.h1 (A:=Y CY v87 ((ws.map Prod.fst)++[b78]))|>.pick 11 rfl|>.pick 11 rfl|>.pick 11 rfl|>.pick 11 rfl|>.pick 11 rfl|>.pick 11 rfl|>.pick 11 rfl|>.pick 11 rfl|>.pick 11 rfl|>.pick 11 rfl|>.pick 11 rfl
  refine AH ⟨_,H⟩ (An U U U (fun w ⟨Ar,H⟩=>AI U U) (An U U U (fun w ⟨Ar,H⟩=>Aj U LB U) (AK U ?_)))
  obtain ⟨A88,c89,rfl,hc90,hm91,hp92⟩:=H.fA 11 rfl
  replace H:=H.pick 13 rfl
  refine Bo U U U KS U U H U (Nat.le_of_ble_eq_true U) (fun u hu=>by simp [Value.cells] at hu;subst hu;rfl) (fun w H=>?_)
  replace H:Hd _ _ _ [blk b65 [.slice A40 J33.us.length c41,.int .i64 J33.parts,.slice A45 J33.map.length c46,.slice A50 J33.comb.length c51,.slice A55 J33.red.length c56,.int .i64 J33.chunk,.int .i64 J33.window,.int .i64 J33.fuel,.slice A60 J33.marks.length c61,.int .i64 C.w,.int .i64 C.t,.int .i64 C.o,.int .i64 ((s:Nat):Int),.int .i64 att,.int .i64 ((AB dg J33 s).2),.pointer (some ⟨cb67,0,none⟩),.slice A88 (((ws.map Prod.fst)++[b78]).length) c89] 164,blk b78 [.int .i64 x75,.int .i64 J33.window,.int .i64 0,.int .i64 0] 239,Bf (CS 239) ws,Y (Ai .i64) (.slice A69 ((BI dg J33 s att).length) c70) (BI dg J33 s att),blk cb67 [.int .u32 1,.int .i32 0,.int .u32 0,.int .u32 1,.func (.func 96) #[] #[.pointer (some ⟨b26,0,none⟩),.pointer (some ⟨b27,0,none⟩),.pointer (some ⟨b66,0,none⟩)],.string (Bi (AB dg J33 s).1)] 234,Y (Ak Ag) (.slice A40 J33.us.length c41) J33.us,Y Af (.slice A45 J33.map.length c46) J33.map,Y Af (.slice A50 J33.comb.length c51) J33.comb,Y Af (.slice A55 J33.red.length c56) J33.red,Y (Ai .i64) (.slice A60 J33.marks.length c61) J33.marks,blk b26 [.slice A40 J33.us.length c41,.int .i64 J33.parts,.slice A45 J33.map.length c46,.slice A50 J33.comb.length c51,.slice A55 J33.red.length c56,.int .i64 J33.chunk,.int .i64 J33.window,.int .i64 J33.fuel,.slice A60 J33.marks.length c61,.int .i64 C.w,.int .i64 C.t,.int .i64 C.o] 28,blk b66 [.pointer (some ⟨b65,0,none⟩)] 44,Y CY (.slice A88 (((ws.map Prod.fst)++[b78]).length) c89) ((ws.map Prod.fst)++[b78]),blk b86 [.pointer (some ⟨b78,0,none⟩)] 168] [Aa (Ak Ag) (.slice A1 C.J.us.length c2) C.J.us,Aa Af (.slice A6 C.J.map.length c7) C.J.map,Aa Af (.slice A11 C.J.comb.length c12) C.J.comb,Aa Af (.slice A16 C.J.red.length c17) C.J.red,Aa (Ai .i64) (.slice A21 C.J.marks.length c22) C.J.marks,gl]:=H
  replace H:=H.pick 11 rfl|>.pick 11 rfl|>.pick 11 rfl|>.pick 11 rfl|>.pick 11 rfl|>.pick 11 rfl|>.pick 11 rfl|>.pick 11 rfl|>.pick 11 rfl|>.pick 11 rfl|>.pick 11 rfl
  refine AH ⟨_,H⟩ (BH (A_ (Z (Ae (V U U (A0 (z:=((k+1:Nat):Int)) U U U (by rw [AF (by omega) (by omega)];omega)) (Ad U (Ac ?_)))))))
  replace H:=H.pick 11 rfl|>.p4|>.p4|>.pick 12 rfl|>.p5|>.p5|>.keep 13
  replace H:=Hd.bigN (f:=CS 239) (x:=(b78,(⟨x75,J33.window,0,0⟩:CX))) H
  replace H:Hd w0 F0 w [Bf (CS 239) (ws++[(b78,(⟨x75,J33.window,0,0⟩:CX))]),Y CY (.slice A88 (((ws.map Prod.fst)++[b78]).length) c89) ((ws++[(b78,(⟨x75,J33.window,0,0⟩:CX))]).map Prod.fst),Y (Ai .i64) (.slice A69 ((BI dg J33 s att).length) c70) (BI dg J33 s att),blk cb67 [.int .u32 1,.int .i32 0,.int .u32 0,.int .u32 1,.func (.func 96) #[] #[.pointer (some ⟨b26,0,none⟩),.pointer (some ⟨b27,0,none⟩),.pointer (some ⟨b66,0,none⟩)],.string (Bi (AB dg J33 s).1)] 234,blk b65 [.slice A40 J33.us.length c41,.int .i64 J33.parts,.slice A45 J33.map.length c46,.slice A50 J33.comb.length c51,.slice A55 J33.red.length c56,.int .i64 J33.chunk,.int .i64 J33.window,.int .i64 J33.fuel,.slice A60 J33.marks.length c61,.int .i64 C.w,.int .i64 C.t,.int .i64 C.o,.int .i64 ((s:Nat):Int),.int .i64 att,.int .i64 ((AB dg J33 s).2),.pointer (some ⟨cb67,0,none⟩),.slice A88 (((ws.map Prod.fst)++[b78]).length) c89] 164,Y (Ak Ag) (.slice A40 J33.us.length c41) J33.us,Y Af (.slice A45 J33.map.length c46) J33.map,Y Af (.slice A50 J33.comb.length c51) J33.comb,Y Af (.slice A55 J33.red.length c56) J33.red,Y (Ai .i64) (.slice A60 J33.marks.length c61) J33.marks,blk b26 [.slice A40 J33.us.length c41,.int .i64 J33.parts,.slice A45 J33.map.length c46,.slice A50 J33.comb.length c51,.slice A55 J33.red.length c56,.int .i64 J33.chunk,.int .i64 J33.window,.int .i64 J33.fuel,.slice A60 J33.marks.length c61,.int .i64 C.w,.int .i64 C.t,.int .i64 C.o] 28,blk b66 [.pointer (some ⟨b65,0,none⟩)] 44] [Aa (Ak Ag) (.slice A1 C.J.us.length c2) C.J.us,Aa Af (.slice A6 C.J.map.length c7) C.J.map,Aa Af (.slice A11 C.J.comb.length c12) C.J.comb,Aa Af (.slice A16 C.J.red.length c17) C.J.red,Aa (Ai .i64) (.slice A21 C.J.marks.length c22) C.J.marks,gl]:=by rw [List.map_append];exact H
  exact Bl (s:=(k,undef,ws)) (k+1,.slice A88 (((ws.map Prod.fst)++[b78]).length) c89,ws++[(b78,(⟨x75,J33.window,0,0⟩:CX))]) ⟨rfl,rfl,rfl,rfl,rfl,rfl,rfl,trivial⟩ ⟨H,by (try dsimp only);omega,by (try dsimp only);rw [List.map_append,hws,Fr hx76,List.map_append];rfl⟩ (by (try dsimp only);omega)
 refine BM (AR (AR (BN (Z (Ab (Ae (V U U (Ao U HU U (H.cellI 11 U U)) (Ah 2 U (Ac (Z (Ap (Cm U U U ?_))))))))))))
 replace H:=H.p1.p9.p9.p9.p9.p9.p8.p9.k9.h9 (A:=blk b65 [.slice A40 J33.us.length c41,.int .i64 J33.parts,.slice A45 J33.map.length c46,.slice A50 J33.comb.length c51,.slice A55 J33.red.length c56,.int .i64 J33.chunk,.int .i64 J33.window,.int .i64 J33.fuel,.slice A60 J33.marks.length c61,.int .i64 C.w,.int .i64 C.t,.int .i64 C.o,.int .i64 ((s:Nat):Int),.int .i64 att,.int .i64 ((AB dg J33 s).2),.pointer (some ⟨cb67,0,none⟩),vw] 164) (I:=Y CY vw (ws.map Prod.fst)) (J:=Bf (CS 239) ws)
 replace H:=Mi b65 C.J (FO dg C.J s att) (.slice A40 J33.us.length c41) (.slice A45 J33.map.length c46) (.slice A50 J33.comb.length c51) (.slice A55 J33.red.length c56) (.slice A60 J33.marks.length c61) J33 C.w C.t C.o cb67 (.func (.func 96) #[] #[.pointer (some ⟨b26,0,none⟩),.pointer (some ⟨b27,0,none⟩),.pointer (some ⟨b66,0,none⟩)]) vw ws ⟨hsj,WS hsj hws (by omega)⟩ H
 replace H:=H.h1 (A:=EU b65 C.J (FO dg C.J s att))
 exact Am ⟨_,rfl,rfl⟩ H
theorem P2 (b:Nat) (J:AG) (M:F6) (hJ:B5 J):Cn Tryz.prog 30 [.pointer (some ⟨b,0,none⟩)] [EU b J M] [] (fun v Bs=>Bs=[Y (Ai .i64) v (BI dg J M.sp M.att),EU b J M]):=by
 intro w0 F0 H
 obtain ⟨vS,vM,vC,vR,vK,J2,cw,ct,co,cb,fv,vw,ws,⟨hsj,hws⟩,H⟩:=PT b J M H
 have H1:Hd w0 F0 w0 ([blk cb [.int .u32 1,.int .i32 0,.int .u32 0,.int .u32 1,fv,.string (Bi (AB dg J2 M.sp).1)] 234]++[blk b [vS,.int .i64 J2.parts,vM,vC,vR,.int .i64 J2.chunk,.int .i64 J2.window,.int .i64 J2.fuel,vK,.int .i64 cw,.int .i64 ct,.int .i64 co,.int .i64 ((M.sp:Nat):Int),.int .i64 M.att,.int .i64 ((AB dg J2 M.sp).2),.pointer (some ⟨cb,0,none⟩),vw] 164,Y (Ak Ag) vS J2.us,Y Af vM J2.map,Y Af vC J2.comb,Y Af vR J2.red,Y (Ai .i64) vK J2.marks,Y CY vw (ws.map Prod.fst),Bf (CS 239) ws]) []:=H.pick 1 rfl
 refine (Gp (Wg b vS vM vC vR vK J2 cw ct co M.sp M.att cb fv vw  (hsj.symm.ok hJ)) H1 (lA 0 U (fun _ h=>h) l0)).mono ?_
 rintro e w ⟨v,rfl,Bs,rfl,H⟩
 replace H:Hd w0 F0 w [Y (Ai .i64) v (BI dg J2 M.sp M.att),blk cb [.int .u32 1,.int .i32 0,.int .u32 0,.int .u32 1,fv,.string (Bi (AB dg J2 M.sp).1)] 234,blk b [vS,.int .i64 J2.parts,vM,vC,vR,.int .i64 J2.chunk,.int .i64 J2.window,.int .i64 J2.fuel,vK,.int .i64 cw,.int .i64 ct,.int .i64 co,.int .i64 ((M.sp:Nat):Int),.int .i64 M.att,.int .i64 ((AB dg J2 M.sp).2),.pointer (some ⟨cb,0,none⟩),vw] 164,Y (Ak Ag) vS J2.us,Y Af vM J2.map,Y Af vC J2.comb,Y Af vR J2.red,Y (Ai .i64) vK J2.marks,Y CY vw (ws.map Prod.fst),Bf (CS 239) ws] []:=H
 replace H:=H.p9.p9.p9.p9.p9.p9.p9.p8.p9
 replace H:=Mi b J M vS vM vC vR vK J2 cw ct co cb fv vw ws ⟨hsj,hws⟩ (As:=[Y (Ai .i64) v (BI dg J2 M.sp M.att)]) H
 refine ⟨v,rfl,_,rfl,?_⟩
 have e:=Lj hsj dg M.sp M.att
 rw [e] at H
 exact H.pick 1 U
theorem W6 (b:Nat) (J:AG) (M:F6) (p:Int) (q:Int) (hJ:B5 J):Cn Tryz.prog 41 [.pointer (some ⟨b,0,none⟩),.int .i64 p,.int .i64 q] [EU b J M] [] (fun v Bs=>Bs=[Y Ag v (B_ dg J M.sp M.att p q),EU b J M]):=by
 intro w0 F0 H
 obtain ⟨vS,vM,vC,vR,vK,J2,cw,ct,co,cb,fv,vw,ws,⟨hsj,hws⟩,H⟩:=PT b J M H
 have H1:Hd w0 F0 w0 ([blk cb [.int .u32 1,.int .i32 0,.int .u32 0,.int .u32 1,fv,.string (Bi (AB dg J2 M.sp).1)] 234]++[blk b [vS,.int .i64 J2.parts,vM,vC,vR,.int .i64 J2.chunk,.int .i64 J2.window,.int .i64 J2.fuel,vK,.int .i64 cw,.int .i64 ct,.int .i64 co,.int .i64 ((M.sp:Nat):Int),.int .i64 M.att,.int .i64 ((AB dg J2 M.sp).2),.pointer (some ⟨cb,0,none⟩),vw] 164,Y (Ak Ag) vS J2.us,Y Af vM J2.map,Y Af vC J2.comb,Y Af vR J2.red,Y (Ai .i64) vK J2.marks,Y CY vw (ws.map Prod.fst),Bf (CS 239) ws]) []:=H.pick 1 rfl
 refine (Gp (We b vS vM vC vR vK J2 cw ct co M.sp M.att cb fv vw p q (hsj.symm.ok hJ)) H1 (lA 0 U (fun _ h=>h) l0)).mono ?_
 rintro e w ⟨v,rfl,Bs,rfl,H⟩
 replace H:Hd w0 F0 w [Y Ag v (B_ dg J2 M.sp M.att p q),blk cb [.int .u32 1,.int .i32 0,.int .u32 0,.int .u32 1,fv,.string (Bi (AB dg J2 M.sp).1)] 234,blk b [vS,.int .i64 J2.parts,vM,vC,vR,.int .i64 J2.chunk,.int .i64 J2.window,.int .i64 J2.fuel,vK,.int .i64 cw,.int .i64 ct,.int .i64 co,.int .i64 ((M.sp:Nat):Int),.int .i64 M.att,.int .i64 ((AB dg J2 M.sp).2),.pointer (some ⟨cb,0,none⟩),vw] 164,Y (Ak Ag) vS J2.us,Y Af vM J2.map,Y Af vC J2.comb,Y Af vR J2.red,Y (Ai .i64) vK J2.marks,Y CY vw (ws.map Prod.fst),Bf (CS 239) ws] []:=H
 replace H:=H.p9.p9.p9.p9.p9.p9.p9.p8.p9
 replace H:=Mi b J M vS vM vC vR vK J2 cw ct co cb fv vw ws ⟨hsj,hws⟩ (As:=[Y Ag v (B_ dg J2 M.sp M.att p q)]) H
 refine ⟨v,rfl,_,rfl,?_⟩
 have e:=NO hsj dg M.sp M.att p q
 rw [e] at H
 exact H.pick 1 U
theorem YA (vS vM vC vR vK:Value) (C:Cf) (ss:List (List Al)) (gm:∀ i∈C.J.map,Ax i.a) (gc:∀ i∈C.J.comb,Ax i.a) (gr:∀ i∈C.J.red,Ax i.a) (k0:Int) (wk:Ax k0) (vw:Value) (winners:List Int) (wwinners:(∀ x∈winners,Ax x)∧winners.length≤9223372036854775807) (vt:Value) (turns:List Int) (wturns:(∀ x∈turns,Ax x)∧turns.length≤9223372036854775807):
    Cn Tryz.prog 12 [.agg #[vS,.int .i64 C.J.parts,vM,vC,vR,.int .i64 C.J.chunk,.int .i64 C.J.window,.int .i64 C.J.fuel,vK,.int .i64 C.w,.int .i64 C.t,.int .i64 C.o],.int .i64 k0,vw,vt] [] [Aa (Ak Ag) vS C.J.us,Aa (BB Ag) vS ss,Aa Af vM C.J.map,Aa Af vC C.J.comb,Aa Af vR C.J.red,Aa (Ai .i64) vK C.J.marks,Aa (Ai .i64) vw winners,Aa (Ai .i64) vt turns,gl] (fun v Bs=>v=.bool true∧Bs=[]):=by
 intro w0 F0 H
 obtain ⟨A1,c2,rfl,hc3,hm4,hp5⟩:=H.fR 0 rfl
 obtain ⟨A6,c7,rfl,hc8,hm9,hp10⟩:=H.fR 2 rfl
 obtain ⟨A11,c12,rfl,hc13,hm14,hp15⟩:=H.fR 3 rfl
 obtain ⟨A16,c17,rfl,hc18,hm19,hp20⟩:=H.fR 4 rfl
 obtain ⟨A21,c22,rfl,hc23,hm24,hp25⟩:=H.fR 5 rfl
 obtain ⟨A26,c27,rfl,hc28,hm29,hp30⟩:=H.fR 6 rfl
 obtain ⟨A31,c32,rfl,hc33,hm34,hp35⟩:=H.fR 7 rfl
 refine enter Tryz.func12 U U (Nat.le_of_ble_eq_true U) (Ab (Ae (Cy U U U U H (fun b36 w H=>(Ad U (Ac (Z ?_)))))))
 replace H:Hd _ _ _ [blk b36 [.slice A1 C.J.us.length c2,.int .i64 C.J.parts,.slice A6 C.J.map.length c7,.slice A11 C.J.comb.length c12,.slice A16 C.J.red.length c17,.int .i64 C.J.chunk,.int .i64 C.J.window,.int .i64 C.J.fuel,.slice A21 C.J.marks.length c22,.int .i64 C.w,.int .i64 C.t,.int .i64 C.o] 28] [Aa (Ak Ag) (.slice A1 C.J.us.length c2) C.J.us,Aa (BB Ag) (.slice A1 C.J.us.length c2) ss,Aa Af (.slice A6 C.J.map.length c7) C.J.map,Aa Af (.slice A11 C.J.comb.length c12) C.J.comb,Aa Af (.slice A16 C.J.red.length c17) C.J.red,Aa (Ai .i64) (.slice A21 C.J.marks.length c22) C.J.marks,Aa (Ai .i64) (.slice A26 winners.length c27) winners,Aa (Ai .i64) (.slice A31 turns.length c32) turns,gl]:=H
 refine Ab (Ab (Ae (V U U (Aj U Cu U) (V U U (Bu (cs:=[.slice A1 C.J.us.length c2,.int .i64 C.J.parts,.slice A6 C.J.map.length c7,.slice A11 C.J.comb.length c12,.slice A16 C.J.red.length c17,.int .i64 C.J.chunk,.int .i64 C.J.window,.int .i64 C.J.fuel,.slice A21 C.J.marks.length c22]) U FW U U (H.cellsI 0 U U)) (sc (Up (.slice A1 C.J.us.length c2) (.slice A6 C.J.map.length c7) (.slice A11 C.J.comb.length c12) (.slice A16 C.J.red.length c17) (.slice A21 C.J.marks.length c22) C.J) H (lR 0 U (lR 2 U (lR 3 U (lR 4 U (lR 5 U l0))))) U U (At Vc U U) ?_)))))
 rintro _ _ w ⟨rfl,rfl⟩ H
 refine Ad U ?_
 refine Es (d:=31) (b:=GZ C.J) U (fun h37=>?_) (fun h37=>?_)
 ·refine Ah 12 U (Ah 2 U (Ac (Z ?_)))
  replace H:Hd _ _ _ [blk b36 [.slice A1 C.J.us.length c2,.int .i64 C.J.parts,.slice A6 C.J.map.length c7,.slice A11 C.J.comb.length c12,.slice A16 C.J.red.length c17,.int .i64 C.J.chunk,.int .i64 C.J.window,.int .i64 C.J.fuel,.slice A21 C.J.marks.length c22,.int .i64 C.w,.int .i64 C.t,.int .i64 C.o] 28] [Aa (Ak Ag) (.slice A1 C.J.us.length c2) C.J.us,Aa (BB Ag) (.slice A1 C.J.us.length c2) ss,Aa Af (.slice A6 C.J.map.length c7) C.J.map,Aa Af (.slice A11 C.J.comb.length c12) C.J.comb,Aa Af (.slice A16 C.J.red.length c17) C.J.red,Aa (Ai .i64) (.slice A21 C.J.marks.length c22) C.J.marks,Aa (Ai .i64) (.slice A26 winners.length c27) winners,Aa (Ai .i64) (.slice A31 turns.length c32) turns,gl]:=H
  refine B8 U (Ab (Ae (sc (I3) H (lR 8 U l0) U U (At Ji U U) ?_)))
  rintro _ _ w ⟨rfl,rfl⟩ H
  refine Ad U (Ac (Z (Ap (AA (Aq U U ?_)))))
  replace H:=H.nil
  exact Am ⟨rfl,rfl⟩ H
 refine V U U (Bu (cs:=[.slice A1 C.J.us.length c2,.int .i64 C.J.parts,.slice A6 C.J.map.length c7,.slice A11 C.J.comb.length c12,.slice A16 C.J.red.length c17,.int .i64 C.J.chunk,.int .i64 C.J.window,.int .i64 C.J.fuel,.slice A21 C.J.marks.length c22,.int .i64 C.w,.int .i64 C.t,.int .i64 C.o]) U Ek U U (H.cellsI 0 U U)) ?_
 replace H:Hd _ _ _ [blk b36 [.slice A1 C.J.us.length c2,.int .i64 C.J.parts,.slice A6 C.J.map.length c7,.slice A11 C.J.comb.length c12,.slice A16 C.J.red.length c17,.int .i64 C.J.chunk,.int .i64 C.J.window,.int .i64 C.J.fuel,.slice A21 C.J.marks.length c22,.int .i64 C.w,.int .i64 C.t,.int .i64 C.o] 28] [Aa (Ak Ag) (.slice A1 C.J.us.length c2) C.J.us,Aa (BB Ag) (.slice A1 C.J.us.length c2) ss,Aa Af (.slice A6 C.J.map.length c7) C.J.map,Aa Af (.slice A11 C.J.comb.length c12) C.J.comb,Aa Af (.slice A16 C.J.red.length c17) C.J.red,Aa (Ai .i64) (.slice A21 C.J.marks.length c22) C.J.marks,Aa (Ai .i64) (.slice A26 winners.length c27) winners,Aa (Ai .i64) (.slice A31 turns.length c32) turns,gl]:=H
 refine sc (Mh (.slice A1 C.J.us.length c2) (.slice A6 C.J.map.length c7) (.slice A11 C.J.comb.length c12) (.slice A16 C.J.red.length c17) (.slice A21 C.J.marks.length c22) C) H (lR 0 U (lR 2 U (lR 3 U (lR 4 U (lR 5 U l0))))) U U (At L3 U U) ?_
 rintro _ _ w ⟨rfl,rfl⟩ H
 refine V U U (DD U U) (Ah 2 U ?_)
 refine AU (d:=36) U (fun h38=>?_) (fun h38=>?_)
 ·refine Ah 9 U (Ac (Z ?_))
  replace H:Hd _ _ _ [blk b36 [.slice A1 C.J.us.length c2,.int .i64 C.J.parts,.slice A6 C.J.map.length c7,.slice A11 C.J.comb.length c12,.slice A16 C.J.red.length c17,.int .i64 C.J.chunk,.int .i64 C.J.window,.int .i64 C.J.fuel,.slice A21 C.J.marks.length c22,.int .i64 C.w,.int .i64 C.t,.int .i64 C.o] 28] [Aa (Ak Ag) (.slice A1 C.J.us.length c2) C.J.us,Aa (BB Ag) (.slice A1 C.J.us.length c2) ss,Aa Af (.slice A6 C.J.map.length c7) C.J.map,Aa Af (.slice A11 C.J.comb.length c12) C.J.comb,Aa Af (.slice A16 C.J.red.length c17) C.J.red,Aa (Ai .i64) (.slice A21 C.J.marks.length c22) C.J.marks,Aa (Ai .i64) (.slice A26 winners.length c27) winners,Aa (Ai .i64) (.slice A31 turns.length c32) turns,gl]:=H
  refine B8 U (Ab (Ae (sc (I3) H (lR 8 U l0) U U (At Ji U U) ?_)))
  rintro _ _ w ⟨rfl,rfl⟩ H
  refine Ad U (Ac (Z (Ap (AA (Aq U U ?_)))))
  replace H:=H.nil
  exact Am ⟨rfl,rfl⟩ H
 refine Ad U (V U U (A8 U DL U) (V U U (Ca U U U) (Ah 2 U ?_)))
 refine AU (d:=41) U (fun h39=>?_) (fun h39=>?_)
 ·refine Ah 4 U (Ac (Z ?_))
  replace H:Hd _ _ _ [blk b36 [.slice A1 C.J.us.length c2,.int .i64 C.J.parts,.slice A6 C.J.map.length c7,.slice A11 C.J.comb.length c12,.slice A16 C.J.red.length c17,.int .i64 C.J.chunk,.int .i64 C.J.window,.int .i64 C.J.fuel,.slice A21 C.J.marks.length c22,.int .i64 C.w,.int .i64 C.t,.int .i64 C.o] 28] [Aa (Ak Ag) (.slice A1 C.J.us.length c2) C.J.us,Aa (BB Ag) (.slice A1 C.J.us.length c2) ss,Aa Af (.slice A6 C.J.map.length c7) C.J.map,Aa Af (.slice A11 C.J.comb.length c12) C.J.comb,Aa Af (.slice A16 C.J.red.length c17) C.J.red,Aa (Ai .i64) (.slice A21 C.J.marks.length c22) C.J.marks,Aa (Ai .i64) (.slice A26 winners.length c27) winners,Aa (Ai .i64) (.slice A31 turns.length c32) turns,gl]:=H
  refine B8 U (Ab (Ae (sc (I3) H (lR 8 U l0) U U (At Ji U U) ?_)))
  rintro _ _ w ⟨rfl,rfl⟩ H
  refine Ad U (Ac (Z (Ap (AA (Aq U U ?_)))))
  replace H:=H.nil
  exact Am ⟨rfl,rfl⟩ H
 refine Ad U (V U U (A8 U DL U) (V U U (Ca U U U) (Ad U (Ac (Z ?_)))))
 replace H:Hd _ _ _ [blk b36 [.slice A1 C.J.us.length c2,.int .i64 C.J.parts,.slice A6 C.J.map.length c7,.slice A11 C.J.comb.length c12,.slice A16 C.J.red.length c17,.int .i64 C.J.chunk,.int .i64 C.J.window,.int .i64 C.J.fuel,.slice A21 C.J.marks.length c22,.int .i64 C.w,.int .i64 C.t,.int .i64 C.o] 28] [Aa (Ak Ag) (.slice A1 C.J.us.length c2) C.J.us,Aa (BB Ag) (.slice A1 C.J.us.length c2) ss,Aa Af (.slice A6 C.J.map.length c7) C.J.map,Aa Af (.slice A11 C.J.comb.length c12) C.J.comb,Aa Af (.slice A16 C.J.red.length c17) C.J.red,Aa (Ai .i64) (.slice A21 C.J.marks.length c22) C.J.marks,Aa (Ai .i64) (.slice A26 winners.length c27) winners,Aa (Ai .i64) (.slice A31 turns.length c32) turns,gl]:=H
 refine Az U (fun h40=>?_) (fun h40=>?_)
 ·refine Ab (Ae (sc (I3) H (lR 8 U l0) U U (At Ji U U) ?_))
  rintro _ _ w ⟨rfl,rfl⟩ H
  refine Ad U (Ac (Z (Ap (AA (Aq U U ?_)))))
  replace H:=H.nil
  exact Am ⟨rfl,rfl⟩ H
 refine Aw (Z (Ab ?_))
 have hC:D1 C:=Classical.not_not.1 h38
 have hJ:B5 C.J:=⟨hC.1,gm,gc,gr⟩
 have hus:=hJ.us
 have hpt:=hJ.parts
 have htt:1≤C.t∧C.t≤3:=hC.2.2.1
 have htl:turns.length≤120:=by omega
 have hwl:winners.length≤10:=by omega
 refine Ae (V U U (Bu (cs:=[.slice A1 C.J.us.length c2,.int .i64 C.J.parts,.slice A6 C.J.map.length c7,.slice A11 C.J.comb.length c12,.slice A16 C.J.red.length c17,.int .i64 C.J.chunk,.int .i64 C.J.window,.int .i64 C.J.fuel,.slice A21 C.J.marks.length c22,.int .i64 C.w,.int .i64 C.t,.int .i64 C.o]) U Ek U U (H.cellsI 0 U U)) (Ad U (sc (St (.slice A1 C.J.us.length c2) (.slice A6 C.J.map.length c7) (.slice A11 C.J.comb.length c12) (.slice A16 C.J.red.length c17) (.slice A21 C.J.marks.length c22) C k0 (by first |assumption|omega|exact AS.pairs (by assumption)|exact ⟨CL hC (by omega) (by omega),by decide⟩|(unfold Ax;omega)|exact (fun r h=>by cases h)|(simp only [List.length_nil];omega)) (by first |assumption|omega|exact AS.pairs (by assumption)|exact ⟨CL hC (by omega) (by omega),by decide⟩|(unfold Ax;omega)|exact (fun r h=>by cases h)|(simp only [List.length_nil];omega))) H (lR 0 U (lR 2 U (lR 3 U (lR 4 U (lR 5 U l0))))) U U (At VV U U) ?_)))
 rintro _ _ w ⟨r41,lo42,vS43,vM44,vC45,vR46,vK47,J48,sb49,R50,rfl,rfl,hf51,hf52,hf53⟩ H
 replace H:=H.h1 (A:=Bn r41 vS43 vM44 vC45 vR46 vK47 J48 C.w C.t C.o sb49 R50)
 obtain ⟨p0,hpe⟩:∃ z:Nat,lo42=(z:Int):=⟨(lo42).toNat,by have:=hf53;omega⟩
 subst hpe
 have hsj:=hf51
 have hR0:=hf52
 have hlo:=hf53
 have h6:J48.us.length≤6:=by have:=hC.1.1;have:=hsj.len;omega
 have hmk:J48.marks.length≤1000:=by have:=hC.1.2.2.1;rw [hsj.marks];omega
 have hred:∀ i∈J48.red,Ax i.a:=by rw [hsj.red];exact gr
 have hf64:Ax J48.fuel:=by rw [hsj.fuel];have:=hC.1.2.2.2.2.2.2.2.2.2.2;unfold Ax;omega
 have hlo1:Ax ((p0:Nat):Int):=by unfold Ax;omega
 have hp0:R50.part=((p0:Nat):Int):=by rw [hR0];exact (Gz _ _ _ _).1
 have hk0:AS 0 R50:=by rw [hR0];exact AS.new (rs:=[]) fun r h=>by cases h
 have hF0:DN dg J48 ((p0:Nat):Int) (F5 winners C.t) R50:=by rw [hR0];exact TW _ _ _ _ _
 have he0:R50.ep=1:=by rw [hR0];exact (Gz _ _ _ _).2.1
 have hJ2:B5 J48:=hsj.symm.ok hJ
 have hsl:=hsj.len
 refine Ah 5 U (Ac (Z (Ab (Ab (Ae (Ad U (V U U (C5 U HZ U U) (Ac (Z (B9 U (Aw (Z (Ab (Ab (Ae (Ad U (Ac (Z (AW ?_)))))))))))))))))))
 replace H:=H.p1
 refine BT (σ:=Nat×AC) (fun (k,R)=>[(2,.slice A26 winners.length c27),(3,.slice A31 turns.length c32),(4,.pointer (some ⟨b36,0,none⟩)),(9,.pointer (some ⟨r41,0,none⟩)),(10,.int .i64 ((p0:Nat):Int)),(11,.int .i64 ((k:Nat):Int))]) (fun (k,R) w=>(Hd w0 F0 w [blk b36 [.slice A1 C.J.us.length c2,.int .i64 C.J.parts,.slice A6 C.J.map.length c7,.slice A11 C.J.comb.length c12,.slice A16 C.J.red.length c17,.int .i64 C.J.chunk,.int .i64 C.J.window,.int .i64 C.J.fuel,.slice A21 C.J.marks.length c22,.int .i64 C.w,.int .i64 C.t,.int .i64 C.o] 28,Bn r41 vS43 vM44 vC45 vR46 vK47 J48 C.w C.t C.o sb49 R] [Aa (Ak Ag) (.slice A1 C.J.us.length c2) C.J.us,Aa (BB Ag) (.slice A1 C.J.us.length c2) ss,Aa Af (.slice A6 C.J.map.length c7) C.J.map,Aa Af (.slice A11 C.J.comb.length c12) C.J.comb,Aa Af (.slice A16 C.J.red.length c17) C.J.red,Aa (Ai .i64) (.slice A21 C.J.marks.length c22) C.J.marks,Aa (Ai .i64) (.slice A26 winners.length c27) winners,Aa (Ai .i64) (.slice A31 turns.length c32) turns,gl])∧(k≤turns.length)∧(AS k R)∧(DN dg J48 ((p0:Nat):Int) (F5 winners C.t) R)∧(R.ep=1)) (fun (k,R)=>turns.length - k) (0,R50) ⟨rfl,rfl,rfl,rfl,rfl,rfl,trivial⟩ ⟨H,Nat.zero_le _,hk0,hF0,he0⟩ ?_
 rintro ⟨k,R⟩ w ⟨H,hk,hB,hF,hep⟩
 have hB99:AS 99999 R:=hB.mono (by omega)
 have hB10:AS 100000 R:=hB.mono (by omega)
 refine Ab (Ab (Ae (Ah 2 U (V U U (A8 U DL U) (V U U (Bd U U U) (Ac (Z ?_)))))))
 refine Az U (fun h54=>?_) (fun h54=>?_)
 ·refine Aw (Z (Ab (AW (Ab (Ae (Ah 2 U ?_))))))
  obtain ⟨x55,hx56⟩:∃ z9,turns[k]?=some z9:=⟨_,List.getElem?_eq_getElem (show k<turns.length by omega)⟩
  have th57:=H.thR 7 rfl hx56
  refine V U U (Ba (p:=AT A31+k*1) U Ds U U (by omega) (by omega) th57 U) (V U U (Ao U AE U (H.elR 7 U hx56 (q:=0) U U)) ?_)
  have h649:Ax x55:=wturns.1 _ (B6 hx56)
  refine sc (Mb x55 1048576 (by first |assumption|(unfold Ax;omega)) (by omega) (by omega)) H l0 U U (At L4 U U) ?_
  rintro _ _ w ⟨rfl,rfl⟩ H
  obtain ⟨lo58,hl59,hl60,hl61⟩:∃ z:Int,IntKind.u64.wrap x55%1048576=z∧0≤z∧z<1048576:=⟨_,rfl,Int.emod_nonneg _ (by omega),Int.emod_lt_of_pos _ (by omega)⟩
  rw [hl59]
  obtain ⟨tn,rfl⟩:∃ z:Nat,lo58=(z:Int):=⟨(lo58).toNat,by omega⟩
  refine Ad U (Ac (Z (Ab ?_)))
  have hn1:1≤C.J.us.length:=by have:=hJ.may.1;omega
  have hm1:=Int.emod_nonneg ((tn / 8:Nat):Int) (show C.t≠0 by omega)
  have hm2:=Int.emod_lt_of_pos ((tn / 8:Nat):Int) (show 0<C.t by omega)
  refine F8 mo (by kernel_rfl) H (DV U (Bw U U (fun w H=>Aj U Cu U) (Bw U U (fun w H=>Aj U Dw U) (Bw U U (fun w H=>Ao U Dy U (H.cellI 0 U U)) (Bw U U (fun w H=>A8 U Dz U) (Bw U U (fun w H=>Hf (z:=((tn%C.J.us.length:Nat):Int)) U U U (by omega) U) (DV U (Bw U U (fun w H=>Ky (z:=((tn / 8:Nat):Int)) U U U (by omega) (MY (n:=8) (by omega))) (Bw U U (fun w H=>Aj U Jc U) (Bw U U (fun w H=>Ao U AE U (H.cellI 0 U U)) (Bw U U (fun w H=>Hf (z:=((tn / 8:Nat):Int)%C.t) U U U (by omega) (Int.tmod_eq_emod_of_nonneg (by omega))) (Bw U U (fun w H=>A0 (z:=1+((tn / 8:Nat):Int)%C.t) U U U (AF (by omega) (by omega))) (DV U (Bw U U (fun w H=>Ky (z:=((tn / 64:Nat):Int)) U U U (by omega) (MY (n:=64) (by omega))) ?_))))))))))))))
  refine Bw U U (fun w H=>Hf (z:=((tn / 64%8:Nat):Int)) U U U (by omega) U) (Gi 3 U (FX (fun w H=>(Z (Ab ?_)))))
  have hsN2:=Nat.mod_lt tn (show C.J.us.length>0 by omega)
  obtain ⟨sN,hsN⟩:∃ z:Nat,tn%C.J.us.length=z:=⟨_,rfl⟩
  obtain ⟨aT,haT⟩:∃ z:Int,1+((tn / 8:Nat):Int)%C.t=z:=⟨_,rfl⟩
  have hqN2:=Nat.mod_lt (tn / 64) (show 8>0 by omega)
  obtain ⟨qN,hqN⟩:∃ z:Nat,tn / 64%8=z:=⟨_,rfl⟩
  rw [hsN,haT,hqN]
  rw [hsN] at hsN2
  rw [hqN] at hqN2
  have haN:1≤aT∧aT≤C.t:=by omega
  refine Ae (V U U (Bu (cs:=[.slice A1 C.J.us.length c2,.int .i64 C.J.parts,.slice A6 C.J.map.length c7,.slice A11 C.J.comb.length c12,.slice A16 C.J.red.length c17,.int .i64 C.J.chunk,.int .i64 C.J.window,.int .i64 C.J.fuel,.slice A21 C.J.marks.length c22,.int .i64 C.w,.int .i64 C.t,.int .i64 C.o]) U Ek U U (H.cellsI 0 U U)) (Ah 2 U ?_))
  have hgoM1:sN<C.J.us.length∧1≤aT∧aT≤C.t:=⟨by omega,by omega,by omega⟩
  refine sc (PN (.slice A1 C.J.us.length c2) (.slice A6 C.J.map.length c7) (.slice A11 C.J.comb.length c12) (.slice A16 C.J.red.length c17) (.slice A21 C.J.marks.length c22) C sN aT (by first |assumption|omega|exact AS.pairs (by assumption)|exact ⟨CL hC (by omega) (by omega),by decide⟩|(unfold Ax;omega)|exact (fun r h=>by cases h)|(simp only [List.length_nil];omega)) (by first |assumption|omega|exact AS.pairs (by assumption)|exact ⟨CL hC (by omega) (by omega),by decide⟩|(unfold Ax;omega)|exact (fun r h=>by cases h)|(simp only [List.length_nil];omega)) (by first |assumption|omega|exact AS.pairs (by assumption)|exact ⟨CL hC (by omega) (by omega),by decide⟩|(unfold Ax;omega)|exact (fun r h=>by cases h)|(simp only [List.length_nil];omega))) H (lR 0 U (lR 2 U (lR 3 U (lR 4 U (lR 5 U (lR 8 U l0)))))) U U (At Pk U U) ?_
  rintro _ _ w ⟨b62,rfl,rfl⟩ H
  replace H:Hd _ _ _ [EU b62 C.J (FO dg C.J sN aT),blk b36 [.slice A1 C.J.us.length c2,.int .i64 C.J.parts,.slice A6 C.J.map.length c7,.slice A11 C.J.comb.length c12,.slice A16 C.J.red.length c17,.int .i64 C.J.chunk,.int .i64 C.J.window,.int .i64 C.J.fuel,.slice A21 C.J.marks.length c22,.int .i64 C.w,.int .i64 C.t,.int .i64 C.o] 28,Bn r41 vS43 vM44 vC45 vR46 vK47 J48 C.w C.t C.o sb49 R] [Aa (Ak Ag) (.slice A1 C.J.us.length c2) C.J.us,Aa (BB Ag) (.slice A1 C.J.us.length c2) ss,Aa Af (.slice A6 C.J.map.length c7) C.J.map,Aa Af (.slice A11 C.J.comb.length c12) C.J.comb,Aa Af (.slice A16 C.J.red.length c17) C.J.red,Aa (Ai .i64) (.slice A21 C.J.marks.length c22) C.J.marks,Aa (Ai .i64) (.slice A26 winners.length c27) winners,Aa (Ai .i64) (.slice A31 turns.length c32) turns,gl]:=H
  obtain ⟨M1,hM1⟩:∃ z:F6,z=FO dg C.J sN aT:=⟨_,rfl⟩
  rw [←hM1] at H
  replace H:Hd _ _ _ [EU b62 C.J M1,blk b36 [.slice A1 C.J.us.length c2,.int .i64 C.J.parts,.slice A6 C.J.map.length c7,.slice A11 C.J.comb.length c12,.slice A16 C.J.red.length c17,.int .i64 C.J.chunk,.int .i64 C.J.window,.int .i64 C.J.fuel,.slice A21 C.J.marks.length c22,.int .i64 C.w,.int .i64 C.t,.int .i64 C.o] 28,Bn r41 vS43 vM44 vC45 vR46 vK47 J48 C.w C.t C.o sb49 R] [Aa (Ak Ag) (.slice A1 C.J.us.length c2) C.J.us,Aa (BB Ag) (.slice A1 C.J.us.length c2) ss,Aa Af (.slice A6 C.J.map.length c7) C.J.map,Aa Af (.slice A11 C.J.comb.length c12) C.J.comb,Aa Af (.slice A16 C.J.red.length c17) C.J.red,Aa (Ai .i64) (.slice A21 C.J.marks.length c22) C.J.marks,Aa (Ai .i64) (.slice A26 winners.length c27) winners,Aa (Ai .i64) (.slice A31 turns.length c32) turns,gl]:=H
  have hspM1:M1.sp=sN:=by rw [hM1];rfl
  have hatM1:M1.att=aT:=by rw [hM1];rfl
  have hlenM1:=I5 dg C.J M1.sp M1.att
  refine Ah 5 U (Ac (Z (Ab (Ab (Ae (Ad U (V U U (CN U U U) (Ah 2 U (V U U (C5 U IS U U) (Ad U (Ac (Z (B9 U (Aw (Z (Ab (Ae (Ad U (sc (P2 b62 C.J M1 (by first |assumption|omega|exact AS.pairs (by assumption)|exact ⟨CL hC (by omega) (by omega),by decide⟩|(unfold Ax;omega)|exact (fun r h=>by cases h)|(simp only [List.length_nil];omega))) H l0 U U (At L5 U U) ?_)))))))))))))))))))
  rintro v63 _ w rfl H
  replace H:=H.h1 (A:=Y (Ai .i64) v63 (BI dg C.J M1.sp M1.att))
  refine Ad U (Ac (Z (Ab (Ab (Ae (Ad U ?_))))))
  obtain ⟨A64,c65,rfl,hc66,hm67,hp68⟩:=H.fA 0 rfl
  refine V U U (A8 U DL U) (V U U (Bv U U U) (Ac (Z ?_)))
  refine Az U (fun h69=>?_) (fun h69=>?_)
  ·refine BM (AR (BN (Z ?_)))
   replace H:=H.p3.p3.k2
   exact Ae (Ad U (V U U (A0 (z:=((k+1:Nat):Int)) U U U (by rw [AF (by omega) (by omega)];omega)) (Ad U (Ac (Bl (s:=(k,R)) (k+1,R) ⟨rfl,rfl,rfl,rfl,rfl,rfl,trivial⟩ ⟨H,by (try dsimp only);omega,hB.mono (by omega),hF,hep⟩ (by (try dsimp only);omega))))))
  refine Aw (Z (Ab ?_))
  have hr1:(AB dg C.J M1.sp).2=0:=Te (fun e=>h69 (by rw [e];rfl))
  have h0s:(AB dg J48 sN).2=0:=by rw [hsj.split,←hspM1];exact hr1
  have hnc:(BI dg C.J M1.sp M1.att).length=C.J.parts.toNat:=by rw [I5,if_neg (fun g=>g hr1)]
  refine Ae (Ad U (V U U (Ky (z:=((tn / 512:Nat):Int)) U U U (by omega) (MY (n:=512) (by omega))) (V U U (Hf (z:=((tn / 512%4:Nat):Int)) U U U (by omega) U) (V U U (Bv U U U) (Ac (Z ?_))))))
  refine Az U (fun h70=>?_) (fun h70=>?_)
  ·refine Ab (Ae (Ad U (Ac (Z ?_))))
   replace H:=H.p3.p3.k2
   refine I4 (σ:=Int) (fun aI=>[(2,.slice A26 winners.length c27),(3,.slice A31 turns.length c32),(4,.pointer (some ⟨b36,0,none⟩)),(9,.pointer (some ⟨r41,0,none⟩)),(10,.int .i64 ((p0:Nat):Int)),(11,.int .i64 ((k:Nat):Int)),(13,.int .i64 ((sN:Nat):Int)),(19,.int .i64 aI)]) (fun aI w=>(Hd w0 F0 w [blk b36 [.slice A1 C.J.us.length c2,.int .i64 C.J.parts,.slice A6 C.J.map.length c7,.slice A11 C.J.comb.length c12,.slice A16 C.J.red.length c17,.int .i64 C.J.chunk,.int .i64 C.J.window,.int .i64 C.J.fuel,.slice A21 C.J.marks.length c22,.int .i64 C.w,.int .i64 C.t,.int .i64 C.o] 28,Bn r41 vS43 vM44 vC45 vR46 vK47 J48 C.w C.t C.o sb49 R] [Aa (Ak Ag) (.slice A1 C.J.us.length c2) C.J.us,Aa (BB Ag) (.slice A1 C.J.us.length c2) ss,Aa Af (.slice A6 C.J.map.length c7) C.J.map,Aa Af (.slice A11 C.J.comb.length c12) C.J.comb,Aa Af (.slice A16 C.J.red.length c17) C.J.red,Aa (Ai .i64) (.slice A21 C.J.marks.length c22) C.J.marks,Aa (Ai .i64) (.slice A26 winners.length c27) winners,Aa (Ai .i64) (.slice A31 turns.length c32) turns,gl])∧(aI=F5 winners C.t sN)) ?_ ?_
   ·refine Ab (Ae (Ah 2 U (V U U (A8 U DL U) (V U U (Bd U U U) (Ac (Z ?_))))))
    refine Az U (fun h71=>?_) (fun h71=>?_)
    ·refine BP (.e 0 (.e 1 (.e 2 (.e 3 (.e 4 (.e 5 (.m 6 (.e 7 (.e 8 .z))))))))) (fun w=>∃ Ar,Hd w0 F0 w (blk b36 [.slice A1 C.J.us.length c2,.int .i64 C.J.parts,.slice A6 C.J.map.length c7,.slice A11 C.J.comb.length c12,.slice A16 C.J.red.length c17,.int .i64 C.J.chunk,.int .i64 C.J.window,.int .i64 C.J.fuel,.slice A21 C.J.marks.length c22,.int .i64 C.w,.int .i64 C.t,.int .i64 C.o] 28::Bn r41 vS43 vM44 vC45 vR46 vK47 J48 C.w C.t C.o sb49 R::Ar) [Aa (Ak Ag) (.slice A1 C.J.us.length c2) C.J.us,Aa (BB Ag) (.slice A1 C.J.us.length c2) ss,Aa Af (.slice A6 C.J.map.length c7) C.J.map,Aa Af (.slice A11 C.J.comb.length c12) C.J.comb,Aa Af (.slice A16 C.J.red.length c17) C.J.red,Aa (Ai .i64) (.slice A21 C.J.marks.length c22) C.J.marks,Aa (Ai .i64) (.slice A26 winners.length c27) winners,Aa (Ai .i64) (.slice A31 turns.length c32) turns,gl]) mo (by kernel_rfl) (fun w H=>⟨_,H⟩) H (fun w H=>?_)
     refine Au U (Au U ?_)
     obtain ⟨x72,hx73⟩:∃ z9,winners[sN]?=some z9:=⟨_,List.getElem?_eq_getElem (show sN<winners.length by omega)⟩
     have th74:=H.thR 6 rfl hx73
     refine An U U U (fun w ⟨Ar,H⟩=>Ba (p:=AT A26+sN*1) U Ds U U (by omega) (by omega) th74 U) (An U U U (fun w ⟨Ar,H⟩=>Ao U AE U (H.elR 6 U hx73 (q:=0) U U)) (An U U U (fun w ⟨Ar,H⟩=>Aj U Jc U) (An U U U (fun w ⟨Ar,H⟩=>Ao U AE U (H.cellI 0 U U)) (AK U ?_))))
     have h6419:Ax x72:=wwinners.1 _ (B6 hx73)
     refine sc (Mb x72 C.t (by first |assumption|(unfold Ax;omega)) (by omega) (by omega)) H l0 U U (At L4 U U) ?_
     rintro _ _ w ⟨rfl,rfl⟩ H
     have hwy:=aY (t:=C.t) hx73
     obtain ⟨lw,hlw,hl1,hl2⟩:∃ z:Int,IntKind.u64.wrap x72%C.t=z∧0≤z∧z<C.t:=⟨_,rfl,Int.emod_nonneg _ (by omega),Int.emod_lt_of_pos _ (by omega)⟩
     rw [hlw] at hwy ⊢
     exact AH ⟨_,H⟩ (An U U U (fun w ⟨Ar,H⟩=>A0 (z:=1+lw) U U U (AF (by omega) (by omega))) (Au U (BH (E9 (1+lw) ⟨rfl,rfl,rfl,rfl,rfl,rfl,rfl,rfl,trivial⟩ ⟨H,hwy.symm⟩))))
    exact Aw (E9 1 ⟨rfl,rfl,rfl,rfl,rfl,rfl,rfl,rfl,trivial⟩ ⟨H,(aX (by omega)).symm⟩)
   rintro aI w ⟨H,haI⟩
   refine Ab (Ae (V U U (Bu (cs:=[.slice A1 C.J.us.length c2,.int .i64 C.J.parts,.slice A6 C.J.map.length c7,.slice A11 C.J.comb.length c12,.slice A16 C.J.red.length c17,.int .i64 C.J.chunk,.int .i64 C.J.window,.int .i64 C.J.fuel,.slice A21 C.J.marks.length c22,.int .i64 C.w,.int .i64 C.t,.int .i64 C.o]) U Ek U U (H.cellsI 0 U U)) (Ah 2 U ?_)))
   have haN2:=aW winners htt.1 sN
   have hgoM2:sN<C.J.us.length∧1≤aI∧aI≤C.t:=⟨by omega,by omega,by omega⟩
   refine sc (PN (.slice A1 C.J.us.length c2) (.slice A6 C.J.map.length c7) (.slice A11 C.J.comb.length c12) (.slice A16 C.J.red.length c17) (.slice A21 C.J.marks.length c22) C sN aI (by first |assumption|omega|exact AS.pairs (by assumption)|exact ⟨CL hC (by omega) (by omega),by decide⟩|(unfold Ax;omega)|exact (fun r h=>by cases h)|(simp only [List.length_nil];omega)) (by first |assumption|omega|exact AS.pairs (by assumption)|exact ⟨CL hC (by omega) (by omega),by decide⟩|(unfold Ax;omega)|exact (fun r h=>by cases h)|(simp only [List.length_nil];omega)) (by first |assumption|omega|exact AS.pairs (by assumption)|exact ⟨CL hC (by omega) (by omega),by decide⟩|(unfold Ax;omega)|exact (fun r h=>by cases h)|(simp only [List.length_nil];omega))) H (lR 0 U (lR 2 U (lR 3 U (lR 4 U (lR 5 U (lR 8 U l0)))))) U U (At Pk U U) ?_
   rintro _ _ w ⟨b75,rfl,rfl⟩ H
   replace H:=H.h1 (A:=EU b75 C.J (FO dg C.J sN aI))
   obtain ⟨M2,hM2⟩:∃ z:F6,z=FO dg C.J sN aI:=⟨_,rfl⟩
   rw [←hM2] at H
   replace H:Hd _ _ _ [EU b75 C.J M2,blk b36 [.slice A1 C.J.us.length c2,.int .i64 C.J.parts,.slice A6 C.J.map.length c7,.slice A11 C.J.comb.length c12,.slice A16 C.J.red.length c17,.int .i64 C.J.chunk,.int .i64 C.J.window,.int .i64 C.J.fuel,.slice A21 C.J.marks.length c22,.int .i64 C.w,.int .i64 C.t,.int .i64 C.o] 28,Bn r41 vS43 vM44 vC45 vR46 vK47 J48 C.w C.t C.o sb49 R] [Aa (Ak Ag) (.slice A1 C.J.us.length c2) C.J.us,Aa (BB Ag) (.slice A1 C.J.us.length c2) ss,Aa Af (.slice A6 C.J.map.length c7) C.J.map,Aa Af (.slice A11 C.J.comb.length c12) C.J.comb,Aa Af (.slice A16 C.J.red.length c17) C.J.red,Aa (Ai .i64) (.slice A21 C.J.marks.length c22) C.J.marks,Aa (Ai .i64) (.slice A26 winners.length c27) winners,Aa (Ai .i64) (.slice A31 turns.length c32) turns,gl]:=H
   have hspM2:M2.sp=sN:=by rw [hM2];rfl
   have hatM2:M2.att=aI:=by rw [hM2];rfl
   have hlenM2:=I5 dg C.J M2.sp M2.att
   refine Ah 5 U (Ac (Z ?_))
   have hr2:(AB dg C.J M2.sp).2=0:=by rw [hspM2,←hsj.split];exact h0s
   have hnc2:(BI dg C.J M2.sp M2.att).length=C.J.parts.toNat:=by rw [I5,if_neg (fun g=>g hr2)]
   refine Ae (Ah 4 U (sc (P2 b75 C.J M2 (by first |assumption|omega|exact AS.pairs (by assumption)|exact ⟨CL hC (by omega) (by omega),by decide⟩|(unfold Ax;omega)|exact (fun r h=>by cases h)|(simp only [List.length_nil];omega))) H l0 U U (At L5 U U) ?_))
   rintro v76 _ w rfl H
   refine Ad U ?_
   obtain ⟨A77,c78,rfl,hc79,hm80,hp81⟩:=H.fA 0 rfl
   obtain ⟨x82,hx83⟩:∃ z9,(BI dg C.J M2.sp M2.att)[p0]?=some z9:=⟨_,List.getElem?_eq_getElem (show p0<(BI dg C.J M2.sp M2.att).length by omega)⟩
   have th84:=H.thA 0 rfl hx83
   refine V U U (Ba (p:=AT A77+p0*1) U Ds U U (by omega) (by omega) th84 U) (V U U (Ao U AE U (H.elA 0 U hx83 (q:=0) U U)) ?_)
   have hxM2:x82=(((Em dg J48 sN aI ((p0:Nat):Int)):Nat):Int):=NZ hJ2 h0s ⟨by omega,by rw [hsj.parts];omega⟩ (by rw [Lj hsj,Int.toNat_natCast];rw [hspM2,hatM2] at hx83;exact hx83)
   have hc40M2:=NS dg hJ2 sN aI ((p0:Nat):Int)
   replace H:=H.p3
   replace H:Hd _ _ _ [Bn r41 vS43 vM44 vC45 vR46 vK47 J48 C.w C.t C.o sb49 R,Y (Ai .i64) (.slice A77 ((BI dg C.J M2.sp M2.att).length) c78) (BI dg C.J M2.sp M2.att),EU b75 C.J M2,blk b36 [.slice A1 C.J.us.length c2,.int .i64 C.J.parts,.slice A6 C.J.map.length c7,.slice A11 C.J.comb.length c12,.slice A16 C.J.red.length c17,.int .i64 C.J.chunk,.int .i64 C.J.window,.int .i64 C.J.fuel,.slice A21 C.J.marks.length c22,.int .i64 C.w,.int .i64 C.t,.int .i64 C.o] 28] [Aa (Ak Ag) (.slice A1 C.J.us.length c2) C.J.us,Aa (BB Ag) (.slice A1 C.J.us.length c2) ss,Aa Af (.slice A6 C.J.map.length c7) C.J.map,Aa Af (.slice A11 C.J.comb.length c12) C.J.comb,Aa Af (.slice A16 C.J.red.length c17) C.J.red,Aa (Ai .i64) (.slice A21 C.J.marks.length c22) C.J.marks,Aa (Ai .i64) (.slice A26 winners.length c27) winners,Aa (Ai .i64) (.slice A31 turns.length c32) turns,gl]:=H
   refine sc (MM r41 vS43 vM44 vC45 vR46 vK47 J48 C.w C.t C.o sb49 R ((sN:Nat):Int) aI x82 (by first |assumption|omega|exact AS.pairs (by assumption)|exact ⟨CL hC (by omega) (by omega),by decide⟩|(unfold Ax;omega)|exact (fun r h=>by cases h)|(simp only [List.length_nil];omega)) (by first |assumption|omega|exact AS.pairs (by assumption)|exact ⟨CL hC (by omega) (by omega),by decide⟩|(unfold Ax;omega)|exact (fun r h=>by cases h)|(simp only [List.length_nil];omega)) (by first |assumption|omega|exact AS.pairs (by assumption)|exact ⟨CL hC (by omega) (by omega),by decide⟩|(unfold Ax;omega)|exact (fun r h=>by cases h)|(simp only [List.length_nil];omega))) H l0 U U (At L7 U U) ?_
   rintro v87 _ w ⟨rs85,rfl,hf86⟩ H
   replace H:=H.h2 (A:=Y Bp v87 rs85) (B:=Bn r41 vS43 vM44 vC45 vR46 vK47 J48 C.w C.t C.o sb49 ((Dp J48 C.t R ((sN:Nat):Int) aI x82).1))
   have hfw:DN dg J48 ((p0:Nat):Int) (F5 winners C.t) ((Dp J48 C.t R ((sN:Nat):Int) aI x82).1):=by rw [hxM2,haI];exact aZ hJ2 (by omega) (by omega) h0s hF
   have hBw:AS (k+1) ((Dp J48 C.t R ((sN:Nat):Int) aI x82).1):=hB.won h6 _ _ _
   have hew:((Dp J48 C.t R ((sN:Nat):Int) aI x82).1).ep=1:=(a_ _ _ _ _ _ _).2.trans hep
   obtain ⟨R9,hR9⟩:∃ z:AC,z=(Dp J48 C.t R ((sN:Nat):Int) aI x82).1:=⟨_,rfl⟩
   rw [←hR9] at H hfw hBw hew
   replace H:Hd _ _ _ [Y Bp v87 rs85,Bn r41 vS43 vM44 vC45 vR46 vK47 J48 C.w C.t C.o sb49 R9,Y (Ai .i64) (.slice A77 ((BI dg C.J M2.sp M2.att).length) c78) (BI dg C.J M2.sp M2.att),EU b75 C.J M2,blk b36 [.slice A1 C.J.us.length c2,.int .i64 C.J.parts,.slice A6 C.J.map.length c7,.slice A11 C.J.comb.length c12,.slice A16 C.J.red.length c17,.int .i64 C.J.chunk,.int .i64 C.J.window,.int .i64 C.J.fuel,.slice A21 C.J.marks.length c22,.int .i64 C.w,.int .i64 C.t,.int .i64 C.o] 28] [Aa (Ak Ag) (.slice A1 C.J.us.length c2) C.J.us,Aa (BB Ag) (.slice A1 C.J.us.length c2) ss,Aa Af (.slice A6 C.J.map.length c7) C.J.map,Aa Af (.slice A11 C.J.comb.length c12) C.J.comb,Aa Af (.slice A16 C.J.red.length c17) C.J.red,Aa (Ai .i64) (.slice A21 C.J.marks.length c22) C.J.marks,Aa (Ai .i64) (.slice A26 winners.length c27) winners,Aa (Ai .i64) (.slice A31 turns.length c32) turns,gl]:=H
   refine Ac (A_ (Z ?_))
   replace H:=H.p4.p2.k2
   refine Ae (Ad U (V U U (A0 (z:=((k+1:Nat):Int)) U U U (by rw [AF (by omega) (by omega)];omega)) (Ad U (Ac ?_))))
   replace H:=H.p1
   exact Bl (s:=(k,R)) (k+1,R9) ⟨rfl,rfl,rfl,rfl,rfl,rfl,trivial⟩ ⟨H,by (try dsimp only);omega,hBw,hfw,hew⟩ (by (try dsimp only);omega)
  refine Ab (Ae (Ah 3 U ?_))
  obtain ⟨x88,hx89⟩:∃ z9,(BI dg C.J M1.sp M1.att)[p0]?=some z9:=⟨_,List.getElem?_eq_getElem (show p0<(BI dg C.J M1.sp M1.att).length by omega)⟩
  have th90:=H.thA 0 rfl hx89
  refine V U U (Ba (p:=AT A64+p0*1) U Ds U U (by omega) (by omega) th90 U) (V U U (Ao U AE U (H.elA 0 U hx89 (q:=0) U U)) (V U U (Bd U U U) (Ac (Z ?_))))
  refine Az U (fun h91=>?_) (fun h91=>?_)
  ·refine Ab ?_
   have hxM1:x88=(((Em dg J48 sN aT ((p0:Nat):Int)):Nat):Int):=NZ hJ2 h0s ⟨by omega,by rw [hsj.parts];omega⟩ (by rw [Lj hsj,Int.toNat_natCast];rw [hspM1,hatM1] at hx89;exact hx89)
   have hc40M1:=NS dg hJ2 sN aT ((p0:Nat):Int)
   have hq9:qN<(Em dg J48 sN aT ((p0:Nat):Int)):=by omega
   refine Ae (Ah 8 U ?_)
   replace H:=H.p1
   refine sc (W6 b62 C.J M1 ((p0:Nat):Int) ((qN:Nat):Int) (by first |assumption|omega|exact AS.pairs (by assumption)|exact ⟨CL hC (by omega) (by omega),by decide⟩|(unfold Ax;omega)|exact (fun r h=>by cases h)|(simp only [List.length_nil];omega))) H l0 U U (At VU U U) ?_
   rintro v92 _ w rfl H
   replace H:=H.h1 (A:=Y Ag v92 (B_ dg C.J M1.sp M1.att ((p0:Nat):Int) ((qN:Nat):Int)))|>.tellK (ys:=B_ dg J48 sN aT ((p0:Nat):Int) ((qN:Nat):Int)) (by rw [hspM1,hatM1];exact NO hsj _ _ _ _ _)|>.h1 (A:=Y Ag v92 (B_ dg J48 sN aT ((p0:Nat):Int) ((qN:Nat):Int)))
   have hch:=SS G8 hJ2 sN aT ((p0:Nat):Int) ((qN:Nat):Int)
   obtain ⟨A93,c94,rfl,hc95,hm96,hp97⟩:=H.fA 0 rfl
   refine V U U (CM (parts:=[(0,.const (.int .i64 2)),(1,.tmp 139),(2,.tmp 140),(3,.tmp 141),(4,.tmp 142),(9,.tmp 146)]) (vs:=[.int .i64 2,.int .i64 ((sN:Nat):Int),.int .i64 aT,.int .i64 ((p0:Nat):Int),.int .i64 ((qN:Nat):Int),.slice A93 ((B_ dg J48 sN aT ((p0:Nat):Int) ((qN:Nat):Int)).length) c94]) (cs:=[.int .i64 2,.int .i64 ((sN:Nat):Int),.int .i64 aT,.int .i64 ((p0:Nat):Int),.int .i64 ((qN:Nat):Int),.int .i64 0,.int .i64 0,.int .i64 0,.slice none 0 0,.slice A93 ((B_ dg J48 sN aT ((p0:Nat):Int) ((qN:Nat):Int)).length) c94]) U H_ U U) ?_
   replace H:=H.p4
   refine sc (Q2 r41 vS43 vM44 vC45 vR46 vK47 J48 C.w C.t C.o sb49 R (⟨2,((sN:Nat):Int),aT,((p0:Nat):Int),((qN:Nat):Int),0,0,0,[],(B_ dg J48 sN aT ((p0:Nat):Int) ((qN:Nat):Int))⟩:Bt) (.slice none 0 0) (.slice A93 ((B_ dg J48 sN aT ((p0:Nat):Int) ((qN:Nat):Int)).length) c94) (by first |assumption|omega|exact AS.pairs (by assumption)|exact ⟨CL hC (by omega) (by omega),by decide⟩|(unfold Ax;omega)|exact (fun r h=>by cases h)|(simp only [List.length_nil];omega)) (by first |assumption|omega|exact AS.pairs (by assumption)|exact ⟨CL hC (by omega) (by omega),by decide⟩|(unfold Ax;omega)|exact (fun r h=>by cases h)|(simp only [List.length_nil];omega)) (by first |assumption|omega|exact AS.pairs (by assumption)|exact ⟨CL hC (by omega) (by omega),by decide⟩|(unfold Ax;omega)|exact (fun r h=>by cases h)|(simp only [List.length_nil];omega))) H (lX (fun F _ _=>IG _ _ F trivial (by decide)) (lA 0 U BE l0)) U U (At Ps U U) ?_
   rintro _ _ w ⟨u98,rs99,rfl,rfl,hf100⟩ H
   replace H:=H.h2 (A:=Y Bp u98 rs99) (B:=Bn r41 vS43 vM44 vC45 vR46 vK47 J48 C.w C.t C.o sb49 ((Bm J48 R (⟨2,((sN:Nat):Int),aT,((p0:Nat):Int),((qN:Nat):Int),0,0,0,[],(B_ dg J48 sN aT ((p0:Nat):Int) ((qN:Nat):Int))⟩:Bt)).1))
   obtain ⟨hfp,hf1,hf2,hf3,hf4⟩:=XR (m:=(⟨2,((sN:Nat):Int),aT,((p0:Nat):Int),((qN:Nat):Int),0,0,0,[],(B_ dg J48 sN aT ((p0:Nat):Int) ((qN:Nat):Int))⟩:Bt)) hJ2 (by omega) (by omega) hq9 hF rfl
   rw [hep] at hf2
   have hBp:AS (k+1) ((Bm J48 R (⟨2,((sN:Nat):Int),aT,((p0:Nat):Int),((qN:Nat):Int),0,0,0,[],(B_ dg J48 sN aT ((p0:Nat):Int) ((qN:Nat):Int))⟩:Bt)).1):=hB.push h6 _
   have hee:((Bm J48 R (⟨2,((sN:Nat):Int),aT,((p0:Nat):Int),((qN:Nat):Int),0,0,0,[],(B_ dg J48 sN aT ((p0:Nat):Int) ((qN:Nat):Int))⟩:Bt)).1).ep=1:=(XW _ _ _).2.trans hep
   obtain ⟨R9,hR9⟩:∃ z:AC,z=(Bm J48 R (⟨2,((sN:Nat):Int),aT,((p0:Nat):Int),((qN:Nat):Int),0,0,0,[],(B_ dg J48 sN aT ((p0:Nat):Int) ((qN:Nat):Int))⟩:Bt)).1:=⟨_,rfl⟩
   rw [←hR9] at H hfp hBp hee
   replace H:Hd _ _ _ [Y Bp u98 rs99,Bn r41 vS43 vM44 vC45 vR46 vK47 J48 C.w C.t C.o sb49 R9,Y Ag (.slice A93 ((B_ dg J48 sN aT ((p0:Nat):Int) ((qN:Nat):Int)).length) c94) (B_ dg J48 sN aT ((p0:Nat):Int) ((qN:Nat):Int)),EU b62 C.J M1,Y (Ai .i64) (.slice A64 ((BI dg C.J M1.sp M1.att).length) c65) (BI dg C.J M1.sp M1.att),blk b36 [.slice A1 C.J.us.length c2,.int .i64 C.J.parts,.slice A6 C.J.map.length c7,.slice A11 C.J.comb.length c12,.slice A16 C.J.red.length c17,.int .i64 C.J.chunk,.int .i64 C.J.window,.int .i64 C.J.fuel,.slice A21 C.J.marks.length c22,.int .i64 C.w,.int .i64 C.t,.int .i64 C.o] 28] [Aa (Ak Ag) (.slice A1 C.J.us.length c2) C.J.us,Aa (BB Ag) (.slice A1 C.J.us.length c2) ss,Aa Af (.slice A6 C.J.map.length c7) C.J.map,Aa Af (.slice A11 C.J.comb.length c12) C.J.comb,Aa Af (.slice A16 C.J.red.length c17) C.J.red,Aa (Ai .i64) (.slice A21 C.J.marks.length c22) C.J.marks,Aa (Ai .i64) (.slice A26 winners.length c27) winners,Aa (Ai .i64) (.slice A31 turns.length c32) turns,gl]:=H
   refine Ah 3 U (Dr U U U K8 H (fun b101 w H=>(Bo U U U CR U U H U (Nat.le_of_ble_eq_true U) (fun u hu=>by simp [Value.cells] at hu;rcases hu with rfl|rfl|rfl|rfl|rfl|rfl|rfl|rfl|rfl|rfl<;>rfl) (fun w H=>?_))))
   replace H:=H.h1 (A:=blk b101 [.int .i64 (((Bm J48 R (⟨2,((sN:Nat):Int),aT,((p0:Nat):Int),((qN:Nat):Int),0,0,0,[],(B_ dg J48 sN aT ((p0:Nat):Int) ((qN:Nat):Int))⟩:Bt)).2.1).kind),.int .i64 (((Bm J48 R (⟨2,((sN:Nat):Int),aT,((p0:Nat):Int),((qN:Nat):Int),0,0,0,[],(B_ dg J48 sN aT ((p0:Nat):Int) ((qN:Nat):Int))⟩:Bt)).2.1).sp),.int .i64 (((Bm J48 R (⟨2,((sN:Nat):Int),aT,((p0:Nat):Int),((qN:Nat):Int),0,0,0,[],(B_ dg J48 sN aT ((p0:Nat):Int) ((qN:Nat):Int))⟩:Bt)).2.1).att),.int .i64 (((Bm J48 R (⟨2,((sN:Nat):Int),aT,((p0:Nat):Int),((qN:Nat):Int),0,0,0,[],(B_ dg J48 sN aT ((p0:Nat):Int) ((qN:Nat):Int))⟩:Bt)).2.1).part),.int .i64 (((Bm J48 R (⟨2,((sN:Nat):Int),aT,((p0:Nat):Int),((qN:Nat):Int),0,0,0,[],(B_ dg J48 sN aT ((p0:Nat):Int) ((qN:Nat):Int))⟩:Bt)).2.1).seq),.int .i64 (((Bm J48 R (⟨2,((sN:Nat):Int),aT,((p0:Nat):Int),((qN:Nat):Int),0,0,0,[],(B_ dg J48 sN aT ((p0:Nat):Int) ((qN:Nat):Int))⟩:Bt)).2.1).next),.int .i64 (((Bm J48 R (⟨2,((sN:Nat):Int),aT,((p0:Nat):Int),((qN:Nat):Int),0,0,0,[],(B_ dg J48 sN aT ((p0:Nat):Int) ((qN:Nat):Int))⟩:Bt)).2.1).ep),.int .i64 (((Bm J48 R (⟨2,((sN:Nat):Int),aT,((p0:Nat):Int),((qN:Nat):Int),0,0,0,[],(B_ dg J48 sN aT ((p0:Nat):Int) ((qN:Nat):Int))⟩:Bt)).2.1).why),.slice none 0 0,.slice none 0 0] 64)
   refine Ad U (Ac (Z ?_))
   replace H:=H.p6.p6.p5.p5.p4.k5
   refine Ab (Ae (V U U (Aj U OE U) (V U U (Ao U AE U (H.cellI 0 U U)) (V U U (CN U U U) (Ad U ?_)))))
   refine AU (d:=154) U (fun h102=>?_) (fun h102=>?_)
   ·exact (h102 hf1).elim
   refine V U U (Aj U Uc U) (V U U (Ao U AE U (H.cellI 0 U U)) (V U U (CN U U U) (Ah 2 U ?_)))
   refine AU (d:=159) U (fun h103=>?_) (fun h103=>?_)
   ·exact (h103 hf2).elim
   refine V U U (Aj U F_ U) (V U U (Ao U AE U (H.cellI 0 U U)) (Ad U (V U U (CN U U U) (Ah 2 U ?_))))
   refine AU (d:=165) U (fun h104=>?_) (fun h104=>?_)
   ·exact (h104 hf3).elim
   refine V U U (Aj U HG U) (V U U (Ao U AE U (H.cellI 0 U U)) (Ad U (V U U (CN U U U) (Ad U (Ac (Z ?_))))))
   replace H:=H.p4.p4.p4.p4.k4
   refine Az U (fun h105=>?_) (fun h105=>?_)
   ·exact (h105 hf4).elim
   refine Aw (A_ (Z (Ae (Ad U (V U U (A0 (z:=((k+1:Nat):Int)) U U U (by rw [AF (by omega) (by omega)];omega)) (Ad U (Ac ?_)))))))
   replace H:=H.p3.k2
   exact Bl (s:=(k,R)) (k+1,R9) ⟨rfl,rfl,rfl,rfl,rfl,rfl,trivial⟩ ⟨H,by (try dsimp only);omega,hBp,hfp,hee⟩ (by (try dsimp only);omega)
  refine Aw (A_ (Z ?_))
  replace H:=H.p3.p3.k2
  exact Ae (Ad U (V U U (A0 (z:=((k+1:Nat):Int)) U U U (by rw [AF (by omega) (by omega)];omega)) (Ad U (Ac (Bl (s:=(k,R)) (k+1,R) ⟨rfl,rfl,rfl,rfl,rfl,rfl,trivial⟩ ⟨H,by (try dsimp only);omega,hB.mono (by omega),hF,hep⟩ (by (try dsimp only);omega))))))
 refine BM (AR (AR (BN (Z (Ab (Ae (Ad U ?_)))))))
 replace H:=H.p1.h1 (A:=Bn r41 vS43 vM44 vC45 vR46 vK47 J48 C.w C.t C.o sb49 R)
 obtain ⟨hv106,vs107,us108,hsets109,H⟩:=EY r41 vS43 vM44 vC45 vR46 vK47 J48 C.w C.t C.o sb49 R H
 replace H:=H.h9 (A:=blk r41 (AJ vS43 vM44 vC45 vR46 vK47 J48 C.w C.t C.o R.part R.ep R.g hv106 sb49 vs107) 185) (B:=Y (Ak Ag) vS43 J48.us) (C:=Y Af vM44 J48.map) (D:=Y Af vC45 J48.comb) (E:=Y Af vR46 J48.red) (F:=Y (Ai .i64) vK47 J48.marks) (G:=AO (R.g) hv106) (I:=Y (Ak (Ai .i64)) vs107 us108) (J:=AV 253 sb49 (R.st))
 obtain ⟨A110,c111,rfl,hc112,hm113,hp114⟩:=H.fA 1 rfl
 refine sc (HL r41 A110 c111 vM44 vC45 vR46 vK47 J48 C.w C.t C.o R.part R.ep R hv106 sb49 vs107 (by first |assumption|omega|exact AS.pairs (by assumption)|exact ⟨CL hC (by omega) (by omega),by decide⟩|(unfold Ax;omega)|exact (fun r h=>by cases h)|(simp only [List.length_nil];omega))) H (lA 0 U (fun _ h=>h) l0) U U (At HK U U) ?_
 rintro v115 _ w rfl H
 replace H:=H.h1 (A:=Y (Ai .i64) v115 (Av J48.us.length R))|>.p9|>.p9|>.p9|>.p9|>.p9|>.p9|>.p9|>.p9|>.p9
 replace H:=Cx r41 (.slice A110 J48.us.length c111) vM44 vC45 vR46 vK47 J48 C.w C.t C.o sb49 R hv106 vs107 us108 hsets109 H
 replace H:=H.h1 (A:=Bn r41 (.slice A110 J48.us.length c111) vM44 vC45 vR46 vK47 J48 C.w C.t C.o sb49 R)
 refine Ad U (Ac (Z (Ab (Ab (Ae (Ad U (Ac (Z (AW ?_)))))))))
 obtain ⟨A116,c117,rfl,hc118,hm119,hp120⟩:=H.fA 1 rfl
 have hml:=Jl J48.us.length R
 have hbp9:∀ i,(R.g i).pairs.length≤1000:=hB.pairs
 replace H:=H.p2
 refine BT (σ:=Nat) (fun i=>[(4,.pointer (some ⟨b36,0,none⟩)),(9,.pointer (some ⟨r41,0,none⟩)),(10,.int .i64 ((p0:Nat):Int)),(24,.slice A116 ((Av J48.us.length R).length) c117),(25,.int .i64 ((i:Nat):Int))]) (fun i w=>(Hd w0 F0 w [blk b36 [.slice A1 C.J.us.length c2,.int .i64 C.J.parts,.slice A6 C.J.map.length c7,.slice A11 C.J.comb.length c12,.slice A16 C.J.red.length c17,.int .i64 C.J.chunk,.int .i64 C.J.window,.int .i64 C.J.fuel,.slice A21 C.J.marks.length c22,.int .i64 C.w,.int .i64 C.t,.int .i64 C.o] 28,Bn r41 (.slice A110 J48.us.length c111) vM44 vC45 vR46 vK47 J48 C.w C.t C.o sb49 R,Y (Ai .i64) (.slice A116 ((Av J48.us.length R).length) c117) (Av J48.us.length R)] [Aa (Ak Ag) (.slice A1 C.J.us.length c2) C.J.us,Aa (BB Ag) (.slice A1 C.J.us.length c2) ss,Aa Af (.slice A6 C.J.map.length c7) C.J.map,Aa Af (.slice A11 C.J.comb.length c12) C.J.comb,Aa Af (.slice A16 C.J.red.length c17) C.J.red,Aa (Ai .i64) (.slice A21 C.J.marks.length c22) C.J.marks,Aa (Ai .i64) (.slice A26 winners.length c27) winners,Aa (Ai .i64) (.slice A31 turns.length c32) turns,gl])∧(i≤(Av J48.us.length R).length)) (fun i=>(Av J48.us.length R).length - i) 0 ⟨rfl,rfl,rfl,rfl,rfl,trivial⟩ ⟨H,Nat.zero_le _⟩ ?_
 rintro i w ⟨H,hi⟩
 refine Ab (Ab (Ae (Ah 2 U (V U U (A8 U DL U) (V U U (Bd U U U) (Ac (Z ?_)))))))
 refine Az U (fun h121=>?_) (fun h121=>?_)
 ·refine Aw (Z (Ab (AW (Ab (BP (.e 0 (.e 1 (.e 2 (.e 3 (.e 4 (.e 5 (.e 6 (.m 7 (.e 8 (.e 9 (.e 10 (.e 11 (.e 12 .z))))))))))))) (fun w=>∃ Ar,Hd w0 F0 w (blk b36 [.slice A1 C.J.us.length c2,.int .i64 C.J.parts,.slice A6 C.J.map.length c7,.slice A11 C.J.comb.length c12,.slice A16 C.J.red.length c17,.int .i64 C.J.chunk,.int .i64 C.J.window,.int .i64 C.J.fuel,.slice A21 C.J.marks.length c22,.int .i64 C.w,.int .i64 C.t,.int .i64 C.o] 28::Bn r41 (.slice A110 J48.us.length c111) vM44 vC45 vR46 vK47 J48 C.w C.t C.o sb49 R::Y (Ai .i64) (.slice A116 ((Av J48.us.length R).length) c117) (Av J48.us.length R)::Ar) [Aa (Ak Ag) (.slice A1 C.J.us.length c2) C.J.us,Aa (BB Ag) (.slice A1 C.J.us.length c2) ss,Aa Af (.slice A6 C.J.map.length c7) C.J.map,Aa Af (.slice A11 C.J.comb.length c12) C.J.comb,Aa Af (.slice A16 C.J.red.length c17) C.J.red,Aa (Ai .i64) (.slice A21 C.J.marks.length c22) C.J.marks,Aa (Ai .i64) (.slice A26 winners.length c27) winners,Aa (Ai .i64) (.slice A31 turns.length c32) turns,gl]) mo (by kernel_rfl) (fun w H=>⟨_,H⟩) H (fun w H=>?_))))))
  refine An U U U (fun w ⟨Ar,H⟩=>Aj U Cu U) (An U U U (fun w ⟨Ar,H⟩=>Bu (cs:=[.slice A1 C.J.us.length c2,.int .i64 C.J.parts,.slice A6 C.J.map.length c7,.slice A11 C.J.comb.length c12,.slice A16 C.J.red.length c17,.int .i64 C.J.chunk,.int .i64 C.J.window,.int .i64 C.J.fuel,.slice A21 C.J.marks.length c22]) U FW U U (H.cellsI 0 U U)) (Au U (Au U ?_)))
  obtain ⟨x122,hx123⟩:∃ z9,(Av J48.us.length R)[i]?=some z9:=⟨_,List.getElem?_eq_getElem (show i<(Av J48.us.length R).length by omega)⟩
  have th124:=H.thA 2 rfl hx123
  refine An U U U (fun w ⟨Ar,H⟩=>Ba (p:=AT A116+i*1) U Ds U U (by omega) (by omega) th124 U) (An U U U (fun w ⟨Ar,H⟩=>Ao U AE U (H.elA 2 U hx123 (q:=0) U U)) (Au U (AK U ?_)))
  obtain ⟨sM,rfl,hs1,hs2,hrun,hmg⟩:=WH hsj hF (B6 hx123)
  refine sc (OY (.slice A1 C.J.us.length c2) (.slice A6 C.J.map.length c7) (.slice A11 C.J.comb.length c12) (.slice A16 C.J.red.length c17) (.slice A21 C.J.marks.length c22) C.J (by first |assumption|exact hC.ok) sM ((p0:Nat):Int) (by first |assumption|omega|exact AS.pairs (by assumption)|exact ⟨CL hC (by omega) (by omega),by decide⟩|(unfold Ax;omega)|exact (fun r h=>by cases h)|(simp only [List.length_nil];omega))) H (lR 0 U (lR 2 U (lR 3 U (lR 4 U (lR 5 U (lR 8 U l0)))))) U U (At Pu U U) ?_
  rintro _ _ w ⟨u125,rfl,rfl⟩ H
  replace H:Hd _ _ _ [Y Ag u125 ((CD dg C.J sM ((p0:Nat):Int)).1),blk b36 [.slice A1 C.J.us.length c2,.int .i64 C.J.parts,.slice A6 C.J.map.length c7,.slice A11 C.J.comb.length c12,.slice A16 C.J.red.length c17,.int .i64 C.J.chunk,.int .i64 C.J.window,.int .i64 C.J.fuel,.slice A21 C.J.marks.length c22,.int .i64 C.w,.int .i64 C.t,.int .i64 C.o] 28,Bn r41 (.slice A110 J48.us.length c111) vM44 vC45 vR46 vK47 J48 C.w C.t C.o sb49 R,Y (Ai .i64) (.slice A116 ((Av J48.us.length R).length) c117) (Av J48.us.length R)] [Aa (Ak Ag) (.slice A1 C.J.us.length c2) C.J.us,Aa (BB Ag) (.slice A1 C.J.us.length c2) ss,Aa Af (.slice A6 C.J.map.length c7) C.J.map,Aa Af (.slice A11 C.J.comb.length c12) C.J.comb,Aa Af (.slice A16 C.J.red.length c17) C.J.red,Aa (Ai .i64) (.slice A21 C.J.marks.length c22) C.J.marks,Aa (Ai .i64) (.slice A26 winners.length c27) winners,Aa (Ai .i64) (.slice A31 turns.length c32) turns,gl]:=H
  rw [hrun] at H ⊢
  replace H:Hd _ _ _ [Y Ag u125 ((R.g sM).pairs),blk b36 [.slice A1 C.J.us.length c2,.int .i64 C.J.parts,.slice A6 C.J.map.length c7,.slice A11 C.J.comb.length c12,.slice A16 C.J.red.length c17,.int .i64 C.J.chunk,.int .i64 C.J.window,.int .i64 C.J.fuel,.slice A21 C.J.marks.length c22,.int .i64 C.w,.int .i64 C.t,.int .i64 C.o] 28,Bn r41 (.slice A110 J48.us.length c111) vM44 vC45 vR46 vK47 J48 C.w C.t C.o sb49 R,Y (Ai .i64) (.slice A116 ((Av J48.us.length R).length) c117) (Av J48.us.length R)] [Aa (Ak Ag) (.slice A1 C.J.us.length c2) C.J.us,Aa (BB Ag) (.slice A1 C.J.us.length c2) ss,Aa Af (.slice A6 C.J.map.length c7) C.J.map,Aa Af (.slice A11 C.J.comb.length c12) C.J.comb,Aa Af (.slice A16 C.J.red.length c17) C.J.red,Aa (Ai .i64) (.slice A21 C.J.marks.length c22) C.J.marks,Aa (Ai .i64) (.slice A26 winners.length c27) winners,Aa (Ai .i64) (.slice A31 turns.length c32) turns,gl]:=H
  have hpr:=Xz (R:=R) hs2
  have hbq9:=hbp9 sM
  replace H:=H.p3.p3.p3
  refine AH ⟨_,H⟩ (Au U (Au U (Au U (Au U (Au U (BH (Z (Ab (Ae (Ad U (V U U (CN U U U) (Ah 4 U ?_))))))))))))
  have th126:=H.thA 2 rfl hx123
  refine V U U (Ba (p:=AT A116+i*1) U Ds U U (by omega) (by omega) th126 U) (V U U (Ao U AE U (H.elA 2 U hx123 (q:=0) U U)) ?_)
  replace H:=H.p1
  obtain ⟨hv127,vs128,us129,hsets130,H⟩:=EY r41 (.slice A110 J48.us.length c111) vM44 vC45 vR46 vK47 J48 C.w C.t C.o sb49 R H
  replace H:=H.h9 (A:=blk r41 (AJ (.slice A110 J48.us.length c111) vM44 vC45 vR46 vK47 J48 C.w C.t C.o R.part R.ep R.g hv127 sb49 vs128) 185) (B:=Y (Ak Ag) (.slice A110 J48.us.length c111) J48.us) (C:=Y Af vM44 J48.map) (D:=Y Af vC45 J48.comb) (E:=Y Af vR46 J48.red) (F:=Y (Ai .i64) vK47 J48.marks) (G:=AO (R.g) hv127) (I:=Y (Ak (Ai .i64)) vs128 us129) (J:=AV 253 sb49 (R.st))
  refine sc (YK r41 A110 c111 vM44 vC45 vR46 vK47 J48 C.w C.t C.o R.part R.ep R hv127 sb49 vs128 ((sM:Nat):Int) (by first |assumption|omega|exact AS.pairs (by assumption)|exact ⟨CL hC (by omega) (by omega),by decide⟩|(unfold Ax;omega)|exact (fun r h=>by cases h)|(simp only [List.length_nil];omega)) (by first |assumption|omega|exact AS.pairs (by assumption)|exact ⟨CL hC (by omega) (by omega),by decide⟩|(unfold Ax;omega)|exact (fun r h=>by cases h)|(simp only [List.length_nil];omega))) H (lA 0 U (fun _ h=>h) (lA 6 U (fun _ h=>h) l0)) U U (At VW U U) ?_
  rintro v131 _ w rfl H
  replace H:=H.h1 (A:=Y Ag v131 (G9 J48.us.length R ((sM:Nat):Int)))|>.p9|>.p9|>.p9|>.p9|>.p9|>.p9|>.p9|>.p9|>.p9
  replace H:=Cx r41 (.slice A110 J48.us.length c111) vM44 vC45 vR46 vK47 J48 C.w C.t C.o sb49 R hv127 vs128 us129 hsets130 H
  replace H:=H.h1 (A:=Bn r41 (.slice A110 J48.us.length c111) vM44 vC45 vR46 vK47 J48 C.w C.t C.o sb49 R)
  refine Ad U (sc (KG v131 u125 (G9 J48.us.length R ((sM:Nat):Int)) ((R.g sM).pairs)) H (lA 1 U BE (lA 4 U BE l0)) U U (At Ke U U) ?_)
  rintro _ _ w ⟨rfl,rfl⟩ H
  refine V U U (DD U U) (Ad U (Ac (Z ?_)))
  replace H:=H.sel 5 [0,2,3] [1,4] rfl (by kernel_rfl)
  replace H:Hd _ _ _ [Bn r41 (.slice A110 J48.us.length c111) vM44 vC45 vR46 vK47 J48 C.w C.t C.o sb49 R,blk b36 [.slice A1 C.J.us.length c2,.int .i64 C.J.parts,.slice A6 C.J.map.length c7,.slice A11 C.J.comb.length c12,.slice A16 C.J.red.length c17,.int .i64 C.J.chunk,.int .i64 C.J.window,.int .i64 C.J.fuel,.slice A21 C.J.marks.length c22,.int .i64 C.w,.int .i64 C.t,.int .i64 C.o] 28,Y (Ai .i64) (.slice A116 ((Av J48.us.length R).length) c117) (Av J48.us.length R)] [Aa (Ak Ag) (.slice A1 C.J.us.length c2) C.J.us,Aa (BB Ag) (.slice A1 C.J.us.length c2) ss,Aa Af (.slice A6 C.J.map.length c7) C.J.map,Aa Af (.slice A11 C.J.comb.length c12) C.J.comb,Aa Af (.slice A16 C.J.red.length c17) C.J.red,Aa (Ai .i64) (.slice A21 C.J.marks.length c22) C.J.marks,Aa (Ai .i64) (.slice A26 winners.length c27) winners,Aa (Ai .i64) (.slice A31 turns.length c32) turns,gl]:=H
  refine Az U (fun h132=>?_) (fun h132=>?_)
  ·exact (h132 hpr).elim
  refine Aw (A_ (Z (Ae (Ad U (V U U (A0 (z:=((i+1:Nat):Int)) U U U (by rw [AF (by omega) (by omega)];omega)) (Ad U (Ac ?_)))))))
  replace H:=H.p1
  exact Bl (s:=i) (i+1) ⟨rfl,rfl,rfl,rfl,rfl,trivial⟩ ⟨H,by (try dsimp only);omega⟩ (by (try dsimp only);omega)
 refine BM (AR (AR (BN (Z (Ab (Ae (V U U (Bu (cs:=[.slice A1 C.J.us.length c2,.int .i64 C.J.parts,.slice A6 C.J.map.length c7,.slice A11 C.J.comb.length c12,.slice A16 C.J.red.length c17,.int .i64 C.J.chunk,.int .i64 C.J.window,.int .i64 C.J.fuel,.slice A21 C.J.marks.length c22,.int .i64 C.w,.int .i64 C.t,.int .i64 C.o]) U Ek U U (H.cellsI 0 U U)) (Ah 2 U ?_))))))))
 have hB9:AS 99999 R:=hB.mono (by omega)
 replace H:=H.p1
 refine sc (Z1 (.slice A1 C.J.us.length c2) (.slice A6 C.J.map.length c7) (.slice A11 C.J.comb.length c12) (.slice A16 C.J.red.length c17) (.slice A21 C.J.marks.length c22) C r41 (.slice A110 J48.us.length c111) vM44 vC45 vR46 vK47 J48 sb49 R p0 (F5 winners C.t) (by first |assumption|omega|exact AS.pairs (by assumption)|exact ⟨CL hC (by omega) (by omega),by decide⟩|(unfold Ax;omega)|exact (fun r h=>by cases h)|(simp only [List.length_nil];omega)) (by first |assumption|omega|exact AS.pairs (by assumption)|exact ⟨CL hC (by omega) (by omega),by decide⟩|(unfold Ax;omega)|exact (fun r h=>by cases h)|(simp only [List.length_nil];omega)) (by first |assumption|omega|exact AS.pairs (by assumption)|exact ⟨CL hC (by omega) (by omega),by decide⟩|(unfold Ax;omega)|exact (fun r h=>by cases h)|(simp only [List.length_nil];omega)) (by first |assumption|omega|exact AS.pairs (by assumption)|exact ⟨CL hC (by omega) (by omega),by decide⟩|(unfold Ax;omega)|exact (fun r h=>by cases h)|(simp only [List.length_nil];omega)) (by first |assumption|omega|exact AS.pairs (by assumption)|exact ⟨CL hC (by omega) (by omega),by decide⟩|(unfold Ax;omega)|exact (fun r h=>by cases h)|(simp only [List.length_nil];omega)) (by first |assumption|omega|exact AS.pairs (by assumption)|exact ⟨CL hC (by omega) (by omega),by decide⟩|(unfold Ax;omega)|exact (fun r h=>by cases h)|(simp only [List.length_nil];omega))) H (lR 0 U (lR 2 U (lR 3 U (lR 4 U (lR 5 U (lR 8 U l0)))))) U U (At VX U U) ?_
 rintro _ _ w ⟨rfl,rfl⟩ H
 refine Ad U (sc (I3) H (lR 8 U l0) U U (At Ji U U) ?_)
 rintro _ _ w ⟨rfl,rfl⟩ H
 refine Ah 2 U (Ac (Z ?_))
 replace H:=H.nil
 replace H:Hd _ _ _ [] [Aa (Ak Ag) (.slice A1 C.J.us.length c2) C.J.us,Aa (BB Ag) (.slice A1 C.J.us.length c2) ss,Aa Af (.slice A6 C.J.map.length c7) C.J.map,Aa Af (.slice A11 C.J.comb.length c12) C.J.comb,Aa Af (.slice A16 C.J.red.length c17) C.J.red,Aa (Ai .i64) (.slice A21 C.J.marks.length c22) C.J.marks,Aa (Ai .i64) (.slice A26 winners.length c27) winners,Aa (Ai .i64) (.slice A31 turns.length c32) turns,gl]:=H
 exact Ap (Aq U U (Am ⟨rfl,rfl⟩ H))
theorem YB (vS vM vC vR vK:Value) (ss:List (List Al)) (map comb red:List BG) (marks:List Int) (parts chunk window fuel:Int) (wj:((∀ x∈ss,(∀ p∈x,p.key.size≤9223372036854775807∧p.val.size≤9223372036854775807)∧x.length≤9223372036854775807)∧ss.length≤9223372036854775807)∧((∀ p∈map,Ax p.op∧Ax p.a∧p.s.size≤9223372036854775807)∧map.length≤9223372036854775807)∧((∀ p∈comb,Ax p.op∧Ax p.a∧p.s.size≤9223372036854775807)∧comb.length≤9223372036854775807)∧((∀ p∈red,Ax p.op∧Ax p.a∧p.s.size≤9223372036854775807)∧red.length≤9223372036854775807)∧(∀ x∈marks,Ax x)∧marks.length≤9223372036854775807) (wn:Ax parts∧Ax chunk∧Ax window∧Ax fuel) (cw ct co:Int) (wc:Ax cw∧Ax ct∧Ax co) (k1:Int) (g1:Ax k1) (vw:Value) (winners:List Int) (wwinners:(∀ x∈winners,Ax x)∧winners.length≤9223372036854775807) (vt:Value) (turns:List Int) (wturns:(∀ x∈turns,Ax x)∧turns.length≤9223372036854775807):
  Cn Tryz.prog 12 [.agg #[vS,.int .i64 parts,vM,vC,vR,.int .i64 chunk,.int .i64 window,.int .i64 fuel,vK,.int .i64 cw,.int .i64 ct,.int .i64 co],.int .i64 k1,vw,vt] [] [Aa (BB Ag) vS ss,Aa Af vM map,Aa Af vC comb,Aa Af vR red,Aa (Ai .i64) vK marks,Aa (Ai .i64) vw winners,Aa (Ai .i64) vt turns,gl] (fun v Bs=>v=.bool true∧Bs=[]):=
 Cn.heads0 fun us hus=>YA vS vM vC vR vK ⟨⟨us,parts,map,comb,red,chunk,window,fuel,marks⟩,cw,ct,co⟩ ss (fun i hi=>(wj.2.1.1 i hi).2.1) (fun i hi=>(wj.2.2.1.1 i hi).2.1) (fun i hi=>(wj.2.2.2.1.1 i hi).2.1) k1 g1 vw winners wwinners vt turns wturns
theorem M0 {P:Program} {W:World} {name:String} {g:Nat} {cs:Array Value} (hg:P.globalNamed name=some g) (h:W.var? P name=some cs):Fe W g:=by
 unfold World.var? at h
 rw [hg] at h
 simp only [Option.bind_some] at h
 show g<W.heap.size
 rcases Nat.lt_or_ge g W.heap.size with h'|h'
 ·exact h'
 ·simp [Array.getElem?_eq_none h'] at h
theorem Ry: "*" ++ "errors.errorString" = "*errors.errorString" :=by decide
theorem Qn (u:TypeId) (h:Tryz.prog.typeName? 3 u=some "*errors.errorString"):u=409:=typeName_ptr_named (nm:= "errors.errorString") (by rw [Ry];kernel_rfl) (by kernel_rfl) (by decide) u (by rw [Ry];exact h)
theorem LO:Tryz.prog.globalNamed "internal/strconv.uint64pow10" =some 2:=by kernel_rfl
theorem Uw:(Tryz.prog.globals[2]?).map (·.type)=some 406:=by kernel_rfl
theorem LP:Tryz.prog.globalNamed "strconv.ErrSyntax" =some 0:=by kernel_rfl
theorem Ux:(Tryz.prog.globals[0]?).map (·.type)=some 370:=by kernel_rfl
theorem LQ:Tryz.prog.globalNamed "strconv.ErrRange" =some 1:=by kernel_rfl
theorem Uy:(Tryz.prog.globals[1]?).map (·.type)=some 370:=by kernel_rfl
theorem PI:Tryz.prog.underlying 370=some (.interface (Tryz.prog.methodsAt 370)):=by kernel_rfl
theorem Wd:Tryz.prog.underlying 406=some (.array 20 270):=by kernel_rfl
theorem Wc:Tryz.prog.underlying 270=some (.int .u64):=by kernel_rfl
theorem PJ:Tryz.prog.underlying 409=some (.pointer 411):=by kernel_rfl
theorem PK:Tryz.prog.underlying 411=some (.struct #[⟨ "s",9,0,false, "", "errors",0⟩]):=by kernel_rfl
theorem PL:Tryz.prog.underlying 9=some (.string):=by kernel_rfl
theorem V4:Tryz.prog.cellsOf 270=1:=by kernel_rfl
theorem V5:Tryz.prog.cellsOf 406=20:=by kernel_rfl
theorem PA:Tryz.prog.cellsOf 411=1:=by kernel_rfl
theorem PB:Tryz.prog.cellsOf 9=1:=by kernel_rfl
theorem Uk {W:World} (h:laidMet Tryz.prog Rows.checkOrdersRow.laid W):gl.P W (Fe W):=by
 refine ⟨?_,?_,?_⟩
 ·have h0:laidMet Tryz.prog [("internal/strconv.uint64pow10",Lib.tabData .u64 Lib.pow10Tab)] W:=by
   have e:Rows.checkOrdersRow.laid.filter (fun x=>x.1== "internal/strconv.uint64pow10")=[("internal/strconv.uint64pow10",Lib.tabData .u64 Lib.pow10Tab)]:=by kernel_rfl
   have:=h.filter (fun x=>x.1== "internal/strconv.uint64pow10");rw [e] at this;exact this
  have hv:=Lib.tabIs_of_head LO Uw Wd Wc V4 V5 h0
  exact ⟨_,LO,M0 LO hv,_,hv,rfl⟩
 ·have h0:laidMet Tryz.prog [("strconv.ErrSyntax",Rows.laid_strconv_ErrSyntax)] W:=by
   have e:Rows.checkOrdersRow.laid.filter (fun x=>x.1== "strconv.ErrSyntax")=[("strconv.ErrSyntax",Rows.laid_strconv_ErrSyntax)]:=by kernel_rfl
   have:=h.filter (fun x=>x.1== "strconv.ErrSyntax");rw [e] at this;exact this
  obtain ⟨a0,s0,hv, -⟩:=laid_sentinel h0 LP Ux PI Qn PJ PK rfl rfl PL PA PB
  exact ⟨_,LP,M0 LP hv,_,hv,_,_,rfl⟩
 ·have h0:laidMet Tryz.prog [("strconv.ErrRange",Rows.laid_strconv_ErrRange)] W:=by
   have e:Rows.checkOrdersRow.laid.filter (fun x=>x.1== "strconv.ErrRange")=[("strconv.ErrRange",Rows.laid_strconv_ErrRange)]:=by kernel_rfl
   have:=h.filter (fun x=>x.1== "strconv.ErrRange");rw [e] at this;exact this
  obtain ⟨a0,s0,hv, -⟩:=laid_sentinel h0 LQ Uy PI Qn PJ PK rfl rfl PL PA PB
  exact ⟨_,LQ,M0 LQ hv,_,hv,_,_,rfl⟩
end Go.Proofs.YthgehekecfpikaaGreatDoor.X
