/- ReducerOrders: texts K1, K2, M2, M3, W1, M4, XMprA, A1, M5, M6, M7, XRedR, XFeed, L8, G1, joined by a program of ours; what nothing names is left out. -/
import Derived.Test.YthgehekecfpikaaGreatDoorReducerOrdersQ6
import Derived.KernelRfl
import Derived.Test.YthgehekecfpikaaGreatDoorRows
import Derived.LaidSub
import Derived.Lib.LaidTab
import Derived.Stop.LaidErr
set_option linter.unusedVariables false
set_option linter.unusedSimpArgs false
set_option maxHeartbeats 8000000
namespace Go.Proofs.YthgehekecfpikaaGreatDoor.X
open Go
theorem NF (vb:Value) (bs:List UInt8) (n:Nat) (hb:bs.length≤1000000) (hn:n<9223372036854775808):
    Cn Tryz.prog 159 [vb,.int .i64 ((n:Nat):Int)] [] [Aa B2 vb bs] (fun v Bs=>Bs=[Y B2 v (bs++Ca n)]):=by
 intro w0 F0 H
 obtain ⟨A1,c2,rfl,hc3,hm4,hp5⟩:=H.fR 0 rfl
 refine enter Tryz.func159 U U (Nat.le_of_ble_eq_true U) (Ab (Ae (Ad U (Ac (Z ?_)))))
 replace H:Hd _ _ _ [] [Aa B2 (.slice A1 bs.length c2) bs]:=H
 refine Ab (Ae (Ad U (V U U (A0 U GJ U) (Ad U (V U U (A0 U GJ U) (V U U (A9 (z:=((bs.length+8:Nat):Int)) U U U (by rw [AF (by omega) (by omega)];omega)) (YB (m:=bs.length) (c:=bs.length+8) (a0:=(0:UInt8)) (enc:=EM) U U U Hg KJ U (by decide) Ua U U (by omega) (by omega) (by omega) H (fun b6 w H=>?_))))))))
 replace H:=H.h1 (A:=Iz EM b6 5 (List.replicate (bs.length+8) (0:UInt8)))
 refine Ad U (Ac (Z (Ab (Ae (Ah 2 U (Yy (ys:=bs) U U U Hg U U H (by simp) (by omega) (fun F hA hR=>hR _ (List.mem_of_getElem? (i:=0) U)) (fun w H=>?_)))))))
 replace H:Hd w0 F0 w [Y B2 (.slice (some ⟨b6,0,none⟩) bs.length (bs.length+8)) bs] [Aa B2 (.slice A1 bs.length c2) bs]:=H.turn (fun F h=>Yg h (by simp) rfl (by simp) (by omega))
 refine Ac (Z (Ab (Ab (Ae (Ad U (Ac (Z (AU ?_))))))))
 replace H:Hd w0 F0 w [Y B2 (.slice (some ⟨b6,0,none⟩) bs.length (bs.length+8)) (bs++(Ca n).take 0)] [Aa B2 (.slice A1 bs.length c2) bs]:=by rw [List.take_zero,List.append_nil];exact H
 refine BV (σ:=Nat×Value) (fun (i,q)=>[(1,.int .i64 ((n:Nat):Int)),(4,.slice none 0 0),(5,q),(16,.int .i64 ((i:Nat):Int))]) (fun (i,q) w=>(Hd w0 F0 w [Y B2 q (bs++(Ca n).take i)] [Aa B2 (.slice A1 bs.length c2) bs])∧(i≤8)) (fun (i,q)=>8 - i) (0,.slice (some ⟨b6,0,none⟩) bs.length (bs.length+8)) ⟨rfl,rfl,rfl,rfl,trivial⟩ ⟨H,Nat.zero_le _⟩ ?_
 rintro ⟨i,q⟩ w ⟨H,hi⟩
 have hbl:=FD n
 have htl:((Ca n).take i).length≤8:=by rw [List.length_take];omega
 refine Ab (Ae (V U U (Bg U U U) (Ac (Z (Ab ?_)))))
 refine Ay U (fun h7=>?_) (fun h7=>?_)
 ·refine Av (Z (Ab (AU (Ab (Ae (Ah 2 U (Ac (Z (Ae (Ah 2 U (V U U (DA (z:=((n:Nat):Int)) U U Dj HK (Fo (by omega) (by omega))) (Ad U (V U U (Ck (z:=7 - ((i:Nat):Int)) U U U (AF (by omega) (by omega))) (V U U (Ha (z:=8*(7 - ((i:Nat):Int))) U U U (AF (by omega) (by omega))) (V U U (DA (z:=8*(7 - ((i:Nat):Int))) U U Dj E8 (Fo (by omega) (by omega))) (V U U (Iw (z:=((n / 256^(7 - i):Nat):Int)) U U U (by omega) (YS n (by omega))) (V U U (DA (z:=((UInt8.ofNat (n / 256^(7 - i))).toNat:Int)) U U HK HM (Z2 _)) (BT (parts:=[(0,.tmp 27)]) (vs:=[.int .u8 ((UInt8.ofNat (n / 256^(7 - i))).toNat:Int)]) (cs:=[.int .u8 ((UInt8.ofNat (n / 256^(7 - i))).toNat:Int)]) U U U Hg KJ U (by decide) (by decide) U U H (fun b8 w H=>?_)))))))))))))))))))
  replace H:=H.p1
  refine CC (xs:=bs++(Ca n).take i) (ys:=[UInt8.ofNat (n / 256^(7 - i))]) U U U Hg KJ U (by decide) U U H (by first |omega|(simp only [List.length_append,List.length_cons,List.length_nil];omega)) (fun F hA hR=>Ci (hA _ (List.mem_of_getElem? (i:=0) U)) U (by decide) (AY.flat_eq.2 U)) (fun v9 w H=>(Ad U (Ac (A8 (Z ?_)))))
  replace H:Hd _ _ _ [Y B2 v9 ((bs++(Ca n).take i)++[UInt8.ofNat (n / 256^(7 - i))]),blk b8 [.int .u8 ((UInt8.ofNat (n / 256^(7 - i))).toNat:Int)] 5] [Aa B2 (.slice A1 bs.length c2) bs]:=H
  refine Ae (V U U (A9 (z:=((i+1:Nat):Int)) U U U (by rw [AF (by omega) (by omega)];omega)) (Ad U (Ac ?_)))
  replace H:=H.k1
  replace H:Hd w0 F0 w [Y B2 v9 (bs++(Ca n).take (i+1))] [Aa B2 (.slice A1 bs.length c2) bs]:=by rw [RY n (by omega),←List.append_assoc];exact H
  exact Bm (s:=(i,undef)) (i+1,v9) ⟨rfl,rfl,rfl,rfl,trivial⟩ ⟨H,by (try dsimp only);omega⟩ (by (try dsimp only);omega)
 refine BK (AR (AR (BN (Z (Ab (Ae (Ah 2 U (Ac (Z (Ao (Aq U U ?_)))))))))))
 replace H:=H.h1 (A:=Y B2 q (bs++(Ca n).take i))
 replace H:Hd w0 F0 w [Y B2 q (bs++Ca n)] [Aa B2 (.slice A1 bs.length c2) bs]:=by rw [List.take_of_length_le (by omega)] at H;exact H
 exact Am U H
theorem NG (vb:Value) (bs:List UInt8) (s:ByteArray) (hb:bs.length≤900000) (hs:s.size≤900000):
    Cn Tryz.prog 160 [vb,.string s] [] [Aa B2 vb bs] (fun v Bs=>Bs=[Y B2 v (bs++Dd s)]):=by
 intro w0 F0 H
 refine enter Tryz.func160 U U (Nat.le_of_ble_eq_true U) (Ab (Ae (Ad U (Ac (Z (Ab (Ae (Ah 2 U (V U U (Do U Cu U) (sc (NF vb bs s.size (by first |assumption|omega) (by first |assumption|omega)) H (lR 0 U l0) U U (At OT U U) ?_))))))))))
 rintro v1 _ w rfl H
 refine Ad U (Yu U U U Hg KJ U (by decide) Cu U U H (by rw [List.length_append,FD];omega) (fun v2 w H=>(Ad U (Ac (Z ?_)))))
 replace H:Hd _ _ _ [Y B2 v2 ((bs++Ca s.size)++Cp s)] [Aa B2 vb bs]:=H
 refine Ao (Aq U U ?_)
 replace H:Hd w0 F0 w [Y B2 v2 (bs++Dd s)] [Aa B2 vb bs]:=by unfold Dd;rw [←List.append_assoc];exact H
 exact Am U H
theorem Qk (vb:Value) (bs:List UInt8) (a:Int) (hb:bs.length≤1000000) (ha:AB a):
    Cn Tryz.prog 203 [vb,.int .i64 a] [] [Aa B2 vb bs] (fun v Bs=>v=.tuple #[.int .i64 ((Cr bs a).1),.int .i64 ((Cr bs a).2.1),.bool ((Cr bs a).2.2)]∧Bs=[]):=by
 intro w0 F0 H
 obtain ⟨A1,c2,rfl,hc3,hm4,hp5⟩:=H.fR 0 rfl
 unfold AB at ha
 refine enter Tryz.func203 U U (Nat.le_of_ble_eq_true U) (Ab (Ae (Ah 3 U (Ac (Z ?_)))))
 replace H:Hd _ _ _ [] [Aa B2 (.slice A1 bs.length c2) bs]:=H
 refine Ab (Ab (Ae (Ad U (V U U (Bg U U U) (Ad U ?_)))))
 refine AQ (d:=12) U (fun h6=>?_) (fun h6=>?_)
 ·refine Ah 12 U (Ac (Z (Cc U (Ab (Ae (Ah 3 U (Ac (Z (Ao (Az (F8 U U U U ?_)))))))))))
  have e:=Jj (b:=bs) (at_:=a) (by omega)
  exact Am ⟨by rw [e]<;>rfl,rfl⟩ H
 refine Ah 2 U (V U U (A0 U GJ U) (V U U (Cd U U U) (Ah 2 U ?_)))
 refine AQ (d:=18) U (fun h7=>?_) (fun h7=>?_)
 ·refine Ah 6 U (Ac (Z (Cc U (Ab (Ae (Ah 3 U (Ac (Z (Ao (Az (F8 U U U U ?_)))))))))))
  have e:=Jj (b:=bs) (at_:=a) (by omega)
  exact Am ⟨by rw [e]<;>rfl,rfl⟩ H
 refine Ad U (V U U (A0 U GJ U) (Ad U (V U U (Ck (z:=((bs.length:Nat):Int) - a) U U U (AF (by omega) (by omega))) (V U U (Bg U U U) (Ad U (Ac (Z ?_)))))))
 refine Ay U (fun h8=>?_) (fun h8=>?_)
 ·refine Ab (Ae (Ah 3 U (Ac (Z (Ao (Az (F8 U U U U ?_)))))))
  have e:=Jj (b:=bs) (at_:=a) (by omega)
  exact Am ⟨by rw [e]<;>rfl,rfl⟩ H
 refine Av (Z (Ab (Ae (Ad U (Ac (Z (Ab (Ab (Ae (Ah 3 U (V U U (A9 (z:=a+8) U U U (AF (by omega) (by omega))) (V U U (P7 (i':=(a).toNat) (j':=(a+8).toNat) (m':=8) U Hg U U U (by omega) (by omega) (by omega) U U (by omega)) (V U U (A0 U GJ U) (Ad U (Ac (Z (AU (BV (σ:=Nat) (fun i=>[(1,.int .i64 a),(4,.int .i64 0),(5,.int .i64 0),(6,.bool false),(7,.int .u64 ((ET (((bs.drop (a).toNat).take 8).take i):Nat):Int)),(29,.slice (DD A1 c2 ((a).toNat) 1) 8 (c2 - ((a).toNat))),(30,.int .i64 ((8:Nat):Int)),(31,.int .i64 ((i:Nat):Int))]) (fun i w=>(Hd w0 F0 w [] [Aa B2 (.slice A1 bs.length c2) bs])∧(i≤8)) (fun i=>8 - i) 0 ⟨rfl,rfl,rfl,rfl,rfl,rfl,rfl,rfl,trivial⟩ ⟨H,Nat.zero_le _⟩ ?_))))))))))))))))))
 rintro i w ⟨H,hi⟩
 have hlt:=XR (((bs.drop (a).toNat).take 8).take i) 0
 have hle8:(((bs.drop (a).toNat).take 8).take i).length≤i:=by rw [List.length_take];omega
 refine Ab (Ae (V U U (Bg U U U) (Ac (Z (Ab ?_)))))
 refine Ay U (fun h9=>?_) (fun h9=>?_)
 ·refine Av (Z (Ab (AU (Ab (Ae ?_)))))
  obtain ⟨x10,hx11⟩:∃ z9,((bs.drop ((a).toNat)).take 8)[i]?=some z9:=⟨_,List.getElem?_eq_getElem (show i<((bs.drop ((a).toNat)).take 8).length by simp only [List.length_take,List.length_drop];omega)⟩
  have th12:=H.thX (fun F hA hR=>Kr (hR _ (List.mem_of_getElem? (i:=0) rfl)) (i:=(a).toNat) (m':=8) (by omega)) hx11
  refine V U U (Bf (p:=AX (DD A1 c2 ((a).toNat) 1)+i*1) U Hg U U (by omega) (by omega) th12 U) (V U U (An U ZA U (H.elX (fun F hA hR=>Kr (hR _ (List.mem_of_getElem? (i:=0) U)) (i:=(a).toNat) (m':=8) (by omega)) hx11 (q:=0) U U)) (Ad U (Ac (Z ?_))))
  have hx8:=UInt8.toNat_lt x10
  have hm7:ET (((bs.drop (a).toNat).take 8).take i)<72057594037927936:=Nat.lt_of_lt_of_le hlt (Nat.le_trans (Nat.pow_le_pow_right (by omega) (show _≤7 by omega)) (by decide))
  refine Ae (Ad U (V U U (XP (z:=((ET (((bs.drop (a).toNat).take 8).take i)*256:Nat):Int)) U U U (by omega) (YR hm7)) (Ad U (V U U (DA (z:=((x10.toNat:Nat):Int)) U U HM HK (Fo (by omega) (by omega))) (V U U (Xz (z:=((ET (((bs.drop (a).toNat).take 8).take i)*256+x10.toNat:Nat):Int)) U (by simp) U U (WS hm7 _)) (Ad U (Ac (A8 (Z (Ae (V U U (A9 (z:=((i+1:Nat):Int)) U U U (by rw [AF (by omega) (by omega)];omega)) (Ad U (Ac ?_)))))))))))))
  have hst:=XT hx11
  exact Bm (s:=i) (i+1) ⟨rfl,rfl,rfl,rfl,(by (try dsimp only);rw [hst];rfl),rfl,rfl,rfl,trivial⟩ ⟨H,by (try dsimp only);omega⟩ (by (try dsimp only);omega)
 refine BK (AR (AR (BN (Z (Ab (Ae (Ad U (V U U (DA (z:=IntKind.i64.wrap ((ET ((bs.drop (a).toNat).take 8):Nat):Int)) U U HK Dj (by rw [List.take_of_length_le (by rw [List.length_take];omega)])) (Ad U (V U U (A9 (z:=a+8) U U U (AF (by omega) (by omega))) (Ah 3 U (Ac (Z (Ao (F8 U U U U ?_)))))))))))))))
 have e:=Mt (b:=bs) (at_:=a) (by omega)
 exact Am ⟨by rw [e]<;>rfl,rfl⟩ H
theorem Ql (vb:Value) (bs:List UInt8) (a:Int) (hb:bs.length≤1000000) (ha:AB a):
    Cn Tryz.prog 204 [vb,.int .i64 a] [] [Aa B2 vb bs] (fun v Bs=>v=.tuple #[.string ((Fk bs a).1),.int .i64 ((Fk bs a).2.1),.bool ((Fk bs a).2.2)]∧Bs=[]):=by
 intro w0 F0 H
 obtain ⟨A1,c2,rfl,hc3,hm4,hp5⟩:=H.fR 0 rfl
 refine enter Tryz.func204 U U (Nat.le_of_ble_eq_true U) (Ab (Ae (Ah 3 U (Ac (Z ?_)))))
 replace H:Hd _ _ _ [] [Aa B2 (.slice A1 bs.length c2) bs]:=H
 refine Ab (Ae (Ah 2 U (sc (Qk (.slice A1 bs.length c2) bs a (by first |assumption|omega) (by first |assumption|omega)) H (lR 0 U l0) U U (At OZ U U) ?_)))
 rintro _ _ w ⟨rfl,rfl⟩ H
 refine Ah 7 U (Ac (Z (Ab (Ab ?_))))
 have hi6:=@XU bs a
 have hin:=@XV bs a
 refine Ae (Ad U (V U U (E5 U U U) (Ad U ?_)))
 refine Em (d:=19) (b:=!((Cr bs a).2.2)) U (fun h6=>?_) (fun h6=>?_)
 ·refine Ah 11 U (Ac (Z (Cc U (Ab (Ae (Ah 3 U (Ac (Z (Ao (Az (F8 U U U U ?_)))))))))))
  have e:=XW (b:=bs) (at_:=a) (by simpa using h6)
  exact Am ⟨by rw [e]<;>rfl,rfl⟩ H
 have hii:=hin (by simpa using h6)
 refine Ad U (V U U (Bg U U U) (Ah 2 U ?_))
 refine AQ (d:=23) U (fun h7=>?_) (fun h7=>?_)
 ·refine Ah 7 U (Ac (Z (Cc U (Ab (Ae (Ah 3 U (Ac (Z (Ao (Az (F8 U U U U ?_)))))))))))
  have e:=(Mu (b:=bs) (at_:=a) (by simpa using h6)).trans (if_pos (by omega))
  exact Am ⟨by rw [e]<;>rfl,rfl⟩ H
 refine Ah 2 U (V U U (A0 U GJ U) (Ad U (V U U (Ck (z:=((bs.length:Nat):Int) - ((Cr bs a).2.1)) U U U (AF (by omega) (by omega))) (V U U (Cd U U U) (Ad U (Ac (Z ?_)))))))
 refine Ay U (fun h8=>?_) (fun h8=>?_)
 ·refine Ab (Ae (Ah 3 U (Ac (Z (Ao (Az (F8 U U U U ?_)))))))
  have e:=(Mu (b:=bs) (at_:=a) (by simpa using h6)).trans (if_pos (by omega))
  exact Am ⟨by rw [e]<;>rfl,rfl⟩ H
 refine Av (Z (Ab (Ae (Ah 4 U (V U U (A9 (z:=((Cr bs a).2.1)+((Cr bs a).1)) U U U (AF (by omega) (by omega))) (V U U (P7 (i':=((Cr bs a).2.1).toNat) (j':=((Cr bs a).2.1+(Cr bs a).1).toNat) (m':=((Cr bs a).1).toNat) U Hg U U U (by omega) (by omega) (by omega) U U (by omega)) (V U U (H.read fun F hA hR=>P5 U GJ HM Cu U U (Kr (hR _ (List.mem_of_getElem? (i:=0) U)) (i:=((Cr bs a).2.1).toNat) (m':=((Cr bs a).1).toNat) (by omega))) (Ah 2 U (V U U (A9 (z:=((Cr bs a).2.1)+((Cr bs a).1)) U U U (AF (by omega) (by omega))) (Ah 3 U (Ac (Z (Ao (F8 U U U U ?_))))))))))))))
 have e:=(Mu (b:=bs) (at_:=a) (by simpa using h6)).trans (if_neg (by omega))
 exact Am ⟨by rw [e]<;>rfl,rfl⟩ H
theorem Xc (vps:Value) (ps:List Al) (hl:ps.length≤1000) (hsz:∀ p∈ps,p.key.size≤100∧p.val.size≤100):
    Cn Tryz.prog 97 [vps] [] [Aa Ag vps ps] (fun v Bs=>v=.string (Bd ps)∧Bs=[]):=by
 intro w0 F0 H
 obtain ⟨A1,c2,rfl,hc3,hm4,hp5⟩:=H.fR 0 rfl
 refine enter Tryz.func97 U U (Nat.le_of_ble_eq_true U) (Ab (Ae (Ad U (Ac (Z ?_)))))
 replace H:Hd _ _ _ [] [Aa Ag (.slice A1 ps.length c2) ps]:=H
 refine Ab (Ae (Ad U (V U U (A0 U CD U) (sc (NF (.slice none 0 0) [] ps.length (by first |assumption|omega|(simp only [List.length_nil];omega)) (by first |assumption|omega|(simp only [List.length_nil];omega))) H (lX (fun F _ _=>IA _ _ F trivial (by decide)) l0) U U (At OT U U) ?_))))
 rintro v6 _ w rfl H
 replace H:=H.h1 (A:=Y B2 v6 ([]++Ca ps.length))
 refine Ad U (Ac (Z (Ab (Ab (Ae (Ad U (V U U (A0 U CD U) (Ad U (Ac (Z (AU ?_)))))))))))
 replace H:Hd w0 F0 w [Y B2 v6 (Ca ps.length++Cy (ps.take 0))] [Aa Ag (.slice A1 ps.length c2) ps]:=by rw [List.take_zero];simpa [Cy] using H
 refine BV (σ:=Nat×Value) (fun (i,q)=>[(2,.string ⟨#[]⟩),(3,q),(9,.slice A1 ps.length c2),(10,.int .i64 ((ps.length:Nat):Int)),(11,.int .i64 ((i:Nat):Int))]) (fun (i,q) w=>(Hd w0 F0 w [Y B2 q (Ca ps.length++Cy (ps.take i))] [Aa Ag (.slice A1 ps.length c2) ps])∧(i≤ps.length)) (fun (i,q)=>ps.length - i) (0,v6) ⟨rfl,rfl,rfl,rfl,rfl,trivial⟩ ⟨H,Nat.zero_le _⟩ ?_
 rintro ⟨i,q⟩ w ⟨H,hi⟩
 have hpl:=Mh (ps:=ps.take i) (fun p hp=>hsz p (List.mem_of_mem_take hp))
 have hpi:(ps.take i).length≤i:=by rw [List.length_take];omega
 have hbl:(Ca ps.length++Cy (ps.take i)).length=8+(Cy (ps.take i)).length:=by rw [List.length_append,FD]
 refine Ab (Ae (V U U (Bg U U U) (Ac (Z (Ab ?_)))))
 refine Ay U (fun h7=>?_) (fun h7=>?_)
 ·refine Av (Z (Ab (AU (Ab (Ae ?_)))))
  obtain ⟨x8,hx9⟩:∃ z9,ps[i]?=some z9:=⟨_,List.getElem?_eq_getElem (show i<ps.length by omega)⟩
  have th10:=H.thR 0 rfl hx9
  refine V U U (Bf (p:=AX A1+i*2) U Bu U U (by omega) (by omega) th10 U) (V U U (Bv (cs:=[.string x8.key,.string x8.val]) U B9 U U (H.elsR 0 U hx9 U)) (Dr U U U CR H (fun b11 w H=>(Bk U U U B9 U U H U (Nat.le_of_ble_eq_true U) (fun u hu=>by simp [Value.cells] at hu;rcases hu with rfl|rfl<;>rfl) (fun w H=>?_)))))
  replace H:=H.h2 (A:=blk b11 [.string x8.key,.string x8.val] 106) (B:=Y B2 q (Ca ps.length++Cy (ps.take i)))
  refine Ac (Z ?_)
  have hxs:=hsz _ (B7 hx9)
  have htk:=IJ x8.key
  have hbl2:((Ca ps.length++Cy (ps.take i))++Dd x8.key).length=(Ca ps.length++Cy (ps.take i)).length+(Dd x8.key).length:=List.length_append
  refine BX (.e 0 (.e 1 (.e 2 (.e 4 (.e 5 (.m 3 (.m 6 (.e 7 .z)))))))) (fun w=>∃ Ar,Hd w0 F0 w (blk b11 [.string x8.key,.string x8.val] 106::Y B2 q (Ca ps.length++Cy (ps.take i))::Ar) [Aa Ag (.slice A1 ps.length c2) ps]) mo (by kernel_rfl) (fun w H=>⟨_,H⟩) H (fun w H=>(Ax U (Ap U U U (fun w ⟨Ar,H⟩=>Aj U Fe U) (Ap U U U (fun w ⟨Ar,H⟩=>An U BU U (H.cellI 0 U U)) (Ap U U U (fun w ⟨Ar,H⟩=>Aj U H9 U) (Ap U U U (fun w ⟨Ar,H⟩=>An U BU U (H.cellI 0 U U)) (AL U (sc (NG q (Ca ps.length++Cy (ps.take i)) x8.key (by first |assumption|omega|(simp only [List.length_nil];omega)) (by first |assumption|omega|(simp only [List.length_nil];omega))) H (lA 1 U BS l0) U U (At OU U U) ?_))))))))
  rintro v12 _ w rfl H
  replace H:=H.h1 (A:=Y B2 v12 ((Ca ps.length++Cy (ps.take i))++Dd x8.key))|>.p2|>.p2
  refine AH ⟨_,H⟩ (AL U (sc (NG v12 ((Ca ps.length++Cy (ps.take i))++Dd x8.key) x8.val (by first |assumption|omega|(simp only [List.length_nil];omega)) (by first |assumption|omega|(simp only [List.length_nil];omega))) H (lA 2 U BS l0) U U (At OU U U) ?_))
  rintro v13 _ w rfl H
  replace H:=H.h1 (A:=Y B2 v13 (((Ca ps.length++Cy (ps.take i))++Dd x8.key)++Dd x8.val))|>.p2|>.p2
  refine AH ⟨_,H⟩ (Ax U (BL (A8 (Z (Ae (V U U (A9 (z:=((i+1:Nat):Int)) U U U (by rw [AF (by omega) (by omega)];omega)) (Ad U (Ac ?_))))))))
  replace H:=H.p2.k1
  replace H:Hd w0 F0 w [Y B2 v13 (Ca ps.length++Cy (ps.take (i+1)))] [Aa Ag (.slice A1 ps.length c2) ps]:=by rw [Fm hx9,PS,←List.append_assoc,←List.append_assoc];exact H
  exact Bm (s:=(i,undef)) (i+1,v13) ⟨rfl,rfl,rfl,rfl,rfl,trivial⟩ ⟨H,by (try dsimp only);omega⟩ (by (try dsimp only);omega)
 refine BK (AR (AR (BN (Z (Ab (Ae (Ad U ?_)))))))
 obtain ⟨A14,c15,rfl,hc16,hm17,hp18⟩:=H.fA 0 rfl
 refine V U U (H.read fun F hA hR=>P5 U GJ HM Cu U U (BS F (hA _ (List.mem_of_getElem? (i:=0) U)))) (Ad U (Ac (Z (Ao (Aq U U ?_)))))
 replace H:=H.nil
 have e:ps.take i=ps:=List.take_of_length_le (by omega)
 exact Am ⟨by rw [e];rfl,rfl⟩ H
theorem ZJ (ps:List Al) (hl:ps.length≤1000) (hsz:∀ p∈ps,p.key.size≤100∧p.val.size≤100):
    Cn Tryz.prog 167 [.string (Bd ps)] [] [] (fun v Bs=>Bs=[Y Ag v ps]):=by
 intro w0 F0 H
 have hps:=W9 hsz hl
 have hbb:(Cp (Bd ps)).length≤300000:=by rw [Gj];exact hps
 have h064:AB (0:Int):=by unfold AB;omega
 refine enter Tryz.func167 U U (Nat.le_of_ble_eq_true U) (Ab (Ae (Ad U (Ac (Z (Ab (Ae (Ad U (YJ U U U Cu GJ HM U (by omega) H (fun b1 c2 w hc3 hc4 H=>(Ad U (Ac (Z (Ab (Ae (Ad U (sc (Qk (.slice (some ⟨b1,0,none⟩) ((Bd ps).size) c2) (Cp (Bd ps)) 0 (by first |assumption|omega|(simp only [List.length_nil];omega)) (by first |assumption|omega|(simp only [List.length_nil];omega))) H (lR 0 U l0) U U (At OZ U U) ?_)))))))))))))))))
 rintro _ _ w ⟨rfl,rfl⟩ H
 have hq:Cr (Cp (Bd ps)) 0=(((ps.length:Nat):Int),8,true):=by rw [Mi];exact Xa (by omega)
 rw [hq]
 refine Ah 7 U (Ac (Z ?_))
 replace H:Hd _ _ _ [] [Aa B2 (.slice (some ⟨b1,0,none⟩) ((Bd ps).size) c2) (Cp (Bd ps))]:=H
 refine Ab (Ae (Ad U (Ac (Z (Ab (Ab (Ae (Ah 2 U (Ac (Z (AU ?_)))))))))))
 replace H:=H.newnil Ag
 replace H:Hd w0 F0 w [Y Ag (.slice none 0 0) (ps.take 0)] [Aa B2 (.slice (some ⟨b1,0,none⟩) ((Bd ps).size) c2) (Cp (Bd ps))]:=by rw [List.take_zero];exact H
 refine BV (σ:=Nat×Value) (fun (i,q)=>[(2,.slice none 0 0),(3,.slice (some ⟨b1,0,none⟩) ((Bd ps).size) c2),(5,.int .i64 ((DF ps i:Nat):Int)),(7,q),(17,.int .i64 ((ps.length:Nat):Int)),(18,.int .i64 ((i:Nat):Int))]) (fun (i,q) w=>(Hd w0 F0 w [Y Ag q (ps.take i)] [Aa B2 (.slice (some ⟨b1,0,none⟩) ((Bd ps).size) c2) (Cp (Bd ps))])∧(i≤ps.length)) (fun (i,q)=>ps.length - i) (0,.slice none 0 0) ⟨rfl,rfl,rfl,rfl,rfl,rfl,trivial⟩ ⟨H,Nat.zero_le _⟩ ?_
 rintro ⟨i,q⟩ w ⟨H,hi⟩
 have htl:(ps.take i).length≤i:=by rw [List.length_take];omega
 refine Ab (Ae (V U U (Bg U U U) (Ac (Z (Ab ?_)))))
 refine Ay U (fun h5=>?_) (fun h5=>?_)
 ·refine Av (Z (Ab (AU (Ab (Ae (Dr U U U CR H (fun b6 w H=>?_)))))))
  replace H:=H.h2 (A:=blk b6 [.string ⟨#[]⟩,.string ⟨#[]⟩] 106) (B:=Y Ag q (ps.take i))
  refine Ac (Z (Ab ?_))
  obtain ⟨x7,hx8⟩:∃ z9,ps[i]?=some z9:=⟨_,List.getElem?_eq_getElem (show i<ps.length by omega)⟩
  have hxs:=hsz _ (B7 hx8)
  have hkey:Fk (Cp (Bd ps)) ((DF ps i:Nat):Int)=(x7.key,((DF ps i+8+x7.key.size:Nat):Int),true):=by rw [Mi];exact W_ hx8 (by omega)
  have hval:Fk (Cp (Bd ps)) ((DF ps i+8+x7.key.size:Nat):Int)=(x7.val,((DF ps (i+1):Nat):Int),true):=by rw [Mi];exact Xb hx8 (by omega)
  have hpa:DF ps i≤300000:=W7 hsz hl i
  have hi64:AB ((DF ps i:Nat):Int):=by unfold AB;omega
  have hj64:AB ((DF ps i+8+x7.key.size:Nat):Int):=by unfold AB;omega
  refine Ae (Ah 2 U (sc (Ql (.slice (some ⟨b1,0,none⟩) ((Bd ps).size) c2) (Cp (Bd ps)) ((DF ps i:Nat):Int) (by first |assumption|omega|(simp only [List.length_nil];omega)) (by first |assumption|omega|(simp only [List.length_nil];omega))) H (lR 0 U l0) U U (At O0 U U) ?_))
  rintro _ _ w ⟨rfl,rfl⟩ H
  rw [hkey]
  refine Ah 4 U (V U U (Aj U Fe U) (Bk U U U BU U U H U (Nat.le_of_ble_eq_true U) (fun u hu=>by simp [Value.cells] at hu;subst hu;rfl) (fun w H=>?_)))
  replace H:=H.h1 (A:=blk b6 [.string x7.key,.string ⟨#[]⟩] 106)
  refine Ad U (Ac (Z (Ab (Ae (Ah 2 U (sc (Ql (.slice (some ⟨b1,0,none⟩) ((Bd ps).size) c2) (Cp (Bd ps)) ((DF ps i+8+x7.key.size:Nat):Int) (by first |assumption|omega|(simp only [List.length_nil];omega)) (by first |assumption|omega|(simp only [List.length_nil];omega))) H (lR 0 U l0) U U (At O0 U U) ?_))))))
  rintro _ _ w ⟨rfl,rfl⟩ H
  rw [hval]
  refine Ah 4 U (V U U (Aj U H9 U) (Bk U U U BU U U H U (Nat.le_of_ble_eq_true U) (fun u hu=>by simp [Value.cells] at hu;subst hu;rfl) (fun w H=>?_)))
  replace H:=H.h1 (A:=blk b6 [.string x7.key,.string x7.val] 106)
  refine Ad U (Ac (Z (Ae (Ad U (V U U (Bv (cs:=[.string x7.key,.string x7.val]) U B9 U U (H.cellsI 0 U U)) (BT (parts:=[(0,.tmp 37)]) (vs:=[.agg #[.string x7.key,.string x7.val]]) (cs:=[.string x7.key,.string x7.val]) U U U Bu CR U (by decide) (by decide) U U H (fun b9 w H=>?_)))))))
  replace H:=H.p2
  refine CC (xs:=ps.take i) (ys:=[x7]) U U U Bu CR U (by decide) U U H (by first |omega|(simp only [List.length_append,List.length_cons,List.length_nil];omega)) (fun F hA hR=>Ci (hA _ (List.mem_of_getElem? (i:=0) U)) U (by decide) (AY.flat_eq.2 U)) (fun v10 w H=>(Ad U (Ac (A8 (Z ?_)))))
  replace H:Hd _ _ _ [Y Ag v10 ((ps.take i)++[x7]),blk b9 [.string x7.key,.string x7.val] 106,blk b6 [.string x7.key,.string x7.val] 106] [Aa B2 (.slice (some ⟨b1,0,none⟩) ((Bd ps).size) c2) (Cp (Bd ps))]:=H
  refine Ae (V U U (A9 (z:=((i+1:Nat):Int)) U U U (by rw [AF (by omega) (by omega)];omega)) (Ad U (Ac ?_)))
  replace H:=H.k1
  replace H:Hd w0 F0 w [Y Ag v10 (ps.take (i+1))] [Aa B2 (.slice (some ⟨b1,0,none⟩) ((Bd ps).size) c2) (Cp (Bd ps))]:=by rw [Fm hx8];exact H
  exact Bm (s:=(i,undef)) (i+1,v10) ⟨rfl,rfl,rfl,rfl,rfl,rfl,trivial⟩ ⟨H,by (try dsimp only);omega⟩ (by (try dsimp only);omega)
 refine BK (AR (AR (BN (Z (Ab (Ae (Ah 2 U (Ac (Z (Ao (Aq U U ?_)))))))))))
 replace H:=H.h1 (A:=Y Ag q (ps.take i))
 replace H:Hd w0 F0 w [Y Ag q ps] [Aa B2 (.slice (some ⟨b1,0,none⟩) ((Bd ps).size) c2) (Cp (Bd ps))]:=by rw [List.take_of_length_le (by omega)] at H;exact H
 replace H:=H.dropR
 replace H:Hd _ _ _ [Y Ag q ps] []:=H
 exact Am U H
theorem Pu (b:Nat) (vS:Value) (vM:Value) (vC:Value) (vR:Value) (vK:Value) (J:AG) (cw:Int) (ct:Int) (co:Int) (s:Nat) (att:Int) (cb:Nat) (fv:Value) (vw:Value):
    Cn Tryz.prog 32 [.pointer (some ⟨b,0,none⟩)] [blk cb [.int .u32 1,.int .i32 0,.int .u32 0,.int .u32 1,fv,.string (Bd (AA dg J s).1)] 234] [blk b [vS,.int .i64 J.parts,vM,vC,vR,.int .i64 J.chunk,.int .i64 J.window,.int .i64 J.fuel,vK,.int .i64 cw,.int .i64 ct,.int .i64 co,.int .i64 ((s:Nat):Int),.int .i64 att,.int .i64 ((AA dg J s).2),.pointer (some ⟨cb,0,none⟩),vw] 164] (fun v Bs=>v=.int .i64 ((AA dg J s).2)∧Bs=[blk cb [.int .u32 1,.int .i32 0,.int .u32 0,.int .u32 1,fv,.string (Bd (AA dg J s).1)] 234]):=by
 intro w0 F0 H
 refine enter Tryz.func32 U U (Nat.le_of_ble_eq_true U) (Ab (Ae (Ad U (Ac (Z (Ab (Ab (Ae (Ad U (V U U (C3 U IN U U) (Ac (Z (Cb U (Av (Z (Ab (Ae (Ad U (V U U (AI U U) (V U U (Aj U JV U) (V U U (An U DH U (H.cellRI 0 U U)) (sc (Lv cb fv (Bd (AA dg J s).1)) H l0 U U (At I7 U U) ?_))))))))))))))))))))))
 rintro _ _ w ⟨rfl,rfl⟩ H
 refine Ac (Z ?_)
 replace H:Hd _ _ _ [blk cb [.int .u32 1,.int .i32 0,.int .u32 0,.int .u32 1,fv,.string (Bd (AA dg J s).1)] 234] [blk b [vS,.int .i64 J.parts,vM,vC,vR,.int .i64 J.chunk,.int .i64 J.window,.int .i64 J.fuel,vK,.int .i64 cw,.int .i64 ct,.int .i64 co,.int .i64 ((s:Nat):Int),.int .i64 att,.int .i64 ((AA dg J s).2),.pointer (some ⟨cb,0,none⟩),vw] 164]:=H
 exact Ab (Ae (Ad U (V U U (AI U U) (V U U (Aj U Li U) (V U U (An U AE U (H.cellRI 0 U U)) (Ad U (Ac (Z (Ao (Aq U U (Am ⟨rfl,rfl⟩ H)))))))))))
theorem LZ (b:Nat) (vS:Value) (vM:Value) (vC:Value) (vR:Value) (vK:Value) (J:AG) (cw:Int) (ct:Int) (co:Int) (s:Nat) (att:Int) (cb:Nat) (fv:Value) (vw:Value) (p:Int) (hJ:B6 J):
    Cn Tryz.prog 106 [.pointer (some ⟨b,0,none⟩),.int .i64 p] [blk cb [.int .u32 1,.int .i32 0,.int .u32 0,.int .u32 1,fv,.string (Bd (AA dg J s).1)] 234] [blk b [vS,.int .i64 J.parts,vM,vC,vR,.int .i64 J.chunk,.int .i64 J.window,.int .i64 J.fuel,vK,.int .i64 cw,.int .i64 ct,.int .i64 co,.int .i64 ((s:Nat):Int),.int .i64 att,.int .i64 ((AA dg J s).2),.pointer (some ⟨cb,0,none⟩),vw] 164] (fun v Bs=>Bs=[Y Ag v (BM dg J s p),blk cb [.int .u32 1,.int .i32 0,.int .u32 0,.int .u32 1,fv,.string (Bd (AA dg J s).1)] 234]):=by
 intro w0 F0 H
 have hlen:(AA dg J s).1.length≤1000:=by have:=HF dg J s;omega
 have hszs:∀ p∈(AA dg J s).1,p.key.size≤100∧p.val.size≤100:=fun x hx=>by have:=HG G7 hJ s x hx;unfold C7 at this;omega
 have hsk:∀ x∈(AA dg J s).1,x.key.size≤9223372036854775807:=fun x hx=>by have:=(hszs x hx).1;omega
 have hpt:=hJ.parts
 have hck:=hJ.chunk1
 have hol:=G8 dg J s
 refine enter Tryz.func106 U U (Nat.le_of_ble_eq_true U) (Ab (Ae (Ad U (Ac (Z (Ab (BX (.e 0 (.e 1 (.e 2 (.e 3 (.e 6 (.e 7 (.e 8 (.e 9 (.e 10 (.e 11 (.e 12 (.m 4 (.m 5 (.m 13 (.e 14 .z))))))))))))))) (fun w=>∃ Ar,Hd w0 F0 w (blk cb [.int .u32 1,.int .i32 0,.int .u32 0,.int .u32 1,fv,.string (Bd (AA dg J s).1)] 234::Ar) [blk b [vS,.int .i64 J.parts,vM,vC,vR,.int .i64 J.chunk,.int .i64 J.window,.int .i64 J.fuel,vK,.int .i64 cw,.int .i64 ct,.int .i64 co,.int .i64 ((s:Nat):Int),.int .i64 att,.int .i64 ((AA dg J s).2),.pointer (some ⟨cb,0,none⟩),vw] 164]) mo (by kernel_rfl) (fun w H=>⟨_,H⟩) H (fun w H=>(Ax U (Ap U U U (fun w ⟨Ar,H⟩=>AI U U) (Ap U U U (fun w ⟨Ar,H⟩=>Aj U JV U) (Ap U U U (fun w ⟨Ar,H⟩=>An U DH U (H.cellRI 0 U U)) (Ax U ?_)))))))))))))
 refine Ap U U U (fun w ⟨Ar,H⟩=>AI U U) (Ap U U U (fun w ⟨Ar,H⟩=>Aj U JU U) (Ap U U U (fun w ⟨Ar,H⟩=>Aj U CQ U) (Ap U U U (fun w ⟨Ar,H⟩=>Aj U GY U) (Ap U U U (fun w ⟨Ar,H⟩=>An U AE U (H.cellRI 0 U U)) (Ax U (AL U (sc (Lv cb fv (Bd (AA dg J s).1)) H l0 U U (At I7 U U) ?_)))))))
 rintro _ _ w ⟨rfl,rfl⟩ H
 replace H:Hd _ _ _ [blk cb [.int .u32 1,.int .i32 0,.int .u32 0,.int .u32 1,fv,.string (Bd (AA dg J s).1)] 234] [blk b [vS,.int .i64 J.parts,vM,vC,vR,.int .i64 J.chunk,.int .i64 J.window,.int .i64 J.fuel,vK,.int .i64 cw,.int .i64 ct,.int .i64 co,.int .i64 ((s:Nat):Int),.int .i64 att,.int .i64 ((AA dg J s).2),.pointer (some ⟨cb,0,none⟩),vw] 164]:=H
 refine AH ⟨_,H⟩ (AL U (sc (ZJ ((AA dg J s).1) (by first |assumption|omega|exact hlen|exact hszs) (by first |assumption|omega|exact hlen|exact hszs)) H l0 U U (At UF U U) ?_))
 rintro v1 _ w rfl H
 replace H:=H.h1 (A:=Y Ag v1 ((AA dg J s).1))|>.p1
 refine AH ⟨_,H⟩ (AL U (sc (PM v1 ((AA dg J s).1) J.parts p (by first |omega|(rw [Fl];omega)) (by omega) (by assumption)) H (lA 1 U BS l0) U U (At OO U U) ?_))
 rintro v2 _ w rfl H
 replace H:=H.h1 (A:=Y Ag v2 (E3 ((AA dg J s).1) J.parts p))|>.p1
 refine AH ⟨_,H⟩ (Ax U (BL (Z (Ao (Aq U U ?_)))))
 replace H:=H.p1.k2.h1 (A:=Y Ag v2 (BM dg J s p))
 exact Am U H
theorem L0 (b:Nat) (vS:Value) (vM:Value) (vC:Value) (vR:Value) (vK:Value) (J:AG) (cw:Int) (ct:Int) (co:Int) (s:Nat) (att:Int) (cb:Nat) (vw:Value) (hJ:B6 J):
    Cn Tryz.prog 107 [.pointer (some ⟨b,0,none⟩)] [] [blk b [vS,.int .i64 J.parts,vM,vC,vR,.int .i64 J.chunk,.int .i64 J.window,.int .i64 J.fuel,vK,.int .i64 cw,.int .i64 ct,.int .i64 co,.int .i64 ((s:Nat):Int),.int .i64 att,.int .i64 ((AA dg J s).2),.pointer (some ⟨cb,0,none⟩),vw] 164] (fun v Bs=>v=.int .i64 (CJ J.chunk att)∧Bs=[]):=by
 intro w0 F0 H
 have hck:=hJ.chunk1
 refine enter Tryz.func107 U U (Nat.le_of_ble_eq_true U) (Ab (Ae (Ad U (Ac (Z (Ab (BX (.e 0 (.e 1 (.e 2 (.e 3 (.e 4 (.e 5 (.e 6 (.e 7 (.e 8 (.e 9 (.m 10 (.e 11 .z)))))))))))) (fun w=>∃ Ar,Hd w0 F0 w (Ar) [blk b [vS,.int .i64 J.parts,vM,vC,vR,.int .i64 J.chunk,.int .i64 J.window,.int .i64 J.fuel,vK,.int .i64 cw,.int .i64 ct,.int .i64 co,.int .i64 ((s:Nat):Int),.int .i64 att,.int .i64 ((AA dg J s).2),.pointer (some ⟨cb,0,none⟩),vw] 164]) mo (by kernel_rfl) (fun w H=>⟨_,H⟩) H (fun w H=>(Ax U (Ap U U U (fun w ⟨Ar,H⟩=>AI U U) (Ap U U U (fun w ⟨Ar,H⟩=>Aj U JU U) (Ap U U U (fun w ⟨Ar,H⟩=>Aj U CQ U) (Ap U U U (fun w ⟨Ar,H⟩=>Aj U Of U) (Ap U U U (fun w ⟨Ar,H⟩=>An U AE U (H.cellRI 0 U U)) (Ax U (Ap U U U (fun w ⟨Ar,H⟩=>AI U U) ?_))))))))))))))))
 refine Ap U U U (fun w ⟨Ar,H⟩=>Aj U TA U) (Ap U U U (fun w ⟨Ar,H⟩=>An U AE U (H.cellRI 0 U U)) (AL U (sc (SN J.chunk att (by first |assumption|omega|exact hlen|exact hszs)) H l0 U U (At UG U U) ?_)))
 rintro _ _ w ⟨rfl,rfl⟩ H
 replace H:Hd _ _ _ [] [blk b [vS,.int .i64 J.parts,vM,vC,vR,.int .i64 J.chunk,.int .i64 J.window,.int .i64 J.fuel,vK,.int .i64 cw,.int .i64 ct,.int .i64 co,.int .i64 ((s:Nat):Int),.int .i64 att,.int .i64 ((AA dg J s).2),.pointer (some ⟨cb,0,none⟩),vw] 164]:=H
 exact AH ⟨_,H⟩ (Ax U (BL (Z (Ao (Aq U U (Am ⟨rfl,rfl⟩ H))))))
theorem VQ (b:Nat) (vS:Value) (vM:Value) (vC:Value) (vR:Value) (vK:Value) (J:AG) (cw:Int) (ct:Int) (co:Int) (s:Nat) (att:Int) (cb:Nat) (fv:Value) (vw:Value) (hJ:B6 J):
    Cn Tryz.prog 30 [.pointer (some ⟨b,0,none⟩)] [blk cb [.int .u32 1,.int .i32 0,.int .u32 0,.int .u32 1,fv,.string (Bd (AA dg J s).1)] 234] [blk b [vS,.int .i64 J.parts,vM,vC,vR,.int .i64 J.chunk,.int .i64 J.window,.int .i64 J.fuel,vK,.int .i64 cw,.int .i64 ct,.int .i64 co,.int .i64 ((s:Nat):Int),.int .i64 att,.int .i64 ((AA dg J s).2),.pointer (some ⟨cb,0,none⟩),vw] 164] (fun v Bs=>Bs=[Y (Ai .i64) v (BR dg J s att),blk cb [.int .u32 1,.int .i32 0,.int .u32 0,.int .u32 1,fv,.string (Bd (AA dg J s).1)] 234]):=by
 intro w0 F0 H
 have hlen:(AA dg J s).1.length≤1000:=by have:=HF dg J s;omega
 have hszs:∀ p∈(AA dg J s).1,p.key.size≤100∧p.val.size≤100:=fun x hx=>by have:=HG G7 hJ s x hx;unfold C7 at this;omega
 have hsk:∀ x∈(AA dg J s).1,x.key.size≤9223372036854775807:=fun x hx=>by have:=(hszs x hx).1;omega
 have hpt:=hJ.parts
 have hck:=hJ.chunk1
 have hol:=G8 dg J s
 refine enter Tryz.func30 U U (Nat.le_of_ble_eq_true U) (Ab (Ae (Ad U (Ac (Z (Ab (Ab (Ae (Ad U (V U U (C3 U IN U U) (Ah 2 U (sc (Pu b vS vM vC vR vK J cw ct co s att cb fv vw) H (lR 0 U l0) U U (At LQ U U) ?_))))))))))))
 rintro _ _ w ⟨rfl,rfl⟩ H
 refine V U U (C8 U U U) (Ad U (Ac (Z ?_)))
 replace H:Hd _ _ _ [blk cb [.int .u32 1,.int .i32 0,.int .u32 0,.int .u32 1,fv,.string (Bd (AA dg J s).1)] 234] [blk b [vS,.int .i64 J.parts,vM,vC,vR,.int .i64 J.chunk,.int .i64 J.window,.int .i64 J.fuel,vK,.int .i64 cw,.int .i64 ct,.int .i64 co,.int .i64 ((s:Nat):Int),.int .i64 att,.int .i64 ((AA dg J s).2),.pointer (some ⟨cb,0,none⟩),vw] 164]:=H
 refine Ay U (fun h1=>?_) (fun h1=>?_)
 ·refine Ab (Ae (Ad U (Ac (Z (Ao (Az (Aq U U ?_)))))))
  replace H:=H.newnil (Ai .i64)|>.tellK (ys:=BR dg J s att) (by rw [NM h1])|>.h1 (A:=Y (Ai .i64) (.slice none 0 0) (BR dg J s att))
  exact Am U H
 refine Av (Z (Ab (Ae (Ad U (Ac (Z (Ab (Ab (Ae (Ad U (V U U (AI U U) (V U U (Aj U JU U) (V U U (Aj U CQ U) (V U U (Aj U GY U) (V U U (An U AE U (H.cellRI 0 U U)) (Ad U (Ac (Z (AU ?_)))))))))))))))))))
 replace H:=H.newnil (Ai .i64)|>.tellK (ys:=DT dg J s att 0) (by rfl)
 refine BV (σ:=Nat×Value) (fun (k,q)=>[(0,.pointer (some ⟨b,0,none⟩)),(2,.slice none 0 0),(3,q),(17,.int .i64 J.parts),(18,.int .i64 ((k:Nat):Int))]) (fun (k,q) w=>(Hd w0 F0 w [Y (Ai .i64) q (DT dg J s att k),blk cb [.int .u32 1,.int .i32 0,.int .u32 0,.int .u32 1,fv,.string (Bd (AA dg J s).1)] 234] [blk b [vS,.int .i64 J.parts,vM,vC,vR,.int .i64 J.chunk,.int .i64 J.window,.int .i64 J.fuel,vK,.int .i64 cw,.int .i64 ct,.int .i64 co,.int .i64 ((s:Nat):Int),.int .i64 att,.int .i64 ((AA dg J s).2),.pointer (some ⟨cb,0,none⟩),vw] 164])∧((k:Int)≤J.parts)) (fun (k,q)=>J.parts.toNat - k) (0,.slice none 0 0) ⟨rfl,rfl,rfl,rfl,rfl,trivial⟩ ⟨H,by omega⟩ ?_
 rintro ⟨k,q⟩ w ⟨H,hk⟩
 have hcl:=NC dg J s att k
 have holk:=hol ((k:Nat):Int)
 refine Ab (Ae (V U U (Bg U U U) (Ac (Z (Ab ?_)))))
 refine Ay U (fun h2=>?_) (fun h2=>?_)
 ·refine Av (Z (Ab (AU (Ab (Ae (Ah 2 U (Ac (Z (Ae (Ah 3 U ?_))))))))))
  replace H:=H.p1
  replace H:Hd _ _ _ [blk cb [.int .u32 1,.int .i32 0,.int .u32 0,.int .u32 1,fv,.string (Bd (AA dg J s).1)] 234,Y (Ai .i64) q (DT dg J s att k)] [blk b [vS,.int .i64 J.parts,vM,vC,vR,.int .i64 J.chunk,.int .i64 J.window,.int .i64 J.fuel,vK,.int .i64 cw,.int .i64 ct,.int .i64 co,.int .i64 ((s:Nat):Int),.int .i64 att,.int .i64 ((AA dg J s).2),.pointer (some ⟨cb,0,none⟩),vw] 164]:=H
  refine sc (LZ b vS vM vC vR vK J cw ct co s att cb fv vw ((k:Nat):Int) (by first |assumption|omega|exact hlen|exact hszs)) H (lR 0 U l0) U U (At LF U U) ?_
  rintro v3 _ w rfl H
  obtain ⟨A4,c5,rfl,hc6,hm7,hp8⟩:=H.fA 0 rfl
  refine V U U (A0 U CD U) (Ad U ?_)
  replace H:Hd _ _ _ [Y Ag (.slice A4 ((BM dg J s ((k:Nat):Int)).length) c5) (BM dg J s ((k:Nat):Int)),blk cb [.int .u32 1,.int .i32 0,.int .u32 0,.int .u32 1,fv,.string (Bd (AA dg J s).1)] 234,Y (Ai .i64) q (DT dg J s att k)] [blk b [vS,.int .i64 J.parts,vM,vC,vR,.int .i64 J.chunk,.int .i64 J.window,.int .i64 J.fuel,vK,.int .i64 cw,.int .i64 ct,.int .i64 co,.int .i64 ((s:Nat):Int),.int .i64 att,.int .i64 ((AA dg J s).2),.pointer (some ⟨cb,0,none⟩),vw] 164]:=H
  refine sc (L0 b vS vM vC vR vK J cw ct co s att cb vw (by first |assumption|omega|exact hlen|exact hszs)) H (lR 0 U l0) U U (At LG U U) ?_
  rintro _ _ w ⟨rfl,rfl⟩ H
  refine sc (KY (((BM dg J s ((k:Nat):Int)).length:Nat):Int) (CJ J.chunk att) (by first |assumption|omega|exact hlen|exact hszs)) H l0 U U (At LE U U) ?_
  rintro _ _ w ⟨rfl,rfl⟩ H
  refine BT (parts:=[(0,.tmp 28)]) (vs:=[.int .i64 (De (((BM dg J s ((k:Nat):Int)).length:Nat):Int) (CJ J.chunk att))]) (cs:=[.int .i64 (De (((BM dg J s ((k:Nat):Int)).length:Nat):Int) (CJ J.chunk att))]) U U U DP GK U (by decide) (by decide) U U H (fun b9 w H=>?_)
  replace H:=H.p3
  refine CC (xs:=DT dg J s att k) (ys:=[De (((BM dg J s ((k:Nat):Int)).length:Nat):Int) (CJ J.chunk att)]) U U U DP GK U (by decide) U U H (by first |omega|(simp only [List.length_append,List.length_cons,List.length_nil];omega)) (fun F hA hR=>Ci (hA _ (List.mem_of_getElem? (i:=0) U)) U (by decide) (AY.flat_eq.2 U)) (fun v10 w H=>(Ad U (Ac (A8 (Z ?_)))))
  replace H:Hd _ _ _ [Y (Ai .i64) v10 ((DT dg J s att k)++[De (((BM dg J s ((k:Nat):Int)).length:Nat):Int) (CJ J.chunk att)]),blk b9 [.int .i64 (De (((BM dg J s ((k:Nat):Int)).length:Nat):Int) (CJ J.chunk att))] 3,Y Ag (.slice A4 ((BM dg J s ((k:Nat):Int)).length) c5) (BM dg J s ((k:Nat):Int)),blk cb [.int .u32 1,.int .i32 0,.int .u32 0,.int .u32 1,fv,.string (Bd (AA dg J s).1)] 234] [blk b [vS,.int .i64 J.parts,vM,vC,vR,.int .i64 J.chunk,.int .i64 J.window,.int .i64 J.fuel,vK,.int .i64 cw,.int .i64 ct,.int .i64 co,.int .i64 ((s:Nat):Int),.int .i64 att,.int .i64 ((AA dg J s).2),.pointer (some ⟨cb,0,none⟩),vw] 164]:=H
  refine Ae (V U U (A9 (z:=((k+1:Nat):Int)) U U U (by rw [AF (by omega) (by omega)];omega)) (Ad U (Ac ?_)))
  replace H:=H.p3.p1.k2.tellK (ys:=DT dg J s att (k+1)) (by rw [ND])
  exact Bm (s:=(k,undef)) (k+1,v10) ⟨rfl,rfl,rfl,rfl,rfl,trivial⟩ ⟨H,by (try dsimp only);omega⟩ (by (try dsimp only);omega)
 refine BK (AR (AR (BN (Z (Ab (Ae (Ah 2 U (Ac (Z (Ao (Aq U U ?_)))))))))))
 have hkk:k=J.parts.toNat:=by omega
 replace H:=H.tellK (ys:=BR dg J s att) (by rw [NO (Classical.not_not.1 h1),←hkk])
 replace H:Hd _ _ _ [Y (Ai .i64) q (BR dg J s att),blk cb [.int .u32 1,.int .i32 0,.int .u32 0,.int .u32 1,fv,.string (Bd (AA dg J s).1)] 234] [blk b [vS,.int .i64 J.parts,vM,vC,vR,.int .i64 J.chunk,.int .i64 J.window,.int .i64 J.fuel,vK,.int .i64 cw,.int .i64 ct,.int .i64 co,.int .i64 ((s:Nat):Int),.int .i64 att,.int .i64 ((AA dg J s).2),.pointer (some ⟨cb,0,none⟩),vw] 164]:=H
 exact Am U H
theorem VO (b:Nat) (vS:Value) (vM:Value) (vC:Value) (vR:Value) (vK:Value) (J:AG) (cw:Int) (ct:Int) (co:Int) (s:Nat) (att:Int) (cb:Nat) (fv:Value) (vw:Value) (p:Int) (q:Int) (hJ:B6 J):
    Cn Tryz.prog 41 [.pointer (some ⟨b,0,none⟩),.int .i64 p,.int .i64 q] [blk cb [.int .u32 1,.int .i32 0,.int .u32 0,.int .u32 1,fv,.string (Bd (AA dg J s).1)] 234] [blk b [vS,.int .i64 J.parts,vM,vC,vR,.int .i64 J.chunk,.int .i64 J.window,.int .i64 J.fuel,vK,.int .i64 cw,.int .i64 ct,.int .i64 co,.int .i64 ((s:Nat):Int),.int .i64 att,.int .i64 ((AA dg J s).2),.pointer (some ⟨cb,0,none⟩),vw] 164] (fun v Bs=>Bs=[Y Ag v (CV dg J s att p q),blk cb [.int .u32 1,.int .i32 0,.int .u32 0,.int .u32 1,fv,.string (Bd (AA dg J s).1)] 234]):=by
 intro w0 F0 H
 have hlen:(AA dg J s).1.length≤1000:=by have:=HF dg J s;omega
 have hszs:∀ p∈(AA dg J s).1,p.key.size≤100∧p.val.size≤100:=fun x hx=>by have:=HG G7 hJ s x hx;unfold C7 at this;omega
 have hsk:∀ x∈(AA dg J s).1,x.key.size≤9223372036854775807:=fun x hx=>by have:=(hszs x hx).1;omega
 have hpt:=hJ.parts
 have hck:=hJ.chunk1
 have hol:=G8 dg J s
 have hcs:=IX (att:=att) hck
 have holp:=hol p
 refine enter Tryz.func41 U U (Nat.le_of_ble_eq_true U) (Ab (Ae (Ad U (Ac (Z (Ab (Ab (Ae (Ad U (V U U (C3 U IN U U) (Ah 2 U (V U U (Bg U U U) (Ad U (Ac (Z ?_)))))))))))))))
 refine Ay U (fun h1=>?_) (fun h1=>?_)
 ·refine Ab (Ae (Ad U (Ac (Z (Ao (Az (Aq U U ?_)))))))
  replace H:=H.newnil Ag
  replace H:Hd _ _ _ [Y Ag (.slice none 0 0) [],blk cb [.int .u32 1,.int .i32 0,.int .u32 0,.int .u32 1,fv,.string (Bd (AA dg J s).1)] 234] [blk b [vS,.int .i64 J.parts,vM,vC,vR,.int .i64 J.chunk,.int .i64 J.window,.int .i64 J.fuel,vK,.int .i64 cw,.int .i64 ct,.int .i64 co,.int .i64 ((s:Nat):Int),.int .i64 att,.int .i64 ((AA dg J s).2),.pointer (some ⟨cb,0,none⟩),vw] 164]:=H
  replace H:=H.tellK (ys:=CV dg J s att p q) (by rw [show CV dg J s att p q=[] from if_pos h1])|>.h1 (A:=Y Ag (.slice none 0 0) (CV dg J s att p q))
  exact Am U H
 refine Av (Z (Ab (Ae (Ah 2 U (sc (LZ b vS vM vC vR vK J cw ct co s att cb fv vw p (by first |assumption|omega|exact hlen|exact hszs)) H (lR 0 U l0) U U (At LF U U) ?_)))))
 rintro v2 _ w rfl H
 refine Ad U ?_
 replace H:Hd _ _ _ [Y Ag v2 (BM dg J s p),blk cb [.int .u32 1,.int .i32 0,.int .u32 0,.int .u32 1,fv,.string (Bd (AA dg J s).1)] 234] [blk b [vS,.int .i64 J.parts,vM,vC,vR,.int .i64 J.chunk,.int .i64 J.window,.int .i64 J.fuel,vK,.int .i64 cw,.int .i64 ct,.int .i64 co,.int .i64 ((s:Nat):Int),.int .i64 att,.int .i64 ((AA dg J s).2),.pointer (some ⟨cb,0,none⟩),vw] 164]:=H
 refine sc (L0 b vS vM vC vR vK J cw ct co s att cb vw (by first |assumption|omega|exact hlen|exact hszs)) H (lR 0 U l0) U U (At LG U U) ?_
 rintro _ _ w ⟨rfl,rfl⟩ H
 refine Ad U (sc (SL v2 (BM dg J s p) (CJ J.chunk att) q (by first |assumption|omega|exact hlen|exact hszs) (by first |assumption|omega|exact hlen|exact hszs)) H (lA 0 U BS l0) U U (At Uv U U) ?_)
 rintro v3 _ w rfl H
 replace H:=H.h1 (A:=Y Ag v3 (D4 (BM dg J s p) (CJ J.chunk att) q))
 refine Ad U (Ac (Z (Ao (Aq U U ?_))))
 replace H:=H.p2.p1.k2.tellK (ys:=CV dg J s att p q) (by rw [show CV dg J s att p q=D4 (BM dg J s p) (CJ J.chunk att) q from if_neg h1])|>.h1 (A:=Y Ag v3 (CV dg J s att p q))
 exact Am U H
theorem T8 {w0 w:World} {F0:AN} {As Rs:List SP} (H:Hd w0 F0 w As Rs):Hd w0 F0 w (As++[]) Rs:=by rw [List.append_nil];exact H
theorem Wq {w0 w:World} {F0:AN} {As Rs:List SP} (H:Hd w0 F0 w (As++[]) Rs):Hd w0 F0 w As Rs:=by rw [List.append_nil] at H;exact H
set_option maxRecDepth 100000 in
theorem S0 (c pl:Nat) (sm:Value) (md:Int) (fv:Value) (tx tx2:ByteArray) (Xs Ys Rs:List SP)
  (hcl:Cn Tryz.prog 170 [.pointer (some ⟨pl,0,none⟩)] (blk c [.int .u32 0,.int .i32 1,sm,.int .u32 md,fv,.string tx] 234::Xs) Rs (fun v Bs=>v=.tuple #[]∧Bs=blk c [.int .u32 0,.int .i32 1,sm,.int .u32 md,fv,.string tx2] 234::Ys)):
  Cn Tryz.prog 205 [.pointer (some ⟨c,0,none⟩),.func (.func 170) #[] #[.pointer (some ⟨pl,0,none⟩)]] (blk c [.int .u32 0,.int .i32 0,sm,.int .u32 md,fv,.string tx] 234::Xs) Rs (fun v Bs=>v=.tuple #[]∧Bs=blk c [.int .u32 1,.int .i32 0,sm,.int .u32 md,fv,.string tx2] 234::Ys):=by
 intro w F H
 have hnot:∀ (x:Bool) (w:World),(Op.unary .not (.bool x)).run Tryz.prog w=.ok (.bool (!x)) w:=fun _ _=>rfl
 go_enter_defers Tryz.func205,Tryz.ntmps205
 go_wp2_with (first
  |(go_at_call 241;refine (FX (As:=Xs) (Pl c 0 sm md fv tx) H l0).mono ?_;rintro e w1 ⟨v,rfl,Bs,⟨rfl,rfl⟩,H1⟩)
  |(go_at_call 144;refine (FX (Cs:=[]) (J5 c 1 sm md fv tx) H1 (lA 0 rfl (fun _ h=>h) l0)).mono ?_;rintro e w2 ⟨v,rfl,Bs,⟨rfl,rfl⟩,H2⟩)
  |(go_at_call 170;refine (FX (As:=[]) hcl (T8 H2) LU).mono ?_;rintro e w3 ⟨v,rfl,Bs,⟨rfl,rfl⟩,H3n⟩;have H3:=Wq H3n))
 refine leaves_cons (f:=142) (args:=#[.pointer (some ⟨c,0,none⟩),.bool true]) (by simp) (by simp [go_sem]) ?_
 refine (JK (As:=Ys) (Q9 c 0 1 sm md fv tx2) H3 l0).mono ?_
 rintro e u' w4 ⟨rfl,v,rfl,Bs,⟨rfl,rfl⟩,H4⟩
 refine leaves_cons (f:=242) (args:=#[.pointer (some ⟨c,1,none⟩)]) (by simp [settle]) (by simp [go_sem]) ?_
 refine (JK (As:=Ys) (Rm c 1 sm md fv tx2) H4 l0).mono ?_
 rintro e u' w5 ⟨rfl,v,rfl,Bs,⟨rfl,rfl⟩,H5⟩
 exact ⟨.tuple #[],by simp [results,Tryz.results205],.tuple #[],rfl,_,⟨rfl,rfl⟩,H5⟩
theorem VW (b ba bb bc cb:Nat) (vS:Value) (vM:Value) (vC:Value) (vR:Value) (vK:Value) (J:AG) (cw ct co:Int) (s:Nat) (att:Int) (hJ:B6 J) (hs:s<J.us.length):
    Cn Tryz.prog 96 [.pointer (some ⟨ba,0,none⟩),.pointer (some ⟨bb,0,none⟩),.pointer (some ⟨bc,0,none⟩)] [blk b [vS,.int .i64 J.parts,vM,vC,vR,.int .i64 J.chunk,.int .i64 J.window,.int .i64 J.fuel,vK,.int .i64 cw,.int .i64 ct,.int .i64 co,.int .i64 ((s:Nat):Int),.int .i64 att,.int .i64 0,.pointer (some ⟨cb,0,none⟩),.slice none 0 0] 164] [blk ba [vS,.int .i64 J.parts,vM,vC,vR,.int .i64 J.chunk,.int .i64 J.window,.int .i64 J.fuel,vK,.int .i64 cw,.int .i64 ct,.int .i64 co] 28,blk bb [.int .i64 ((s:Nat):Int)] 3,blk bc [.pointer (some ⟨b,0,none⟩)] 44,Aa (Ak Ag) vS J.us,Aa Af vM J.map,Aa Af vC J.comb,Aa Af vR J.red,Aa (Ai .i64) vK J.marks,gl] (fun v Bs=>v=.string (Bd (AA dg J s).1)∧Bs=[blk b [vS,.int .i64 J.parts,vM,vC,vR,.int .i64 J.chunk,.int .i64 J.window,.int .i64 J.fuel,vK,.int .i64 cw,.int .i64 ct,.int .i64 co,.int .i64 ((s:Nat):Int),.int .i64 att,.int .i64 ((AA dg J s).2),.pointer (some ⟨cb,0,none⟩),.slice none 0 0] 164]):=by
 intro w0 F0 H
 have hlen:(AA dg J s).1.length≤1000:=by have:=HF dg J s;omega
 have hszs:∀ p∈(AA dg J s).1,p.key.size≤100∧p.val.size≤100:=fun x hx=>by have:=HG G7 hJ s x hx;unfold C7 at this;omega
 refine enter Tryz.func96 U U (Nat.le_of_ble_eq_true U) (Ab (Ae (Ad U (Ac (Z (Ab (Ae (V U U (Aj U CQ U) (V U U (Bv (cs:=[vS,.int .i64 J.parts,vM,vC,vR,.int .i64 J.chunk,.int .i64 J.window,.int .i64 J.fuel,vK]) U GG U U (H.cellsRI 0 U U)) (V U U (An U AE U (H.cellRI 1 U U)) (sc (Q3 vS vM vC vR vK J hJ s (by first |assumption|omega|exact hlen|exact hszs)) H (lR 3 U (lR 4 U (lR 5 U (lR 6 U (lR 7 U (lR 8 U l0)))))) U U (At Pd U U) ?_)))))))))))
 rintro _ _ w ⟨u1,rfl,rfl⟩ H
 refine Ah 5 U (Ac (Z ?_))
 replace H:Hd _ _ _ [Y Ag u1 ((AA dg J s).1),blk b [vS,.int .i64 J.parts,vM,vC,vR,.int .i64 J.chunk,.int .i64 J.window,.int .i64 J.fuel,vK,.int .i64 cw,.int .i64 ct,.int .i64 co,.int .i64 ((s:Nat):Int),.int .i64 att,.int .i64 0,.pointer (some ⟨cb,0,none⟩),.slice none 0 0] 164] [blk ba [vS,.int .i64 J.parts,vM,vC,vR,.int .i64 J.chunk,.int .i64 J.window,.int .i64 J.fuel,vK,.int .i64 cw,.int .i64 ct,.int .i64 co] 28,blk bb [.int .i64 ((s:Nat):Int)] 3,blk bc [.pointer (some ⟨b,0,none⟩)] 44,Aa (Ak Ag) vS J.us,Aa Af vM J.map,Aa Af vC J.comb,Aa Af vR J.red,Aa (Ai .i64) vK J.marks,gl]:=H
 refine Ab (Ae (V U U (An U HJ U (H.cellRI 2 U U)) (Ad U (V U U (AI U U) (V U U (Aj U Li U) ?_)))))
 replace H:=H.p1
 refine Bk U U U AE U U H U (Nat.le_of_ble_eq_true U) (fun u hu=>by simp [Value.cells] at hu;subst hu;rfl) (fun w H=>?_)
 replace H:=H.h1 (A:=blk b [vS,.int .i64 J.parts,vM,vC,vR,.int .i64 J.chunk,.int .i64 J.window,.int .i64 J.fuel,vK,.int .i64 cw,.int .i64 ct,.int .i64 co,.int .i64 ((s:Nat):Int),.int .i64 att,.int .i64 ((AA dg J s).2),.pointer (some ⟨cb,0,none⟩),.slice none 0 0] 164)
 refine Ac (Z (Ab (Ae (Ad U (sc (Xc u1 ((AA dg J s).1) (by first |assumption|omega|exact hlen|exact hszs) (by first |assumption|omega|exact hlen|exact hszs)) H (lA 1 U BS l0) U U (At Vx U U) ?_)))))
 rintro _ _ w ⟨rfl,rfl⟩ H
 refine Ad U (Ac (Z (Ao (Aq U U ?_))))
 replace H:=H.k1
 exact Am ⟨rfl,rfl⟩ H
theorem VT (b ba bb bc cb:Nat) (vS:Value) (vM:Value) (vC:Value) (vR:Value) (vK:Value) (J:AG) (cw ct co:Int) (s:Nat) (att:Int) (hJ:B6 J) (hs:s<J.us.length) (pl:Nat) (sm:Value) (md:Int) (tx:ByteArray):
    Cn Tryz.prog 170 [.pointer (some ⟨pl,0,none⟩)] [blk cb [.int .u32 0,.int .i32 1,sm,.int .u32 md,.func (.func 96) #[] #[.pointer (some ⟨ba,0,none⟩),.pointer (some ⟨bb,0,none⟩),.pointer (some ⟨bc,0,none⟩)],.string tx] 234,blk b [vS,.int .i64 J.parts,vM,vC,vR,.int .i64 J.chunk,.int .i64 J.window,.int .i64 J.fuel,vK,.int .i64 cw,.int .i64 ct,.int .i64 co,.int .i64 ((s:Nat):Int),.int .i64 att,.int .i64 0,.pointer (some ⟨cb,0,none⟩),.slice none 0 0] 164] [blk pl [.pointer (some ⟨cb,0,none⟩)] 161,blk ba [vS,.int .i64 J.parts,vM,vC,vR,.int .i64 J.chunk,.int .i64 J.window,.int .i64 J.fuel,vK,.int .i64 cw,.int .i64 ct,.int .i64 co] 28,blk bb [.int .i64 ((s:Nat):Int)] 3,blk bc [.pointer (some ⟨b,0,none⟩)] 44,Aa (Ak Ag) vS J.us,Aa Af vM J.map,Aa Af vC J.comb,Aa Af vR J.red,Aa (Ai .i64) vK J.marks,gl] (fun v Bs=>v=.tuple #[]∧Bs=[blk cb [.int .u32 0,.int .i32 1,sm,.int .u32 md,.func (.func 96) #[] #[.pointer (some ⟨ba,0,none⟩),.pointer (some ⟨bb,0,none⟩),.pointer (some ⟨bc,0,none⟩)],.string (Bd (AA dg J s).1)] 234,blk b [vS,.int .i64 J.parts,vM,vC,vR,.int .i64 J.chunk,.int .i64 J.window,.int .i64 J.fuel,vK,.int .i64 cw,.int .i64 ct,.int .i64 co,.int .i64 ((s:Nat):Int),.int .i64 att,.int .i64 ((AA dg J s).2),.pointer (some ⟨cb,0,none⟩),.slice none 0 0] 164]):=by
 intro w0 F0 H
 refine enter Tryz.func170 U U (Nat.le_of_ble_eq_true U) (Ab (Ae (V U U (An U DH U (H.cellRI 0 U U)) (V U U (AI U U) (V U U (Aj U JX U) (V U U (An U KB U (H.cellI 0 U U)) (V U U (P9 U Rg U U) (Ac (Z (Cc U (BX (.e 0 (.e 1 (.e 2 (.e 3 (.m 4 (.m 5 (.e 6 (.e 7 (.m 8 .z))))))))) (fun w=>∃ Ar,Hd w0 F0 w (Ar) [blk pl [.pointer (some ⟨cb,0,none⟩)] 161,blk ba [vS,.int .i64 J.parts,vM,vC,vR,.int .i64 J.chunk,.int .i64 J.window,.int .i64 J.fuel,vK,.int .i64 cw,.int .i64 ct,.int .i64 co] 28,blk bb [.int .i64 ((s:Nat):Int)] 3,blk bc [.pointer (some ⟨b,0,none⟩)] 44,Aa (Ak Ag) vS J.us,Aa Af vM J.map,Aa Af vC J.comb,Aa Af vR J.red,Aa (Ai .i64) vK J.marks,gl]) mo (by kernel_rfl) (fun w H=>⟨_,H⟩) H (fun w H=>(Ap U U U (fun w ⟨Ar,H⟩=>An U DH U (H.cellRI 0 U U)) ?_)))))))))))))
 refine Ap U U U (fun w ⟨Ar,H⟩=>An U DH U (H.cellRI 0 U U)) (Ap U U U (fun w ⟨Ar,H⟩=>AI U U) (Ap U U U (fun w ⟨Ar,H⟩=>Aj U JX U) (AL U (V U U (An U KB U (H.cellI 0 U U)) (AH ⟨_,H⟩ (AL U ?_))))))
 replace H:=H.p1
 replace H:Hd _ _ _ [blk b [vS,.int .i64 J.parts,vM,vC,vR,.int .i64 J.chunk,.int .i64 J.window,.int .i64 J.fuel,vK,.int .i64 cw,.int .i64 ct,.int .i64 co,.int .i64 ((s:Nat):Int),.int .i64 att,.int .i64 0,.pointer (some ⟨cb,0,none⟩),.slice none 0 0] 164,blk cb [.int .u32 0,.int .i32 1,sm,.int .u32 md,.func (.func 96) #[] #[.pointer (some ⟨ba,0,none⟩),.pointer (some ⟨bb,0,none⟩),.pointer (some ⟨bc,0,none⟩)],.string tx] 234] [blk pl [.pointer (some ⟨cb,0,none⟩)] 161,blk ba [vS,.int .i64 J.parts,vM,vC,vR,.int .i64 J.chunk,.int .i64 J.window,.int .i64 J.fuel,vK,.int .i64 cw,.int .i64 ct,.int .i64 co] 28,blk bb [.int .i64 ((s:Nat):Int)] 3,blk bc [.pointer (some ⟨b,0,none⟩)] 44,Aa (Ak Ag) vS J.us,Aa Af vM J.map,Aa Af vC J.comb,Aa Af vR J.red,Aa (Ai .i64) vK J.marks,gl]:=H
 refine sc (VW b ba bb bc cb vS vM vC vR vK J cw ct co s att hJ hs) H (lR 1 U (lR 2 U (lR 3 U (lR 4 U (lR 5 U (lR 6 U (lR 7 U (lR 8 U (lR 9 U l0))))))))) U U (FZ (vs:=[]) (fs:=#[]) (cs:=#[.pointer (some ⟨ba,0,none⟩),.pointer (some ⟨bb,0,none⟩),.pointer (some ⟨bc,0,none⟩)]) Vw U U U) ?_
 rintro _ _ w ⟨rfl,rfl⟩ H
 replace H:=H.h1 (A:=blk b [vS,.int .i64 J.parts,vM,vC,vR,.int .i64 J.chunk,.int .i64 J.window,.int .i64 J.fuel,vK,.int .i64 cw,.int .i64 ct,.int .i64 co,.int .i64 ((s:Nat):Int),.int .i64 att,.int .i64 ((AA dg J s).2),.pointer (some ⟨cb,0,none⟩),.slice none 0 0] 164)
 refine AH ⟨_,H⟩ (Ap U U U (fun w ⟨Ar,H⟩=>AI U U) (Ap U U U (fun w ⟨Ar,H⟩=>Aj U I0 U) (AL U ?_)))
 replace H:=H.p1
 refine Bk U U U BU U U H U (Nat.le_of_ble_eq_true U) (fun u hu=>by simp [Value.cells] at hu;subst hu;rfl) (fun w H=>?_)
 replace H:=H.h1 (A:=blk cb [.int .u32 0,.int .i32 1,sm,.int .u32 md,.func (.func 96) #[] #[.pointer (some ⟨ba,0,none⟩),.pointer (some ⟨bb,0,none⟩),.pointer (some ⟨bc,0,none⟩)],.string (Bd (AA dg J s).1)] 234)
 exact AH ⟨_,H⟩ (BL (DO U (Am ⟨rfl,rfl⟩ H)))
theorem VR (b ba bb bc cb:Nat) (vS:Value) (vM:Value) (vC:Value) (vR:Value) (vK:Value) (J:AG) (cw ct co:Int) (s:Nat) (att:Int) (hJ:B6 J) (hs:s<J.us.length) (pl:Nat) (sm:Value) (md:Int) (tx:ByteArray):
    Cn Tryz.prog 169 [.pointer (some ⟨cb,0,none⟩),.func (.func 170) #[] #[.pointer (some ⟨pl,0,none⟩)]] [blk cb [.int .u32 0,.int .i32 0,sm,.int .u32 md,.func (.func 96) #[] #[.pointer (some ⟨ba,0,none⟩),.pointer (some ⟨bb,0,none⟩),.pointer (some ⟨bc,0,none⟩)],.string tx] 234,blk b [vS,.int .i64 J.parts,vM,vC,vR,.int .i64 J.chunk,.int .i64 J.window,.int .i64 J.fuel,vK,.int .i64 cw,.int .i64 ct,.int .i64 co,.int .i64 ((s:Nat):Int),.int .i64 att,.int .i64 0,.pointer (some ⟨cb,0,none⟩),.slice none 0 0] 164] [blk pl [.pointer (some ⟨cb,0,none⟩)] 161,blk ba [vS,.int .i64 J.parts,vM,vC,vR,.int .i64 J.chunk,.int .i64 J.window,.int .i64 J.fuel,vK,.int .i64 cw,.int .i64 ct,.int .i64 co] 28,blk bb [.int .i64 ((s:Nat):Int)] 3,blk bc [.pointer (some ⟨b,0,none⟩)] 44,Aa (Ak Ag) vS J.us,Aa Af vM J.map,Aa Af vC J.comb,Aa Af vR J.red,Aa (Ai .i64) vK J.marks,gl] (fun v Bs=>v=.tuple #[]∧Bs=[blk cb [.int .u32 1,.int .i32 0,sm,.int .u32 md,.func (.func 96) #[] #[.pointer (some ⟨ba,0,none⟩),.pointer (some ⟨bb,0,none⟩),.pointer (some ⟨bc,0,none⟩)],.string (Bd (AA dg J s).1)] 234,blk b [vS,.int .i64 J.parts,vM,vC,vR,.int .i64 J.chunk,.int .i64 J.window,.int .i64 J.fuel,vK,.int .i64 cw,.int .i64 ct,.int .i64 co,.int .i64 ((s:Nat):Int),.int .i64 att,.int .i64 ((AA dg J s).2),.pointer (some ⟨cb,0,none⟩),.slice none 0 0] 164]):=by
 intro w0 F0 H
 refine enter Tryz.func169 U U (Nat.le_of_ble_eq_true U) (Ab (Ae (Ad U (V U U (AI U U) (V U U (Aj U Lo U) (sc (J5 cb 0 sm md (.func (.func 96) #[] #[.pointer (some ⟨ba,0,none⟩),.pointer (some ⟨bb,0,none⟩),.pointer (some ⟨bc,0,none⟩)]) tx) H (lA 0 U (fun _ h=>h) l0) U U (At LJ U U) ?_))))))
 rintro _ _ w ⟨rfl,rfl⟩ H
 refine V U U (E5 U U U) (Ac (Z (Cc U (Ae (Ah 2 U (sc (S0 cb pl sm md (.func (.func 96) #[] #[.pointer (some ⟨ba,0,none⟩),.pointer (some ⟨bb,0,none⟩),.pointer (some ⟨bc,0,none⟩)]) tx (Bd (AA dg J s).1) [blk b [vS,.int .i64 J.parts,vM,vC,vR,.int .i64 J.chunk,.int .i64 J.window,.int .i64 J.fuel,vK,.int .i64 cw,.int .i64 ct,.int .i64 co,.int .i64 ((s:Nat):Int),.int .i64 att,.int .i64 0,.pointer (some ⟨cb,0,none⟩),.slice none 0 0] 164] [blk b [vS,.int .i64 J.parts,vM,vC,vR,.int .i64 J.chunk,.int .i64 J.window,.int .i64 J.fuel,vK,.int .i64 cw,.int .i64 ct,.int .i64 co,.int .i64 ((s:Nat):Int),.int .i64 att,.int .i64 ((AA dg J s).2),.pointer (some ⟨cb,0,none⟩),.slice none 0 0] 164] [blk pl [.pointer (some ⟨cb,0,none⟩)] 161,blk ba [vS,.int .i64 J.parts,vM,vC,vR,.int .i64 J.chunk,.int .i64 J.window,.int .i64 J.fuel,vK,.int .i64 cw,.int .i64 ct,.int .i64 co] 28,blk bb [.int .i64 ((s:Nat):Int)] 3,blk bc [.pointer (some ⟨b,0,none⟩)] 44,Aa (Ak Ag) vS J.us,Aa Af vM J.map,Aa Af vC J.comb,Aa Af vR J.red,Aa (Ai .i64) vK J.marks,gl] (VT b ba bb bc cb vS vM vC vR vK J cw ct co s att hJ hs pl sm md tx)) H (lR 0 U (lR 1 U (lR 2 U (lR 3 U (lR 4 U (lR 5 U (lR 6 U (lR 7 U (lR 8 U (lR 9 U l0)))))))))) U U (At O1 U U) ?_))))))
 rintro _ _ w ⟨rfl,rfl⟩ H
 refine Ac (DO U ?_)
 replace H:Hd _ _ _ [blk cb [.int .u32 1,.int .i32 0,sm,.int .u32 md,.func (.func 96) #[] #[.pointer (some ⟨ba,0,none⟩),.pointer (some ⟨bb,0,none⟩),.pointer (some ⟨bc,0,none⟩)],.string (Bd (AA dg J s).1)] 234,blk b [vS,.int .i64 J.parts,vM,vC,vR,.int .i64 J.chunk,.int .i64 J.window,.int .i64 J.fuel,vK,.int .i64 cw,.int .i64 ct,.int .i64 co,.int .i64 ((s:Nat):Int),.int .i64 att,.int .i64 ((AA dg J s).2),.pointer (some ⟨cb,0,none⟩),.slice none 0 0] 164] [blk pl [.pointer (some ⟨cb,0,none⟩)] 161,blk ba [vS,.int .i64 J.parts,vM,vC,vR,.int .i64 J.chunk,.int .i64 J.window,.int .i64 J.fuel,vK,.int .i64 cw,.int .i64 ct,.int .i64 co] 28,blk bb [.int .i64 ((s:Nat):Int)] 3,blk bc [.pointer (some ⟨b,0,none⟩)] 44,Aa (Ak Ag) vS J.us,Aa Af vM J.map,Aa Af vC J.comb,Aa Af vR J.red,Aa (Ai .i64) vK J.marks,gl]:=H
 exact Am ⟨rfl,rfl⟩ H
theorem VS (b ba bb bc cb:Nat) (vS:Value) (vM:Value) (vC:Value) (vR:Value) (vK:Value) (J:AG) (cw ct co:Int) (s:Nat) (att:Int) (hJ:B6 J) (hs:s<J.us.length):
    Cn Tryz.prog 109 [.pointer (some ⟨cb,0,none⟩)] [blk cb [.int .u32 0,.int .i32 0,.int .u32 0,.int .u32 0,.func (.func 96) #[] #[.pointer (some ⟨ba,0,none⟩),.pointer (some ⟨bb,0,none⟩),.pointer (some ⟨bc,0,none⟩)],.string ⟨#[]⟩] 234,blk b [vS,.int .i64 J.parts,vM,vC,vR,.int .i64 J.chunk,.int .i64 J.window,.int .i64 J.fuel,vK,.int .i64 cw,.int .i64 ct,.int .i64 co,.int .i64 ((s:Nat):Int),.int .i64 att,.int .i64 0,.pointer (some ⟨cb,0,none⟩),.slice none 0 0] 164] [blk ba [vS,.int .i64 J.parts,vM,vC,vR,.int .i64 J.chunk,.int .i64 J.window,.int .i64 J.fuel,vK,.int .i64 cw,.int .i64 ct,.int .i64 co] 28,blk bb [.int .i64 ((s:Nat):Int)] 3,blk bc [.pointer (some ⟨b,0,none⟩)] 44,Aa (Ak Ag) vS J.us,Aa Af vM J.map,Aa Af vC J.comb,Aa Af vR J.red,Aa (Ai .i64) vK J.marks,gl] (fun v Bs=>v=.string (Bd (AA dg J s).1)∧Bs=[blk cb [.int .u32 1,.int .i32 0,.int .u32 0,.int .u32 1,.func (.func 96) #[] #[.pointer (some ⟨ba,0,none⟩),.pointer (some ⟨bb,0,none⟩),.pointer (some ⟨bc,0,none⟩)],.string (Bd (AA dg J s).1)] 234,blk b [vS,.int .i64 J.parts,vM,vC,vR,.int .i64 J.chunk,.int .i64 J.window,.int .i64 J.fuel,vK,.int .i64 cw,.int .i64 ct,.int .i64 co,.int .i64 ((s:Nat):Int),.int .i64 att,.int .i64 ((AA dg J s).2),.pointer (some ⟨cb,0,none⟩),.slice none 0 0] 164]):=by
 intro w0 F0 H
 refine enter Tryz.func109 U U (Nat.le_of_ble_eq_true U) (Ab (Ae (CH U U U U H (fun b1 w H=>(Ad U (Ac (Z ?_)))))))
 replace H:Hd _ _ _ [blk b1 [.pointer (some ⟨cb,0,none⟩)] 161,blk cb [.int .u32 0,.int .i32 0,.int .u32 0,.int .u32 0,.func (.func 96) #[] #[.pointer (some ⟨ba,0,none⟩),.pointer (some ⟨bb,0,none⟩),.pointer (some ⟨bc,0,none⟩)],.string ⟨#[]⟩] 234,blk b [vS,.int .i64 J.parts,vM,vC,vR,.int .i64 J.chunk,.int .i64 J.window,.int .i64 J.fuel,vK,.int .i64 cw,.int .i64 ct,.int .i64 co,.int .i64 ((s:Nat):Int),.int .i64 att,.int .i64 0,.pointer (some ⟨cb,0,none⟩),.slice none 0 0] 164] [blk ba [vS,.int .i64 J.parts,vM,vC,vR,.int .i64 J.chunk,.int .i64 J.window,.int .i64 J.fuel,vK,.int .i64 cw,.int .i64 ct,.int .i64 co] 28,blk bb [.int .i64 ((s:Nat):Int)] 3,blk bc [.pointer (some ⟨b,0,none⟩)] 44,Aa (Ak Ag) vS J.us,Aa Af vM J.map,Aa Af vC J.comb,Aa Af vR J.red,Aa (Ai .i64) vK J.marks,gl]:=H
 refine Ab (Ab (Ae (V U U (An U DH U (H.cellI 0 U U)) (V U U (C3 U Jw U U) (Ac (Z (Cb U (Av (Z (Ab (Ae (V U U (An U DH U (H.cellI 0 U U)) (V U U (AI U U) (V U U (Aj U Lq U) ?_))))))))))))))
 replace H:=H.p1
 refine sc (MH cb 0 0 (.int .u32 0) 0 (.func (.func 96) #[] #[.pointer (some ⟨ba,0,none⟩),.pointer (some ⟨bb,0,none⟩),.pointer (some ⟨bc,0,none⟩)]) (⟨#[]⟩:ByteArray)) H l0 U U (At LI U U) ?_
 rintro _ _ w ⟨rfl,rfl⟩ H
 replace H:=H.h1 (A:=blk cb [.int .u32 0,.int .i32 0,.int .u32 0,.int .u32 1,.func (.func 96) #[] #[.pointer (some ⟨ba,0,none⟩),.pointer (some ⟨bb,0,none⟩),.pointer (some ⟨bc,0,none⟩)],.string ⟨#[]⟩] 234)
 refine Ac (Z (Ab (Ae (V U U (An U DH U (H.cellI 1 U U)) (V U U (AI U U) (V U U (Aj U Lp U) (V U U (HE (fs:=#[]) (cs:=#[.pointer (some ⟨b1,0,none⟩)]) U U U) ?_)))))))
 replace H:=H.p2.p1
 refine sc (VR b ba bb bc cb vS vM vC vR vK J cw ct co s att hJ hs b1 (.int .u32 0) 1 ⟨#[]⟩) H (lA 0 U (fun _ h=>h) (lR 0 U (lR 1 U (lR 2 U (lR 3 U (lR 4 U (lR 5 U (lR 6 U (lR 7 U (lR 8 U l0)))))))))) U U (At LM U U) ?_
 rintro _ _ w ⟨rfl,rfl⟩ H
 replace H:=H.h2 (A:=blk cb [.int .u32 1,.int .i32 0,.int .u32 0,.int .u32 1,.func (.func 96) #[] #[.pointer (some ⟨ba,0,none⟩),.pointer (some ⟨bb,0,none⟩),.pointer (some ⟨bc,0,none⟩)],.string (Bd (AA dg J s).1)] 234) (B:=blk b [vS,.int .i64 J.parts,vM,vC,vR,.int .i64 J.chunk,.int .i64 J.window,.int .i64 J.fuel,vK,.int .i64 cw,.int .i64 ct,.int .i64 co,.int .i64 ((s:Nat):Int),.int .i64 att,.int .i64 ((AA dg J s).2),.pointer (some ⟨cb,0,none⟩),.slice none 0 0] 164)
 refine Ac (Z (Ab (Ae (V U U (An U DH U (H.cellI 2 U U)) (V U U (AI U U) (V U U (Aj U I0 U) (V U U (An U BU U (H.cellI 0 U U)) (Ad U (Ac (Z (Ao (Aq U U ?_))))))))))))
 replace H:=H.k2
 exact Am ⟨rfl,rfl⟩ H
theorem VV (b ba bb bc cb:Nat) (vS:Value) (vM:Value) (vC:Value) (vR:Value) (vK:Value) (J:AG) (cw ct co:Int) (s:Nat) (att:Int) (hJ:B6 J) (hs:s<J.us.length):
    Cn Tryz.prog 32 [.pointer (some ⟨b,0,none⟩)] [blk cb [.int .u32 0,.int .i32 0,.int .u32 0,.int .u32 0,.func (.func 96) #[] #[.pointer (some ⟨ba,0,none⟩),.pointer (some ⟨bb,0,none⟩),.pointer (some ⟨bc,0,none⟩)],.string ⟨#[]⟩] 234,blk b [vS,.int .i64 J.parts,vM,vC,vR,.int .i64 J.chunk,.int .i64 J.window,.int .i64 J.fuel,vK,.int .i64 cw,.int .i64 ct,.int .i64 co,.int .i64 ((s:Nat):Int),.int .i64 att,.int .i64 0,.pointer (some ⟨cb,0,none⟩),.slice none 0 0] 164] [blk ba [vS,.int .i64 J.parts,vM,vC,vR,.int .i64 J.chunk,.int .i64 J.window,.int .i64 J.fuel,vK,.int .i64 cw,.int .i64 ct,.int .i64 co] 28,blk bb [.int .i64 ((s:Nat):Int)] 3,blk bc [.pointer (some ⟨b,0,none⟩)] 44,Aa (Ak Ag) vS J.us,Aa Af vM J.map,Aa Af vC J.comb,Aa Af vR J.red,Aa (Ai .i64) vK J.marks,gl] (fun v Bs=>v=.int .i64 ((AA dg J s).2)∧Bs=[blk cb [.int .u32 1,.int .i32 0,.int .u32 0,.int .u32 1,.func (.func 96) #[] #[.pointer (some ⟨ba,0,none⟩),.pointer (some ⟨bb,0,none⟩),.pointer (some ⟨bc,0,none⟩)],.string (Bd (AA dg J s).1)] 234,blk b [vS,.int .i64 J.parts,vM,vC,vR,.int .i64 J.chunk,.int .i64 J.window,.int .i64 J.fuel,vK,.int .i64 cw,.int .i64 ct,.int .i64 co,.int .i64 ((s:Nat):Int),.int .i64 att,.int .i64 ((AA dg J s).2),.pointer (some ⟨cb,0,none⟩),.slice none 0 0] 164]):=by
 intro w0 F0 H
 refine enter Tryz.func32 U U (Nat.le_of_ble_eq_true U) (Ab (Ae (Ad U (Ac (Z (Ab (Ab (Ae (Ad U (V U U (C3 U IN U U) (Ac (Z (Cb U (Av (Z (Ab (Ae (Ad U (V U U (AI U U) (V U U (Aj U JV U) (V U U (An U DH U (H.cellI 1 U U)) (sc (VS b ba bb bc cb vS vM vC vR vK J cw ct co s att hJ hs) H (lR 0 U (lR 1 U (lR 2 U (lR 3 U (lR 4 U (lR 5 U (lR 6 U (lR 7 U (lR 8 U l0))))))))) U U (At I7 U U) ?_))))))))))))))))))))))
 rintro _ _ w ⟨rfl,rfl⟩ H
 refine Ac (Z ?_)
 replace H:Hd _ _ _ [blk cb [.int .u32 1,.int .i32 0,.int .u32 0,.int .u32 1,.func (.func 96) #[] #[.pointer (some ⟨ba,0,none⟩),.pointer (some ⟨bb,0,none⟩),.pointer (some ⟨bc,0,none⟩)],.string (Bd (AA dg J s).1)] 234,blk b [vS,.int .i64 J.parts,vM,vC,vR,.int .i64 J.chunk,.int .i64 J.window,.int .i64 J.fuel,vK,.int .i64 cw,.int .i64 ct,.int .i64 co,.int .i64 ((s:Nat):Int),.int .i64 att,.int .i64 ((AA dg J s).2),.pointer (some ⟨cb,0,none⟩),.slice none 0 0] 164] [blk ba [vS,.int .i64 J.parts,vM,vC,vR,.int .i64 J.chunk,.int .i64 J.window,.int .i64 J.fuel,vK,.int .i64 cw,.int .i64 ct,.int .i64 co] 28,blk bb [.int .i64 ((s:Nat):Int)] 3,blk bc [.pointer (some ⟨b,0,none⟩)] 44,Aa (Ak Ag) vS J.us,Aa Af vM J.map,Aa Af vC J.comb,Aa Af vR J.red,Aa (Ai .i64) vK J.marks,gl]:=H
 exact Ab (Ae (Ad U (V U U (AI U U) (V U U (Aj U Li U) (V U U (An U AE U (H.cellI 1 U U)) (Ad U (Ac (Z (Ao (Aq U U (Am ⟨rfl,rfl⟩ H)))))))))))
theorem VP (b ba bb bc cb:Nat) (vS:Value) (vM:Value) (vC:Value) (vR:Value) (vK:Value) (J:AG) (cw ct co:Int) (s:Nat) (att:Int) (hJ:B6 J) (hs:s<J.us.length):
    Cn Tryz.prog 30 [.pointer (some ⟨b,0,none⟩)] [blk cb [.int .u32 0,.int .i32 0,.int .u32 0,.int .u32 0,.func (.func 96) #[] #[.pointer (some ⟨ba,0,none⟩),.pointer (some ⟨bb,0,none⟩),.pointer (some ⟨bc,0,none⟩)],.string ⟨#[]⟩] 234,blk b [vS,.int .i64 J.parts,vM,vC,vR,.int .i64 J.chunk,.int .i64 J.window,.int .i64 J.fuel,vK,.int .i64 cw,.int .i64 ct,.int .i64 co,.int .i64 ((s:Nat):Int),.int .i64 att,.int .i64 0,.pointer (some ⟨cb,0,none⟩),.slice none 0 0] 164] [blk ba [vS,.int .i64 J.parts,vM,vC,vR,.int .i64 J.chunk,.int .i64 J.window,.int .i64 J.fuel,vK,.int .i64 cw,.int .i64 ct,.int .i64 co] 28,blk bb [.int .i64 ((s:Nat):Int)] 3,blk bc [.pointer (some ⟨b,0,none⟩)] 44,Aa (Ak Ag) vS J.us,Aa Af vM J.map,Aa Af vC J.comb,Aa Af vR J.red,Aa (Ai .i64) vK J.marks,gl] (fun v Bs=>Bs=[Y (Ai .i64) v (BR dg J s att),blk cb [.int .u32 1,.int .i32 0,.int .u32 0,.int .u32 1,.func (.func 96) #[] #[.pointer (some ⟨ba,0,none⟩),.pointer (some ⟨bb,0,none⟩),.pointer (some ⟨bc,0,none⟩)],.string (Bd (AA dg J s).1)] 234,blk b [vS,.int .i64 J.parts,vM,vC,vR,.int .i64 J.chunk,.int .i64 J.window,.int .i64 J.fuel,vK,.int .i64 cw,.int .i64 ct,.int .i64 co,.int .i64 ((s:Nat):Int),.int .i64 att,.int .i64 ((AA dg J s).2),.pointer (some ⟨cb,0,none⟩),.slice none 0 0] 164]):=by
 intro w0 F0 H
 have hlen:(AA dg J s).1.length≤1000:=by have:=HF dg J s;omega
 have hszs:∀ p∈(AA dg J s).1,p.key.size≤100∧p.val.size≤100:=fun x hx=>by have:=HG G7 hJ s x hx;unfold C7 at this;omega
 have hsk:∀ x∈(AA dg J s).1,x.key.size≤9223372036854775807:=fun x hx=>by have:=(hszs x hx).1;omega
 have hpt:=hJ.parts
 have hck:=hJ.chunk1
 have hol:=G8 dg J s
 refine enter Tryz.func30 U U (Nat.le_of_ble_eq_true U) (Ab (Ae (Ad U (Ac (Z (Ab (Ab (Ae (Ad U (V U U (C3 U IN U U) (Ah 2 U (sc (VV b ba bb bc cb vS vM vC vR vK J cw ct co s att hJ hs) H (lR 0 U (lR 1 U (lR 2 U (lR 3 U (lR 4 U (lR 5 U (lR 6 U (lR 7 U (lR 8 U l0))))))))) U U (At LQ U U) ?_))))))))))))
 rintro _ _ w ⟨rfl,rfl⟩ H
 refine V U U (C8 U U U) (Ad U (Ac (Z ?_)))
 replace H:Hd _ _ _ [blk cb [.int .u32 1,.int .i32 0,.int .u32 0,.int .u32 1,.func (.func 96) #[] #[.pointer (some ⟨ba,0,none⟩),.pointer (some ⟨bb,0,none⟩),.pointer (some ⟨bc,0,none⟩)],.string (Bd (AA dg J s).1)] 234,blk b [vS,.int .i64 J.parts,vM,vC,vR,.int .i64 J.chunk,.int .i64 J.window,.int .i64 J.fuel,vK,.int .i64 cw,.int .i64 ct,.int .i64 co,.int .i64 ((s:Nat):Int),.int .i64 att,.int .i64 ((AA dg J s).2),.pointer (some ⟨cb,0,none⟩),.slice none 0 0] 164] [blk ba [vS,.int .i64 J.parts,vM,vC,vR,.int .i64 J.chunk,.int .i64 J.window,.int .i64 J.fuel,vK,.int .i64 cw,.int .i64 ct,.int .i64 co] 28,blk bb [.int .i64 ((s:Nat):Int)] 3,blk bc [.pointer (some ⟨b,0,none⟩)] 44,Aa (Ak Ag) vS J.us,Aa Af vM J.map,Aa Af vC J.comb,Aa Af vR J.red,Aa (Ai .i64) vK J.marks,gl]:=H
 refine Ay U (fun h1=>?_) (fun h1=>?_)
 ·refine Ab (Ae (Ad U (Ac (Z (Ao (Az (Aq U U ?_)))))))
  replace H:=H.newnil (Ai .i64)|>.tellK (ys:=BR dg J s att) (by rw [NM h1])|>.h1 (A:=Y (Ai .i64) (.slice none 0 0) (BR dg J s att))
  exact Am U H
 refine Av (Z (Ab (Ae (Ad U (Ac (Z (Ab (Ab (Ae (Ad U (V U U (AI U U) (V U U (Aj U JU U) (V U U (Aj U CQ U) (V U U (Aj U GY U) (V U U (An U AE U (H.cellI 1 U U)) (Ad U (Ac (Z (AU ?_)))))))))))))))))))
 replace H:=H.newnil (Ai .i64)|>.tellK (ys:=DT dg J s att 0) (by rfl)
 refine BV (σ:=Nat×Value) (fun (k,q)=>[(0,.pointer (some ⟨b,0,none⟩)),(2,.slice none 0 0),(3,q),(17,.int .i64 J.parts),(18,.int .i64 ((k:Nat):Int))]) (fun (k,q) w=>(Hd w0 F0 w [Y (Ai .i64) q (DT dg J s att k),blk cb [.int .u32 1,.int .i32 0,.int .u32 0,.int .u32 1,.func (.func 96) #[] #[.pointer (some ⟨ba,0,none⟩),.pointer (some ⟨bb,0,none⟩),.pointer (some ⟨bc,0,none⟩)],.string (Bd (AA dg J s).1)] 234,blk b [vS,.int .i64 J.parts,vM,vC,vR,.int .i64 J.chunk,.int .i64 J.window,.int .i64 J.fuel,vK,.int .i64 cw,.int .i64 ct,.int .i64 co,.int .i64 ((s:Nat):Int),.int .i64 att,.int .i64 ((AA dg J s).2),.pointer (some ⟨cb,0,none⟩),.slice none 0 0] 164] [blk ba [vS,.int .i64 J.parts,vM,vC,vR,.int .i64 J.chunk,.int .i64 J.window,.int .i64 J.fuel,vK,.int .i64 cw,.int .i64 ct,.int .i64 co] 28,blk bb [.int .i64 ((s:Nat):Int)] 3,blk bc [.pointer (some ⟨b,0,none⟩)] 44,Aa (Ak Ag) vS J.us,Aa Af vM J.map,Aa Af vC J.comb,Aa Af vR J.red,Aa (Ai .i64) vK J.marks,gl])∧((k:Int)≤J.parts)) (fun (k,q)=>J.parts.toNat - k) (0,.slice none 0 0) ⟨rfl,rfl,rfl,rfl,rfl,trivial⟩ ⟨H,by omega⟩ ?_
 rintro ⟨k,q⟩ w ⟨H,hk⟩
 have hcl:=NC dg J s att k
 have holk:=hol ((k:Nat):Int)
 refine Ab (Ae (V U U (Bg U U U) (Ac (Z (Ab ?_)))))
 refine Ay U (fun h2=>?_) (fun h2=>?_)
 ·refine Av (Z (Ab (AU (Ab (Ae (Ah 2 U (Ac (Z (Ae (Ah 3 U ?_))))))))))
  replace H:=H.p1
  replace H:Hd _ _ _ [blk cb [.int .u32 1,.int .i32 0,.int .u32 0,.int .u32 1,.func (.func 96) #[] #[.pointer (some ⟨ba,0,none⟩),.pointer (some ⟨bb,0,none⟩),.pointer (some ⟨bc,0,none⟩)],.string (Bd (AA dg J s).1)] 234,Y (Ai .i64) q (DT dg J s att k),blk b [vS,.int .i64 J.parts,vM,vC,vR,.int .i64 J.chunk,.int .i64 J.window,.int .i64 J.fuel,vK,.int .i64 cw,.int .i64 ct,.int .i64 co,.int .i64 ((s:Nat):Int),.int .i64 att,.int .i64 ((AA dg J s).2),.pointer (some ⟨cb,0,none⟩),.slice none 0 0] 164] [blk ba [vS,.int .i64 J.parts,vM,vC,vR,.int .i64 J.chunk,.int .i64 J.window,.int .i64 J.fuel,vK,.int .i64 cw,.int .i64 ct,.int .i64 co] 28,blk bb [.int .i64 ((s:Nat):Int)] 3,blk bc [.pointer (some ⟨b,0,none⟩)] 44,Aa (Ak Ag) vS J.us,Aa Af vM J.map,Aa Af vC J.comb,Aa Af vR J.red,Aa (Ai .i64) vK J.marks,gl]:=H
  refine sc (LZ b vS vM vC vR vK J cw ct co s att cb (.func (.func 96) #[] #[.pointer (some ⟨ba,0,none⟩),.pointer (some ⟨bb,0,none⟩),.pointer (some ⟨bc,0,none⟩)]) (.slice none 0 0) ((k:Nat):Int) (by first |assumption|omega|exact hlen|exact hszs)) H (lA 1 U (fun _ h=>h) l0) U U (At LF U U) ?_
  rintro v3 _ w rfl H
  obtain ⟨A4,c5,rfl,hc6,hm7,hp8⟩:=H.fA 0 rfl
  refine V U U (A0 U CD U) (Ad U ?_)
  replace H:Hd _ _ _ [Y Ag (.slice A4 ((BM dg J s ((k:Nat):Int)).length) c5) (BM dg J s ((k:Nat):Int)),blk cb [.int .u32 1,.int .i32 0,.int .u32 0,.int .u32 1,.func (.func 96) #[] #[.pointer (some ⟨ba,0,none⟩),.pointer (some ⟨bb,0,none⟩),.pointer (some ⟨bc,0,none⟩)],.string (Bd (AA dg J s).1)] 234,Y (Ai .i64) q (DT dg J s att k),blk b [vS,.int .i64 J.parts,vM,vC,vR,.int .i64 J.chunk,.int .i64 J.window,.int .i64 J.fuel,vK,.int .i64 cw,.int .i64 ct,.int .i64 co,.int .i64 ((s:Nat):Int),.int .i64 att,.int .i64 ((AA dg J s).2),.pointer (some ⟨cb,0,none⟩),.slice none 0 0] 164] [blk ba [vS,.int .i64 J.parts,vM,vC,vR,.int .i64 J.chunk,.int .i64 J.window,.int .i64 J.fuel,vK,.int .i64 cw,.int .i64 ct,.int .i64 co] 28,blk bb [.int .i64 ((s:Nat):Int)] 3,blk bc [.pointer (some ⟨b,0,none⟩)] 44,Aa (Ak Ag) vS J.us,Aa Af vM J.map,Aa Af vC J.comb,Aa Af vR J.red,Aa (Ai .i64) vK J.marks,gl]:=H
  refine sc (L0 b vS vM vC vR vK J cw ct co s att cb (.slice none 0 0) (by first |assumption|omega|exact hlen|exact hszs)) H (lA 3 U (fun _ h=>h) l0) U U (At LG U U) ?_
  rintro _ _ w ⟨rfl,rfl⟩ H
  refine sc (KY (((BM dg J s ((k:Nat):Int)).length:Nat):Int) (CJ J.chunk att) (by first |assumption|omega|exact hlen|exact hszs)) H l0 U U (At LE U U) ?_
  rintro _ _ w ⟨rfl,rfl⟩ H
  refine BT (parts:=[(0,.tmp 28)]) (vs:=[.int .i64 (De (((BM dg J s ((k:Nat):Int)).length:Nat):Int) (CJ J.chunk att))]) (cs:=[.int .i64 (De (((BM dg J s ((k:Nat):Int)).length:Nat):Int) (CJ J.chunk att))]) U U U DP GK U (by decide) (by decide) U U H (fun b9 w H=>?_)
  replace H:=H.p3
  refine CC (xs:=DT dg J s att k) (ys:=[De (((BM dg J s ((k:Nat):Int)).length:Nat):Int) (CJ J.chunk att)]) U U U DP GK U (by decide) U U H (by first |omega|(simp only [List.length_append,List.length_cons,List.length_nil];omega)) (fun F hA hR=>Ci (hA _ (List.mem_of_getElem? (i:=0) U)) U (by decide) (AY.flat_eq.2 U)) (fun v10 w H=>(Ad U (Ac (A8 (Z ?_)))))
  replace H:Hd _ _ _ [Y (Ai .i64) v10 ((DT dg J s att k)++[De (((BM dg J s ((k:Nat):Int)).length:Nat):Int) (CJ J.chunk att)]),blk b9 [.int .i64 (De (((BM dg J s ((k:Nat):Int)).length:Nat):Int) (CJ J.chunk att))] 3,Y Ag (.slice A4 ((BM dg J s ((k:Nat):Int)).length) c5) (BM dg J s ((k:Nat):Int)),blk cb [.int .u32 1,.int .i32 0,.int .u32 0,.int .u32 1,.func (.func 96) #[] #[.pointer (some ⟨ba,0,none⟩),.pointer (some ⟨bb,0,none⟩),.pointer (some ⟨bc,0,none⟩)],.string (Bd (AA dg J s).1)] 234,blk b [vS,.int .i64 J.parts,vM,vC,vR,.int .i64 J.chunk,.int .i64 J.window,.int .i64 J.fuel,vK,.int .i64 cw,.int .i64 ct,.int .i64 co,.int .i64 ((s:Nat):Int),.int .i64 att,.int .i64 ((AA dg J s).2),.pointer (some ⟨cb,0,none⟩),.slice none 0 0] 164] [blk ba [vS,.int .i64 J.parts,vM,vC,vR,.int .i64 J.chunk,.int .i64 J.window,.int .i64 J.fuel,vK,.int .i64 cw,.int .i64 ct,.int .i64 co] 28,blk bb [.int .i64 ((s:Nat):Int)] 3,blk bc [.pointer (some ⟨b,0,none⟩)] 44,Aa (Ak Ag) vS J.us,Aa Af vM J.map,Aa Af vC J.comb,Aa Af vR J.red,Aa (Ai .i64) vK J.marks,gl]:=H
  refine Ae (V U U (A9 (z:=((k+1:Nat):Int)) U U U (by rw [AF (by omega) (by omega)];omega)) (Ad U (Ac ?_)))
  replace H:=H.p4.p4.p2.k3.tellK (ys:=DT dg J s att (k+1)) (by rw [ND])
  exact Bm (s:=(k,undef)) (k+1,v10) ⟨rfl,rfl,rfl,rfl,rfl,trivial⟩ ⟨H,by (try dsimp only);omega⟩ (by (try dsimp only);omega)
 refine BK (AR (AR (BN (Z (Ab (Ae (Ah 2 U (Ac (Z (Ao (Aq U U ?_)))))))))))
 have hkk:k=J.parts.toNat:=by omega
 replace H:=H.tellK (ys:=BR dg J s att) (by rw [NO (Classical.not_not.1 h1),←hkk])
 replace H:Hd _ _ _ [Y (Ai .i64) q (BR dg J s att),blk cb [.int .u32 1,.int .i32 0,.int .u32 0,.int .u32 1,.func (.func 96) #[] #[.pointer (some ⟨ba,0,none⟩),.pointer (some ⟨bb,0,none⟩),.pointer (some ⟨bc,0,none⟩)],.string (Bd (AA dg J s).1)] 234,blk b [vS,.int .i64 J.parts,vM,vC,vR,.int .i64 J.chunk,.int .i64 J.window,.int .i64 J.fuel,vK,.int .i64 cw,.int .i64 ct,.int .i64 co,.int .i64 ((s:Nat):Int),.int .i64 att,.int .i64 ((AA dg J s).2),.pointer (some ⟨cb,0,none⟩),.slice none 0 0] 164] [blk ba [vS,.int .i64 J.parts,vM,vC,vR,.int .i64 J.chunk,.int .i64 J.window,.int .i64 J.fuel,vK,.int .i64 cw,.int .i64 ct,.int .i64 co] 28,blk bb [.int .i64 ((s:Nat):Int)] 3,blk bc [.pointer (some ⟨b,0,none⟩)] 44,Aa (Ak Ag) vS J.us,Aa Af vM J.map,Aa Af vC J.comb,Aa Af vR J.red,Aa (Ai .i64) vK J.marks,gl]:=H
 exact Am U H
theorem VU (ba bb bc:Nat):
    Cn Tryz.prog 95 [.func (.func 96) #[] #[.pointer (some ⟨ba,0,none⟩),.pointer (some ⟨bb,0,none⟩),.pointer (some ⟨bc,0,none⟩)]] [] [] (fun v Bs=>∃ cb,v=.pointer (some ⟨cb,0,none⟩)∧Bs=[blk cb [.int .u32 0,.int .i32 0,.int .u32 0,.int .u32 0,.func (.func 96) #[] #[.pointer (some ⟨ba,0,none⟩),.pointer (some ⟨bb,0,none⟩),.pointer (some ⟨bc,0,none⟩)],.string ⟨#[]⟩] 234]):=by
 intro w0 F0 H
 refine enter Tryz.func95 U U (Nat.le_of_ble_eq_true U) (Ab (Ae (Ad U (Ac (Z (Ab (Ae (Ad U (V U U (CL (parts:=[(2,.tmp 3)]) (vs:=[.func (.func 96) #[] #[.pointer (some ⟨ba,0,none⟩),.pointer (some ⟨bb,0,none⟩),.pointer (some ⟨bc,0,none⟩)]]) (cs:=[.int .u32 0,.int .i32 0,.int .u32 0,.int .u32 0,.func (.func 96) #[] #[.pointer (some ⟨ba,0,none⟩),.pointer (some ⟨bb,0,none⟩),.pointer (some ⟨bc,0,none⟩)],.string ⟨#[]⟩]) U Nq U U) (CH U U U U H (fun b1 w H=>(Ad U (Ac (Z ?_))))))))))))))
 replace H:Hd _ _ _ [blk b1 [.int .u32 0,.int .i32 0,.int .u32 0,.int .u32 0,.func (.func 96) #[] #[.pointer (some ⟨ba,0,none⟩),.pointer (some ⟨bb,0,none⟩),.pointer (some ⟨bc,0,none⟩)],.string ⟨#[]⟩] 234] []:=H
 exact Ao (Aq U U (Am ⟨_,rfl,rfl⟩ H))
theorem ZZ (c:Int) (s:Int) (h:0≤c∧c≤40∧1≤s∧s≤4):
    Cn Tryz.prog 98 [.int .i64 c,.int .i64 s] [] [] (fun v Bs=>∃ b,v=.tuple #[.pointer (some ⟨b,0,none⟩),.int .i64 0]∧Bs=[blk b [.int .i64 c,.int .i64 s,.int .i64 0,.int .i64 0] 239]):=by
 intro w0 F0 H
 refine enter Tryz.func98 U U (Nat.le_of_ble_eq_true U) (Ab (Ae (Ah 2 U (Ac (Z (Ab (Ab (Ae (Ad U (V U U (Bg U U U) (Ad U ?_)))))))))))
 refine AQ (d:=8) U (fun h1=>?_) (fun h1=>?_)
 ·exact absurd h1 (by omega)
 refine Ad U (V U U (Cd U U U) (Ah 2 U ?_))
 refine AQ (d:=12) U (fun h2=>?_) (fun h2=>?_)
 ·exact absurd h2 (by omega)
 refine Ad U (V U U (Bg U U U) (Ah 2 U ?_))
 refine AQ (d:=16) U (fun h3=>?_) (fun h3=>?_)
 ·exact absurd h3 (by omega)
 refine Ad U (V U U (Cd U U U) (Ad U (Ac (Z ?_))))
 refine Ay U (fun h4=>?_) (fun h4=>?_)
 ·exact absurd h4 (by omega)
 refine Av (Z (Ab (Ae (Ah 2 U (V U U (CL (parts:=[(0,.tmp 20),(1,.tmp 21)]) (vs:=[.int .i64 c,.int .i64 s]) (cs:=[.int .i64 c,.int .i64 s,.int .i64 0,.int .i64 0]) U RQ U U) (CH U U U U H (fun b5 w H=>(Ah 2 U (Ac (Z ?_))))))))))
 replace H:Hd _ _ _ [blk b5 [.int .i64 c,.int .i64 s,.int .i64 0,.int .i64 0] 239] []:=H
 exact Ao (Cv U U U (Am ⟨_,rfl,rfl⟩ H))
def EB (b:Nat) (J:AG) (M:FU):SP:=ex fun vS:Value=>ex fun vM:Value=>ex fun vC:Value=>ex fun vR:Value=>ex fun vK:Value=>ex fun J2:AG=>ex fun cw:Int=>ex fun ct:Int=>ex fun co:Int=>ex fun cb:Nat=>ex fun fv:Value=>ex fun vw:Value=>ex fun ws:List (Nat×CU)=>CN [CX ((BJ J2 J)∧(ws.map Prod.snd=M.ws)),blk b [vS,.int .i64 J2.parts,vM,vC,vR,.int .i64 J2.chunk,.int .i64 J2.window,.int .i64 J2.fuel,vK,.int .i64 cw,.int .i64 ct,.int .i64 co,.int .i64 ((M.sp:Nat):Int),.int .i64 M.att,.int .i64 ((AA dg J2 M.sp).2),.pointer (some ⟨cb,0,none⟩),vw] 164,blk cb [.int .u32 1,.int .i32 0,.int .u32 0,.int .u32 1,fv,.string (Bd (AA dg J2 M.sp).1)] 234,Y (Ak Ag) vS J2.us,Y Af vM J2.map,Y Af vC J2.comb,Y Af vR J2.red,Y (Ai .i64) vK J2.marks,Y CK vw (ws.map Prod.fst),Bb (CI 239) ws]
theorem L5 (b:Nat) (J:AG) (M:FU) {w0 w:World} {F0:AN} {As Rs:List SP} (H:Hd w0 F0 w (EB b J M::As) Rs):∃ vS:Value,∃ vM:Value,∃ vC:Value,∃ vR:Value,∃ vK:Value,∃ J2:AG,∃ cw:Int,∃ ct:Int,∃ co:Int,∃ cb:Nat,∃ fv:Value,∃ vw:Value,∃ ws:List (Nat×CU),((BJ J2 J)∧(ws.map Prod.snd=M.ws))∧Hd w0 F0 w ([blk b [vS,.int .i64 J2.parts,vM,vC,vR,.int .i64 J2.chunk,.int .i64 J2.window,.int .i64 J2.fuel,vK,.int .i64 cw,.int .i64 ct,.int .i64 co,.int .i64 ((M.sp:Nat):Int),.int .i64 M.att,.int .i64 ((AA dg J2 M.sp).2),.pointer (some ⟨cb,0,none⟩),vw] 164,blk cb [.int .u32 1,.int .i32 0,.int .u32 0,.int .u32 1,fv,.string (Bd (AA dg J2 M.sp).1)] 234,Y (Ak Ag) vS J2.us,Y Af vM J2.map,Y Af vC J2.comb,Y Af vR J2.red,Y (Ai .i64) vK J2.marks,Y CK vw (ws.map Prod.fst),Bb (CI 239) ws]++As) Rs:=by
 obtain ⟨vS,H⟩:=Hd.exA H
 obtain ⟨vM,H⟩:=Hd.exA H
 obtain ⟨vC,H⟩:=Hd.exA H
 obtain ⟨vR,H⟩:=Hd.exA H
 obtain ⟨vK,H⟩:=Hd.exA H
 obtain ⟨J2,H⟩:=Hd.exA H
 obtain ⟨cw,H⟩:=Hd.exA H
 obtain ⟨ct,H⟩:=Hd.exA H
 obtain ⟨co,H⟩:=Hd.exA H
 obtain ⟨cb,H⟩:=Hd.exA H
 obtain ⟨fv,H⟩:=Hd.exA H
 obtain ⟨vw,H⟩:=Hd.exA H
 obtain ⟨ws,H⟩:=Hd.exA H
 exact ⟨vS,vM,vC,vR,vK,J2,cw,ct,co,cb,fv,vw,ws,H.stA.puA⟩
theorem Ka (b:Nat) (J:AG) (M:FU) (vS:Value) (vM:Value) (vC:Value) (vR:Value) (vK:Value) (J2:AG) (cw:Int) (ct:Int) (co:Int) (cb:Nat) (fv:Value) (vw:Value) (ws:List (Nat×CU)) {w0 w:World} {F0:AN} {As Rs:List SP} (hp:(BJ J2 J)∧(ws.map Prod.snd=M.ws)) (H:Hd w0 F0 w ([blk b [vS,.int .i64 J2.parts,vM,vC,vR,.int .i64 J2.chunk,.int .i64 J2.window,.int .i64 J2.fuel,vK,.int .i64 cw,.int .i64 ct,.int .i64 co,.int .i64 ((M.sp:Nat):Int),.int .i64 M.att,.int .i64 ((AA dg J2 M.sp).2),.pointer (some ⟨cb,0,none⟩),vw] 164,blk cb [.int .u32 1,.int .i32 0,.int .u32 0,.int .u32 1,fv,.string (Bd (AA dg J2 M.sp).1)] 234,Y (Ak Ag) vS J2.us,Y Af vM J2.map,Y Af vC J2.comb,Y Af vR J2.red,Y (Ai .i64) vK J2.marks,Y CK vw (ws.map Prod.fst),Bb (CI 239) ws]++As) Rs):Hd w0 F0 w (EB b J M::As) Rs:=by
 have H1:=(show Hd w0 F0 w ([CX ((BJ J2 J)∧(ws.map Prod.snd=M.ws)),blk b [vS,.int .i64 J2.parts,vM,vC,vR,.int .i64 J2.chunk,.int .i64 J2.window,.int .i64 J2.fuel,vK,.int .i64 cw,.int .i64 ct,.int .i64 co,.int .i64 ((M.sp:Nat):Int),.int .i64 M.att,.int .i64 ((AA dg J2 M.sp).2),.pointer (some ⟨cb,0,none⟩),vw] 164,blk cb [.int .u32 1,.int .i32 0,.int .u32 0,.int .u32 1,fv,.string (Bd (AA dg J2 M.sp).1)] 234,Y (Ak Ag) vS J2.us,Y Af vM J2.map,Y Af vC J2.comb,Y Af vR J2.red,Y (Ai .i64) vK J2.marks,Y CK vw (ws.map Prod.fst),Bb (CI 239) ws]++As) Rs from H.puI hp).stI
 replace H1:=Hd.exI (A:=fun ws:List (Nat×CU)=>CN [CX ((BJ J2 J)∧(ws.map Prod.snd=M.ws)),blk b [vS,.int .i64 J2.parts,vM,vC,vR,.int .i64 J2.chunk,.int .i64 J2.window,.int .i64 J2.fuel,vK,.int .i64 cw,.int .i64 ct,.int .i64 co,.int .i64 ((M.sp:Nat):Int),.int .i64 M.att,.int .i64 ((AA dg J2 M.sp).2),.pointer (some ⟨cb,0,none⟩),vw] 164,blk cb [.int .u32 1,.int .i32 0,.int .u32 0,.int .u32 1,fv,.string (Bd (AA dg J2 M.sp).1)] 234,Y (Ak Ag) vS J2.us,Y Af vM J2.map,Y Af vC J2.comb,Y Af vR J2.red,Y (Ai .i64) vK J2.marks,Y CK vw (ws.map Prod.fst),Bb (CI 239) ws]) ws H1
 replace H1:=Hd.exI (A:=fun vw:Value=>ex fun ws:List (Nat×CU)=>CN [CX ((BJ J2 J)∧(ws.map Prod.snd=M.ws)),blk b [vS,.int .i64 J2.parts,vM,vC,vR,.int .i64 J2.chunk,.int .i64 J2.window,.int .i64 J2.fuel,vK,.int .i64 cw,.int .i64 ct,.int .i64 co,.int .i64 ((M.sp:Nat):Int),.int .i64 M.att,.int .i64 ((AA dg J2 M.sp).2),.pointer (some ⟨cb,0,none⟩),vw] 164,blk cb [.int .u32 1,.int .i32 0,.int .u32 0,.int .u32 1,fv,.string (Bd (AA dg J2 M.sp).1)] 234,Y (Ak Ag) vS J2.us,Y Af vM J2.map,Y Af vC J2.comb,Y Af vR J2.red,Y (Ai .i64) vK J2.marks,Y CK vw (ws.map Prod.fst),Bb (CI 239) ws]) vw H1
 replace H1:=Hd.exI (A:=fun fv:Value=>ex fun vw:Value=>ex fun ws:List (Nat×CU)=>CN [CX ((BJ J2 J)∧(ws.map Prod.snd=M.ws)),blk b [vS,.int .i64 J2.parts,vM,vC,vR,.int .i64 J2.chunk,.int .i64 J2.window,.int .i64 J2.fuel,vK,.int .i64 cw,.int .i64 ct,.int .i64 co,.int .i64 ((M.sp:Nat):Int),.int .i64 M.att,.int .i64 ((AA dg J2 M.sp).2),.pointer (some ⟨cb,0,none⟩),vw] 164,blk cb [.int .u32 1,.int .i32 0,.int .u32 0,.int .u32 1,fv,.string (Bd (AA dg J2 M.sp).1)] 234,Y (Ak Ag) vS J2.us,Y Af vM J2.map,Y Af vC J2.comb,Y Af vR J2.red,Y (Ai .i64) vK J2.marks,Y CK vw (ws.map Prod.fst),Bb (CI 239) ws]) fv H1
 replace H1:=Hd.exI (A:=fun cb:Nat=>ex fun fv:Value=>ex fun vw:Value=>ex fun ws:List (Nat×CU)=>CN [CX ((BJ J2 J)∧(ws.map Prod.snd=M.ws)),blk b [vS,.int .i64 J2.parts,vM,vC,vR,.int .i64 J2.chunk,.int .i64 J2.window,.int .i64 J2.fuel,vK,.int .i64 cw,.int .i64 ct,.int .i64 co,.int .i64 ((M.sp:Nat):Int),.int .i64 M.att,.int .i64 ((AA dg J2 M.sp).2),.pointer (some ⟨cb,0,none⟩),vw] 164,blk cb [.int .u32 1,.int .i32 0,.int .u32 0,.int .u32 1,fv,.string (Bd (AA dg J2 M.sp).1)] 234,Y (Ak Ag) vS J2.us,Y Af vM J2.map,Y Af vC J2.comb,Y Af vR J2.red,Y (Ai .i64) vK J2.marks,Y CK vw (ws.map Prod.fst),Bb (CI 239) ws]) cb H1
 replace H1:=Hd.exI (A:=fun co:Int=>ex fun cb:Nat=>ex fun fv:Value=>ex fun vw:Value=>ex fun ws:List (Nat×CU)=>CN [CX ((BJ J2 J)∧(ws.map Prod.snd=M.ws)),blk b [vS,.int .i64 J2.parts,vM,vC,vR,.int .i64 J2.chunk,.int .i64 J2.window,.int .i64 J2.fuel,vK,.int .i64 cw,.int .i64 ct,.int .i64 co,.int .i64 ((M.sp:Nat):Int),.int .i64 M.att,.int .i64 ((AA dg J2 M.sp).2),.pointer (some ⟨cb,0,none⟩),vw] 164,blk cb [.int .u32 1,.int .i32 0,.int .u32 0,.int .u32 1,fv,.string (Bd (AA dg J2 M.sp).1)] 234,Y (Ak Ag) vS J2.us,Y Af vM J2.map,Y Af vC J2.comb,Y Af vR J2.red,Y (Ai .i64) vK J2.marks,Y CK vw (ws.map Prod.fst),Bb (CI 239) ws]) co H1
 replace H1:=Hd.exI (A:=fun ct:Int=>ex fun co:Int=>ex fun cb:Nat=>ex fun fv:Value=>ex fun vw:Value=>ex fun ws:List (Nat×CU)=>CN [CX ((BJ J2 J)∧(ws.map Prod.snd=M.ws)),blk b [vS,.int .i64 J2.parts,vM,vC,vR,.int .i64 J2.chunk,.int .i64 J2.window,.int .i64 J2.fuel,vK,.int .i64 cw,.int .i64 ct,.int .i64 co,.int .i64 ((M.sp:Nat):Int),.int .i64 M.att,.int .i64 ((AA dg J2 M.sp).2),.pointer (some ⟨cb,0,none⟩),vw] 164,blk cb [.int .u32 1,.int .i32 0,.int .u32 0,.int .u32 1,fv,.string (Bd (AA dg J2 M.sp).1)] 234,Y (Ak Ag) vS J2.us,Y Af vM J2.map,Y Af vC J2.comb,Y Af vR J2.red,Y (Ai .i64) vK J2.marks,Y CK vw (ws.map Prod.fst),Bb (CI 239) ws]) ct H1
 replace H1:=Hd.exI (A:=fun cw:Int=>ex fun ct:Int=>ex fun co:Int=>ex fun cb:Nat=>ex fun fv:Value=>ex fun vw:Value=>ex fun ws:List (Nat×CU)=>CN [CX ((BJ J2 J)∧(ws.map Prod.snd=M.ws)),blk b [vS,.int .i64 J2.parts,vM,vC,vR,.int .i64 J2.chunk,.int .i64 J2.window,.int .i64 J2.fuel,vK,.int .i64 cw,.int .i64 ct,.int .i64 co,.int .i64 ((M.sp:Nat):Int),.int .i64 M.att,.int .i64 ((AA dg J2 M.sp).2),.pointer (some ⟨cb,0,none⟩),vw] 164,blk cb [.int .u32 1,.int .i32 0,.int .u32 0,.int .u32 1,fv,.string (Bd (AA dg J2 M.sp).1)] 234,Y (Ak Ag) vS J2.us,Y Af vM J2.map,Y Af vC J2.comb,Y Af vR J2.red,Y (Ai .i64) vK J2.marks,Y CK vw (ws.map Prod.fst),Bb (CI 239) ws]) cw H1
 replace H1:=Hd.exI (A:=fun J2:AG=>ex fun cw:Int=>ex fun ct:Int=>ex fun co:Int=>ex fun cb:Nat=>ex fun fv:Value=>ex fun vw:Value=>ex fun ws:List (Nat×CU)=>CN [CX ((BJ J2 J)∧(ws.map Prod.snd=M.ws)),blk b [vS,.int .i64 J2.parts,vM,vC,vR,.int .i64 J2.chunk,.int .i64 J2.window,.int .i64 J2.fuel,vK,.int .i64 cw,.int .i64 ct,.int .i64 co,.int .i64 ((M.sp:Nat):Int),.int .i64 M.att,.int .i64 ((AA dg J2 M.sp).2),.pointer (some ⟨cb,0,none⟩),vw] 164,blk cb [.int .u32 1,.int .i32 0,.int .u32 0,.int .u32 1,fv,.string (Bd (AA dg J2 M.sp).1)] 234,Y (Ak Ag) vS J2.us,Y Af vM J2.map,Y Af vC J2.comb,Y Af vR J2.red,Y (Ai .i64) vK J2.marks,Y CK vw (ws.map Prod.fst),Bb (CI 239) ws]) J2 H1
 replace H1:=Hd.exI (A:=fun vK:Value=>ex fun J2:AG=>ex fun cw:Int=>ex fun ct:Int=>ex fun co:Int=>ex fun cb:Nat=>ex fun fv:Value=>ex fun vw:Value=>ex fun ws:List (Nat×CU)=>CN [CX ((BJ J2 J)∧(ws.map Prod.snd=M.ws)),blk b [vS,.int .i64 J2.parts,vM,vC,vR,.int .i64 J2.chunk,.int .i64 J2.window,.int .i64 J2.fuel,vK,.int .i64 cw,.int .i64 ct,.int .i64 co,.int .i64 ((M.sp:Nat):Int),.int .i64 M.att,.int .i64 ((AA dg J2 M.sp).2),.pointer (some ⟨cb,0,none⟩),vw] 164,blk cb [.int .u32 1,.int .i32 0,.int .u32 0,.int .u32 1,fv,.string (Bd (AA dg J2 M.sp).1)] 234,Y (Ak Ag) vS J2.us,Y Af vM J2.map,Y Af vC J2.comb,Y Af vR J2.red,Y (Ai .i64) vK J2.marks,Y CK vw (ws.map Prod.fst),Bb (CI 239) ws]) vK H1
 replace H1:=Hd.exI (A:=fun vR:Value=>ex fun vK:Value=>ex fun J2:AG=>ex fun cw:Int=>ex fun ct:Int=>ex fun co:Int=>ex fun cb:Nat=>ex fun fv:Value=>ex fun vw:Value=>ex fun ws:List (Nat×CU)=>CN [CX ((BJ J2 J)∧(ws.map Prod.snd=M.ws)),blk b [vS,.int .i64 J2.parts,vM,vC,vR,.int .i64 J2.chunk,.int .i64 J2.window,.int .i64 J2.fuel,vK,.int .i64 cw,.int .i64 ct,.int .i64 co,.int .i64 ((M.sp:Nat):Int),.int .i64 M.att,.int .i64 ((AA dg J2 M.sp).2),.pointer (some ⟨cb,0,none⟩),vw] 164,blk cb [.int .u32 1,.int .i32 0,.int .u32 0,.int .u32 1,fv,.string (Bd (AA dg J2 M.sp).1)] 234,Y (Ak Ag) vS J2.us,Y Af vM J2.map,Y Af vC J2.comb,Y Af vR J2.red,Y (Ai .i64) vK J2.marks,Y CK vw (ws.map Prod.fst),Bb (CI 239) ws]) vR H1
 replace H1:=Hd.exI (A:=fun vC:Value=>ex fun vR:Value=>ex fun vK:Value=>ex fun J2:AG=>ex fun cw:Int=>ex fun ct:Int=>ex fun co:Int=>ex fun cb:Nat=>ex fun fv:Value=>ex fun vw:Value=>ex fun ws:List (Nat×CU)=>CN [CX ((BJ J2 J)∧(ws.map Prod.snd=M.ws)),blk b [vS,.int .i64 J2.parts,vM,vC,vR,.int .i64 J2.chunk,.int .i64 J2.window,.int .i64 J2.fuel,vK,.int .i64 cw,.int .i64 ct,.int .i64 co,.int .i64 ((M.sp:Nat):Int),.int .i64 M.att,.int .i64 ((AA dg J2 M.sp).2),.pointer (some ⟨cb,0,none⟩),vw] 164,blk cb [.int .u32 1,.int .i32 0,.int .u32 0,.int .u32 1,fv,.string (Bd (AA dg J2 M.sp).1)] 234,Y (Ak Ag) vS J2.us,Y Af vM J2.map,Y Af vC J2.comb,Y Af vR J2.red,Y (Ai .i64) vK J2.marks,Y CK vw (ws.map Prod.fst),Bb (CI 239) ws]) vC H1
 replace H1:=Hd.exI (A:=fun vM:Value=>ex fun vC:Value=>ex fun vR:Value=>ex fun vK:Value=>ex fun J2:AG=>ex fun cw:Int=>ex fun ct:Int=>ex fun co:Int=>ex fun cb:Nat=>ex fun fv:Value=>ex fun vw:Value=>ex fun ws:List (Nat×CU)=>CN [CX ((BJ J2 J)∧(ws.map Prod.snd=M.ws)),blk b [vS,.int .i64 J2.parts,vM,vC,vR,.int .i64 J2.chunk,.int .i64 J2.window,.int .i64 J2.fuel,vK,.int .i64 cw,.int .i64 ct,.int .i64 co,.int .i64 ((M.sp:Nat):Int),.int .i64 M.att,.int .i64 ((AA dg J2 M.sp).2),.pointer (some ⟨cb,0,none⟩),vw] 164,blk cb [.int .u32 1,.int .i32 0,.int .u32 0,.int .u32 1,fv,.string (Bd (AA dg J2 M.sp).1)] 234,Y (Ak Ag) vS J2.us,Y Af vM J2.map,Y Af vC J2.comb,Y Af vR J2.red,Y (Ai .i64) vK J2.marks,Y CK vw (ws.map Prod.fst),Bb (CI 239) ws]) vM H1
 replace H1:=Hd.exI (A:=fun vS:Value=>ex fun vM:Value=>ex fun vC:Value=>ex fun vR:Value=>ex fun vK:Value=>ex fun J2:AG=>ex fun cw:Int=>ex fun ct:Int=>ex fun co:Int=>ex fun cb:Nat=>ex fun fv:Value=>ex fun vw:Value=>ex fun ws:List (Nat×CU)=>CN [CX ((BJ J2 J)∧(ws.map Prod.snd=M.ws)),blk b [vS,.int .i64 J2.parts,vM,vC,vR,.int .i64 J2.chunk,.int .i64 J2.window,.int .i64 J2.fuel,vK,.int .i64 cw,.int .i64 ct,.int .i64 co,.int .i64 ((M.sp:Nat):Int),.int .i64 M.att,.int .i64 ((AA dg J2 M.sp).2),.pointer (some ⟨cb,0,none⟩),vw] 164,blk cb [.int .u32 1,.int .i32 0,.int .u32 0,.int .u32 1,fv,.string (Bd (AA dg J2 M.sp).1)] 234,Y (Ak Ag) vS J2.us,Y Af vM J2.map,Y Af vC J2.comb,Y Af vR J2.red,Y (Ai .i64) vK J2.marks,Y CK vw (ws.map Prod.fst),Bb (CI 239) ws]) vS H1
 exact H1
theorem VX (vS:Value) (vM:Value) (vC:Value) (vR:Value) (vK:Value) (C:Cf) (s:Nat) (att:Int) (hC:Ee C) (hO:B6 C.J) (hgo:s<C.J.us.length∧1≤att∧att≤C.t):
    Cn Tryz.prog 27 [.agg #[vS,.int .i64 C.J.parts,vM,vC,vR,.int .i64 C.J.chunk,.int .i64 C.J.window,.int .i64 C.J.fuel,vK,.int .i64 C.w,.int .i64 C.t,.int .i64 C.o],.int .i64 ((s:Nat):Int),.int .i64 att] [] [Aa (Ak Ag) vS C.J.us,Aa Af vM C.J.map,Aa Af vC C.J.comb,Aa Af vR C.J.red,Aa (Ai .i64) vK C.J.marks,gl] (fun v Bs=>∃ b:Nat,v=.tuple #[.pointer (some ⟨b,0,none⟩),.int .i64 0]∧Bs=[EB b C.J (Gx dg C.J s att)]):=by
 intro w0 F0 H
 obtain ⟨A1,c2,rfl,hc3,hm4,hp5⟩:=H.fR 0 rfl
 obtain ⟨A6,c7,rfl,hc8,hm9,hp10⟩:=H.fR 1 rfl
 obtain ⟨A11,c12,rfl,hc13,hm14,hp15⟩:=H.fR 2 rfl
 obtain ⟨A16,c17,rfl,hc18,hm19,hp20⟩:=H.fR 3 rfl
 obtain ⟨A21,c22,rfl,hc23,hm24,hp25⟩:=H.fR 4 rfl
 refine enter Tryz.func27 U U (Nat.le_of_ble_eq_true U) (Ab (Ae (CH U U U U H (fun b26 w H=>(CH U U U U H (fun b27 w H=>(Ah 2 U (Ac (Z ?_)))))))))
 replace H:Hd _ _ _ [blk b27 [.int .i64 ((s:Nat):Int)] 3,blk b26 [.slice A1 C.J.us.length c2,.int .i64 C.J.parts,.slice A6 C.J.map.length c7,.slice A11 C.J.comb.length c12,.slice A16 C.J.red.length c17,.int .i64 C.J.chunk,.int .i64 C.J.window,.int .i64 C.J.fuel,.slice A21 C.J.marks.length c22,.int .i64 C.w,.int .i64 C.t,.int .i64 C.o] 28] [Aa (Ak Ag) (.slice A1 C.J.us.length c2) C.J.us,Aa Af (.slice A6 C.J.map.length c7) C.J.map,Aa Af (.slice A11 C.J.comb.length c12) C.J.comb,Aa Af (.slice A16 C.J.red.length c17) C.J.red,Aa (Ai .i64) (.slice A21 C.J.marks.length c22) C.J.marks,gl]:=H
 refine Ab (Ab (Ae (V U U (Bv (cs:=[.slice A1 C.J.us.length c2,.int .i64 C.J.parts,.slice A6 C.J.map.length c7,.slice A11 C.J.comb.length c12,.slice A16 C.J.red.length c17,.int .i64 C.J.chunk,.int .i64 C.J.window,.int .i64 C.J.fuel,.slice A21 C.J.marks.length c22,.int .i64 C.w,.int .i64 C.t,.int .i64 C.o]) U EX U U (H.cellsI 1 U U)) (sc (L3 (.slice A1 C.J.us.length c2) (.slice A6 C.J.map.length c7) (.slice A11 C.J.comb.length c12) (.slice A16 C.J.red.length c17) (.slice A21 C.J.marks.length c22) C) H (lR 0 U (lR 1 U (lR 2 U (lR 3 U (lR 4 U l0))))) U U (At LO U U) ?_))))
 rintro _ _ w ⟨rfl,rfl⟩ H
 refine V U U (Eg U U) (Ad U ?_)
 refine AQ (d:=16) U (fun h28=>?_) (fun h28=>?_)
 ·first |exact (h28 hC).elim|(exfalso;omega)
 refine V U U (An U AE U (H.cellI 0 U U)) (V U U (Bg U U U) (Ah 2 U ?_))
 refine AQ (d:=20) U (fun h29=>?_) (fun h29=>?_)
 ·first |exact (h29 hC).elim|(exfalso;omega)
 refine V U U (An U AE U (H.cellI 0 U U)) (V U U (Aj U CQ U) (V U U (Aj U DE U) (V U U (An U DI U (H.cellI 1 U U)) (V U U (A0 U DJ U) (V U U (CA U U U) (Ah 2 U ?_))))))
 refine AQ (d:=28) U (fun h30=>?_) (fun h30=>?_)
 ·first |exact (h30 hC).elim|(exfalso;omega)
 refine Ad U (V U U (Bg U U U) (Ah 2 U ?_))
 refine AQ (d:=32) U (fun h31=>?_) (fun h31=>?_)
 ·first |exact (h31 hC).elim|(exfalso;omega)
 refine Ad U (V U U (Aj U J0 U) (V U U (An U AE U (H.cellI 1 U U)) (V U U (Cd U U U) (Ad U (Ac (Z ?_))))))
 replace H:Hd _ _ _ [blk b27 [.int .i64 ((s:Nat):Int)] 3,blk b26 [.slice A1 C.J.us.length c2,.int .i64 C.J.parts,.slice A6 C.J.map.length c7,.slice A11 C.J.comb.length c12,.slice A16 C.J.red.length c17,.int .i64 C.J.chunk,.int .i64 C.J.window,.int .i64 C.J.fuel,.slice A21 C.J.marks.length c22,.int .i64 C.w,.int .i64 C.t,.int .i64 C.o] 28] [Aa (Ak Ag) (.slice A1 C.J.us.length c2) C.J.us,Aa Af (.slice A6 C.J.map.length c7) C.J.map,Aa Af (.slice A11 C.J.comb.length c12) C.J.comb,Aa Af (.slice A16 C.J.red.length c17) C.J.red,Aa (Ai .i64) (.slice A21 C.J.marks.length c22) C.J.marks,gl]:=H
 refine Ay U (fun h32=>?_) (fun h32=>?_)
 ·first |exact (h32 hC).elim|(exfalso;omega)
 refine Av (Z (Ab (Ae (V U U (Bv (cs:=[.slice A1 C.J.us.length c2,.int .i64 C.J.parts,.slice A6 C.J.map.length c7,.slice A11 C.J.comb.length c12,.slice A16 C.J.red.length c17,.int .i64 C.J.chunk,.int .i64 C.J.window,.int .i64 C.J.fuel,.slice A21 C.J.marks.length c22,.int .i64 C.w,.int .i64 C.t,.int .i64 C.o]) U EX U U (H.cellsI 1 U U)) (sc (PQ (.slice A1 C.J.us.length c2) (.slice A6 C.J.map.length c7) (.slice A11 C.J.comb.length c12) (.slice A16 C.J.red.length c17) (.slice A21 C.J.marks.length c22) C (by first |assumption|omega)) H (lR 0 U (lR 1 U (lR 2 U (lR 3 U (lR 4 U l0))))) U U (At Pg U U) ?_)))))
 rintro _ _ w ⟨J33,vS34,vM35,vC36,vR37,vK38,rfl,rfl,hf39⟩ H
 have hsj:=hf39
 have hJ:B6 J33:=hsj.symm.ok hO
 have hs:s<J33.us.length:=by have:=hsj.len;omega
 have hpt:=hJ.parts
 have hwi:=hJ.window1
 have hcl:(BR dg J33 s att).length≤1000:=by rw [NL];split<;>omega
 obtain ⟨A40,c41,rfl,hc42,hm43,hp44⟩:=H.fA 0 rfl
 obtain ⟨A45,c46,rfl,hc47,hm48,hp49⟩:=H.fA 1 rfl
 obtain ⟨A50,c51,rfl,hc52,hm53,hp54⟩:=H.fA 2 rfl
 obtain ⟨A55,c56,rfl,hc57,hm58,hp59⟩:=H.fA 3 rfl
 obtain ⟨A60,c61,rfl,hc62,hm63,hp64⟩:=H.fA 4 rfl
 replace H:=H.p6
 refine Bk U U U EX U U H U (Nat.le_of_ble_eq_true U) (fun u hu=>by simp [Value.cells] at hu;rcases hu with rfl|rfl|rfl|rfl|rfl|rfl|rfl|rfl|rfl|rfl|rfl|rfl<;>rfl) (fun w H=>?_)
 replace H:Hd _ _ _ [blk b26 [.slice A40 J33.us.length c41,.int .i64 J33.parts,.slice A45 J33.map.length c46,.slice A50 J33.comb.length c51,.slice A55 J33.red.length c56,.int .i64 J33.chunk,.int .i64 J33.window,.int .i64 J33.fuel,.slice A60 J33.marks.length c61,.int .i64 C.w,.int .i64 C.t,.int .i64 C.o] 28,Y (Ak Ag) (.slice A40 J33.us.length c41) J33.us,Y Af (.slice A45 J33.map.length c46) J33.map,Y Af (.slice A50 J33.comb.length c51) J33.comb,Y Af (.slice A55 J33.red.length c56) J33.red,Y (Ai .i64) (.slice A60 J33.marks.length c61) J33.marks,blk b27 [.int .i64 ((s:Nat):Int)] 3] [Aa (Ak Ag) (.slice A1 C.J.us.length c2) C.J.us,Aa Af (.slice A6 C.J.map.length c7) C.J.map,Aa Af (.slice A11 C.J.comb.length c12) C.J.comb,Aa Af (.slice A16 C.J.red.length c17) C.J.red,Aa (Ai .i64) (.slice A21 C.J.marks.length c22) C.J.marks,gl]:=H
 refine Ac (Z (Ab (Ae (V U U (Bv (cs:=[.slice A40 J33.us.length c41,.int .i64 J33.parts,.slice A45 J33.map.length c46,.slice A50 J33.comb.length c51,.slice A55 J33.red.length c56,.int .i64 J33.chunk,.int .i64 J33.window,.int .i64 J33.fuel,.slice A60 J33.marks.length c61,.int .i64 C.w,.int .i64 C.t,.int .i64 C.o]) U EX U U (H.cellsI 0 U U)) (V U U (An U AE U (H.cellI 6 U U)) (Ad U (V U U (CL (parts:=[(0,.tmp 40),(1,.tmp 41),(2,.tmp 42)]) (vs:=[.agg #[.slice A40 J33.us.length c41,.int .i64 J33.parts,.slice A45 J33.map.length c46,.slice A50 J33.comb.length c51,.slice A55 J33.red.length c56,.int .i64 J33.chunk,.int .i64 J33.window,.int .i64 J33.fuel,.slice A60 J33.marks.length c61,.int .i64 C.w,.int .i64 C.t,.int .i64 C.o],.int .i64 ((s:Nat):Int),.int .i64 att]) (cs:=[.slice A40 J33.us.length c41,.int .i64 J33.parts,.slice A45 J33.map.length c46,.slice A50 J33.comb.length c51,.slice A55 J33.red.length c56,.int .i64 J33.chunk,.int .i64 J33.window,.int .i64 J33.fuel,.slice A60 J33.marks.length c61,.int .i64 C.w,.int .i64 C.t,.int .i64 C.o,.int .i64 ((s:Nat):Int),.int .i64 att,.int .i64 0,.pointer none,.slice none 0 0]) U RN U U) ?_)))))))
 refine CH U U U U H (fun b65 w H=>(Dr U U U Z7 H (fun b66 w H=>(Bk U U U HJ U U H U (Nat.le_of_ble_eq_true U) (fun u hu=>by simp [Value.cells] at hu;subst hu;rfl) (fun w H=>?_)))))
 replace H:=H.h2 (A:=blk b66 [.pointer (some ⟨b65,0,none⟩)] 44) (B:=blk b65 [.slice A40 J33.us.length c41,.int .i64 J33.parts,.slice A45 J33.map.length c46,.slice A50 J33.comb.length c51,.slice A55 J33.red.length c56,.int .i64 J33.chunk,.int .i64 J33.window,.int .i64 J33.fuel,.slice A60 J33.marks.length c61,.int .i64 C.w,.int .i64 C.t,.int .i64 C.o,.int .i64 ((s:Nat):Int),.int .i64 att,.int .i64 0,.pointer none,.slice none 0 0] 164)
 refine Ac (Z (Ab ?_))
 replace H:=H.p8.p8.p8.p8.p8.p8.p8.p7
 refine BX (.e 0 (.e 1 (.m 2 (.e 3 (.e 4 (.m 5 .z)))))) (fun w=>∃ Ar,Hd w0 F0 w (blk b66 [.pointer (some ⟨b65,0,none⟩)] 44::blk b26 [.slice A40 J33.us.length c41,.int .i64 J33.parts,.slice A45 J33.map.length c46,.slice A50 J33.comb.length c51,.slice A55 J33.red.length c56,.int .i64 J33.chunk,.int .i64 J33.window,.int .i64 J33.fuel,.slice A60 J33.marks.length c61,.int .i64 C.w,.int .i64 C.t,.int .i64 C.o] 28::Y (Ak Ag) (.slice A40 J33.us.length c41) J33.us::Y Af (.slice A45 J33.map.length c46) J33.map::Y Af (.slice A50 J33.comb.length c51) J33.comb::Y Af (.slice A55 J33.red.length c56) J33.red::Y (Ai .i64) (.slice A60 J33.marks.length c61) J33.marks::blk b27 [.int .i64 ((s:Nat):Int)] 3::Ar) [Aa (Ak Ag) (.slice A1 C.J.us.length c2) C.J.us,Aa Af (.slice A6 C.J.map.length c7) C.J.map,Aa Af (.slice A11 C.J.comb.length c12) C.J.comb,Aa Af (.slice A16 C.J.red.length c17) C.J.red,Aa (Ai .i64) (.slice A21 C.J.marks.length c22) C.J.marks,gl]) mo (by kernel_rfl) (fun w H=>⟨_,H⟩) H (fun w H=>?_)
 refine Ap U U U (fun w ⟨Ar,H⟩=>An U HJ U (H.cellI 0 U U)) (Ap U U U (fun w ⟨Ar,H⟩=>HE (fs:=#[]) (cs:=#[.pointer (some ⟨b26,0,none⟩),.pointer (some ⟨b27,0,none⟩),.pointer (some ⟨b66,0,none⟩)]) U U U) (AL U (sc (VU b26 b27 b66) H l0 U U (At Ph U U) ?_)))
 rintro _ _ w ⟨cb67,rfl,rfl⟩ H
 replace H:=H.h1 (A:=blk cb67 [.int .u32 0,.int .i32 0,.int .u32 0,.int .u32 0,.func (.func 96) #[] #[.pointer (some ⟨b26,0,none⟩),.pointer (some ⟨b27,0,none⟩),.pointer (some ⟨b66,0,none⟩)],.string ⟨#[]⟩] 234)|>.p8|>.p8|>.p8|>.p8|>.p8|>.p8|>.p8|>.p8
 refine AH ⟨_,H⟩ (Ap U U U (fun w ⟨Ar,H⟩=>AI U U) (Ap U U U (fun w ⟨Ar,H⟩=>Aj U JV U) (AL U ?_)))
 replace H:=H.p9
 refine Bk U U U DH U U H U (Nat.le_of_ble_eq_true U) (fun u hu=>by simp [Value.cells] at hu;subst hu;rfl) (fun w H=>?_)
 replace H:=H.h1 (A:=blk b65 [.slice A40 J33.us.length c41,.int .i64 J33.parts,.slice A45 J33.map.length c46,.slice A50 J33.comb.length c51,.slice A55 J33.red.length c56,.int .i64 J33.chunk,.int .i64 J33.window,.int .i64 J33.fuel,.slice A60 J33.marks.length c61,.int .i64 C.w,.int .i64 C.t,.int .i64 C.o,.int .i64 ((s:Nat):Int),.int .i64 att,.int .i64 0,.pointer (some ⟨cb67,0,none⟩),.slice none 0 0] 164)|>.p8|>.p8|>.p8|>.p8|>.p8|>.p8|>.p8|>.p8
 refine AH ⟨_,H⟩ (BL (Z (Ab (Ab (Ae (V U U (An U HJ U (H.cellI 0 U U)) ?_))))))
 replace H:=H.p8.p9
 refine sc (VP b65 b26 b27 b66 cb67 (.slice A40 J33.us.length c41) (.slice A45 J33.map.length c46) (.slice A50 J33.comb.length c51) (.slice A55 J33.red.length c56) (.slice A60 J33.marks.length c61) J33 C.w C.t C.o s att hJ hs) H (lA 1 U (fun _ h=>h) (lA 7 U (fun _ h=>h) (lA 0 U (fun _ h=>h) (lA 2 U BS (lA 3 U BS (lA 4 U BS (lA 5 U BS (lA 6 U BS (lR 5 U l0))))))))) U U (At O9 U U) ?_
 rintro v68 _ w rfl H
 obtain ⟨A69,c70,rfl,hc71,hm72,hp73⟩:=H.fA 0 rfl
 refine V U U (A0 U Ec U) (Ad U (Ac (Z ?_)))
 replace H:Hd _ _ _ [Y (Ai .i64) (.slice A69 ((BR dg J33 s att).length) c70) (BR dg J33 s att),blk cb67 [.int .u32 1,.int .i32 0,.int .u32 0,.int .u32 1,.func (.func 96) #[] #[.pointer (some ⟨b26,0,none⟩),.pointer (some ⟨b27,0,none⟩),.pointer (some ⟨b66,0,none⟩)],.string (Bd (AA dg J33 s).1)] 234,blk b65 [.slice A40 J33.us.length c41,.int .i64 J33.parts,.slice A45 J33.map.length c46,.slice A50 J33.comb.length c51,.slice A55 J33.red.length c56,.int .i64 J33.chunk,.int .i64 J33.window,.int .i64 J33.fuel,.slice A60 J33.marks.length c61,.int .i64 C.w,.int .i64 C.t,.int .i64 C.o,.int .i64 ((s:Nat):Int),.int .i64 att,.int .i64 ((AA dg J33 s).2),.pointer (some ⟨cb67,0,none⟩),.slice none 0 0] 164,blk b66 [.pointer (some ⟨b65,0,none⟩)] 44,blk b26 [.slice A40 J33.us.length c41,.int .i64 J33.parts,.slice A45 J33.map.length c46,.slice A50 J33.comb.length c51,.slice A55 J33.red.length c56,.int .i64 J33.chunk,.int .i64 J33.window,.int .i64 J33.fuel,.slice A60 J33.marks.length c61,.int .i64 C.w,.int .i64 C.t,.int .i64 C.o] 28,Y (Ak Ag) (.slice A40 J33.us.length c41) J33.us,Y Af (.slice A45 J33.map.length c46) J33.map,Y Af (.slice A50 J33.comb.length c51) J33.comb,Y Af (.slice A55 J33.red.length c56) J33.red,Y (Ai .i64) (.slice A60 J33.marks.length c61) J33.marks,blk b27 [.int .i64 ((s:Nat):Int)] 3] [Aa (Ak Ag) (.slice A1 C.J.us.length c2) C.J.us,Aa Af (.slice A6 C.J.map.length c7) C.J.map,Aa Af (.slice A11 C.J.comb.length c12) C.J.comb,Aa Af (.slice A16 C.J.red.length c17) C.J.red,Aa (Ai .i64) (.slice A21 C.J.marks.length c22) C.J.marks,gl]:=H
 refine AU ?_
 replace H:=H.p4.p9.p9.p9.p9.p9.p8.p8.p8.k10.newnil CK
 replace H:=Hd.tellK (ys:=([]:List (Nat×CU)).map Prod.fst) H rfl
 replace H:=Hd.big0 (CI 239) H
 replace H:=H.h2 (A:=Bb (CI 239) ([]:List (Nat×CU))) (B:=Y CK (.slice none 0 0) (([]:List (Nat×CU)).map Prod.fst))
 refine BV (σ:=Nat×Value×List (Nat×CU)) (fun (k,vw,ws)=>[(3,.pointer (some ⟨b26,0,none⟩)),(6,.pointer none),(7,.int .i64 0),(8,.pointer (some ⟨b66,0,none⟩)),(51,.slice A69 ((BR dg J33 s att).length) c70),(52,.int .i64 (((BR dg J33 s att).length:Nat):Int)),(53,.int .i64 ((k:Nat):Int))]) (fun (k,vw,ws) w=>(Hd w0 F0 w [Bb (CI 239) ws,Y CK vw (ws.map Prod.fst),Y (Ai .i64) (.slice A69 ((BR dg J33 s att).length) c70) (BR dg J33 s att),blk cb67 [.int .u32 1,.int .i32 0,.int .u32 0,.int .u32 1,.func (.func 96) #[] #[.pointer (some ⟨b26,0,none⟩),.pointer (some ⟨b27,0,none⟩),.pointer (some ⟨b66,0,none⟩)],.string (Bd (AA dg J33 s).1)] 234,blk b65 [.slice A40 J33.us.length c41,.int .i64 J33.parts,.slice A45 J33.map.length c46,.slice A50 J33.comb.length c51,.slice A55 J33.red.length c56,.int .i64 J33.chunk,.int .i64 J33.window,.int .i64 J33.fuel,.slice A60 J33.marks.length c61,.int .i64 C.w,.int .i64 C.t,.int .i64 C.o,.int .i64 ((s:Nat):Int),.int .i64 att,.int .i64 ((AA dg J33 s).2),.pointer (some ⟨cb67,0,none⟩),vw] 164,Y (Ak Ag) (.slice A40 J33.us.length c41) J33.us,Y Af (.slice A45 J33.map.length c46) J33.map,Y Af (.slice A50 J33.comb.length c51) J33.comb,Y Af (.slice A55 J33.red.length c56) J33.red,Y (Ai .i64) (.slice A60 J33.marks.length c61) J33.marks,blk b26 [.slice A40 J33.us.length c41,.int .i64 J33.parts,.slice A45 J33.map.length c46,.slice A50 J33.comb.length c51,.slice A55 J33.red.length c56,.int .i64 J33.chunk,.int .i64 J33.window,.int .i64 J33.fuel,.slice A60 J33.marks.length c61,.int .i64 C.w,.int .i64 C.t,.int .i64 C.o] 28,blk b66 [.pointer (some ⟨b65,0,none⟩)] 44] [Aa (Ak Ag) (.slice A1 C.J.us.length c2) C.J.us,Aa Af (.slice A6 C.J.map.length c7) C.J.map,Aa Af (.slice A11 C.J.comb.length c12) C.J.comb,Aa Af (.slice A16 C.J.red.length c17) C.J.red,Aa (Ai .i64) (.slice A21 C.J.marks.length c22) C.J.marks,gl])∧(k≤(BR dg J33 s att).length)∧(ws.map Prod.snd=((BR dg J33 s att).take k).map (Rq J33))) (fun (k,vw,ws)=>(BR dg J33 s att).length - k) (0,.slice none 0 0,[]) ⟨rfl,rfl,rfl,rfl,rfl,rfl,rfl,trivial⟩ ⟨H,Nat.zero_le _,rfl⟩ ?_
 rintro ⟨k,vw,ws⟩ w ⟨H,hk,hws⟩
 have hwl:=congrArg List.length hws
 rw [List.length_map,List.length_map,List.length_take] at hwl
 have hwf:(ws.map Prod.fst).length=ws.length:=List.length_map ..
 refine Ab (Ae (V U U (Bg U U U) (Ac (Z (Ab ?_)))))
 refine Ay U (fun h74=>?_) (fun h74=>?_)
 ·refine Av (Z (Ab (AU (Ab (Ae ?_)))))
  obtain ⟨x75,hx76⟩:∃ z9,(BR dg J33 s att)[k]?=some z9:=⟨_,List.getElem?_eq_getElem (show k<(BR dg J33 s att).length by omega)⟩
  have th77:=H.thA 2 rfl hx76
  refine V U U (Bf (p:=AX A69+k*1) U DP U U (by omega) (by omega) th77 U) (V U U (An U AE U (H.elA 2 U hx76 (q:=0) U U)) (Ad U (Ac (Z (Ab ?_)))))
  have hci:=SJ (B7 hx76)
  refine Ae (Ad U (V U U (Aj U CQ U) (V U U (Aj U Og U) (V U U (An U AE U (H.cellI 10 U U)) (sc (ZZ x75 J33.window (by omega)) H l0 U U (At Vy U U) ?_)))))
  rintro _ _ w ⟨b78,rfl,rfl⟩ H
  replace H:=H.h6 (A:=blk b78 [.int .i64 x75,.int .i64 J33.window,.int .i64 0,.int .i64 0] 239) (B:=Bb (CI 239) ws) (C:=Y CK vw (ws.map Prod.fst)) (F:=blk b65 [.slice A40 J33.us.length c41,.int .i64 J33.parts,.slice A45 J33.map.length c46,.slice A50 J33.comb.length c51,.slice A55 J33.red.length c56,.int .i64 J33.chunk,.int .i64 J33.window,.int .i64 J33.fuel,.slice A60 J33.marks.length c61,.int .i64 C.w,.int .i64 C.t,.int .i64 C.o,.int .i64 ((s:Nat):Int),.int .i64 att,.int .i64 ((AA dg J33 s).2),.pointer (some ⟨cb67,0,none⟩),vw] 164)
  refine Ah 5 U (Ac (Z ?_))
  replace H:=H.pick 12 rfl|>.pick 12 rfl|>.pick 12 rfl|>.pick 12 rfl|>.pick 12 rfl|>.pick 12 rfl|>.pick 12 rfl|>.pick 11 rfl|>.pick 11 rfl|>.pick 10 rfl|>.pick 10 rfl
  refine BX (.e 0 (.e 1 (.e 2 (.e 3 (.e 5 (.b 4 6 (.m 6 (.m 7 (.e 8 (.e 9 (.m 10 .z))))) (.m 4 (.m 7 (.e 8 (.e 9 (.m 10 .z))))))))))) (fun w=>∃ Ar,Hd w0 F0 w (blk b78 [.int .i64 x75,.int .i64 J33.window,.int .i64 0,.int .i64 0] 239::Bb (CI 239) ws::Y (Ai .i64) (.slice A69 ((BR dg J33 s att).length) c70) (BR dg J33 s att)::blk cb67 [.int .u32 1,.int .i32 0,.int .u32 0,.int .u32 1,.func (.func 96) #[] #[.pointer (some ⟨b26,0,none⟩),.pointer (some ⟨b27,0,none⟩),.pointer (some ⟨b66,0,none⟩)],.string (Bd (AA dg J33 s).1)] 234::Y (Ak Ag) (.slice A40 J33.us.length c41) J33.us::Y Af (.slice A45 J33.map.length c46) J33.map::Y Af (.slice A50 J33.comb.length c51) J33.comb::Y Af (.slice A55 J33.red.length c56) J33.red::Y (Ai .i64) (.slice A60 J33.marks.length c61) J33.marks::blk b26 [.slice A40 J33.us.length c41,.int .i64 J33.parts,.slice A45 J33.map.length c46,.slice A50 J33.comb.length c51,.slice A55 J33.red.length c56,.int .i64 J33.chunk,.int .i64 J33.window,.int .i64 J33.fuel,.slice A60 J33.marks.length c61,.int .i64 C.w,.int .i64 C.t,.int .i64 C.o] 28::blk b66 [.pointer (some ⟨b65,0,none⟩)] 44::Ar) [Aa (Ak Ag) (.slice A1 C.J.us.length c2) C.J.us,Aa Af (.slice A6 C.J.map.length c7) C.J.map,Aa Af (.slice A11 C.J.comb.length c12) C.J.comb,Aa Af (.slice A16 C.J.red.length c17) C.J.red,Aa (Ai .i64) (.slice A21 C.J.marks.length c22) C.J.marks,gl]) mo (by kernel_rfl) (fun w H=>⟨_,H⟩) H (fun w H=>?_)
  refine Ap U U U (fun w ⟨Ar,H⟩=>An U HJ U (H.cellI 10 U U)) (Ap U U U (fun w ⟨Ar,H⟩=>An U HJ U (H.cellI 10 U U)) (Ap U U U (fun w ⟨Ar,H⟩=>AI U U) (Ap U U U (fun w ⟨Ar,H⟩=>Aj U Lj U) (Ax U ?_))))
  refine Hv U U ?_ ?_
  ·refine V U U (An U KA U (H.cellI 12 U U)) (AH ⟨_,H⟩ (AL U (BT (parts:=[(0,.tmp 70)]) (vs:=[.pointer (some ⟨b78,0,none⟩)]) (cs:=[.pointer (some ⟨b78,0,none⟩)]) U U U Kw KH U (by decide) (by decide) U U H (fun b79 w H=>?_))))
   replace H:=H.h1 (A:=blk b79 [.pointer (some ⟨b78,0,none⟩)] 168)|>.pick 11 rfl|>.pick 11 rfl|>.pick 11 rfl|>.pick 11 rfl|>.pick 11 rfl|>.pick 11 rfl|>.pick 11 rfl|>.pick 11 rfl|>.pick 11 rfl|>.pick 11 rfl|>.pick 11 rfl
   refine AH ⟨_,H⟩ (AL U ?_)
   replace H:=H.pick 12 rfl
   refine CC (xs:=ws.map Prod.fst) (ys:=[b78]) U U U Kw KH U (by decide) U U H (by first |omega|(simp only [List.length_append,List.length_cons,List.length_nil];omega)) (fun F hA hR=>Ci (hA _ (List.mem_of_getElem? (i:=11) U)) U (by decide) (AY.flat_eq.2 U)) (fun v80 w H=>?_)
   replace H:=H.h1 (A:=Y CK v80 ((ws.map Prod.fst)++[b78]))|>.pick 11 rfl|>.pick 11 rfl|>.pick 11 rfl|>.pick 11 rfl|>.pick 11 rfl|>.pick 11 rfl|>.pick 11 rfl|>.pick 11 rfl|>.pick 11 rfl|>.pick 11 rfl|>.pick 11 rfl
   refine AH ⟨_,H⟩ (Ap U U U (fun w ⟨Ar,H⟩=>AI U U) (Ap U U U (fun w ⟨Ar,H⟩=>Aj U Lj U) (AL U ?_)))
   obtain ⟨A81,c82,rfl,hc83,hm84,hp85⟩:=H.fA 11 rfl
   replace H:=H.pick 13 rfl
   refine Bk U U U KA U U H U (Nat.le_of_ble_eq_true U) (fun u hu=>by simp [Value.cells] at hu;subst hu;rfl) (fun w H=>?_)
   replace H:Hd _ _ _ [blk b65 [.slice A40 J33.us.length c41,.int .i64 J33.parts,.slice A45 J33.map.length c46,.slice A50 J33.comb.length c51,.slice A55 J33.red.length c56,.int .i64 J33.chunk,.int .i64 J33.window,.int .i64 J33.fuel,.slice A60 J33.marks.length c61,.int .i64 C.w,.int .i64 C.t,.int .i64 C.o,.int .i64 ((s:Nat):Int),.int .i64 att,.int .i64 ((AA dg J33 s).2),.pointer (some ⟨cb67,0,none⟩),.slice A81 (((ws.map Prod.fst)++[b78]).length) c82] 164,blk b78 [.int .i64 x75,.int .i64 J33.window,.int .i64 0,.int .i64 0] 239,Bb (CI 239) ws,Y (Ai .i64) (.slice A69 ((BR dg J33 s att).length) c70) (BR dg J33 s att),blk cb67 [.int .u32 1,.int .i32 0,.int .u32 0,.int .u32 1,.func (.func 96) #[] #[.pointer (some ⟨b26,0,none⟩),.pointer (some ⟨b27,0,none⟩),.pointer (some ⟨b66,0,none⟩)],.string (Bd (AA dg J33 s).1)] 234,Y (Ak Ag) (.slice A40 J33.us.length c41) J33.us,Y Af (.slice A45 J33.map.length c46) J33.map,Y Af (.slice A50 J33.comb.length c51) J33.comb,Y Af (.slice A55 J33.red.length c56) J33.red,Y (Ai .i64) (.slice A60 J33.marks.length c61) J33.marks,blk b26 [.slice A40 J33.us.length c41,.int .i64 J33.parts,.slice A45 J33.map.length c46,.slice A50 J33.comb.length c51,.slice A55 J33.red.length c56,.int .i64 J33.chunk,.int .i64 J33.window,.int .i64 J33.fuel,.slice A60 J33.marks.length c61,.int .i64 C.w,.int .i64 C.t,.int .i64 C.o] 28,blk b66 [.pointer (some ⟨b65,0,none⟩)] 44,Y CK (.slice A81 (((ws.map Prod.fst)++[b78]).length) c82) ((ws.map Prod.fst)++[b78]),blk b79 [.pointer (some ⟨b78,0,none⟩)] 168] [Aa (Ak Ag) (.slice A1 C.J.us.length c2) C.J.us,Aa Af (.slice A6 C.J.map.length c7) C.J.map,Aa Af (.slice A11 C.J.comb.length c12) C.J.comb,Aa Af (.slice A16 C.J.red.length c17) C.J.red,Aa (Ai .i64) (.slice A21 C.J.marks.length c22) C.J.marks,gl]:=H
   replace H:=H.pick 11 rfl|>.pick 11 rfl|>.pick 11 rfl|>.pick 11 rfl|>.pick 11 rfl|>.pick 11 rfl|>.pick 11 rfl|>.pick 11 rfl|>.pick 11 rfl|>.pick 11 rfl|>.pick 11 rfl
   refine AH ⟨_,H⟩ (BL (A8 (Z (Ae (V U U (A9 (z:=((k+1:Nat):Int)) U U U (by rw [AF (by omega) (by omega)];omega)) (Ad U (Ac ?_)))))))
   replace H:=H.pick 11 rfl|>.p4|>.p4|>.pick 12 rfl|>.p5|>.p5|>.keep 13
   replace H:=Hd.bigN (f:=CI 239) (x:=(b78,(⟨x75,J33.window,0,0⟩:CU))) H
   replace H:Hd w0 F0 w [Bb (CI 239) (ws++[(b78,(⟨x75,J33.window,0,0⟩:CU))]),Y CK (.slice A81 (((ws.map Prod.fst)++[b78]).length) c82) ((ws++[(b78,(⟨x75,J33.window,0,0⟩:CU))]).map Prod.fst),Y (Ai .i64) (.slice A69 ((BR dg J33 s att).length) c70) (BR dg J33 s att),blk cb67 [.int .u32 1,.int .i32 0,.int .u32 0,.int .u32 1,.func (.func 96) #[] #[.pointer (some ⟨b26,0,none⟩),.pointer (some ⟨b27,0,none⟩),.pointer (some ⟨b66,0,none⟩)],.string (Bd (AA dg J33 s).1)] 234,blk b65 [.slice A40 J33.us.length c41,.int .i64 J33.parts,.slice A45 J33.map.length c46,.slice A50 J33.comb.length c51,.slice A55 J33.red.length c56,.int .i64 J33.chunk,.int .i64 J33.window,.int .i64 J33.fuel,.slice A60 J33.marks.length c61,.int .i64 C.w,.int .i64 C.t,.int .i64 C.o,.int .i64 ((s:Nat):Int),.int .i64 att,.int .i64 ((AA dg J33 s).2),.pointer (some ⟨cb67,0,none⟩),.slice A81 (((ws.map Prod.fst)++[b78]).length) c82] 164,Y (Ak Ag) (.slice A40 J33.us.length c41) J33.us,Y Af (.slice A45 J33.map.length c46) J33.map,Y Af (.slice A50 J33.comb.length c51) J33.comb,Y Af (.slice A55 J33.red.length c56) J33.red,Y (Ai .i64) (.slice A60 J33.marks.length c61) J33.marks,blk b26 [.slice A40 J33.us.length c41,.int .i64 J33.parts,.slice A45 J33.map.length c46,.slice A50 J33.comb.length c51,.slice A55 J33.red.length c56,.int .i64 J33.chunk,.int .i64 J33.window,.int .i64 J33.fuel,.slice A60 J33.marks.length c61,.int .i64 C.w,.int .i64 C.t,.int .i64 C.o] 28,blk b66 [.pointer (some ⟨b65,0,none⟩)] 44] [Aa (Ak Ag) (.slice A1 C.J.us.length c2) C.J.us,Aa Af (.slice A6 C.J.map.length c7) C.J.map,Aa Af (.slice A11 C.J.comb.length c12) C.J.comb,Aa Af (.slice A16 C.J.red.length c17) C.J.red,Aa (Ai .i64) (.slice A21 C.J.marks.length c22) C.J.marks,gl]:=by rw [List.map_append];exact H
   exact Bm (s:=(k,undef,ws)) (k+1,.slice A81 (((ws.map Prod.fst)++[b78]).length) c82,ws++[(b78,(⟨x75,J33.window,0,0⟩:CU))]) ⟨rfl,rfl,rfl,rfl,rfl,rfl,rfl,trivial⟩ ⟨H,by (try dsimp only);omega,by (try dsimp only);rw [List.map_append,hws,Fm hx76,List.map_append];rfl⟩ (by (try dsimp only);omega)
  refine BT (parts:=[(0,.tmp 70)]) (vs:=[.pointer (some ⟨b78,0,none⟩)]) (cs:=[.pointer (some ⟨b78,0,none⟩)]) U U U Kw KH U (by decide) (by decide) U U H (fun b86 w H=>?_)
  replace H:=H.h1 (A:=blk b86 [.pointer (some ⟨b78,0,none⟩)] 168)|>.pick 11 rfl|>.pick 11 rfl|>.pick 11 rfl|>.pick 11 rfl|>.pick 11 rfl|>.pick 11 rfl|>.pick 11 rfl|>.pick 11 rfl|>.pick 11 rfl|>.pick 11 rfl|>.pick 11 rfl
  refine AH ⟨_,H⟩ (AL U (V U U (An U KA U (H.cellI 13 U U)) (AH ⟨_,H⟩ (AL U ?_))))
  replace H:=H.pick 12 rfl
  refine CC (xs:=ws.map Prod.fst) (ys:=[b78]) U U U Kw KH U (by decide) U U H (by first |omega|(simp only [List.length_append,List.length_cons,List.length_nil];omega)) (fun F hA hR=>Ci (hA _ (List.mem_of_getElem? (i:=11) U)) U (by decide) (AY.flat_eq.2 U)) (fun v87 w H=>?_)
  replace H:=H.h1 (A:=Y CK v87 ((ws.map Prod.fst)++[b78]))|>.pick 11 rfl|>.pick 11 rfl|>.pick 11 rfl|>.pick 11 rfl|>.pick 11 rfl|>.pick 11 rfl|>.pick 11 rfl|>.pick 11 rfl|>.pick 11 rfl|>.pick 11 rfl|>.pick 11 rfl
  refine AH ⟨_,H⟩ (Ap U U U (fun w ⟨Ar,H⟩=>AI U U) (Ap U U U (fun w ⟨Ar,H⟩=>Aj U Lj U) (AL U ?_)))
  obtain ⟨A88,c89,rfl,hc90,hm91,hp92⟩:=H.fA 11 rfl
  replace H:=H.pick 13 rfl
  refine Bk U U U KA U U H U (Nat.le_of_ble_eq_true U) (fun u hu=>by simp [Value.cells] at hu;subst hu;rfl) (fun w H=>?_)
  replace H:Hd _ _ _ [blk b65 [.slice A40 J33.us.length c41,.int .i64 J33.parts,.slice A45 J33.map.length c46,.slice A50 J33.comb.length c51,.slice A55 J33.red.length c56,.int .i64 J33.chunk,.int .i64 J33.window,.int .i64 J33.fuel,.slice A60 J33.marks.length c61,.int .i64 C.w,.int .i64 C.t,.int .i64 C.o,.int .i64 ((s:Nat):Int),.int .i64 att,.int .i64 ((AA dg J33 s).2),.pointer (some ⟨cb67,0,none⟩),.slice A88 (((ws.map Prod.fst)++[b78]).length) c89] 164,blk b78 [.int .i64 x75,.int .i64 J33.window,.int .i64 0,.int .i64 0] 239,Bb (CI 239) ws,Y (Ai .i64) (.slice A69 ((BR dg J33 s att).length) c70) (BR dg J33 s att),blk cb67 [.int .u32 1,.int .i32 0,.int .u32 0,.int .u32 1,.func (.func 96) #[] #[.pointer (some ⟨b26,0,none⟩),.pointer (some ⟨b27,0,none⟩),.pointer (some ⟨b66,0,none⟩)],.string (Bd (AA dg J33 s).1)] 234,Y (Ak Ag) (.slice A40 J33.us.length c41) J33.us,Y Af (.slice A45 J33.map.length c46) J33.map,Y Af (.slice A50 J33.comb.length c51) J33.comb,Y Af (.slice A55 J33.red.length c56) J33.red,Y (Ai .i64) (.slice A60 J33.marks.length c61) J33.marks,blk b26 [.slice A40 J33.us.length c41,.int .i64 J33.parts,.slice A45 J33.map.length c46,.slice A50 J33.comb.length c51,.slice A55 J33.red.length c56,.int .i64 J33.chunk,.int .i64 J33.window,.int .i64 J33.fuel,.slice A60 J33.marks.length c61,.int .i64 C.w,.int .i64 C.t,.int .i64 C.o] 28,blk b66 [.pointer (some ⟨b65,0,none⟩)] 44,Y CK (.slice A88 (((ws.map Prod.fst)++[b78]).length) c89) ((ws.map Prod.fst)++[b78]),blk b86 [.pointer (some ⟨b78,0,none⟩)] 168] [Aa (Ak Ag) (.slice A1 C.J.us.length c2) C.J.us,Aa Af (.slice A6 C.J.map.length c7) C.J.map,Aa Af (.slice A11 C.J.comb.length c12) C.J.comb,Aa Af (.slice A16 C.J.red.length c17) C.J.red,Aa (Ai .i64) (.slice A21 C.J.marks.length c22) C.J.marks,gl]:=H
  replace H:=H.pick 11 rfl|>.pick 11 rfl|>.pick 11 rfl|>.pick 11 rfl|>.pick 11 rfl|>.pick 11 rfl|>.pick 11 rfl|>.pick 11 rfl|>.pick 11 rfl|>.pick 11 rfl|>.pick 11 rfl
  refine AH ⟨_,H⟩ (BL (A8 (Z (Ae (V U U (A9 (z:=((k+1:Nat):Int)) U U U (by rw [AF (by omega) (by omega)];omega)) (Ad U (Ac ?_)))))))
  replace H:=H.pick 11 rfl|>.p4|>.p4|>.pick 12 rfl|>.p5|>.p5|>.keep 13
  replace H:=Hd.bigN (f:=CI 239) (x:=(b78,(⟨x75,J33.window,0,0⟩:CU))) H
  replace H:Hd w0 F0 w [Bb (CI 239) (ws++[(b78,(⟨x75,J33.window,0,0⟩:CU))]),Y CK (.slice A88 (((ws.map Prod.fst)++[b78]).length) c89) ((ws++[(b78,(⟨x75,J33.window,0,0⟩:CU))]).map Prod.fst),Y (Ai .i64) (.slice A69 ((BR dg J33 s att).length) c70) (BR dg J33 s att),blk cb67 [.int .u32 1,.int .i32 0,.int .u32 0,.int .u32 1,.func (.func 96) #[] #[.pointer (some ⟨b26,0,none⟩),.pointer (some ⟨b27,0,none⟩),.pointer (some ⟨b66,0,none⟩)],.string (Bd (AA dg J33 s).1)] 234,blk b65 [.slice A40 J33.us.length c41,.int .i64 J33.parts,.slice A45 J33.map.length c46,.slice A50 J33.comb.length c51,.slice A55 J33.red.length c56,.int .i64 J33.chunk,.int .i64 J33.window,.int .i64 J33.fuel,.slice A60 J33.marks.length c61,.int .i64 C.w,.int .i64 C.t,.int .i64 C.o,.int .i64 ((s:Nat):Int),.int .i64 att,.int .i64 ((AA dg J33 s).2),.pointer (some ⟨cb67,0,none⟩),.slice A88 (((ws.map Prod.fst)++[b78]).length) c89] 164,Y (Ak Ag) (.slice A40 J33.us.length c41) J33.us,Y Af (.slice A45 J33.map.length c46) J33.map,Y Af (.slice A50 J33.comb.length c51) J33.comb,Y Af (.slice A55 J33.red.length c56) J33.red,Y (Ai .i64) (.slice A60 J33.marks.length c61) J33.marks,blk b26 [.slice A40 J33.us.length c41,.int .i64 J33.parts,.slice A45 J33.map.length c46,.slice A50 J33.comb.length c51,.slice A55 J33.red.length c56,.int .i64 J33.chunk,.int .i64 J33.window,.int .i64 J33.fuel,.slice A60 J33.marks.length c61,.int .i64 C.w,.int .i64 C.t,.int .i64 C.o] 28,blk b66 [.pointer (some ⟨b65,0,none⟩)] 44] [Aa (Ak Ag) (.slice A1 C.J.us.length c2) C.J.us,Aa Af (.slice A6 C.J.map.length c7) C.J.map,Aa Af (.slice A11 C.J.comb.length c12) C.J.comb,Aa Af (.slice A16 C.J.red.length c17) C.J.red,Aa (Ai .i64) (.slice A21 C.J.marks.length c22) C.J.marks,gl]:=by rw [List.map_append];exact H
  exact Bm (s:=(k,undef,ws)) (k+1,.slice A88 (((ws.map Prod.fst)++[b78]).length) c89,ws++[(b78,(⟨x75,J33.window,0,0⟩:CU))]) ⟨rfl,rfl,rfl,rfl,rfl,rfl,rfl,trivial⟩ ⟨H,by (try dsimp only);omega,by (try dsimp only);rw [List.map_append,hws,Fm hx76,List.map_append];rfl⟩ (by (try dsimp only);omega)
 refine BK (AR (AR (BN (Z (Ab (Ae (V U U (An U HJ U (H.cellI 11 U U)) (Ah 2 U (Ac (Z (Ao (Cv U U U ?_))))))))))))
 replace H:=H.p1.p9.p9.p9.p9.p9.p8.p9.k9.h9 (A:=blk b65 [.slice A40 J33.us.length c41,.int .i64 J33.parts,.slice A45 J33.map.length c46,.slice A50 J33.comb.length c51,.slice A55 J33.red.length c56,.int .i64 J33.chunk,.int .i64 J33.window,.int .i64 J33.fuel,.slice A60 J33.marks.length c61,.int .i64 C.w,.int .i64 C.t,.int .i64 C.o,.int .i64 ((s:Nat):Int),.int .i64 att,.int .i64 ((AA dg J33 s).2),.pointer (some ⟨cb67,0,none⟩),vw] 164) (I:=Y CK vw (ws.map Prod.fst)) (J:=Bb (CI 239) ws)
 replace H:=Ka b65 C.J (Gx dg C.J s att) (.slice A40 J33.us.length c41) (.slice A45 J33.map.length c46) (.slice A50 J33.comb.length c51) (.slice A55 J33.red.length c56) (.slice A60 J33.marks.length c61) J33 C.w C.t C.o cb67 (.func (.func 96) #[] #[.pointer (some ⟨b26,0,none⟩),.pointer (some ⟨b27,0,none⟩),.pointer (some ⟨b66,0,none⟩)]) vw ws ⟨hsj,Wn hsj hws (by omega)⟩ H
 replace H:=H.h1 (A:=EB b65 C.J (Gx dg C.J s att))
 exact Am ⟨_,rfl,rfl⟩ H
theorem Wz (b:Nat) (J:AG) (M:FU):Cn Tryz.prog 32 [.pointer (some ⟨b,0,none⟩)] [EB b J M] [] (fun v Bs=>v=.int .i64 ((AA dg J M.sp).2)∧Bs=[EB b J M]):=by
 intro w0 F0 H
 obtain ⟨vS,vM,vC,vR,vK,J2,cw,ct,co,cb,fv,vw,ws,⟨hsj,hws⟩,H⟩:=L5 b J M H
 have H1:Hd w0 F0 w0 ([blk cb [.int .u32 1,.int .i32 0,.int .u32 0,.int .u32 1,fv,.string (Bd (AA dg J2 M.sp).1)] 234]++[blk b [vS,.int .i64 J2.parts,vM,vC,vR,.int .i64 J2.chunk,.int .i64 J2.window,.int .i64 J2.fuel,vK,.int .i64 cw,.int .i64 ct,.int .i64 co,.int .i64 ((M.sp:Nat):Int),.int .i64 M.att,.int .i64 ((AA dg J2 M.sp).2),.pointer (some ⟨cb,0,none⟩),vw] 164,Y (Ak Ag) vS J2.us,Y Af vM J2.map,Y Af vC J2.comb,Y Af vR J2.red,Y (Ai .i64) vK J2.marks,Y CK vw (ws.map Prod.fst),Bb (CI 239) ws]) []:=H.pick 1 rfl
 refine (FX (Pu b vS vM vC vR vK J2 cw ct co M.sp M.att cb fv vw ) H1 (lA 0 U (fun _ h=>h) l0)).mono ?_
 rintro e w ⟨v,rfl,Bs,⟨rfl,rfl⟩,H⟩
 replace H:Hd w0 F0 w [blk cb [.int .u32 1,.int .i32 0,.int .u32 0,.int .u32 1,fv,.string (Bd (AA dg J2 M.sp).1)] 234,blk b [vS,.int .i64 J2.parts,vM,vC,vR,.int .i64 J2.chunk,.int .i64 J2.window,.int .i64 J2.fuel,vK,.int .i64 cw,.int .i64 ct,.int .i64 co,.int .i64 ((M.sp:Nat):Int),.int .i64 M.att,.int .i64 ((AA dg J2 M.sp).2),.pointer (some ⟨cb,0,none⟩),vw] 164,Y (Ak Ag) vS J2.us,Y Af vM J2.map,Y Af vC J2.comb,Y Af vR J2.red,Y (Ai .i64) vK J2.marks,Y CK vw (ws.map Prod.fst),Bb (CI 239) ws] []:=H
 replace H:=H.p1
 have e:=hsj.split dg M.sp
 exact ⟨_,rfl,_,⟨by rw [e],rfl⟩,Ka b J M vS vM vC vR vK J2 cw ct co cb fv vw ws ⟨hsj,hws⟩ (As:=[]) H⟩
theorem Wy (b:Nat) (J:AG) (M:FU) (hJ:B6 J):Cn Tryz.prog 30 [.pointer (some ⟨b,0,none⟩)] [EB b J M] [] (fun v Bs=>Bs=[Y (Ai .i64) v (BR dg J M.sp M.att),EB b J M]):=by
 intro w0 F0 H
 obtain ⟨vS,vM,vC,vR,vK,J2,cw,ct,co,cb,fv,vw,ws,⟨hsj,hws⟩,H⟩:=L5 b J M H
 have H1:Hd w0 F0 w0 ([blk cb [.int .u32 1,.int .i32 0,.int .u32 0,.int .u32 1,fv,.string (Bd (AA dg J2 M.sp).1)] 234]++[blk b [vS,.int .i64 J2.parts,vM,vC,vR,.int .i64 J2.chunk,.int .i64 J2.window,.int .i64 J2.fuel,vK,.int .i64 cw,.int .i64 ct,.int .i64 co,.int .i64 ((M.sp:Nat):Int),.int .i64 M.att,.int .i64 ((AA dg J2 M.sp).2),.pointer (some ⟨cb,0,none⟩),vw] 164,Y (Ak Ag) vS J2.us,Y Af vM J2.map,Y Af vC J2.comb,Y Af vR J2.red,Y (Ai .i64) vK J2.marks,Y CK vw (ws.map Prod.fst),Bb (CI 239) ws]) []:=H.pick 1 rfl
 refine (FX (VQ b vS vM vC vR vK J2 cw ct co M.sp M.att cb fv vw  (hsj.symm.ok hJ)) H1 (lA 0 U (fun _ h=>h) l0)).mono ?_
 rintro e w ⟨v,rfl,Bs,rfl,H⟩
 replace H:Hd w0 F0 w [Y (Ai .i64) v (BR dg J2 M.sp M.att),blk cb [.int .u32 1,.int .i32 0,.int .u32 0,.int .u32 1,fv,.string (Bd (AA dg J2 M.sp).1)] 234,blk b [vS,.int .i64 J2.parts,vM,vC,vR,.int .i64 J2.chunk,.int .i64 J2.window,.int .i64 J2.fuel,vK,.int .i64 cw,.int .i64 ct,.int .i64 co,.int .i64 ((M.sp:Nat):Int),.int .i64 M.att,.int .i64 ((AA dg J2 M.sp).2),.pointer (some ⟨cb,0,none⟩),vw] 164,Y (Ak Ag) vS J2.us,Y Af vM J2.map,Y Af vC J2.comb,Y Af vR J2.red,Y (Ai .i64) vK J2.marks,Y CK vw (ws.map Prod.fst),Bb (CI 239) ws] []:=H
 replace H:=H.p9.p9.p9.p9.p9.p9.p9.p8.p9
 replace H:=Ka b J M vS vM vC vR vK J2 cw ct co cb fv vw ws ⟨hsj,hws⟩ (As:=[Y (Ai .i64) v (BR dg J2 M.sp M.att)]) H
 refine ⟨v,rfl,_,rfl,?_⟩
 have e:=NN hsj dg M.sp M.att
 rw [e] at H
 exact H.pick 1 U
theorem Wx (b:Nat) (J:AG) (M:FU) (p:Int) (q:Int) (hJ:B6 J):Cn Tryz.prog 41 [.pointer (some ⟨b,0,none⟩),.int .i64 p,.int .i64 q] [EB b J M] [] (fun v Bs=>Bs=[Y Ag v (CV dg J M.sp M.att p q),EB b J M]):=by
 intro w0 F0 H
 obtain ⟨vS,vM,vC,vR,vK,J2,cw,ct,co,cb,fv,vw,ws,⟨hsj,hws⟩,H⟩:=L5 b J M H
 have H1:Hd w0 F0 w0 ([blk cb [.int .u32 1,.int .i32 0,.int .u32 0,.int .u32 1,fv,.string (Bd (AA dg J2 M.sp).1)] 234]++[blk b [vS,.int .i64 J2.parts,vM,vC,vR,.int .i64 J2.chunk,.int .i64 J2.window,.int .i64 J2.fuel,vK,.int .i64 cw,.int .i64 ct,.int .i64 co,.int .i64 ((M.sp:Nat):Int),.int .i64 M.att,.int .i64 ((AA dg J2 M.sp).2),.pointer (some ⟨cb,0,none⟩),vw] 164,Y (Ak Ag) vS J2.us,Y Af vM J2.map,Y Af vC J2.comb,Y Af vR J2.red,Y (Ai .i64) vK J2.marks,Y CK vw (ws.map Prod.fst),Bb (CI 239) ws]) []:=H.pick 1 rfl
 refine (FX (VO b vS vM vC vR vK J2 cw ct co M.sp M.att cb fv vw p q (hsj.symm.ok hJ)) H1 (lA 0 U (fun _ h=>h) l0)).mono ?_
 rintro e w ⟨v,rfl,Bs,rfl,H⟩
 replace H:Hd w0 F0 w [Y Ag v (CV dg J2 M.sp M.att p q),blk cb [.int .u32 1,.int .i32 0,.int .u32 0,.int .u32 1,fv,.string (Bd (AA dg J2 M.sp).1)] 234,blk b [vS,.int .i64 J2.parts,vM,vC,vR,.int .i64 J2.chunk,.int .i64 J2.window,.int .i64 J2.fuel,vK,.int .i64 cw,.int .i64 ct,.int .i64 co,.int .i64 ((M.sp:Nat):Int),.int .i64 M.att,.int .i64 ((AA dg J2 M.sp).2),.pointer (some ⟨cb,0,none⟩),vw] 164,Y (Ak Ag) vS J2.us,Y Af vM J2.map,Y Af vC J2.comb,Y Af vR J2.red,Y (Ai .i64) vK J2.marks,Y CK vw (ws.map Prod.fst),Bb (CI 239) ws] []:=H
 replace H:=H.p9.p9.p9.p9.p9.p9.p9.p8.p9
 replace H:=Ka b J M vS vM vC vR vK J2 cw ct co cb fv vw ws ⟨hsj,hws⟩ (As:=[Y Ag v (CV dg J2 M.sp M.att p q)]) H
 refine ⟨v,rfl,_,rfl,?_⟩
 have e:=NA hsj dg M.sp M.att p q
 rw [e] at H
 exact H.pick 1 U
theorem KV {n size:Nat} (hs:1≤size):De (n:Int) (size:Int)=(((n+size - 1) / size:Nat):Int):=by
 unfold De
 by_cases h:n=0
 ·subst h
  rw [if_pos (by omega),Nat.zero_add,Nat.div_eq_of_lt (by omega)];rfl
 ·rw [if_neg (by omega),Int.tdiv_eq_ediv_of_nonneg (by omega)]
  have:(n:Int) - 1=((n - 1:Nat):Int):=by omega
  rw [this,←Int.natCast_ediv,show n+size - 1=(n - 1)+size by omega,Nat.add_div_right _ (by omega)]
  omega
theorem Sp {n size:Nat} (hs:1≤size):n≤(n+size - 1) / size*size:=by
 have:=Nat.div_add_mod (n+size - 1) size
 have h2:=Nat.mod_lt (n+size - 1) (show size>0 by omega)
 rw [Nat.mul_comm] at this
 omega
theorem SQ {ps:List Al} {size q:Nat} (h:q<(ps.length+size - 1) / size) (hs:1≤size):D4 ps size q=(ps.drop (q*size)).take size:=by
 unfold D4
 rw [if_neg (by rw [KV hs];omega)]
 rw [show ((q:Int)*(size:Int))=((q*size:Nat):Int) by simp,Int.toNat_natCast,Int.toNat_natCast]
theorem NQ {ps:List Al} {size:Nat} (hs:1≤size):∀ k:Nat,k≤(ps.length+size - 1) / size→((List.range k).map fun (q:Nat)=>D4 ps size q).flatten=ps.take (k*size)
 |0,_=>by simp
 |k+1,h=>by
  rw [List.range_succ,List.map_append,List.flatten_append,NQ hs k (by omega)]
  simp only [List.map_cons,List.map_nil,List.flatten_cons,List.flatten_nil,List.append_nil]
  rw [SQ (by omega) hs,Nat.succ_mul,List.take_add]
theorem SO {ps:List Al} {size:Nat} (hs:1≤size):((List.range ((ps.length+size - 1) / size)).map fun (q:Nat)=>D4 ps size q).flatten=ps:=by
 rw [NQ hs _ (Nat.le_refl _)]
 exact List.take_of_length_le (Sp hs)
def Ce (D:Bj) (J:AG) (s:Nat) (att p:Int):Nat:=((BM D J s p).length+(CJ J.chunk att).toNat - 1) / (CJ J.chunk att).toNat
def Gl (D:Bj) (J:AG) (s:Nat) (att p:Int) (k:Nat):List (List Al):=(List.range k).map fun (q:Nat)=>CV D J s att p q
section
variable {D:Bj} {J:AG} (hJ:B6 J) {s:Nat} {att p:Int} (hp:0≤p)
include hJ hp
theorem Sm:(Gl D J s att p (Ce D J s att p)).flatten=BM D J s p:=by
 have h1:=IX (att:=att) hJ.chunk1
 obtain ⟨z,hz⟩:∃ z:Nat,CJ J.chunk att=(z:Int):=⟨(CJ J.chunk att).toNat,by omega⟩
 have:Gl D J s att p (Ce D J s att p)=(List.range (((BM D J s p).length+z - 1) / z)).map fun (q:Nat)=>D4 (BM D J s p) z q:=by
  unfold Gl Ce CV
  rw [hz,Int.toNat_natCast]
  exact List.map_congr_left fun q _=>if_neg (by omega)
 rw [this]
 exact SO (by omega)
end
theorem SH {D:Bj} {J:AG} (hJ:B6 J) {s:Nat} {att p:Int} (h0:(AA D J s).2=0) {k:Nat} (hk:k<J.parts.toNat) (hkp:p=(k:Int)):(BR D J s att)[k]?=some ((Ce D J s att p:Nat):Int):=by
 have h1:=IX (att:=att) hJ.chunk1
 obtain ⟨z,hz⟩:∃ z:Nat,CJ J.chunk att=(z:Int):=⟨(CJ J.chunk att).toNat,by omega⟩
 unfold BR Ce
 rw [if_neg (fun h=>h h0),List.getElem?_map,List.getElem?_range hk,Option.map_some,hz,KV (by omega),hkp,Int.toNat_natCast]
/-! ### What waits -/
structure aA (D:Bj) (J:AG) (p:Int) (win:Nat→Int) (R:AD):Prop where
 part:R.part=p
 told:∀ s,s<J.us.length→(R.g s).told=true→(R.g s).att=win s∧(R.g s).cnt=Ce D J s (win s) p∧(AA D J s).2=0
 st:∀ (s:Nat) (a:Int),s<J.us.length→∃ k,k≤Ce D J s a p∧Cg R.st s a=Gl D J s a p k
 merged:∀ s,s<J.us.length→(R.g s).merged=true→(R.g s).pairs=BM D J s p∧(AA D J s).2=0
 sets:∀ set∈R.sets,(∀ x∈set,x∈Aw J.us.length R)∧(set.length:Int)∈J.marks
 grow:R.sets.Pairwise fun a b=>∀ x∈a,x∈b
theorem Nz (D:Bj) (J:AG) (s:Nat) (a p:Int) (k:Nat):(Gl D J s a p k).length=k:=by simp [Gl]
/-! ### What the model tells of some splits -/
/-! ### Split by split -/
def B4 (D:Bj) (J:AG) (R:AD) (s:Nat) (a p:Int) (k:Nat):AD:={ R with st:=if k=0 then [] else [(((s:Int),a),Gl D J s a p k)] }
def Ki (D:Bj) (J:AG) (s:Nat) (a p:Int) (q:Nat):BD:=⟨2,s,a,p,q,0,0,0,[],CV D J s a p q⟩
theorem So {D:Bj} (hD:∀ s:ByteArray,AB (D.num s)) {J:AG} (hJ:B6 J) (s:Nat) (a p q:Int):(CV D J s a p q).length≤8∧G4 (CV D J s a p q):=by
 have h1:=IX (att:=a) hJ.chunk1
 unfold CV
 split
 ·exact ⟨Nat.zero_le _,fun x hx=>by cases hx⟩
 ·unfold D4
  split
  ·exact ⟨Nat.zero_le _,fun x hx=>by cases hx⟩
  ·refine ⟨Nat.le_trans (by rw [List.length_take];exact Nat.min_le_left _ _) (by omega),fun x hx=>?_⟩
   have:=List.mem_of_mem_drop (List.mem_of_mem_take hx)
   exact HG hD hJ s x (List.mem_filter.1 this).1
theorem NE (D:Bj) {J:AG} (hJ:B6 J) (s:Nat) (a p:Int):Ce D J s a p≤40:=by
 have h1:=IX (att:=a) hJ.chunk1
 have h2:=G8 D J s p
 have h3:=NB (n:=((BM D J s p).length:Nat)) (size:=CJ J.chunk a) (by omega)
 obtain ⟨z,hz⟩:∃ z:Nat,CJ J.chunk a=(z:Int):=⟨(CJ J.chunk a).toNat,by omega⟩
 rw [hz,KV (by omega)] at h3
 unfold Ce
 rw [hz,Int.toNat_natCast]
 omega
theorem Tu {D:Bj} (hD:∀ s:ByteArray,AB (D.num s)) {J:AG} (hJ:B6 J) {p:Int} {R:AD} {s q:Nat} {a:Int} (hs:s<J.us.length) (ha:1≤a∧a≤3) (hq:q<Ce D J s a p) (hp:R.part=p) (hm:(R.g s).merged=false) (ht:(R.g s).told=false):
  (Bz J (B4 D J R s a p q) (Ki D J s a p q)).1=B4 D J R s a p (q+1):=by
 have h6:=hJ.us
 have hc:=NE D hJ s a p
 have hn:¬ ES J (B4 D J R s a p q) (Ki D J s a p q):=by
  unfold ES
  show ¬ (¬ ((0:Int)≤s∧(s:Int)<J.us.length)∨(2:Int)≠2∨p≠R.part)
  omega
 have hst:CZ (B4 D J R s a p q).st s a q (CV D J s a p q)=(B4 D J R s a p (q+1)).st:=by
  have hnx:Ct (B4 D J R s a p q).st s a=(q:Int):=by
   unfold Ct B4
   dsimp only
   split
   ·rename_i h;subst h;rfl
   ·unfold Cg;rw [if_pos ⟨rfl,rfl⟩,Nz]
  unfold CZ
  rw [if_pos (by unfold Jo;rw [hnx];omega)]
  unfold B4
  dsimp only
  rw [if_neg (show ¬ q+1=0 by omega)]
  split
  ·rename_i h;subst h;rfl
  ·unfold EF
   rw [if_pos ⟨rfl,rfl⟩]
   unfold Gl
   rw [List.range_succ,List.map_append]
   rfl
 unfold Bz
 rw [if_neg hn]
 dsimp only
 unfold FL
 have hto:(Ki D J s a p q).sp.toNat=s:=Int.toNat_natCast s
 rw [if_pos (show E4 (B4 D J R s a p q) (Ki D J s a p q) from ⟨by rw [hto];exact hm,So hD hJ s a p q⟩)]
 rw [hto]
 have hl:∀ R1:AD,(R1.g s).told=false→CG J R1 s=(R1,[]):=fun R1 h=>if_pos h
 rw [hl _ (by exact ht)]
 show ({ B4 D J R s a p q with st:=CZ (B4 D J R s a p q).st s a q (CV D J s a p q) }:AD)=_
 rw [hst]
 rfl
theorem VG {J:AG} {R:AD} {k:Nat} {ps:List Al} (ht:(R.g k).told=true) (h:AC R.st k (R.g k).att (R.g k).cnt=some ps) (hl:¬ 40<ps.length):
  (CG J R k).2≠[]∧(CG J R k).1.st=D1 R.st k∧(CG J R k).1.part=R.part∧(CG J R k).1.g=AJ R.g k { R.g k with merged:=true,pairs:=ps }:=by
 unfold CG
 rw [if_neg (by rw [ht];simp),h]
 dsimp only
 rw [if_neg hl]
 split<;>exact ⟨by simp,rfl,rfl,rfl⟩
theorem Tv {D:Bj} {J:AG} (hJ:B6 J) {p t:Int} {R:AD} {s:Nat} {a:Int} (hs:s<J.us.length) (ha:1≤a∧a≤t) (hp:0≤p) (hm:(R.g s).merged=false) (ht:(R.g s).told=false):
  (Db J t (B4 D J R s a p (Ce D J s a p)) s a (Ce D J s a p)).2≠[]∧(Db J t (B4 D J R s a p (Ce D J s a p)) s a (Ce D J s a p)).1.st=[]∧
  (Db J t (B4 D J R s a p (Ce D J s a p)) s a (Ce D J s a p)).1.part=R.part∧
  ∀ i,(Db J t (B4 D J R s a p (Ce D J s a p)) s a (Ce D J s a p)).1.g i=AJ R.g s ⟨true,BM D J s p,true,a,(Ce D J s a p:Nat)⟩ i:=by
 have hn:¬ JB J t (B4 D J R s a p (Ce D J s a p)) s a:=by
  unfold JB
  rw [Int.toNat_natCast,show (B4 D J R s a p (Ce D J s a p)).g=R.g from rfl,hm,ht]
  simp
  omega
 have htk:AC (B4 D J R s a p (Ce D J s a p)).st s a (Ce D J s a p:Nat)=some (BM D J s p):=by
  have hof:Cg (B4 D J R s a p (Ce D J s a p)).st s a=Gl D J s a p (Ce D J s a p):=by
   unfold B4
   dsimp only
   split
   ·rename_i h;rw [h];rfl
   ·unfold Cg;rw [if_pos ⟨rfl,rfl⟩]
  unfold AC Ct
  rw [hof,Nz,if_neg (by omega),Sm hJ hp]
 have hdr:D1 (B4 D J R s a p (Ce D J s a p)).st (s:Int)=[]:=by
  unfold B4
  dsimp only
  split
  ·rfl
  ·unfold D1;simp
 have hlen:=G8 D J s p
 obtain ⟨q1,q2,q3,q4⟩:=VG (J:=J) (R:={ B4 D J R s a p (Ce D J s a p) with g:=AJ R.g s { R.g s with told:=true,att:=a,cnt:=(Ce D J s a p:Nat) } }) (k:=s) (ps:=BM D J s p) (by dsimp only;rw [DB]) (by dsimp only;rw [DB];exact htk) (by omega)
 have e:Db J t (B4 D J R s a p (Ce D J s a p)) s a (Ce D J s a p)=CG J { B4 D J R s a p (Ce D J s a p) with g:=AJ R.g s { R.g s with told:=true,att:=a,cnt:=(Ce D J s a p:Nat) } } s:=by
  unfold Db
  rw [if_neg hn,Int.toNat_natCast]
  rfl
 rw [e]
 refine ⟨q1,q2.trans hdr,q3,fun i=>?_⟩
 rw [q4]
 dsimp only
 rw [DB]
 by_cases e:i=s
 ·subst e;rw [DB,DB]
 ·rw [D0 _ _ e,D0 _ _ e,D0 _ _ e]
structure HP (D:Bj) (J:AG) (p:Int) (R:AD) (dn:Nat→Bool):Prop where
 part:R.part=p
 st:R.st=[]
 yes:∀ i,i<J.us.length→dn i=true→(R.g i).merged=true∧(R.g i).pairs=BM D J i p∧(AA D J i).2=0
 no:∀ i,i<J.us.length→dn i=false→(R.g i).merged=false∧(R.g i).told=false
theorem Wj (n:Nat) (p ep:Int) (i:Nat):(CW n p ep []).g i=Jp:=rfl
theorem WT (D:Bj) (J:AG) (n:Nat) (p:Int):HP D J p (CW n p 1 []) (fun _=>false) where
 part:=(Gy n p 1 []).1
 st:=(Gy n p 1 []).2.2
 yes:=fun i _ h=>by cases h
 no:=fun i _ _=>by rw [Wj];exact ⟨rfl,rfl⟩
theorem N_ {D:Bj} {J:AG} {R:AD} (h:R.st=[]) (s:Nat) (a p:Int):B4 D J R s a p 0=R:=by
 cases R;simp only at h;subst h;rfl
theorem WX {D:Bj} {J:AG} (hJ:B6 J) {p t:Int} {R:AD} {dn:Nat→Bool} {s:Nat} {a:Int} (h:HP D J p R dn) (hs:s<J.us.length) (ha:1≤a∧a≤t) (hp:0≤p) (hd:dn s=false) (h0:(AA D J s).2=0):
  (Db J t (B4 D J R s a p (Ce D J s a p)) s a (Ce D J s a p)).2≠[]∧HP D J p (Db J t (B4 D J R s a p (Ce D J s a p)) s a (Ce D J s a p)).1 (AJ dn s true):=by
 obtain ⟨hm,ht⟩:=h.no s hs hd
 obtain ⟨w1,w2,w3,w4⟩:=Tv (D:=D) hJ hs ha hp hm ht
 refine ⟨w1,w3.trans h.part,w2,fun i hi hy=>?_,fun i hi hn=>?_⟩
 ·rw [w4]
  by_cases e:i=s
  ·subst e;rw [DB];exact ⟨rfl,rfl,h0⟩
  ·rw [D0 _ _ e] at hy ⊢;exact h.yes i hi hy
 ·rw [w4]
  by_cases e:i=s
  ·subst e;rw [DB] at hn;cases hn
  ·rw [D0 _ _ e] at hn ⊢;exact h.no i hi hn
theorem Wd {n:Nat} {R:AD} (h:∀ i,i<n→(R.g i).merged=true):Aw n R=upto n:=by
 unfold Aw upto
 rw [List.filter_eq_self.2 fun i hi=>h i (List.mem_range.1 hi)]
theorem QJ {D:Bj} {J:AG} {p:Int} {R:AD}:∀ {n:Nat} {set:List Int},(∀ i,i<n→(R.g i).merged=true∧(R.g i).pairs=BM D J i p)→(∀ i,i<n→(i:Int)∈set)→Cl n R set=FC D J p n
 |0,_,_,_=>rfl
 |n+1,set,h,hs=>by
  have h1:=QJ (n:=n) (set:=set) (fun i hi=>h i (by omega)) (fun i hi=>hs i (by omega))
  have h2:=h n (by omega)
  unfold Cl at h1 ⊢
  have e:([n].filter fun i=>(R.g i).merged && decide ((i:Int)∈set))=[n]:=by rw [List.filter_cons_of_pos (by simp [h2.1,hs n (by omega)])];rfl
  rw [List.range_succ,List.filter_append,List.flatMap_append,h1,e,List.flatMap_cons,List.flatMap_nil,List.append_nil,h2.2]
  rfl
theorem WW {D:Bj} {J:AG} {p:Int} {R:AD} {dn:Nat→Bool} (h:HP D J p R dn) (hd:∀ i,i<J.us.length→dn i=true):
  Aw J.us.length R=upto J.us.length∧DY D J R=((DN D J p).1,(DN D J p).2,true)∧R.st.length=0∧∀ s,s<J.us.length→(AA D J s).2=0:=by
 have hm:=Wd (R:=R) fun i hi=>(h.yes i hi (hd i hi)).1
 have hul:(upto J.us.length).length=J.us.length:=by unfold upto;simp
 have hr:Cl J.us.length R (upto J.us.length)=FC D J p J.us.length:=QJ (fun i hi=>⟨(h.yes i hi (hd i hi)).1,(h.yes i hi (hd i hi)).2.1⟩) fun i hi=>List.mem_map.2 ⟨i,List.mem_range.2 hi,rfl⟩
 refine ⟨hm,?_,by rw [h.st];rfl,fun s hs=>(h.yes s hs (hd s hs)).2.2⟩
 unfold DY D7 DN
 rw [hm,hul,if_neg (Nat.lt_irrefl _),hr]
theorem SI {D:Bj} {J:AG} (hJ:B6 J) {s:Nat} {a p:Int} {x:Int} (h0:(AA D J s).2=0) (hp:0≤p∧p<J.parts) (hx:(BR D J s a)[p.toNat]?=some x):x=((Ce D J s a p:Nat):Int):=
 Option.some.inj (hx.symm.trans (SH hJ h0 (by omega) (by omega)))
/-! ### Six truth values in a row -/
def Eu (f:Nat→Bool):List Value:=[.bool (f 0),.bool (f 1),.bool (f 2),.bool (f 3),.bool (f 4),.bool (f 5)]
theorem RE {f:Nat→Bool} {j:Nat} (h:j<6):(Eu f)[0+j*1]?=some (.bool (f j)):=by
 rw [Nat.zero_add,Nat.mul_one]
 match j,h with
 |0,_=>rfl
 |1,_=>rfl
 |2,_=>rfl
 |3,_=>rfl
 |4,_=>rfl
 |5,_=>rfl
theorem RF {f:Nat→Bool} {j:Nat} (h:j<6) (v:Bool):DZ (Eu f) (0+j*1) [.bool v]=Eu (AJ f j v):=by
 rw [Nat.zero_add,Nat.mul_one]
 match j,h with
 |0,_=>rfl
 |1,_=>rfl
 |2,_=>rfl
 |3,_=>rfl
 |4,_=>rfl
 |5,_=>rfl
theorem X9 (vS vM vC vR vK:Value) (C:Cf) (ss:List (List Al)) (gm:∀ i∈C.J.map,AB i.a) (gc:∀ i∈C.J.comb,AB i.a) (gr:∀ i∈C.J.red,AB i.a) (k0:Int) (wk:AB k0) (vo:Value) (order:List Int) (worder:(∀ x∈order,AB x)∧order.length≤9223372036854775807) (va:Value) (tries:List Int) (wtries:(∀ x∈tries,AB x)∧tries.length≤9223372036854775807):
    Cn Tryz.prog 13 [.agg #[vS,.int .i64 C.J.parts,vM,vC,vR,.int .i64 C.J.chunk,.int .i64 C.J.window,.int .i64 C.J.fuel,vK,.int .i64 C.w,.int .i64 C.t,.int .i64 C.o],.int .i64 k0,vo,va] [] [Aa (Ak Ag) vS C.J.us,Aa (Bq Ag) vS ss,Aa Af vM C.J.map,Aa Af vC C.J.comb,Aa Af vR C.J.red,Aa (Ai .i64) vK C.J.marks,Aa (Ai .i64) vo order,Aa (Ai .i64) va tries,gl] (fun v Bs=>v=.bool true∧Bs=[]):=by
 intro w0 F0 H
 obtain ⟨A1,c2,rfl,hc3,hm4,hp5⟩:=H.fR 0 rfl
 obtain ⟨A6,c7,rfl,hc8,hm9,hp10⟩:=H.fR 2 rfl
 obtain ⟨A11,c12,rfl,hc13,hm14,hp15⟩:=H.fR 3 rfl
 obtain ⟨A16,c17,rfl,hc18,hm19,hp20⟩:=H.fR 4 rfl
 obtain ⟨A21,c22,rfl,hc23,hm24,hp25⟩:=H.fR 5 rfl
 obtain ⟨A26,c27,rfl,hc28,hm29,hp30⟩:=H.fR 6 rfl
 obtain ⟨A31,c32,rfl,hc33,hm34,hp35⟩:=H.fR 7 rfl
 refine enter Tryz.func13 U U (Nat.le_of_ble_eq_true U) (Ab (Ae (CH U U U U H (fun b36 w H=>(Ad U (Ac (Z ?_)))))))
 replace H:Hd _ _ _ [blk b36 [.slice A1 C.J.us.length c2,.int .i64 C.J.parts,.slice A6 C.J.map.length c7,.slice A11 C.J.comb.length c12,.slice A16 C.J.red.length c17,.int .i64 C.J.chunk,.int .i64 C.J.window,.int .i64 C.J.fuel,.slice A21 C.J.marks.length c22,.int .i64 C.w,.int .i64 C.t,.int .i64 C.o] 28] [Aa (Ak Ag) (.slice A1 C.J.us.length c2) C.J.us,Aa (Bq Ag) (.slice A1 C.J.us.length c2) ss,Aa Af (.slice A6 C.J.map.length c7) C.J.map,Aa Af (.slice A11 C.J.comb.length c12) C.J.comb,Aa Af (.slice A16 C.J.red.length c17) C.J.red,Aa (Ai .i64) (.slice A21 C.J.marks.length c22) C.J.marks,Aa (Ai .i64) (.slice A26 order.length c27) order,Aa (Ai .i64) (.slice A31 tries.length c32) tries,gl]:=H
 refine Ab (Ab (Ae (V U U (Aj U CQ U) (V U U (Bv (cs:=[.slice A1 C.J.us.length c2,.int .i64 C.J.parts,.slice A6 C.J.map.length c7,.slice A11 C.J.comb.length c12,.slice A16 C.J.red.length c17,.int .i64 C.J.chunk,.int .i64 C.J.window,.int .i64 C.J.fuel,.slice A21 C.J.marks.length c22]) U GG U U (H.cellsI 0 U U)) (sc (T0 (.slice A1 C.J.us.length c2) (.slice A6 C.J.map.length c7) (.slice A11 C.J.comb.length c12) (.slice A16 C.J.red.length c17) (.slice A21 C.J.marks.length c22) C.J) H (lR 0 U (lR 2 U (lR 3 U (lR 4 U (lR 5 U l0))))) U U (At UM U U) ?_)))))
 rintro _ _ w ⟨rfl,rfl⟩ H
 refine Ad U ?_
 refine Em (d:=28) (b:=GZ C.J) U (fun h37=>?_) (fun h37=>?_)
 ·refine Ah 12 U (Ah 2 U (Ac (Z ?_)))
  replace H:Hd _ _ _ [blk b36 [.slice A1 C.J.us.length c2,.int .i64 C.J.parts,.slice A6 C.J.map.length c7,.slice A11 C.J.comb.length c12,.slice A16 C.J.red.length c17,.int .i64 C.J.chunk,.int .i64 C.J.window,.int .i64 C.J.fuel,.slice A21 C.J.marks.length c22,.int .i64 C.w,.int .i64 C.t,.int .i64 C.o] 28] [Aa (Ak Ag) (.slice A1 C.J.us.length c2) C.J.us,Aa (Bq Ag) (.slice A1 C.J.us.length c2) ss,Aa Af (.slice A6 C.J.map.length c7) C.J.map,Aa Af (.slice A11 C.J.comb.length c12) C.J.comb,Aa Af (.slice A16 C.J.red.length c17) C.J.red,Aa (Ai .i64) (.slice A21 C.J.marks.length c22) C.J.marks,Aa (Ai .i64) (.slice A26 order.length c27) order,Aa (Ai .i64) (.slice A31 tries.length c32) tries,gl]:=H
  refine Cc U (Ab (Ae (sc (HT) H (lR 8 U l0) U U (At Im U U) ?_)))
  rintro _ _ w ⟨rfl,rfl⟩ H
  refine Ad U (Ac (Z (Ao (Az (Aq U U ?_)))))
  replace H:=H.nil
  exact Am ⟨rfl,rfl⟩ H
 refine V U U (Bv (cs:=[.slice A1 C.J.us.length c2,.int .i64 C.J.parts,.slice A6 C.J.map.length c7,.slice A11 C.J.comb.length c12,.slice A16 C.J.red.length c17,.int .i64 C.J.chunk,.int .i64 C.J.window,.int .i64 C.J.fuel,.slice A21 C.J.marks.length c22,.int .i64 C.w,.int .i64 C.t,.int .i64 C.o]) U EX U U (H.cellsI 0 U U)) ?_
 replace H:Hd _ _ _ [blk b36 [.slice A1 C.J.us.length c2,.int .i64 C.J.parts,.slice A6 C.J.map.length c7,.slice A11 C.J.comb.length c12,.slice A16 C.J.red.length c17,.int .i64 C.J.chunk,.int .i64 C.J.window,.int .i64 C.J.fuel,.slice A21 C.J.marks.length c22,.int .i64 C.w,.int .i64 C.t,.int .i64 C.o] 28] [Aa (Ak Ag) (.slice A1 C.J.us.length c2) C.J.us,Aa (Bq Ag) (.slice A1 C.J.us.length c2) ss,Aa Af (.slice A6 C.J.map.length c7) C.J.map,Aa Af (.slice A11 C.J.comb.length c12) C.J.comb,Aa Af (.slice A16 C.J.red.length c17) C.J.red,Aa (Ai .i64) (.slice A21 C.J.marks.length c22) C.J.marks,Aa (Ai .i64) (.slice A26 order.length c27) order,Aa (Ai .i64) (.slice A31 tries.length c32) tries,gl]:=H
 refine sc (L3 (.slice A1 C.J.us.length c2) (.slice A6 C.J.map.length c7) (.slice A11 C.J.comb.length c12) (.slice A16 C.J.red.length c17) (.slice A21 C.J.marks.length c22) C) H (lR 0 U (lR 2 U (lR 3 U (lR 4 U (lR 5 U l0))))) U U (At LO U U) ?_
 rintro _ _ w ⟨rfl,rfl⟩ H
 refine V U U (Eg U U) (Ah 2 U ?_)
 refine AQ (d:=33) U (fun h38=>?_) (fun h38=>?_)
 ·refine Ah 9 U (Ac (Z ?_))
  replace H:Hd _ _ _ [blk b36 [.slice A1 C.J.us.length c2,.int .i64 C.J.parts,.slice A6 C.J.map.length c7,.slice A11 C.J.comb.length c12,.slice A16 C.J.red.length c17,.int .i64 C.J.chunk,.int .i64 C.J.window,.int .i64 C.J.fuel,.slice A21 C.J.marks.length c22,.int .i64 C.w,.int .i64 C.t,.int .i64 C.o] 28] [Aa (Ak Ag) (.slice A1 C.J.us.length c2) C.J.us,Aa (Bq Ag) (.slice A1 C.J.us.length c2) ss,Aa Af (.slice A6 C.J.map.length c7) C.J.map,Aa Af (.slice A11 C.J.comb.length c12) C.J.comb,Aa Af (.slice A16 C.J.red.length c17) C.J.red,Aa (Ai .i64) (.slice A21 C.J.marks.length c22) C.J.marks,Aa (Ai .i64) (.slice A26 order.length c27) order,Aa (Ai .i64) (.slice A31 tries.length c32) tries,gl]:=H
  refine Cc U (Ab (Ae (sc (HT) H (lR 8 U l0) U U (At Im U U) ?_)))
  rintro _ _ w ⟨rfl,rfl⟩ H
  refine Ad U (Ac (Z (Ao (Az (Aq U U ?_)))))
  replace H:=H.nil
  exact Am ⟨rfl,rfl⟩ H
 refine Ad U (V U U (A0 U Ec U) (V U U (Cd U U U) (Ah 2 U ?_)))
 refine AQ (d:=38) U (fun h39=>?_) (fun h39=>?_)
 ·refine Ah 4 U (Ac (Z ?_))
  replace H:Hd _ _ _ [blk b36 [.slice A1 C.J.us.length c2,.int .i64 C.J.parts,.slice A6 C.J.map.length c7,.slice A11 C.J.comb.length c12,.slice A16 C.J.red.length c17,.int .i64 C.J.chunk,.int .i64 C.J.window,.int .i64 C.J.fuel,.slice A21 C.J.marks.length c22,.int .i64 C.w,.int .i64 C.t,.int .i64 C.o] 28] [Aa (Ak Ag) (.slice A1 C.J.us.length c2) C.J.us,Aa (Bq Ag) (.slice A1 C.J.us.length c2) ss,Aa Af (.slice A6 C.J.map.length c7) C.J.map,Aa Af (.slice A11 C.J.comb.length c12) C.J.comb,Aa Af (.slice A16 C.J.red.length c17) C.J.red,Aa (Ai .i64) (.slice A21 C.J.marks.length c22) C.J.marks,Aa (Ai .i64) (.slice A26 order.length c27) order,Aa (Ai .i64) (.slice A31 tries.length c32) tries,gl]:=H
  refine Cc U (Ab (Ae (sc (HT) H (lR 8 U l0) U U (At Im U U) ?_)))
  rintro _ _ w ⟨rfl,rfl⟩ H
  refine Ad U (Ac (Z (Ao (Az (Aq U U ?_)))))
  replace H:=H.nil
  exact Am ⟨rfl,rfl⟩ H
 refine Ad U (V U U (A0 U Ec U) (V U U (Cd U U U) (Ad U (Ac (Z ?_)))))
 replace H:Hd _ _ _ [blk b36 [.slice A1 C.J.us.length c2,.int .i64 C.J.parts,.slice A6 C.J.map.length c7,.slice A11 C.J.comb.length c12,.slice A16 C.J.red.length c17,.int .i64 C.J.chunk,.int .i64 C.J.window,.int .i64 C.J.fuel,.slice A21 C.J.marks.length c22,.int .i64 C.w,.int .i64 C.t,.int .i64 C.o] 28] [Aa (Ak Ag) (.slice A1 C.J.us.length c2) C.J.us,Aa (Bq Ag) (.slice A1 C.J.us.length c2) ss,Aa Af (.slice A6 C.J.map.length c7) C.J.map,Aa Af (.slice A11 C.J.comb.length c12) C.J.comb,Aa Af (.slice A16 C.J.red.length c17) C.J.red,Aa (Ai .i64) (.slice A21 C.J.marks.length c22) C.J.marks,Aa (Ai .i64) (.slice A26 order.length c27) order,Aa (Ai .i64) (.slice A31 tries.length c32) tries,gl]:=H
 refine Ay U (fun h40=>?_) (fun h40=>?_)
 ·refine Ab (Ae (sc (HT) H (lR 8 U l0) U U (At Im U U) ?_))
  rintro _ _ w ⟨rfl,rfl⟩ H
  refine Ad U (Ac (Z (Ao (Az (Aq U U ?_)))))
  replace H:=H.nil
  exact Am ⟨rfl,rfl⟩ H
 refine Av (Z (Ab ?_))
 have hC:Ee C:=Classical.not_not.1 h38
 have hJ:B6 C.J:=⟨hC.1,gm,gc,gr⟩
 have hus:=hJ.us
 have hpt:=hJ.parts
 have htt:1≤C.t∧C.t≤3:=hC.2.2.1
 have hol:order.length≤20:=by omega
 refine Ae (Ad U (V U U (Aj U CQ U) (V U U (Aj U GY U) (V U U (An U AE U (H.cellI 0 U U)) (sc (LX k0 C.J.parts (by first |assumption|(unfold AB;omega)) (by omega) (by omega)) H l0 U U (At LP U U) ?_)))))
 rintro _ _ w ⟨rfl,rfl⟩ H
 obtain ⟨lo41,hl42,hl43,hl44⟩:∃ z:Int,IntKind.u64.wrap k0%C.J.parts=z∧0≤z∧z<C.J.parts:=⟨_,rfl,Int.emod_nonneg _ (by omega),Int.emod_lt_of_pos _ (by omega)⟩
 rw [hl42]
 obtain ⟨m45,rfl⟩:∃ z:Nat,lo41=(z:Int):=⟨(lo41).toNat,by omega⟩
 have hlo1:AB ((m45:Nat):Int):=by unfold AB;omega
 refine Ad U (Ac (Z (Ab (Ae (V U U (Bv (cs:=[.slice A1 C.J.us.length c2,.int .i64 C.J.parts,.slice A6 C.J.map.length c7,.slice A11 C.J.comb.length c12,.slice A16 C.J.red.length c17,.int .i64 C.J.chunk,.int .i64 C.J.window,.int .i64 C.J.fuel,.slice A21 C.J.marks.length c22,.int .i64 C.w,.int .i64 C.t,.int .i64 C.o]) U EX U U (H.cellsI 0 U U)) (Ad U (sc (Qs (.slice A1 C.J.us.length c2) (.slice A6 C.J.map.length c7) (.slice A11 C.J.comb.length c12) (.slice A16 C.J.red.length c17) (.slice A21 C.J.marks.length c22) C ((m45:Nat):Int) 1 (.slice none 0 0) [] (by first |assumption|omega|exact ⟨Dm hC (by omega) (by omega),by decide⟩|(unfold AB;omega)|exact (fun r h=>by cases h)|(simp only [List.length_nil];omega)) (by first |assumption|omega|exact ⟨Dm hC (by omega) (by omega),by decide⟩|(unfold AB;omega)|exact (fun r h=>by cases h)|(simp only [List.length_nil];omega)) (by first |assumption|omega|exact ⟨Dm hC (by omega) (by omega),by decide⟩|(unfold AB;omega)|exact (fun r h=>by cases h)|(simp only [List.length_nil];omega)) (by first |assumption|omega|exact ⟨Dm hC (by omega) (by omega),by decide⟩|(unfold AB;omega)|exact (fun r h=>by cases h)|(simp only [List.length_nil];omega)) (by first |assumption|omega|exact ⟨Dm hC (by omega) (by omega),by decide⟩|(unfold AB;omega)|exact (fun r h=>by cases h)|(simp only [List.length_nil];omega)) (by first |assumption|omega|exact ⟨Dm hC (by omega) (by omega),by decide⟩|(unfold AB;omega)|exact (fun r h=>by cases h)|(simp only [List.length_nil];omega))) H (lR 0 U (lR 2 U (lR 3 U (lR 4 U (lR 5 U (lX (fun F _ _=>IA _ _ F trivial (by decide)) l0)))))) U U (At Pe U U) ?_)))))))
 rintro _ _ w ⟨r46,vS47,vM48,vC49,vR50,vK51,J52,hv53,sb54,vs55,us56,rfl,rfl,hf57,hf58⟩ H
 replace H:Hd _ _ _ [blk r46 (AK vS47 vM48 vC49 vR50 vK51 J52 C.w C.t C.o ((m45:Nat):Int) 1 ((CW J52.us.length ((m45:Nat):Int) 1 ([].map AV.p)).g) hv53 sb54 vs55) 185,Y (Ak Ag) vS47 J52.us,Y Af vM48 J52.map,Y Af vC49 J52.comb,Y Af vR50 J52.red,Y (Ai .i64) vK51 J52.marks,AT ((CW J52.us.length ((m45:Nat):Int) 1 ([].map AV.p)).g) hv53,Y (Ak (Ai .i64)) vs55 us56,AS 253 sb54 ([]),blk b36 [.slice A1 C.J.us.length c2,.int .i64 C.J.parts,.slice A6 C.J.map.length c7,.slice A11 C.J.comb.length c12,.slice A16 C.J.red.length c17,.int .i64 C.J.chunk,.int .i64 C.J.window,.int .i64 C.J.fuel,.slice A21 C.J.marks.length c22,.int .i64 C.w,.int .i64 C.t,.int .i64 C.o] 28] [Aa (Ak Ag) (.slice A1 C.J.us.length c2) C.J.us,Aa (Bq Ag) (.slice A1 C.J.us.length c2) ss,Aa Af (.slice A6 C.J.map.length c7) C.J.map,Aa Af (.slice A11 C.J.comb.length c12) C.J.comb,Aa Af (.slice A16 C.J.red.length c17) C.J.red,Aa (Ai .i64) (.slice A21 C.J.marks.length c22) C.J.marks,Aa (Ai .i64) (.slice A26 order.length c27) order,Aa (Ai .i64) (.slice A31 tries.length c32) tries,gl]:=H
 obtain ⟨R59,hR60⟩:∃ z:AD,z=CW J52.us.length ((m45:Nat):Int) 1 ([].map AV.p):=⟨_,rfl⟩
 rw [←hR60] at H hf58
 have hRp61:R59.part=((m45:Nat):Int):=by rw [hR60];exact (Gy _ _ _ _).1
 have hRe62:R59.ep=1:=by rw [hR60];exact (Gy _ _ _ _).2.1
 have hRs63:R59.st=[]:=by rw [hR60];exact (Gy _ _ _ _).2.2
 rw [show AK vS47 vM48 vC49 vR50 vK51 J52 C.w C.t C.o ((m45:Nat):Int) 1 R59.g hv53 sb54 vs55=AK vS47 vM48 vC49 vR50 vK51 J52 C.w C.t C.o R59.part R59.ep R59.g hv53 sb54 vs55 from by rw [hRp61,hRe62],show AS 253 sb54 ([])=AS 253 sb54 (R59.st) from by rw [hRs63]] at H
 replace H:Hd _ _ _ [blk r46 (AK vS47 vM48 vC49 vR50 vK51 J52 C.w C.t C.o R59.part R59.ep R59.g hv53 sb54 vs55) 185,Y (Ak Ag) vS47 J52.us,Y Af vM48 J52.map,Y Af vC49 J52.comb,Y Af vR50 J52.red,Y (Ai .i64) vK51 J52.marks,AT (R59.g) hv53,Y (Ak (Ai .i64)) vs55 us56,AS 253 sb54 (R59.st),blk b36 [.slice A1 C.J.us.length c2,.int .i64 C.J.parts,.slice A6 C.J.map.length c7,.slice A11 C.J.comb.length c12,.slice A16 C.J.red.length c17,.int .i64 C.J.chunk,.int .i64 C.J.window,.int .i64 C.J.fuel,.slice A21 C.J.marks.length c22,.int .i64 C.w,.int .i64 C.t,.int .i64 C.o] 28] [Aa (Ak Ag) (.slice A1 C.J.us.length c2) C.J.us,Aa (Bq Ag) (.slice A1 C.J.us.length c2) ss,Aa Af (.slice A6 C.J.map.length c7) C.J.map,Aa Af (.slice A11 C.J.comb.length c12) C.J.comb,Aa Af (.slice A16 C.J.red.length c17) C.J.red,Aa (Ai .i64) (.slice A21 C.J.marks.length c22) C.J.marks,Aa (Ai .i64) (.slice A26 order.length c27) order,Aa (Ai .i64) (.slice A31 tries.length c32) tries,gl]:=H
 replace H:=CM r46 vS47 vM48 vC49 vR50 vK51 J52 C.w C.t C.o sb54 R59 hv53 vs55 us56 hf58 H
 replace H:=H.h1 (A:=By r46 vS47 vM48 vC49 vR50 vK51 J52 C.w C.t C.o sb54 R59)
 have hsj_R59:=hf57
 have hsj:=hf57
 have hJ2:B6 J52:=hsj.symm.ok hJ
 have h6:J52.us.length≤6:=by have:=hC.1.1;have:=hsj.len;omega
 have hmk:J52.marks.length≤1000:=by have:=hC.1.2.2.1;rw [hsj.marks];omega
 have hred:∀ i∈J52.red,AB i.a:=by rw [hsj.red];exact gr
 have hf64:AB J52.fuel:=by rw [hsj.fuel];have:=hC.1.2.2.2.2.2.2.2.2.2.2;unfold AB;omega
 have hsl:=hsj.len
 have hO0:HP dg J52 ((m45:Nat):Int) R59 (fun _=>false):=by rw [hR60];exact WT _ _ _ _
 have hk0:Bw (0*41) R59:=by rw [hR60];exact Bw.new (rs:=[]) fun r h=>by cases h
 refine Ah 5 U (Ac (Z (Ab (Ab (Ae (Ad U (V U U (C8 U U U) (Ah 2 U (V U U (C3 U Hm U U) (Ad U (Ac (Z (Cb U (Av (Z (Ab (Ae (V U U (Aj U CQ U) (V U U (Aj U DE U) (V U U (An U DI U (H.cellI 1 U U)) (V U U (A0 U DJ U) (Ad U (Ac (Z (Ab (Ae (Dr U U U Z6 H (fun b64 w H=>?_))))))))))))))))))))))))))))
 replace H:=H.h1 (A:=blk b64 [.bool false,.bool false,.bool false,.bool false,.bool false,.bool false] 110)
 refine Ac (Z (Ab (Ab (Ae (Ad U (Ac (Z (AU ?_))))))))
 replace H:=H.p1.p2.h3 (C:=blk b64 (Eu (fun _=>false)) 110)
 refine BV (σ:=Nat×AD×(Nat→Bool)) (fun (k,R,f0)=>[(1,.int .i64 ((m45:Nat):Int)),(2,.slice A26 order.length c27),(3,.slice A31 tries.length c32),(4,.pointer (some ⟨b36,0,none⟩)),(9,.pointer (some ⟨r46,0,none⟩)),(11,.int .i64 ((C.J.us.length:Nat):Int)),(12,.pointer (some ⟨b64,0,none⟩)),(13,.int .i64 ((k:Nat):Int))]) (fun (k,R,f0) w=>(Hd w0 F0 w [blk b36 [.slice A1 C.J.us.length c2,.int .i64 C.J.parts,.slice A6 C.J.map.length c7,.slice A11 C.J.comb.length c12,.slice A16 C.J.red.length c17,.int .i64 C.J.chunk,.int .i64 C.J.window,.int .i64 C.J.fuel,.slice A21 C.J.marks.length c22,.int .i64 C.w,.int .i64 C.t,.int .i64 C.o] 28,By r46 vS47 vM48 vC49 vR50 vK51 J52 C.w C.t C.o sb54 R,blk b64 (Eu f0) 110] [Aa (Ak Ag) (.slice A1 C.J.us.length c2) C.J.us,Aa (Bq Ag) (.slice A1 C.J.us.length c2) ss,Aa Af (.slice A6 C.J.map.length c7) C.J.map,Aa Af (.slice A11 C.J.comb.length c12) C.J.comb,Aa Af (.slice A16 C.J.red.length c17) C.J.red,Aa (Ai .i64) (.slice A21 C.J.marks.length c22) C.J.marks,Aa (Ai .i64) (.slice A26 order.length c27) order,Aa (Ai .i64) (.slice A31 tries.length c32) tries,gl])∧(k≤order.length+C.J.us.length)∧(Bw (k*41) R)∧(HP dg J52 ((m45:Nat):Int) R f0)∧(∀ i:Nat,order.length+i<k→f0 i=true)) (fun (k,R,f0)=>order.length+C.J.us.length - k) (0,R59,(fun _=>false)) ⟨rfl,rfl,rfl,rfl,rfl,rfl,rfl,rfl,trivial⟩ ⟨H,Nat.zero_le _,hk0,hO0,fun i h=>absurd h (Nat.not_lt_zero _)⟩ ?_
 rintro ⟨k,R,f0⟩ w ⟨H,hk,hB,hO,hdn⟩
 refine Ab (Ab (Ae (Ah 2 U (V U U (A0 U Ec U) (Ad U (V U U (A9 (z:=((order.length+C.J.us.length:Nat):Int)) U U U (by rw [AF (by omega) (by omega)];omega)) (V U U (Bg U U U) (Ac (Z ?_)))))))))
 refine Ay U (fun h65=>?_) (fun h65=>?_)
 ·refine Av (Z (Ab (AU (Ab (Ae (Ah 2 U (V U U (A0 U Ec U) (V U U (Ck (z:=((k:Nat):Int) - ((order.length:Nat):Int)) U U U (AF (by omega) (by omega))) (Ad U (Ac (Z ?_)))))))))))
  refine HV (σ:=Nat) (fun sI=>[(1,.int .i64 ((m45:Nat):Int)),(2,.slice A26 order.length c27),(3,.slice A31 tries.length c32),(4,.pointer (some ⟨b36,0,none⟩)),(9,.pointer (some ⟨r46,0,none⟩)),(11,.int .i64 ((C.J.us.length:Nat):Int)),(12,.pointer (some ⟨b64,0,none⟩)),(13,.int .i64 ((k:Nat):Int)),(14,.int .i64 ((sI:Nat):Int))]) (fun sI w=>(Hd w0 F0 w [blk b36 [.slice A1 C.J.us.length c2,.int .i64 C.J.parts,.slice A6 C.J.map.length c7,.slice A11 C.J.comb.length c12,.slice A16 C.J.red.length c17,.int .i64 C.J.chunk,.int .i64 C.J.window,.int .i64 C.J.fuel,.slice A21 C.J.marks.length c22,.int .i64 C.w,.int .i64 C.t,.int .i64 C.o] 28,By r46 vS47 vM48 vC49 vR50 vK51 J52 C.w C.t C.o sb54 R,blk b64 (Eu f0) 110] [Aa (Ak Ag) (.slice A1 C.J.us.length c2) C.J.us,Aa (Bq Ag) (.slice A1 C.J.us.length c2) ss,Aa Af (.slice A6 C.J.map.length c7) C.J.map,Aa Af (.slice A11 C.J.comb.length c12) C.J.comb,Aa Af (.slice A16 C.J.red.length c17) C.J.red,Aa (Ai .i64) (.slice A21 C.J.marks.length c22) C.J.marks,Aa (Ai .i64) (.slice A26 order.length c27) order,Aa (Ai .i64) (.slice A31 tries.length c32) tries,gl])∧(sI<C.J.us.length∧(k<order.length∨sI=k - order.length))) ?_ ?_
  ·refine Ab (Ae (Ah 2 U (V U U (A0 U Ec U) (V U U (Bg U U U) (Ac (Z ?_))))))
   refine Ay U (fun h66=>?_) (fun h66=>?_)
   ·refine Ae (Ah 2 U ?_)
    obtain ⟨x67,hx68⟩:∃ z9,order[k]?=some z9:=⟨_,List.getElem?_eq_getElem (show k<order.length by omega)⟩
    have th69:=H.thR 6 rfl hx68
    refine V U U (Bf (p:=AX A26+k*1) U DP U U (by omega) (by omega) th69 U) (V U U (An U AE U (H.elR 6 U hx68 (q:=0) U U)) (Ad U ?_))
    have h6414:AB x67:=worder.1 _ (B7 hx68)
    refine sc (LX x67 ((C.J.us.length:Nat):Int) (by first |assumption|(unfold AB;omega)) (by omega) (by omega)) H l0 U U (At LP U U) ?_
    rintro _ _ w ⟨rfl,rfl⟩ H
    obtain ⟨lo70,hl71,hl72,hl73⟩:∃ z:Int,IntKind.u64.wrap x67%((C.J.us.length:Nat):Int)=z∧0≤z∧z<((C.J.us.length:Nat):Int):=⟨_,rfl,Int.emod_nonneg _ (by omega),Int.emod_lt_of_pos _ (by omega)⟩
    rw [hl71]
    obtain ⟨m74,rfl⟩:∃ z:Nat,lo70=(z:Int):=⟨(lo70).toNat,by omega⟩
    exact Ad U (Ac (EC m74 ⟨rfl,rfl,rfl,rfl,rfl,rfl,rfl,rfl,rfl,trivial⟩ ⟨H,⟨by omega,by omega⟩⟩))
   obtain ⟨m9,hm9⟩:∃ z:Nat,((k:Nat):Int) - ((order.length:Nat):Int)=(z:Int):=⟨k - order.length,by omega⟩
   rw [hm9]
   exact Av (EC m9 ⟨rfl,rfl,rfl,rfl,rfl,rfl,rfl,rfl,rfl,trivial⟩ ⟨H,⟨by omega,by omega⟩⟩)
  rintro sI w ⟨H,hsI⟩
  refine Ab (Ab (Ae (Ad U (V U U (F_ (p:=0+sI*1) U Rf OJ U U (by omega) (by omega) (by omega)) (V U U (An U Ds U (H.cellI 2 U (RE (by omega)))) (Ac (Z ?_)))))))
  refine Dv (b:=f0 sI) U (fun h75=>?_) (fun h75=>?_)
  ·refine BK (AR (BN (Z (Ae (Ad U (V U U (A9 (z:=((k+1:Nat):Int)) U U U (by rw [AF (by omega) (by omega)];omega)) (Ad U (Ac ?_))))))))
   replace H:=H.h3 (B:=By r46 vS47 vM48 vC49 vR50 vK51 J52 C.w C.t C.o sb54 R) (C:=blk b64 (Eu f0) 110)
   exact Bm (s:=(k,R,f0)) (k+1,R,f0) ⟨rfl,rfl,rfl,rfl,rfl,rfl,rfl,rfl,trivial⟩ ⟨H,by (try dsimp only);omega,hB.mono (by omega),hO,(fun i hi=>if e:i=sI then (by subst e;first |exact DB _ _ _|(simpa using h75)) else (by first |exact hdn i (by omega)|(rw [D0 _ _ e];exact hdn i (by omega))))⟩ (by (try dsimp only);omega)
  refine Av (Z (Ab (Ae (Ad U (V U U (F_ (p:=0+sI*1) U Rf OJ U U (by omega) (by omega) (by omega)) ?_)))))
  replace H:=H.p2
  refine Bk U U U Ds U U H U (by show 0+sI*1+1≤6;omega) (fun u hu=>by simp [Value.cells] at hu;subst hu;rfl) (fun w H=>?_)
  replace H:Hd w0 F0 w [blk b64 (Eu (AJ f0 sI true)) 110,blk b36 [.slice A1 C.J.us.length c2,.int .i64 C.J.parts,.slice A6 C.J.map.length c7,.slice A11 C.J.comb.length c12,.slice A16 C.J.red.length c17,.int .i64 C.J.chunk,.int .i64 C.J.window,.int .i64 C.J.fuel,.slice A21 C.J.marks.length c22,.int .i64 C.w,.int .i64 C.t,.int .i64 C.o] 28,By r46 vS47 vM48 vC49 vR50 vK51 J52 C.w C.t C.o sb54 R] [Aa (Ak Ag) (.slice A1 C.J.us.length c2) C.J.us,Aa (Bq Ag) (.slice A1 C.J.us.length c2) ss,Aa Af (.slice A6 C.J.map.length c7) C.J.map,Aa Af (.slice A11 C.J.comb.length c12) C.J.comb,Aa Af (.slice A16 C.J.red.length c17) C.J.red,Aa (Ai .i64) (.slice A21 C.J.marks.length c22) C.J.marks,Aa (Ai .i64) (.slice A26 order.length c27) order,Aa (Ai .i64) (.slice A31 tries.length c32) tries,gl]:=by rw [←RF (show sI<6 by omega)];exact H
  refine Ac (Z (Ab (Ae (Ad U (Ac (Z ?_))))))
  refine HV (σ:=Int) (fun aI=>[(1,.int .i64 ((m45:Nat):Int)),(2,.slice A26 order.length c27),(3,.slice A31 tries.length c32),(4,.pointer (some ⟨b36,0,none⟩)),(9,.pointer (some ⟨r46,0,none⟩)),(11,.int .i64 ((C.J.us.length:Nat):Int)),(12,.pointer (some ⟨b64,0,none⟩)),(13,.int .i64 ((k:Nat):Int)),(14,.int .i64 ((sI:Nat):Int)),(15,.int .i64 aI)]) (fun aI w=>(Hd w0 F0 w [blk b36 [.slice A1 C.J.us.length c2,.int .i64 C.J.parts,.slice A6 C.J.map.length c7,.slice A11 C.J.comb.length c12,.slice A16 C.J.red.length c17,.int .i64 C.J.chunk,.int .i64 C.J.window,.int .i64 C.J.fuel,.slice A21 C.J.marks.length c22,.int .i64 C.w,.int .i64 C.t,.int .i64 C.o] 28,By r46 vS47 vM48 vC49 vR50 vK51 J52 C.w C.t C.o sb54 R,blk b64 (Eu (AJ f0 sI true)) 110] [Aa (Ak Ag) (.slice A1 C.J.us.length c2) C.J.us,Aa (Bq Ag) (.slice A1 C.J.us.length c2) ss,Aa Af (.slice A6 C.J.map.length c7) C.J.map,Aa Af (.slice A11 C.J.comb.length c12) C.J.comb,Aa Af (.slice A16 C.J.red.length c17) C.J.red,Aa (Ai .i64) (.slice A21 C.J.marks.length c22) C.J.marks,Aa (Ai .i64) (.slice A26 order.length c27) order,Aa (Ai .i64) (.slice A31 tries.length c32) tries,gl])∧(1≤aI∧aI≤C.t)) ?_ ?_
  ·refine Ab (Ae (Ah 2 U (V U U (A0 U Ec U) (V U U (Bg U U U) (Ac (Z ?_))))))
   refine Ay U (fun h76=>?_) (fun h76=>?_)
   ·refine BX (.e 0 (.e 1 (.e 2 (.e 3 (.e 4 (.e 5 (.m 6 (.e 7 (.e 8 .z))))))))) (fun w=>∃ Ar,Hd w0 F0 w (blk b64 (Eu (AJ f0 sI true)) 110::blk b36 [.slice A1 C.J.us.length c2,.int .i64 C.J.parts,.slice A6 C.J.map.length c7,.slice A11 C.J.comb.length c12,.slice A16 C.J.red.length c17,.int .i64 C.J.chunk,.int .i64 C.J.window,.int .i64 C.J.fuel,.slice A21 C.J.marks.length c22,.int .i64 C.w,.int .i64 C.t,.int .i64 C.o] 28::By r46 vS47 vM48 vC49 vR50 vK51 J52 C.w C.t C.o sb54 R::Ar) [Aa (Ak Ag) (.slice A1 C.J.us.length c2) C.J.us,Aa (Bq Ag) (.slice A1 C.J.us.length c2) ss,Aa Af (.slice A6 C.J.map.length c7) C.J.map,Aa Af (.slice A11 C.J.comb.length c12) C.J.comb,Aa Af (.slice A16 C.J.red.length c17) C.J.red,Aa (Ai .i64) (.slice A21 C.J.marks.length c22) C.J.marks,Aa (Ai .i64) (.slice A26 order.length c27) order,Aa (Ai .i64) (.slice A31 tries.length c32) tries,gl]) mo (by kernel_rfl) (fun w H=>⟨_,H⟩) H (fun w H=>?_)
    refine Ax U (Ax U ?_)
    obtain ⟨x77,hx78⟩:∃ z9,tries[sI]?=some z9:=⟨_,List.getElem?_eq_getElem (show sI<tries.length by omega)⟩
    have th79:=H.thR 7 rfl hx78
    refine Ap U U U (fun w ⟨Ar,H⟩=>Bf (p:=AX A31+sI*1) U DP U U (by omega) (by omega) th79 U) (Ap U U U (fun w ⟨Ar,H⟩=>An U AE U (H.elR 7 U hx78 (q:=0) U U)) (Ap U U U (fun w ⟨Ar,H⟩=>Aj U J0 U) (Ap U U U (fun w ⟨Ar,H⟩=>An U AE U (H.cellI 1 U U)) (AL U ?_))))
    have h6419:AB x77:=wtries.1 _ (B7 hx78)
    refine sc (LX x77 C.t (by first |assumption|(unfold AB;omega)) (by omega) (by omega)) H l0 U U (At LP U U) ?_
    rintro _ _ w ⟨rfl,rfl⟩ H
    obtain ⟨lo80,hl81,hl82,hl83⟩:∃ z:Int,IntKind.u64.wrap x77%C.t=z∧0≤z∧z<C.t:=⟨_,rfl,Int.emod_nonneg _ (by omega),Int.emod_lt_of_pos _ (by omega)⟩
    rw [hl81]
    refine AH ⟨_,H⟩ (Ap U U U (fun w ⟨Ar,H⟩=>A9 (z:=1+lo80) U U U (AF (by omega) (by omega))) (Ax U (BL ?_)))
    replace H:=H.sel 3 [1,2,0] [] rfl (by kernel_rfl)
    exact EC (1+lo80) ⟨rfl,rfl,rfl,rfl,rfl,rfl,rfl,rfl,rfl,rfl,trivial⟩ ⟨H,⟨by omega,by omega⟩⟩
   refine Av ?_
   replace H:=H.p2.p2
   exact EC 1 ⟨rfl,rfl,rfl,rfl,rfl,rfl,rfl,rfl,rfl,rfl,trivial⟩ ⟨H,⟨by omega,by omega⟩⟩
  rintro aI w ⟨H,haI⟩
  refine Ab (Ae (V U U (Bv (cs:=[.slice A1 C.J.us.length c2,.int .i64 C.J.parts,.slice A6 C.J.map.length c7,.slice A11 C.J.comb.length c12,.slice A16 C.J.red.length c17,.int .i64 C.J.chunk,.int .i64 C.J.window,.int .i64 C.J.fuel,.slice A21 C.J.marks.length c22,.int .i64 C.w,.int .i64 C.t,.int .i64 C.o]) U EX U U (H.cellsI 0 U U)) (Ah 2 U ?_)))
  have hgoM:sI<C.J.us.length∧1≤aI∧aI≤C.t:=⟨hsI.1,haI.1,haI.2⟩
  refine sc (VX (.slice A1 C.J.us.length c2) (.slice A6 C.J.map.length c7) (.slice A11 C.J.comb.length c12) (.slice A16 C.J.red.length c17) (.slice A21 C.J.marks.length c22) C sI aI (by first |assumption|omega|exact ⟨Dm hC (by omega) (by omega),by decide⟩|(unfold AB;omega)|exact (fun r h=>by cases h)|(simp only [List.length_nil];omega)) (by first |assumption|omega|exact ⟨Dm hC (by omega) (by omega),by decide⟩|(unfold AB;omega)|exact (fun r h=>by cases h)|(simp only [List.length_nil];omega)) (by first |assumption|omega|exact ⟨Dm hC (by omega) (by omega),by decide⟩|(unfold AB;omega)|exact (fun r h=>by cases h)|(simp only [List.length_nil];omega))) H (lR 0 U (lR 2 U (lR 3 U (lR 4 U (lR 5 U (lR 8 U l0)))))) U U (At Vd U U) ?_
  rintro _ _ w ⟨b84,rfl,rfl⟩ H
  replace H:=H.h1 (A:=EB b84 C.J (Gx dg C.J sI aI))
  obtain ⟨M1,hM1⟩:∃ z:FU,z=Gx dg C.J sI aI:=⟨_,rfl⟩
  rw [←hM1] at H
  replace H:Hd _ _ _ [EB b84 C.J M1,blk b36 [.slice A1 C.J.us.length c2,.int .i64 C.J.parts,.slice A6 C.J.map.length c7,.slice A11 C.J.comb.length c12,.slice A16 C.J.red.length c17,.int .i64 C.J.chunk,.int .i64 C.J.window,.int .i64 C.J.fuel,.slice A21 C.J.marks.length c22,.int .i64 C.w,.int .i64 C.t,.int .i64 C.o] 28,By r46 vS47 vM48 vC49 vR50 vK51 J52 C.w C.t C.o sb54 R,blk b64 (Eu (AJ f0 sI true)) 110] [Aa (Ak Ag) (.slice A1 C.J.us.length c2) C.J.us,Aa (Bq Ag) (.slice A1 C.J.us.length c2) ss,Aa Af (.slice A6 C.J.map.length c7) C.J.map,Aa Af (.slice A11 C.J.comb.length c12) C.J.comb,Aa Af (.slice A16 C.J.red.length c17) C.J.red,Aa (Ai .i64) (.slice A21 C.J.marks.length c22) C.J.marks,Aa (Ai .i64) (.slice A26 order.length c27) order,Aa (Ai .i64) (.slice A31 tries.length c32) tries,gl]:=H
  have hsp1:M1.sp=sI:=by rw [hM1];rfl
  have hat1:M1.att=aI:=by rw [hM1];rfl
  have hlenc:=NL dg C.J M1.sp M1.att
  refine Ah 5 U (Ac (Z (Ab (Ab (Ae (Ad U (V U U (C8 U U U) (Ah 2 U (V U U (C3 U IN U U) (Ad U (Ac (Z (Cb U (Av (Z (Ab (Ab (Ae (Ad U (sc (Wz b84 C.J M1) H l0 U U (At LQ U U) ?_))))))))))))))))))))
  rintro _ _ w ⟨rfl,rfl⟩ H
  refine V U U (C8 U U U) (Ac (Z ?_))
  refine Ay U (fun h85=>?_) (fun h85=>?_)
  ·refine Ab (Ae (sc (HT) H (lR 8 U l0) U U (At Im U U) ?_))
   rintro _ _ w ⟨rfl,rfl⟩ H
   refine Ad U (Ac (Z (Ao (Az (A_ (Az (Az (A_ (Az (Aq U U ?_))))))))))
   replace H:=H.nil
   exact Am ⟨rfl,rfl⟩ H
  refine Av (Z (Ab ?_))
  have hr1:(AA dg C.J M1.sp).2=0:=Classical.not_not.1 h85
  have h0s:(AA dg J52 sI).2=0:=by rw [hsj.split,←hsp1];exact hr1
  rw [if_neg (fun g=>g hr1)] at hlenc
  refine Ae (Ad U (sc (Wy b84 C.J M1 (by first |assumption|omega|exact ⟨Dm hC (by omega) (by omega),by decide⟩|(unfold AB;omega)|exact (fun r h=>by cases h)|(simp only [List.length_nil];omega))) H l0 U U (At O9 U U) ?_))
  rintro v86 _ w rfl H
  refine Ad U ?_
  obtain ⟨A87,c88,rfl,hc89,hm90,hp91⟩:=H.fA 0 rfl
  obtain ⟨x92,hx93⟩:∃ z9,(BR dg C.J M1.sp M1.att)[m45]?=some z9:=⟨_,List.getElem?_eq_getElem (show m45<(BR dg C.J M1.sp M1.att).length by omega)⟩
  have th94:=H.thA 0 rfl hx93
  refine V U U (Bf (p:=AX A87+m45*1) U DP U U (by omega) (by omega) th94 U) (V U U (An U AE U (H.elA 0 U hx93 (q:=0) U U)) (Ad U (Ac (Z ?_))))
  replace H:Hd _ _ _ [Y (Ai .i64) (.slice A87 ((BR dg C.J M1.sp M1.att).length) c88) (BR dg C.J M1.sp M1.att),EB b84 C.J M1,blk b36 [.slice A1 C.J.us.length c2,.int .i64 C.J.parts,.slice A6 C.J.map.length c7,.slice A11 C.J.comb.length c12,.slice A16 C.J.red.length c17,.int .i64 C.J.chunk,.int .i64 C.J.window,.int .i64 C.J.fuel,.slice A21 C.J.marks.length c22,.int .i64 C.w,.int .i64 C.t,.int .i64 C.o] 28,By r46 vS47 vM48 vC49 vR50 vK51 J52 C.w C.t C.o sb54 R,blk b64 (Eu (AJ f0 sI true)) 110] [Aa (Ak Ag) (.slice A1 C.J.us.length c2) C.J.us,Aa (Bq Ag) (.slice A1 C.J.us.length c2) ss,Aa Af (.slice A6 C.J.map.length c7) C.J.map,Aa Af (.slice A11 C.J.comb.length c12) C.J.comb,Aa Af (.slice A16 C.J.red.length c17) C.J.red,Aa (Ai .i64) (.slice A21 C.J.marks.length c22) C.J.marks,Aa (Ai .i64) (.slice A26 order.length c27) order,Aa (Ai .i64) (.slice A31 tries.length c32) tries,gl]:=H
  refine Ab (Ab ?_)
  have hxe:x92=(((Ce dg J52 sI aI ((m45:Nat):Int)):Nat):Int):=SI hJ2 h0s ⟨by omega,by rw [hsj.parts];omega⟩ (by rw [NN hsj,Int.toNat_natCast];rw [hsp1,hat1] at hx93;exact hx93)
  have hc40:=NE dg hJ2 sI aI ((m45:Nat):Int)
  have hdf:f0 sI=false:=by simpa using h75
  obtain ⟨hnm,hnt⟩:=hO.no sI (by omega) hdf
  refine Ae (Ad U (Ac (Z (AU ?_))))
  replace H:=H.p1.p4.p4.p4.k4
  replace H:Hd w0 F0 w [blk b36 [.slice A1 C.J.us.length c2,.int .i64 C.J.parts,.slice A6 C.J.map.length c7,.slice A11 C.J.comb.length c12,.slice A16 C.J.red.length c17,.int .i64 C.J.chunk,.int .i64 C.J.window,.int .i64 C.J.fuel,.slice A21 C.J.marks.length c22,.int .i64 C.w,.int .i64 C.t,.int .i64 C.o] 28,By r46 vS47 vM48 vC49 vR50 vK51 J52 C.w C.t C.o sb54 (B4 dg J52 R sI aI ((m45:Nat):Int) 0),blk b64 (Eu (AJ f0 sI true)) 110,EB b84 C.J M1] [Aa (Ak Ag) (.slice A1 C.J.us.length c2) C.J.us,Aa (Bq Ag) (.slice A1 C.J.us.length c2) ss,Aa Af (.slice A6 C.J.map.length c7) C.J.map,Aa Af (.slice A11 C.J.comb.length c12) C.J.comb,Aa Af (.slice A16 C.J.red.length c17) C.J.red,Aa (Ai .i64) (.slice A21 C.J.marks.length c22) C.J.marks,Aa (Ai .i64) (.slice A26 order.length c27) order,Aa (Ai .i64) (.slice A31 tries.length c32) tries,gl]:=by rw [N_ hO.st];exact H
  refine BV (σ:=Nat) (fun q=>[(1,.int .i64 ((m45:Nat):Int)),(2,.slice A26 order.length c27),(3,.slice A31 tries.length c32),(4,.pointer (some ⟨b36,0,none⟩)),(9,.pointer (some ⟨r46,0,none⟩)),(11,.int .i64 ((C.J.us.length:Nat):Int)),(12,.pointer (some ⟨b64,0,none⟩)),(13,.int .i64 ((k:Nat):Int)),(14,.int .i64 ((sI:Nat):Int)),(15,.int .i64 aI),(16,.pointer (some ⟨b84,0,none⟩)),(18,.int .i64 x92),(19,.int .i64 ((q:Nat):Int))]) (fun q w=>(Hd w0 F0 w [blk b36 [.slice A1 C.J.us.length c2,.int .i64 C.J.parts,.slice A6 C.J.map.length c7,.slice A11 C.J.comb.length c12,.slice A16 C.J.red.length c17,.int .i64 C.J.chunk,.int .i64 C.J.window,.int .i64 C.J.fuel,.slice A21 C.J.marks.length c22,.int .i64 C.w,.int .i64 C.t,.int .i64 C.o] 28,By r46 vS47 vM48 vC49 vR50 vK51 J52 C.w C.t C.o sb54 (B4 dg J52 R sI aI ((m45:Nat):Int) q),blk b64 (Eu (AJ f0 sI true)) 110,EB b84 C.J M1] [Aa (Ak Ag) (.slice A1 C.J.us.length c2) C.J.us,Aa (Bq Ag) (.slice A1 C.J.us.length c2) ss,Aa Af (.slice A6 C.J.map.length c7) C.J.map,Aa Af (.slice A11 C.J.comb.length c12) C.J.comb,Aa Af (.slice A16 C.J.red.length c17) C.J.red,Aa (Ai .i64) (.slice A21 C.J.marks.length c22) C.J.marks,Aa (Ai .i64) (.slice A26 order.length c27) order,Aa (Ai .i64) (.slice A31 tries.length c32) tries,gl])∧(q≤(Ce dg J52 sI aI ((m45:Nat):Int)))∧(Bw (k*41+q) (B4 dg J52 R sI aI ((m45:Nat):Int) q))) (fun q=>(Ce dg J52 sI aI ((m45:Nat):Int)) - q) 0 ⟨rfl,rfl,rfl,rfl,rfl,rfl,rfl,rfl,rfl,rfl,rfl,rfl,rfl,trivial⟩ ⟨H,Nat.zero_le _,by (try dsimp only);rw [N_ hO.st];exact hB⟩ ?_
  rintro q w ⟨H,hq,hBq⟩
  have hB99:Bw 99999 (B4 dg J52 R sI aI ((m45:Nat):Int) q):=hBq.mono (by omega)
  refine Ab (Ab (Ae (Ah 2 U (V U U (Bg U U U) (Ac (Z ?_))))))
  refine Ay U (fun h95=>?_) (fun h95=>?_)
  ·refine Av (Z (Ab (AU (Ae (Ah 8 U ?_)))))
   replace H:=H.p3.h3 (C:=By r46 vS47 vM48 vC49 vR50 vK51 J52 C.w C.t C.o sb54 (B4 dg J52 R sI aI ((m45:Nat):Int) q))
   refine sc (Wx b84 C.J M1 ((m45:Nat):Int) ((q:Nat):Int) (by first |assumption|omega|exact ⟨Dm hC (by omega) (by omega),by decide⟩|(unfold AB;omega)|exact (fun r h=>by cases h)|(simp only [List.length_nil];omega))) H l0 U U (At Vq U U) ?_
   rintro v96 _ w rfl H
   replace H:=H.h1 (A:=Y Ag v96 (CV dg C.J M1.sp M1.att ((m45:Nat):Int) ((q:Nat):Int)))|>.tellK (ys:=CV dg J52 sI aI ((m45:Nat):Int) ((q:Nat):Int)) (by rw [hsp1,hat1];exact NA hsj _ _ _ _ _)|>.h1 (A:=Y Ag v96 (CV dg J52 sI aI ((m45:Nat):Int) ((q:Nat):Int)))
   obtain ⟨A97,c98,rfl,hc99,hm100,hp101⟩:=H.fA 0 rfl
   refine V U U (CL (parts:=[(0,.const (.int .i64 2)),(1,.tmp 132),(2,.tmp 133),(3,.tmp 134),(4,.tmp 135),(9,.tmp 139)]) (vs:=[.int .i64 2,.int .i64 ((sI:Nat):Int),.int .i64 aI,.int .i64 ((m45:Nat):Int),.int .i64 ((q:Nat):Int),.slice A97 ((CV dg J52 sI aI ((m45:Nat):Int) ((q:Nat):Int)).length) c98]) (cs:=[.int .i64 2,.int .i64 ((sI:Nat):Int),.int .i64 aI,.int .i64 ((m45:Nat):Int),.int .i64 ((q:Nat):Int),.int .i64 0,.int .i64 0,.int .i64 0,.slice none 0 0,.slice A97 ((CV dg J52 sI aI ((m45:Nat):Int) ((q:Nat):Int)).length) c98]) U HU U U) ?_
   replace H:=H.p3
   refine sc (QE r46 vS47 vM48 vC49 vR50 vK51 J52 C.w C.t C.o sb54 (B4 dg J52 R sI aI ((m45:Nat):Int) q) (⟨2,((sI:Nat):Int),aI,((m45:Nat):Int),((q:Nat):Int),0,0,0,[],(CV dg J52 sI aI ((m45:Nat):Int) ((q:Nat):Int))⟩:BD) (.slice none 0 0) (.slice A97 ((CV dg J52 sI aI ((m45:Nat):Int) ((q:Nat):Int)).length) c98) (by first |assumption|omega|exact ⟨Dm hC (by omega) (by omega),by decide⟩|(unfold AB;omega)|exact (fun r h=>by cases h)|(simp only [List.length_nil];omega)) (by first |assumption|omega|exact ⟨Dm hC (by omega) (by omega),by decide⟩|(unfold AB;omega)|exact (fun r h=>by cases h)|(simp only [List.length_nil];omega)) (by first |assumption|omega|exact ⟨Dm hC (by omega) (by omega),by decide⟩|(unfold AB;omega)|exact (fun r h=>by cases h)|(simp only [List.length_nil];omega))) H (lX (fun F _ _=>IA _ _ F trivial (by decide)) (lA 0 U BS l0)) U U (At Pc U U) ?_
   rintro _ _ w ⟨u102,rs103,rfl,rfl,hf104⟩ H
   replace H:=H.h2 (A:=Y Bl u102 rs103) (B:=By r46 vS47 vM48 vC49 vR50 vK51 J52 C.w C.t C.o sb54 ((Bz J52 (B4 dg J52 R sI aI ((m45:Nat):Int) q) (⟨2,((sI:Nat):Int),aI,((m45:Nat):Int),((q:Nat):Int),0,0,0,[],(CV dg J52 sI aI ((m45:Nat):Int) ((q:Nat):Int))⟩:BD)).1))
   have hfq:(Bz J52 (B4 dg J52 R sI aI ((m45:Nat):Int) q) (⟨2,((sI:Nat):Int),aI,((m45:Nat):Int),((q:Nat):Int),0,0,0,[],(CV dg J52 sI aI ((m45:Nat):Int) ((q:Nat):Int))⟩:BD)).1=B4 dg J52 R sI aI ((m45:Nat):Int) (q+1):=Tu G7 hJ2 (by omega) (by omega) (by omega) hO.part hnm hnt
   rw [hfq] at H
   replace H:Hd _ _ _ [Y Bl u102 rs103,By r46 vS47 vM48 vC49 vR50 vK51 J52 C.w C.t C.o sb54 (B4 dg J52 R sI aI ((m45:Nat):Int) (q+1)),Y Ag (.slice A97 ((CV dg J52 sI aI ((m45:Nat):Int) ((q:Nat):Int)).length) c98) (CV dg J52 sI aI ((m45:Nat):Int) ((q:Nat):Int)),EB b84 C.J M1,blk b36 [.slice A1 C.J.us.length c2,.int .i64 C.J.parts,.slice A6 C.J.map.length c7,.slice A11 C.J.comb.length c12,.slice A16 C.J.red.length c17,.int .i64 C.J.chunk,.int .i64 C.J.window,.int .i64 C.J.fuel,.slice A21 C.J.marks.length c22,.int .i64 C.w,.int .i64 C.t,.int .i64 C.o] 28,blk b64 (Eu (AJ f0 sI true)) 110] [Aa (Ak Ag) (.slice A1 C.J.us.length c2) C.J.us,Aa (Bq Ag) (.slice A1 C.J.us.length c2) ss,Aa Af (.slice A6 C.J.map.length c7) C.J.map,Aa Af (.slice A11 C.J.comb.length c12) C.J.comb,Aa Af (.slice A16 C.J.red.length c17) C.J.red,Aa (Ai .i64) (.slice A21 C.J.marks.length c22) C.J.marks,Aa (Ai .i64) (.slice A26 order.length c27) order,Aa (Ai .i64) (.slice A31 tries.length c32) tries,gl]:=H
   have hBn:Bw (k*41+(q+1)) (B4 dg J52 R sI aI ((m45:Nat):Int) (q+1)):=by rw [←hfq];exact hBq.push h6 _
   refine Ac (A8 (Z ?_))
   replace H:=H.p5.p5.p5.p5.p5.k5
   refine Ae (Ad U (V U U (A9 (z:=((q+1:Nat):Int)) U U U (by rw [AF (by omega) (by omega)];omega)) (Ad U (Ac ?_))))
   replace H:=H.p2.p4.p2.p4.k4
   exact Bm (s:=q) (q+1) ⟨rfl,rfl,rfl,rfl,rfl,rfl,rfl,rfl,rfl,rfl,rfl,rfl,rfl,trivial⟩ ⟨H,by (try dsimp only);omega,hBn⟩ (by (try dsimp only);omega)
  refine BK (AR (AR (BN (Z ?_))))
  replace H:=H.k3
  refine Ab ?_
  have hB10:Bw 100000 (B4 dg J52 R sI aI ((m45:Nat):Int) q):=hBq.mono (by omega)
  refine Ae (Ah 4 U ?_)
  replace H:=H.p1.h1 (A:=By r46 vS47 vM48 vC49 vR50 vK51 J52 C.w C.t C.o sb54 (B4 dg J52 R sI aI ((m45:Nat):Int) q))
  refine sc (Mx r46 vS47 vM48 vC49 vR50 vK51 J52 C.w C.t C.o sb54 (B4 dg J52 R sI aI ((m45:Nat):Int) q) ((sI:Nat):Int) aI x92 (by first |assumption|omega|exact ⟨Dm hC (by omega) (by omega),by decide⟩|(unfold AB;omega)|exact (fun r h=>by cases h)|(simp only [List.length_nil];omega)) (by first |assumption|omega|exact ⟨Dm hC (by omega) (by omega),by decide⟩|(unfold AB;omega)|exact (fun r h=>by cases h)|(simp only [List.length_nil];omega)) (by first |assumption|omega|exact ⟨Dm hC (by omega) (by omega),by decide⟩|(unfold AB;omega)|exact (fun r h=>by cases h)|(simp only [List.length_nil];omega))) H l0 U U (At LS U U) ?_
  rintro v107 _ w ⟨rs105,rfl,hf106⟩ H
  replace H:=H.h2 (A:=Y Bl v107 rs105) (B:=By r46 vS47 vM48 vC49 vR50 vK51 J52 C.w C.t C.o sb54 ((Db J52 C.t (B4 dg J52 R sI aI ((m45:Nat):Int) q) ((sI:Nat):Int) aI x92).1))
  have hww:Db J52 C.t (B4 dg J52 R sI aI ((m45:Nat):Int) q) ((sI:Nat):Int) aI x92=Db J52 C.t (B4 dg J52 R sI aI ((m45:Nat):Int) (Ce dg J52 sI aI ((m45:Nat):Int))) sI aI (Ce dg J52 sI aI ((m45:Nat):Int)):=by rw [hxe,show q=(Ce dg J52 sI aI ((m45:Nat):Int)) from by omega]
  obtain ⟨hwn,hO8⟩:=WX (t:=C.t) hJ2 hO (show sI<J52.us.length by omega) haI (by omega) hdf h0s
  rw [←hww] at hwn hO8
  have hBw:Bw (k*41+q+1) ((Db J52 C.t (B4 dg J52 R sI aI ((m45:Nat):Int) q) ((sI:Nat):Int) aI x92).1):=hBq.won h6 _ _ _
  obtain ⟨R9,hR9⟩:∃ z:AD,z=(Db J52 C.t (B4 dg J52 R sI aI ((m45:Nat):Int) q) ((sI:Nat):Int) aI x92).1:=⟨_,rfl⟩
  rw [←hR9] at H hO8 hBw
  replace H:Hd _ _ _ [Y Bl v107 rs105,By r46 vS47 vM48 vC49 vR50 vK51 J52 C.w C.t C.o sb54 R9,blk b36 [.slice A1 C.J.us.length c2,.int .i64 C.J.parts,.slice A6 C.J.map.length c7,.slice A11 C.J.comb.length c12,.slice A16 C.J.red.length c17,.int .i64 C.J.chunk,.int .i64 C.J.window,.int .i64 C.J.fuel,.slice A21 C.J.marks.length c22,.int .i64 C.w,.int .i64 C.t,.int .i64 C.o] 28,blk b64 (Eu (AJ f0 sI true)) 110] [Aa (Ak Ag) (.slice A1 C.J.us.length c2) C.J.us,Aa (Bq Ag) (.slice A1 C.J.us.length c2) ss,Aa Af (.slice A6 C.J.map.length c7) C.J.map,Aa Af (.slice A11 C.J.comb.length c12) C.J.comb,Aa Af (.slice A16 C.J.red.length c17) C.J.red,Aa (Ai .i64) (.slice A21 C.J.marks.length c22) C.J.marks,Aa (Ai .i64) (.slice A26 order.length c27) order,Aa (Ai .i64) (.slice A31 tries.length c32) tries,gl]:=H
  have hO9:=hO8
  have hB9:Bw ((k+1)*41) R9:=hBw.mono (by omega)
  obtain ⟨A108,c109,rfl,hc110,hm111,hp112⟩:=H.fA 0 rfl
  refine V U U (A0 U JA U) (V U U (Bp U U U) (Ac (Z ?_)))
  refine Ay U (fun h113=>?_) (fun h113=>?_)
  ·exact (hwn (by rw [←hf106];exact List.map_eq_nil_iff.2 (List.length_eq_zero_iff.1 (by omega)))).elim
  refine Av (A8 (Z ?_))
  replace H:=H.p3.p3.p3.k3
  refine Ae (Ad U (V U U (A9 (z:=((k+1:Nat):Int)) U U U (by rw [AF (by omega) (by omega)];omega)) (Ad U (Ac ?_))))
  replace H:=H.p1
  exact Bm (s:=(k,R,f0)) (k+1,R9,AJ f0 sI true) ⟨rfl,rfl,rfl,rfl,rfl,rfl,rfl,rfl,trivial⟩ ⟨H,by (try dsimp only);omega,hB9,hO9,(fun i hi=>if e:i=sI then (by subst e;first |exact DB _ _ _|(simpa using h75)) else (by first |exact hdn i (by omega)|(rw [D0 _ _ e];exact hdn i (by omega))))⟩ (by (try dsimp only);omega)
 refine BK (AR (AR (BN (Z ?_))))
 replace H:=H.k2
 refine Ab ?_
 obtain ⟨e1,e2,e3,e4⟩:=WW hO (fun i hi=>hdn i (by omega))
 have e5:∀ s,s<C.J.us.length→(AA dg C.J s).2=0:=fun s hs=>by rw [←hsj.split];exact e4 s (by omega)
 rw [hsj.part] at e2
 rw [hsl] at e1
 have hul:(upto C.J.us.length).length=C.J.us.length:=by unfold upto;simp
 have hbp9:∀ i,(R.g i).pairs.length≤1000:=hB.pairs
 have hB8:Bw 100000 R:=hB.mono (by omega)
 refine Ae (Ad U ?_)
 replace H:=H.p1.h1 (A:=By r46 vS47 vM48 vC49 vR50 vK51 J52 C.w C.t C.o sb54 R)
 obtain ⟨hv114,vs115,us116,hsets117,H⟩:=FN r46 vS47 vM48 vC49 vR50 vK51 J52 C.w C.t C.o sb54 R H
 replace H:=H.h9 (A:=blk r46 (AK vS47 vM48 vC49 vR50 vK51 J52 C.w C.t C.o R.part R.ep R.g hv114 sb54 vs115) 185) (B:=Y (Ak Ag) vS47 J52.us) (C:=Y Af vM48 J52.map) (D:=Y Af vC49 J52.comb) (E:=Y Af vR50 J52.red) (F:=Y (Ai .i64) vK51 J52.marks) (G:=AT (R.g) hv114) (I:=Y (Ak (Ai .i64)) vs115 us116) (J:=AS 253 sb54 (R.st))
 obtain ⟨A118,c119,rfl,hc120,hm121,hp122⟩:=H.fA 1 rfl
 refine sc (PP r46 A118 c119 vM48 vC49 vR50 vK51 J52 C.w C.t C.o R.part R.ep R hv114 sb54 vs115 (by first |assumption|omega|exact ⟨Dm hC (by omega) (by omega),by decide⟩|(unfold AB;omega)|exact (fun r h=>by cases h)|(simp only [List.length_nil];omega)) (by first |assumption|omega|exact ⟨Dm hC (by omega) (by omega),by decide⟩|(unfold AB;omega)|exact (fun r h=>by cases h)|(simp only [List.length_nil];omega)) (by first |assumption|omega|exact ⟨Dm hC (by omega) (by omega),by decide⟩|(unfold AB;omega)|exact (fun r h=>by cases h)|(simp only [List.length_nil];omega)) (by first |assumption|omega|exact ⟨Dm hC (by omega) (by omega),by decide⟩|(unfold AB;omega)|exact (fun r h=>by cases h)|(simp only [List.length_nil];omega))) H (lA 0 U (fun _ h=>h) (lA 6 U (fun _ h=>h) (lA 4 U BS (lR 8 U l0)))) U U (At Pf U U) ?_
 rintro _ _ w ⟨u123,rfl,rfl⟩ H
 replace H:=H.h1 (A:=Y Ag u123 ((DY dg J52 R).1))|>.p9|>.p9|>.p9|>.p9|>.p9|>.p9|>.p9|>.p9|>.p9
 replace H:=CM r46 (.slice A118 J52.us.length c119) vM48 vC49 vR50 vK51 J52 C.w C.t C.o sb54 R hv114 vs115 us116 hsets117 H
 replace H:=H.h1 (A:=By r46 (.slice A118 J52.us.length c119) vM48 vC49 vR50 vK51 J52 C.w C.t C.o sb54 R)
 rw [e2] at H ⊢
 replace H:Hd _ _ _ [By r46 (.slice A118 J52.us.length c119) vM48 vC49 vR50 vK51 J52 C.w C.t C.o sb54 R,Y Ag u123 ((DN dg C.J ((m45:Nat):Int)).1),blk b36 [.slice A1 C.J.us.length c2,.int .i64 C.J.parts,.slice A6 C.J.map.length c7,.slice A11 C.J.comb.length c12,.slice A16 C.J.red.length c17,.int .i64 C.J.chunk,.int .i64 C.J.window,.int .i64 C.J.fuel,.slice A21 C.J.marks.length c22,.int .i64 C.w,.int .i64 C.t,.int .i64 C.o] 28] [Aa (Ak Ag) (.slice A1 C.J.us.length c2) C.J.us,Aa (Bq Ag) (.slice A1 C.J.us.length c2) ss,Aa Af (.slice A6 C.J.map.length c7) C.J.map,Aa Af (.slice A11 C.J.comb.length c12) C.J.comb,Aa Af (.slice A16 C.J.red.length c17) C.J.red,Aa (Ai .i64) (.slice A21 C.J.marks.length c22) C.J.marks,Aa (Ai .i64) (.slice A26 order.length c27) order,Aa (Ai .i64) (.slice A31 tries.length c32) tries,gl]:=H
 refine Ah 7 U (Ac (Z (Ab (BX (.e 0 (.e 1 (.e 2 (.e 3 (.m 4 (.m 5 (.e 6 (.e 7 (.e 8 (.e 9 (.e 10 .z))))))))))) (fun w=>∃ Ar,Hd w0 F0 w (By r46 (.slice A118 J52.us.length c119) vM48 vC49 vR50 vK51 J52 C.w C.t C.o sb54 R::Y Ag u123 ((DN dg C.J ((m45:Nat):Int)).1)::blk b36 [.slice A1 C.J.us.length c2,.int .i64 C.J.parts,.slice A6 C.J.map.length c7,.slice A11 C.J.comb.length c12,.slice A16 C.J.red.length c17,.int .i64 C.J.chunk,.int .i64 C.J.window,.int .i64 C.J.fuel,.slice A21 C.J.marks.length c22,.int .i64 C.w,.int .i64 C.t,.int .i64 C.o] 28::Ar) [Aa (Ak Ag) (.slice A1 C.J.us.length c2) C.J.us,Aa (Bq Ag) (.slice A1 C.J.us.length c2) ss,Aa Af (.slice A6 C.J.map.length c7) C.J.map,Aa Af (.slice A11 C.J.comb.length c12) C.J.comb,Aa Af (.slice A16 C.J.red.length c17) C.J.red,Aa (Ai .i64) (.slice A21 C.J.marks.length c22) C.J.marks,Aa (Ai .i64) (.slice A26 order.length c27) order,Aa (Ai .i64) (.slice A31 tries.length c32) tries,gl]) mo (by kernel_rfl) (fun w H=>⟨_,H⟩) H (fun w H=>?_)))))
 refine Ap U U U (fun w ⟨Ar,H⟩=>Aj U CQ U) (Ap U U U (fun w ⟨Ar,H⟩=>Bv (cs:=[.slice A1 C.J.us.length c2,.int .i64 C.J.parts,.slice A6 C.J.map.length c7,.slice A11 C.J.comb.length c12,.slice A16 C.J.red.length c17,.int .i64 C.J.chunk,.int .i64 C.J.window,.int .i64 C.J.fuel,.slice A21 C.J.marks.length c22]) U GG U U (H.cellsI 2 U U)) (Ax U (Ax U (AL U ?_))))
 obtain ⟨hv124,vs125,us126,hsets127,H⟩:=FN r46 (.slice A118 J52.us.length c119) vM48 vC49 vR50 vK51 J52 C.w C.t C.o sb54 R H
 replace H:=H.h9 (A:=blk r46 (AK (.slice A118 J52.us.length c119) vM48 vC49 vR50 vK51 J52 C.w C.t C.o R.part R.ep R.g hv124 sb54 vs125) 185) (B:=Y (Ak Ag) (.slice A118 J52.us.length c119) J52.us) (C:=Y Af vM48 J52.map) (D:=Y Af vC49 J52.comb) (E:=Y Af vR50 J52.red) (F:=Y (Ai .i64) vK51 J52.marks) (G:=AT (R.g) hv124) (I:=Y (Ak (Ai .i64)) vs125 us126) (J:=AS 253 sb54 (R.st))
 refine sc (Ja r46 A118 c119 vM48 vC49 vR50 vK51 J52 C.w C.t C.o R.part R.ep R hv124 sb54 vs125 (by first |assumption|omega|exact ⟨Dm hC (by omega) (by omega),by decide⟩|(unfold AB;omega)|exact (fun r h=>by cases h)|(simp only [List.length_nil];omega))) H (lA 0 U (fun _ h=>h) l0) U U (At I8 U U) ?_
 rintro v128 _ w rfl H
 replace H:=H.h1 (A:=Y (Ai .i64) v128 (Aw J52.us.length R))|>.p9|>.p9|>.p9|>.p9|>.p9|>.p9|>.p9|>.p9|>.p9
 replace H:=CM r46 (.slice A118 J52.us.length c119) vM48 vC49 vR50 vK51 J52 C.w C.t C.o sb54 R hv124 vs125 us126 hsets127 H
 replace H:=H.h1 (A:=By r46 (.slice A118 J52.us.length c119) vM48 vC49 vR50 vK51 J52 C.w C.t C.o sb54 R)|>.p1|>.tellK (ys:=upto C.J.us.length) (by rw [←e1,hsl])|>.h1 (A:=Y (Ai .i64) v128 (upto C.J.us.length))|>.p3|>.p3|>.p3
 refine AH ⟨_,H⟩ (AL U (sc (Xh (.slice A1 C.J.us.length c2) (.slice A6 C.J.map.length c7) (.slice A11 C.J.comb.length c12) (.slice A16 C.J.red.length c17) (.slice A21 C.J.marks.length c22) C.J (by first |assumption|exact hC.ok) m45 (by first |assumption|omega|exact ⟨Dm hC (by omega) (by omega),by decide⟩|(unfold AB;omega)|exact (fun r h=>by cases h)|(simp only [List.length_nil];omega)) (by first |assumption|omega|exact ⟨Dm hC (by omega) (by omega),by decide⟩|(unfold AB;omega)|exact (fun r h=>by cases h)|(simp only [List.length_nil];omega)) v128) H (lR 0 U (lR 2 U (lR 3 U (lR 4 U (lR 5 U (lA 3 U BS (lR 8 U l0))))))) U U (At Vu U U) ?_))
 rintro _ _ w ⟨u129,rfl,rfl⟩ H
 replace H:=H.h1 (A:=Y Ag u129 ((DN dg C.J m45).1))|>.p3|>.p3|>.p3
 refine AH ⟨_,H⟩ (Ax U (Ax U (Ax U (Ax U (Ax U (BL (Z ?_)))))))
 replace H:=H.p3.p2.p2.k3
 refine Ab (Ae (Ah 4 U (V U U (Bp U U U) (Ah 2 U ?_))))
 refine AQ (d:=170) U (fun h130=>?_) (fun h130=>?_)
 ·refine Ah 2 U (sc (QO u123 u129 ((DN dg C.J ((m45:Nat):Int)).1) ((DN dg C.J m45).1)) H (lA 1 U BS (lA 2 U BS l0)) U U (At O5 U U) ?_)
  rintro _ _ w ⟨rfl,rfl⟩ H
  refine Ah 2 U ?_
  refine AQ (d:=175) U (fun h131=>?_) (fun h131=>?_)
  ·refine Ad U ?_
   obtain ⟨hv132,vs133,us134,hsets135,H⟩:=FN r46 (.slice A118 J52.us.length c119) vM48 vC49 vR50 vK51 J52 C.w C.t C.o sb54 R H
   replace H:Hd _ _ _ [blk r46 (AK (.slice A118 J52.us.length c119) vM48 vC49 vR50 vK51 J52 C.w C.t C.o R.part R.ep R.g hv132 sb54 vs133) 185,Y (Ak Ag) (.slice A118 J52.us.length c119) J52.us,Y Af vM48 J52.map,Y Af vC49 J52.comb,Y Af vR50 J52.red,Y (Ai .i64) vK51 J52.marks,AT (R.g) hv132,Y (Ak (Ai .i64)) vs133 us134,AS 253 sb54 (R.st),Y Ag u123 ((DN dg C.J ((m45:Nat):Int)).1),Y Ag u129 ((DN dg C.J m45).1)] [Aa (Ak Ag) (.slice A1 C.J.us.length c2) C.J.us,Aa (Bq Ag) (.slice A1 C.J.us.length c2) ss,Aa Af (.slice A6 C.J.map.length c7) C.J.map,Aa Af (.slice A11 C.J.comb.length c12) C.J.comb,Aa Af (.slice A16 C.J.red.length c17) C.J.red,Aa (Ai .i64) (.slice A21 C.J.marks.length c22) C.J.marks,Aa (Ai .i64) (.slice A26 order.length c27) order,Aa (Ai .i64) (.slice A31 tries.length c32) tries,gl]:=H
   refine sc (Ja r46 A118 c119 vM48 vC49 vR50 vK51 J52 C.w C.t C.o R.part R.ep R hv132 sb54 vs133 (by first |assumption|omega|exact ⟨Dm hC (by omega) (by omega),by decide⟩|(unfold AB;omega)|exact (fun r h=>by cases h)|(simp only [List.length_nil];omega))) H (lA 0 U (fun _ h=>h) l0) U U (At I8 U U) ?_
   rintro v136 _ w rfl H
   replace H:=H.h1 (A:=Y (Ai .i64) v136 (Aw J52.us.length R))|>.p9|>.p9|>.p9|>.p9|>.p9|>.p9|>.p9|>.p9|>.p9
   replace H:=CM r46 (.slice A118 J52.us.length c119) vM48 vC49 vR50 vK51 J52 C.w C.t C.o sb54 R hv132 vs133 us134 hsets135 H
   replace H:=H.h1 (A:=By r46 (.slice A118 J52.us.length c119) vM48 vC49 vR50 vK51 J52 C.w C.t C.o sb54 R)|>.p1|>.tellK (ys:=upto C.J.us.length) (by rw [←e1,hsl])|>.h1 (A:=Y (Ai .i64) v136 (upto C.J.us.length))
   obtain ⟨A137,c138,rfl,hc139,hm140,hp141⟩:=H.fA 0 rfl
   refine V U U (A0 U Ec U) (Ad U (V U U (Bp U U U) (Ah 2 U ?_)))
   refine AQ (d:=182) U (fun h142=>?_) (fun h142=>?_)
   ·refine Ad U ?_
    replace H:=H.p1
    replace H:Hd _ _ _ [By r46 (.slice A118 J52.us.length c119) vM48 vC49 vR50 vK51 J52 C.w C.t C.o sb54 R,Y (Ai .i64) (.slice A137 ((upto C.J.us.length).length) c138) (upto C.J.us.length),Y Ag u123 ((DN dg C.J ((m45:Nat):Int)).1),Y Ag u129 ((DN dg C.J m45).1)] [Aa (Ak Ag) (.slice A1 C.J.us.length c2) C.J.us,Aa (Bq Ag) (.slice A1 C.J.us.length c2) ss,Aa Af (.slice A6 C.J.map.length c7) C.J.map,Aa Af (.slice A11 C.J.comb.length c12) C.J.comb,Aa Af (.slice A16 C.J.red.length c17) C.J.red,Aa (Ai .i64) (.slice A21 C.J.marks.length c22) C.J.marks,Aa (Ai .i64) (.slice A26 order.length c27) order,Aa (Ai .i64) (.slice A31 tries.length c32) tries,gl]:=H
    obtain ⟨hv143,vs144,us145,hsets146,H⟩:=FN r46 (.slice A118 J52.us.length c119) vM48 vC49 vR50 vK51 J52 C.w C.t C.o sb54 R H
    replace H:=H.h9 (A:=blk r46 (AK (.slice A118 J52.us.length c119) vM48 vC49 vR50 vK51 J52 C.w C.t C.o R.part R.ep R.g hv143 sb54 vs144) 185) (B:=Y (Ak Ag) (.slice A118 J52.us.length c119) J52.us) (C:=Y Af vM48 J52.map) (D:=Y Af vC49 J52.comb) (E:=Y Af vR50 J52.red) (F:=Y (Ai .i64) vK51 J52.marks) (G:=AT (R.g) hv143) (I:=Y (Ak (Ai .i64)) vs144 us145) (J:=AS 253 sb54 (R.st))|>.p8
    refine sc (Zg r46 A118 c119 vM48 vC49 vR50 vK51 J52 C.w C.t C.o R.part R.ep R hv143 sb54 vs144) H (lA 0 U (fun _ h=>h) l0) U U (At Vs U U) ?_
    rintro _ _ w ⟨rfl,rfl⟩ H
    replace H:=H.p8.p8.p8.p8.p8.p8.p8.p8
    replace H:=CM r46 (.slice A118 J52.us.length c119) vM48 vC49 vR50 vK51 J52 C.w C.t C.o sb54 R hv143 vs144 us145 hsets146 H
    replace H:=H.h1 (A:=By r46 (.slice A118 J52.us.length c119) vM48 vC49 vR50 vK51 J52 C.w C.t C.o sb54 R)
    refine V U U (Bp U U U) (Ah 2 U ?_)
    refine AQ (d:=187) U (fun h147=>?_) (fun h147=>?_)
    ·refine sc (HT) H (lR 8 U l0) U U (At Im U U) ?_
     rintro _ _ w ⟨rfl,rfl⟩ H
     refine Ah 2 U (Ac (Z ?_))
     replace H:=H.nil
     replace H:Hd _ _ _ [] [Aa (Ak Ag) (.slice A1 C.J.us.length c2) C.J.us,Aa (Bq Ag) (.slice A1 C.J.us.length c2) ss,Aa Af (.slice A6 C.J.map.length c7) C.J.map,Aa Af (.slice A11 C.J.comb.length c12) C.J.comb,Aa Af (.slice A16 C.J.red.length c17) C.J.red,Aa (Ai .i64) (.slice A21 C.J.marks.length c22) C.J.marks,Aa (Ai .i64) (.slice A26 order.length c27) order,Aa (Ai .i64) (.slice A31 tries.length c32) tries,gl]:=H
     exact Ao (Aq U U (Am ⟨rfl,rfl⟩ H))
    first |exact (h147 rfl).elim|exact (h147 (by omega)).elim
   first |exact (h142 rfl).elim|exact (h142 (by omega)).elim
  first |exact (h131 rfl).elim|exact (h131 (by omega)).elim
 first |exact (h130 rfl).elim|exact (h130 (by omega)).elim
theorem X_ (vS vM vC vR vK:Value) (ss:List (List Al)) (map comb red:List BC) (marks:List Int) (parts chunk window fuel:Int) (wj:((∀ x∈ss,(∀ p∈x,p.key.size≤9223372036854775807∧p.val.size≤9223372036854775807)∧x.length≤9223372036854775807)∧ss.length≤9223372036854775807)∧((∀ p∈map,AB p.op∧AB p.a∧p.s.size≤9223372036854775807)∧map.length≤9223372036854775807)∧((∀ p∈comb,AB p.op∧AB p.a∧p.s.size≤9223372036854775807)∧comb.length≤9223372036854775807)∧((∀ p∈red,AB p.op∧AB p.a∧p.s.size≤9223372036854775807)∧red.length≤9223372036854775807)∧(∀ x∈marks,AB x)∧marks.length≤9223372036854775807) (wn:AB parts∧AB chunk∧AB window∧AB fuel) (cw ct co:Int) (wc:AB cw∧AB ct∧AB co) (k1:Int) (g1:AB k1) (vo:Value) (order:List Int) (worder:(∀ x∈order,AB x)∧order.length≤9223372036854775807) (va:Value) (tries:List Int) (wtries:(∀ x∈tries,AB x)∧tries.length≤9223372036854775807):
  Cn Tryz.prog 13 [.agg #[vS,.int .i64 parts,vM,vC,vR,.int .i64 chunk,.int .i64 window,.int .i64 fuel,vK,.int .i64 cw,.int .i64 ct,.int .i64 co],.int .i64 k1,vo,va] [] [Aa (Bq Ag) vS ss,Aa Af vM map,Aa Af vC comb,Aa Af vR red,Aa (Ai .i64) vK marks,Aa (Ai .i64) vo order,Aa (Ai .i64) va tries,gl] (fun v Bs=>v=.bool true∧Bs=[]):=
 Cn.heads0 fun us hus=>X9 vS vM vC vR vK ⟨⟨us,parts,map,comb,red,chunk,window,fuel,marks⟩,cw,ct,co⟩ ss (fun i hi=>(wj.2.1.1 i hi).2.1) (fun i hi=>(wj.2.2.1.1 i hi).2.1) (fun i hi=>(wj.2.2.2.1.1 i hi).2.1) k1 g1 vo order worder va tries wtries
theorem MM {P:Program} {W:World} {name:String} {g:Nat} {cs:Array Value} (hg:P.globalNamed name=some g) (h:W.var? P name=some cs):E_ W g:=by
 unfold World.var? at h
 rw [hg] at h
 simp only [Option.bind_some] at h
 show g<W.heap.size
 rcases Nat.lt_or_ge g W.heap.size with h'|h'
 ·exact h'
 ·simp [Array.getElem?_eq_none h'] at h
theorem Q8: "*" ++ "errors.errorString" = "*errors.errorString" :=by decide
theorem P2 (u:TypeId) (h:Tryz.prog.typeName? 3 u=some "*errors.errorString"):u=409:=typeName_ptr_named (nm:= "errors.errorString") (by rw [Q8];kernel_rfl) (by kernel_rfl) (by decide) u (by rw [Q8];exact h)
theorem Lx:Tryz.prog.globalNamed "internal/strconv.uint64pow10" =some 2:=by kernel_rfl
theorem T5:(Tryz.prog.globals[2]?).map (·.type)=some 406:=by kernel_rfl
theorem Ly:Tryz.prog.globalNamed "strconv.ErrSyntax" =some 0:=by kernel_rfl
theorem T6:(Tryz.prog.globals[0]?).map (·.type)=some 370:=by kernel_rfl
theorem Lz:Tryz.prog.globalNamed "strconv.ErrRange" =some 1:=by kernel_rfl
theorem T7:(Tryz.prog.globals[1]?).map (·.type)=some 370:=by kernel_rfl
theorem Pq:Tryz.prog.underlying 370=some (.interface (Tryz.prog.methodsAt 370)):=by kernel_rfl
theorem VN:Tryz.prog.underlying 406=some (.array 20 270):=by kernel_rfl
theorem VL:Tryz.prog.underlying 270=some (.int .u64):=by kernel_rfl
theorem Pr:Tryz.prog.underlying 409=some (.pointer 411):=by kernel_rfl
theorem Ps:Tryz.prog.underlying 411=some (.struct #[⟨ "s",9,0,false, "", "errors",0⟩]):=by kernel_rfl
theorem Pt:Tryz.prog.underlying 9=some (.string):=by kernel_rfl
theorem VB:Tryz.prog.cellsOf 270=1:=by kernel_rfl
theorem VC:Tryz.prog.cellsOf 406=20:=by kernel_rfl
theorem Pi:Tryz.prog.cellsOf 411=1:=by kernel_rfl
theorem Pj:Tryz.prog.cellsOf 9=1:=by kernel_rfl
theorem TV {W:World} (h:laidMet Tryz.prog Rows.checkOrdersRow.laid W):gl.P W (E_ W):=by
 refine ⟨?_,?_,?_⟩
 ·have h0:laidMet Tryz.prog [("internal/strconv.uint64pow10",Lib.tabData .u64 Lib.pow10Tab)] W:=by
   have e:Rows.checkOrdersRow.laid.filter (fun x=>x.1== "internal/strconv.uint64pow10")=[("internal/strconv.uint64pow10",Lib.tabData .u64 Lib.pow10Tab)]:=by kernel_rfl
   have:=h.filter (fun x=>x.1== "internal/strconv.uint64pow10");rw [e] at this;exact this
  have hv:=Lib.tabIs_of_head Lx T5 VN VL VB VC h0
  exact ⟨_,Lx,MM Lx hv,_,hv,rfl⟩
 ·have h0:laidMet Tryz.prog [("strconv.ErrSyntax",Rows.laid_strconv_ErrSyntax)] W:=by
   have e:Rows.checkOrdersRow.laid.filter (fun x=>x.1== "strconv.ErrSyntax")=[("strconv.ErrSyntax",Rows.laid_strconv_ErrSyntax)]:=by kernel_rfl
   have:=h.filter (fun x=>x.1== "strconv.ErrSyntax");rw [e] at this;exact this
  obtain ⟨a0,s0,hv, -⟩:=laid_sentinel h0 Ly T6 Pq P2 Pr Ps rfl rfl Pt Pi Pj
  exact ⟨_,Ly,MM Ly hv,_,hv,_,_,rfl⟩
 ·have h0:laidMet Tryz.prog [("strconv.ErrRange",Rows.laid_strconv_ErrRange)] W:=by
   have e:Rows.checkOrdersRow.laid.filter (fun x=>x.1== "strconv.ErrRange")=[("strconv.ErrRange",Rows.laid_strconv_ErrRange)]:=by kernel_rfl
   have:=h.filter (fun x=>x.1== "strconv.ErrRange");rw [e] at this;exact this
  obtain ⟨a0,s0,hv, -⟩:=laid_sentinel h0 Lz T7 Pq P2 Pr Ps rfl rfl Pt Pi Pj
  exact ⟨_,Lz,MM Lz hv,_,hv,_,_,rfl⟩
end Go.Proofs.YthgehekecfpikaaGreatDoor.X
