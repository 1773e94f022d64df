/- Contracts of NormalFormApplyGate (spec a. -/
import Derived.Test.YtmenmibfkojnoaaGreatY43
set_option maxHeartbeats 16000000
set_option maxRecDepth 100000
namespace Go.Proofs.YtmenmibfkojnoaaGreat
open Go.RowKit
set_option linter.unusedVariables false
abbrev pB (s:Nf) (w:World) (e:Ending) (w':World):Prop :=
 ∃ A c D d,e=.returned (.tuple #[.agg #[.slice A s.1.length c,(1:Int),.slice D 2 d],.bool true])/\w'.ownsRow w 3 1 (.slice A s.1.length c) s.1.length (aB (dp s.1))/\w'.ownsRow w 151 4 (.slice D 2 d) 2 (af (dP 1 s.2))/\Below w w w'
theorem Qs (s:Nf) {k:Int} (h:k=7):qO s k=qr s:=by unfold qO;rw [if_pos h]
theorem Qt (s:Nf) {k:Int} (h:k=8):qO s k=qr (s.1,di 1 (g1 6) s.2):=by unfold qO;rw [if_neg zO,if_pos h]
theorem Qu (s:Nf) {k:Int} (h7:k ≠ 7) (h8:k ≠ 8):qO s k=(s.1,di 1 (g1 k) s.2):=by unfold qO;rw [if_neg h7,if_neg h8]
theorem Lg {k:Int} (hk:1<=k/\k<=8):fJ k 0 0 0 1=true:=by
 obtain rfl | rfl | rfl | rfl | rfl | rfl | rfl | rfl:k=1\/k=2\/k=3\/k=4\/k=5\/k=6\/k=7\/k=8:=zO
 all_goals decide
theorem mF (s:Nf) {w:World} {A:Option Addr} {n:Nat} (h:RdI w A n (dp s.1)):s.1.length=n:=by rw [<- h.1,jc]
theorem me {p:Prop} (h:p:=by show w.heap.size+1+1 ≠ w1.heap.size;omega):p:=h
theorem xn {p:Prop} (h:p:=by show w.heap.size<=w1.heap.size;omega):p:=h
theorem xo {p:Prop} (h:p:=by show _<=w1.heap.size;omega):p:=h
theorem xp {p:Prop} (h:p:=by
  rw [HN.out];exact ⟨A4,c4,D4,d4,rfl,dr O4 R4 zD _ _ _,dr P4 R4 zD _ _ _,dR B4 zO _ _ _⟩):p:=h
theorem Lh {p:Prop} (h:p:=by
  rw [HN.out];refine ⟨A3,c3,D4,d4,by simp only [HL.out],?_,dr TB2.out RB2.out zD _ _ _,dR BB.out zO _ _ _⟩;simp only [HL.out];exact dr OB2.out RB2.out zD _ _ _):p:=h
theorem Cz {p:Prop} (h:p:=by
  intro wS z0 z1 z2;simp [results,Tryz.results144,go_sem,z0,z1,z2]):p:=h
theorem OS (m c d:Nat) (A D:Option Addr) (s:Nf) (k:Int) (w:World) (hk:1<=k/\k<=8) (hs:RdI w A m (dp s.1)) (hm:m<=1073741824) (hmc:m<=c) (ht:RdG w D 2 (dP 1 s.2)) (hd:2<=d) (h1:ef s.1) (h2:ed 1 s.2) :
  Calls Tryz.prog 144 #[.agg #[.slice A m c,(1:Int),.slice D 2 d],.agg #[k,(0:Int),(0:Int),(0:Int)]] w (pB (qO s k) w):=by
 have HS:=zH hs;have HT:=zH ht;have HO:=zH h2;have HY:=zH h1;have HL:=zH (mF s hs);have HKK:=zH hk;have X0:=zH (show Bx (((w.alloc (.cells #[.slice A m c,(1:Int),.slice D 2 d] 100)).alloc (.cells #[k,(0:Int),(0:Int),(0:Int)] 39)).alloc ZO.zN) w.heap.size 100 _ from ((Bx.new w _ _).alloc _).alloc _);have G0:=zH (show Bx (((w.alloc (.cells #[.slice A m c,(1:Int),.slice D 2 d] 100)).alloc (.cells #[k,(0:Int),(0:Int),(0:Int)] 39)).alloc ZO.zN) (w.heap.size+1) 39 _ from (Bx.new' zI).alloc _);have R0:=zH (show Bx (((w.alloc (.cells #[.slice A m c,(1:Int),.slice D 2 d] 100)).alloc (.cells #[k,(0:Int),(0:Int),(0:Int)] 39)).alloc ZO.zN) (w.heap.size+1+1) 100 _ from Bx.new' zI);have B0:=zH (show Below w w (((w.alloc (.cells #[.slice A m c,(1:Int),.slice D 2 d] 100)).alloc (.cells #[k,(0:Int),(0:Int),(0:Int)] 39)).alloc ZO.zN) from (((zW).alloc zR _).alloc zI _).alloc zS _)
 clear hs ht h1 h2 hk;obtain ⟨x0,x1,x2,_⟩:=X0.three;go_enter Tryz.func144,Tryz.ntmps144;go_wp2_with fail;refine (KQ m c d A D s _ (HS.below B0) zO (HT.below B0)).mono ?_;intro e w1 hret;obtain ⟨A3,c3,D3,d3,he,o3,p3,b1⟩:=(show jd s _ e w1 from hret);clear hret;rw [HL.out] at he o3;subst he;have X1:=zH ((X0.below b1).alloc (.cells #[.slice A3 m c3,(1:Int),.slice D3 2 d3] 100));have G1:=zH ((G0.below b1).alloc (.cells #[.slice A3 m c3,(1:Int),.slice D3 2 d3] 100));have R1:=zH ((R0.below b1).alloc (.cells #[.slice A3 m c3,(1:Int),.slice D3 2 d3] 100));have B1:=zH ((aa B0 b1).alloc (aa B0 b1).size (.cells #[.slice A3 m c3,(1:Int),.slice D3 2 d3] 100));have N1:=zH (Bx.new w1 100 #[.slice A3 m c3,(1:Int),.slice D3 2 d3]);have O1:=zH ((ae o3 B0.size).alloc (.cells #[.slice A3 m c3,(1:Int),.slice D3 2 d3] 100))
 have P1:=zH ((ae p3 B0.size).alloc (.cells #[.slice A3 m c3,(1:Int),.slice D3 2 d3] 100));have lR1:w.heap.size+1+1 < w1.heap.size:=(R0.below b1).lt;clear o3 p3 b1 X0 G0 R0 B0 x0 x1 x2;go_upto_region 2 with fail
 obtain ⟨wa,hwa⟩:∃ x,w1.alloc (.cells #[.slice A3 m c3,(1:Int),.slice D3 2 d3] 100)=x:=⟨_,rfl⟩;rw [hwa] at X1 G1 R1 B1 N1 O1 P1 ⊢;clear hwa;obtain ⟨x0,x1,x2,_⟩:=X1.three;obtain ⟨g0,g1,g2,g3,_⟩:=G1.four;go_wp2_with fail;refine (Le m c d A D s _ (HS.below B1) hm (HT.below B1) hd HY HO).mono ?_;rintro e w2 ⟨rfl,b2⟩;have X2:=zH (X1.below b2);have G2:=zH (G1.below b2);have R2:=zH (R1.below b2);have N2:=zH (N1.below b2);have O2:=zH (ab O1 b2);have P2:=zH (ab P1 b2);have B2:=zH (B1.trans (b2.mono B1.size));clear b2 X1 G1 R1 N1 O1 P1 B1 x0 x1 x2 g0 g1 g2 g3;obtain ⟨g0,g1,g2,g3,_⟩:=G2.four;go_wp2_with fail;refine (aY k 0 0 0 1 _).mono ?_;rintro e w3 ⟨rfl,b3⟩;rw [Lg HKK.out];have X3:=zH (X2.below b3);have G3:=zH (G2.below b3);have R3:=zH (R2.below b3);have N3:=zH (N2.below b3);have O3:=zH (ab O2 b3);have P3:=zH (ab P2 b3)
 have B3:=zH (B2.trans (b3.mono B2.size));clear b3 X2 G2 R2 N2 O2 P2 B2 g0 g1 g2 g3;obtain ⟨x0,x1,x2,_⟩:=X3.three;obtain ⟨g0,g1,g2,g3,_⟩:=G3.four;obtain ⟨n0,n1,n2,n3,n4,n5⟩:=N3.three;have l3:=B3.size;have lN3:w1.heap.size < w3.heap.size:=N3.lt;have hd3:2<=d3:=ao P3.out;have hc3:m<=c3:=ao O3.out;go_upto_region 4 with fail
 by_cases h7:k=7
 ·have HN:=zH (Qs s h7);subst h7;go_wp2_with fail;refine (Qm m c d A D s _ (HS.below B3) hm hmc (HT.below B3) hd HY HO).mono ?_;intro e w4 hret;obtain ⟨A4,c4,D4,d4,rfl,o4,p4,b4⟩:=(show jd (qr s) _ e w4 from hret);clear hret;have R4:=zH (R3.below b4);have B4:=zH (B3.trans (b4.mono l3));have O4:=zH (ae o4 l3);have P4:=zH (ae p4 l3);clear o4 p4 b4;obtain ⟨r0,r1,r2,r3,r4,r5⟩:=R4.three;go_wp2_with fail;refine iu (v:=.tuple #[.agg #[.slice A4 (qr s).1.length c4,(1:Int),.slice D4 2 d4],.bool true]) R4.out ?_ rfl ?_
  ·exact Cz
  exact xp
 ·by_cases h8:k=8
  ·have HN:=zH (Qt s h8);subst h8;have OK6:=zH (iB (eh (k:=6) zO).1 (eh (k:=6) zO).2 HO);obtain ⟨t6,ht6⟩:∃ t,di 1 (Go.Proofs.YtmenmibfkojnoaaGreat.g1 6) s.2=t:=⟨_,rfl⟩;rw [ht6] at OK6 HN;have HT6:=zH ht6;clear ht6;go_upto_region 8 with fail
   go_cut [32] from 26 to 32 (fun v wx=>∃ D5 d5,Bx wx w1 100 #[.slice A3 m c3,(1:Int),.slice D5 2 d5]/\wx.ownsRow w 3 1 (.slice A3 m c3) m (aB (dp s.1))/\wx.ownsRow w 151 4 (.slice D5 2 d5) 2 (af (dP 1 t6))/\Bx wx (w.heap.size+1+1) 100 #[.slice none 0 0,(0:Int),.slice none 0 0]/\Below w w wx)
   case first =>
    have BXd:=X3.drew;obtain ⟨h0,h1,h2,_⟩:=BXd.three
    go_region_with (first
     |(go_at_call 106;refine (eG _ _ _).mono ?_;rintro e w7 ⟨rfl,b70⟩;have b7:=aa (Below.refl w3 w3).drew b70;obtain ⟨q0,q1,q2,_⟩:=(X3.below b7).three)
     |(go_at_call 111;refine (fu 1 2 d D s.2 (Go.Proofs.YtmenmibfkojnoaaGreat.g1 6) _ zO ((HT.below (B3.trans (b7.mono l3)))) hd HO.out (eh zO).1 (eh zO).2).mono ?_;rw [HT6.out];intro e w9 hret;obtain ⟨D8,d8,rfl,o8,b80⟩:=RetT1.of hret;clear hret;have b8:=aa b7 b80;obtain ⟨q0,q1,q2,q3,q4,q5⟩:=(N3.below b8).three)
     |fail)
    all_goals go_wp2_with fail
    all_goals go_meet
    all_goals exact ⟨D8,d8,Bx.tab3 (N3.below b8) _ _,eA (ab O3.out b8) (N3.below b8) zD _ _,eA (ae o8 (Nat.le_trans l3 b7.size)) (N3.below b8) zD _ _,((R3.below b8).far (p:=⟨w1,1,none⟩) me _).far (p:=⟨w1,2,none⟩) me _,((B3.trans (b8.mono l3)).setCell (p:=⟨w1,1,none⟩) xn _).setCell (p:=⟨w1,2,none⟩) xn _⟩
   case rest =>
    obtain ⟨D5,d5,hN,hO,hP,hR,hB⟩:=hcut;have N5:=zH hN;have O5:=zH hO;have P5:=zH hP;have R5:=zH hR;have B5:=zH hB;have l5:=hB.size;have hd5:2<=d5:=ao hP;clear hN hO hP hR hB X3 G3 R3 N3 O3 P3 B3 x0 x1 x2 g0 g1 g2 g3 n0 n1 n2 n3 n4 n5;obtain ⟨n0,n1,n2,n3,n4,n5⟩:=N5.three;obtain ⟨w5,rfl⟩:∃ w5,w5=wc:=⟨_,rfl⟩;go_wp2_with fail;refine (Qm m c3 d5 A3 D5 (s.1,t6) _ (RdI.own O5) hm hc3 (RdG.own P5) hd5 HY OK6).mono ?_;intro e w4 hret;obtain ⟨A4,c4,D4,d4,rfl,o4,p4,b4⟩:=(show jd (qr (s.1,t6)) _ e w4 from hret);clear hret;have R4:=zH (R5.below b4);have B4:=zH (B5.trans (b4.mono l5));have O4:=zH (ae o4 l5);have P4:=zH (ae p4 l5);clear o4 p4 b4;obtain ⟨r0,r1,r2,r3,r4,r5⟩:=R4.three;go_wp2_with fail;refine iu (v:=.tuple #[.agg #[.slice A4 (qr (s.1,t6)).1.length c4,(1:Int),.slice D4 2 d4],.bool true]) R4.out ?_ rfl ?_
    ·exact Cz
    exact xp
  ·have HN:=zH (Qu s h7 h8);have k7:(k == 7)=false:=by simpa using h7
   have k8:(k == 8)=false:=by simpa using h8
   have hk6:=zH (show 1<=k/\k<=6 from by have:=HKK.out;omega);obtain ⟨t6,ht6⟩:∃ t,di 1 (Go.Proofs.YtmenmibfkojnoaaGreat.g1 k) s.2=t:=⟨_,rfl⟩;rw [ht6] at HN;have HT6:=zH ht6;clear ht6;go_wp2_with fail;refine (fu 1 2 d D s.2 (Go.Proofs.YtmenmibfkojnoaaGreat.g1 k) _ zO ((HT.below B3)) hd HO (eh hk6).1 (eh hk6).2).mono ?_;rw [HT6.out];intro e w4 hret;obtain ⟨D4,d4,rfl,o4,b4⟩:=RetT1.of hret;clear hret;have N4:=zH (N3.below b4);have R4:=zH (R3.below b4);have O4:=zH (ab O3 b4);have P4:=zH (ae o4 l3);have B4:=zH (B3.trans (b4.mono l3));clear o4 b4 x0 x1 x2 n0 n1 n2 n3 n4 n5 g0 g1 g2 g3;obtain ⟨n0,n1,n2,n3,n4,n5⟩:=N4.three;go_upto_region 11 with fail
   have NB:=zH (Bx.tab3 N4 (.int .i64 1) (.slice D4 2 d4));have RB2:=zH ((R4.far (p:=⟨w1,1,none⟩) me (.int .i64 1)).far (p:=⟨w1,2,none⟩) me (.slice D4 2 d4));have OB2:=zH (eA O4 N4 zD (.int .i64 1) (.slice D4 2 d4));have TB2:=zH (eA P4 N4 zD (.int .i64 1) (.slice D4 2 d4));have BB:=zH ((B4.setCell (p:=⟨w1,1,none⟩) xo (.int .i64 1)).setCell (p:=⟨w1,2,none⟩) xo (.slice D4 2 d4));obtain ⟨wd,hwd⟩:∃ x,(w4.setCell ⟨w1,1,none⟩ (.int .i64 1)).setCell ⟨w1,2,none⟩ (.slice D4 2 d4)=x:=⟨_,rfl⟩;rw [hwd] at NB RB2 OB2 TB2 BB ⊢;clear hwd n0 n1 n2 n3 n4 n5 N4 R4 O4 P4 B4;obtain ⟨n0,n1,n2,_⟩:=NB.three;obtain ⟨r0,r1,r2,r3,r4,r5⟩:=RB2.three;go_wp2_with fail;refine iu (v:=.tuple #[.agg #[.slice A3 m c3,(1:Int),.slice D4 2 d4],.bool true]) RB2.out ?_ rfl ?_
   ·exact Cz
   exact Lh
theorem CE {p:Prop} (h:p:=by
  intro wS z0 z1 z2;simp [results,Tryz.results130,go_sem,z0,z1,z2]):p:=h
theorem OU (m c d:Nat) (A D:Option Addr) (s:Nf) (k:Int) (w:World) (hk:1<=k/\k<=8) (hs:RdI w A m (dp s.1)) (hm:m<=1073741824) (hmc:m<=c) (ht:RdG w D 2 (dP 1 s.2)) (hd:2<=d) (h1:ef s.1) (h2:ed 1 s.2) :
  Calls Tryz.prog 130 #[.agg #[.slice A m c,(1:Int),.slice D 2 d],.agg #[k,(0:Int),(0:Int),(0:Int)]] w (pB (qO s k) w):=by
 have HS:=zH hs;have HT:=zH ht;have HO:=zH h2;have HY:=zH h1;have HL:=zH (mF s hs);have HKK:=zH hk;have X0:=zH (show Bx (((w.alloc (.cells #[.slice A m c,(1:Int),.slice D 2 d] 100)).alloc (.cells #[k,(0:Int),(0:Int),(0:Int)] 39)).alloc ZO.zN) w.heap.size 100 _ from ((Bx.new w _ _).alloc _).alloc _);have G0:=zH (show Bx (((w.alloc (.cells #[.slice A m c,(1:Int),.slice D 2 d] 100)).alloc (.cells #[k,(0:Int),(0:Int),(0:Int)] 39)).alloc ZO.zN) (w.heap.size+1) 39 _ from (Bx.new' zI).alloc _);have R0:=zH (show Bx (((w.alloc (.cells #[.slice A m c,(1:Int),.slice D 2 d] 100)).alloc (.cells #[k,(0:Int),(0:Int),(0:Int)] 39)).alloc ZO.zN) (w.heap.size+1+1) 100 _ from Bx.new' zI);have B0:=zH (show Below w w (((w.alloc (.cells #[.slice A m c,(1:Int),.slice D 2 d] 100)).alloc (.cells #[k,(0:Int),(0:Int),(0:Int)] 39)).alloc ZO.zN) from (((zW).alloc zR _).alloc zI _).alloc zS _)
 clear hs ht h1 h2 hk;obtain ⟨x0,x1,x2,_⟩:=X0.three;go_enter Tryz.func130,Tryz.ntmps130;go_wp2_with fail;refine (zv m c d A D s _ (HS.below B0) zO (HT.below B0)).mono ?_;intro e w1 hret;obtain ⟨A3,c3,D3,d3,he,o3,p3,b1⟩:=(show jd s _ e w1 from hret);clear hret;rw [HL.out] at he o3;subst he;have X1:=zH ((X0.below b1).alloc (.cells #[.slice A3 m c3,(1:Int),.slice D3 2 d3] 100));have G1:=zH ((G0.below b1).alloc (.cells #[.slice A3 m c3,(1:Int),.slice D3 2 d3] 100));have R1:=zH ((R0.below b1).alloc (.cells #[.slice A3 m c3,(1:Int),.slice D3 2 d3] 100));have B1:=zH ((aa B0 b1).alloc (aa B0 b1).size (.cells #[.slice A3 m c3,(1:Int),.slice D3 2 d3] 100));have N1:=zH (Bx.new w1 100 #[.slice A3 m c3,(1:Int),.slice D3 2 d3]);have O1:=zH ((ae o3 B0.size).alloc (.cells #[.slice A3 m c3,(1:Int),.slice D3 2 d3] 100))
 have P1:=zH ((ae p3 B0.size).alloc (.cells #[.slice A3 m c3,(1:Int),.slice D3 2 d3] 100));have lR1:w.heap.size+1+1 < w1.heap.size:=(R0.below b1).lt;clear o3 p3 b1 X0 G0 R0 B0 x0 x1 x2;go_upto_region 2 with fail
 obtain ⟨wa,hwa⟩:∃ x,w1.alloc (.cells #[.slice A3 m c3,(1:Int),.slice D3 2 d3] 100)=x:=⟨_,rfl⟩;rw [hwa] at X1 G1 R1 B1 N1 O1 P1 ⊢;clear hwa;obtain ⟨x0,x1,x2,_⟩:=X1.three;obtain ⟨g0,g1,g2,g3,_⟩:=G1.four;go_wp2_with fail;refine (Lf m c d A D s _ (HS.below B1) hm (HT.below B1) hd HY HO).mono ?_;rintro e w2 ⟨rfl,b2⟩;have X2:=zH (X1.below b2);have G2:=zH (G1.below b2);have R2:=zH (R1.below b2);have N2:=zH (N1.below b2);have O2:=zH (ab O1 b2);have P2:=zH (ab P1 b2);have B2:=zH (B1.trans (b2.mono B1.size));clear b2 X1 G1 R1 N1 O1 P1 B1 x0 x1 x2 g0 g1 g2 g3;obtain ⟨g0,g1,g2,g3,_⟩:=G2.four;go_wp2_with fail;refine (bZ k 0 0 0 1 _).mono ?_;rintro e w3 ⟨rfl,b3⟩;rw [Lg HKK.out];have X3:=zH (X2.below b3);have G3:=zH (G2.below b3);have R3:=zH (R2.below b3);have N3:=zH (N2.below b3);have O3:=zH (ab O2 b3);have P3:=zH (ab P2 b3)
 have B3:=zH (B2.trans (b3.mono B2.size));clear b3 X2 G2 R2 N2 O2 P2 B2 g0 g1 g2 g3;obtain ⟨x0,x1,x2,_⟩:=X3.three;obtain ⟨g0,g1,g2,g3,_⟩:=G3.four;obtain ⟨n0,n1,n2,n3,n4,n5⟩:=N3.three;have l3:=B3.size;have lN3:w1.heap.size < w3.heap.size:=N3.lt;have hd3:2<=d3:=ao P3.out;have hc3:m<=c3:=ao O3.out;go_upto_region 4 with fail
 by_cases h7:k=7
 ·have HN:=zH (Qs s h7);subst h7;go_wp2_with fail;refine (Eo m c3 d3 A3 D3 s _ (RdI.own O3) hm hc3 (RdG.own P3) hd3 HY HO).mono ?_;intro e w4 hret;obtain ⟨A4,c4,D4,d4,rfl,o4,p4,b4⟩:=(show jd (qr s) _ e w4 from hret);clear hret;have R4:=zH (R3.below b4);have B4:=zH (B3.trans (b4.mono l3));have O4:=zH (ae o4 l3);have P4:=zH (ae p4 l3);clear o4 p4 b4;obtain ⟨r0,r1,r2,r3,r4,r5⟩:=R4.three;go_wp2_with fail;refine iu (v:=.tuple #[.agg #[.slice A4 (qr s).1.length c4,(1:Int),.slice D4 2 d4],.bool true]) R4.out ?_ rfl ?_
  ·exact CE
  exact xp
 ·by_cases h8:k=8
  ·have HN:=zH (Qt s h8);subst h8;have OK6:=zH (iB (eh (k:=6) zO).1 (eh (k:=6) zO).2 HO);obtain ⟨t6,ht6⟩:∃ t,di 1 (Go.Proofs.YtmenmibfkojnoaaGreat.g1 6) s.2=t:=⟨_,rfl⟩;rw [ht6] at OK6 HN;have HT6:=zH ht6;clear ht6;go_upto_region 8 with fail
   go_cut [32] from 26 to 32 (fun v wx=>∃ D5 d5,Bx wx w1 100 #[.slice A3 m c3,(1:Int),.slice D5 2 d5]/\wx.ownsRow w 3 1 (.slice A3 m c3) m (aB (dp s.1))/\wx.ownsRow w 151 4 (.slice D5 2 d5) 2 (af (dP 1 t6))/\Bx wx (w.heap.size+1+1) 100 #[.slice none 0 0,(0:Int),.slice none 0 0]/\Below w w wx)
   case first =>
    have BXd:=N3.drew;obtain ⟨h0,h1,h2,_⟩:=BXd.three
    go_region_with (first
     |(go_at_call 85;refine (jo _ _ _).mono ?_;rintro e w7 ⟨rfl,b70⟩;have b7:=aa (Below.refl w3 w3).drew b70;obtain ⟨q0,q1,q2,_⟩:=(N3.below b7).three)
     |(go_at_call 115;refine (j7 1 2 d3 D3 s.2 (Go.Proofs.YtmenmibfkojnoaaGreat.g1 6) _ zO ((RdG.own (ab P3.out b7))) hd3 HO.out (eh zO).1 (eh zO).2).mono ?_;rw [HT6.out];intro e w9 hret;obtain ⟨D8,d8,rfl,o8,b80⟩:=RetT1.of hret;clear hret;have b8:=aa b7 b80;obtain ⟨q0,q1,q2,q3,q4,q5⟩:=(N3.below b8).three)
     |fail)
    all_goals go_wp2_with fail
    all_goals go_meet
    all_goals exact ⟨D8,d8,Bx.tab3 (N3.below b8) _ _,eA (ab O3.out b8) (N3.below b8) zD _ _,eA (ae o8 (Nat.le_trans l3 b7.size)) (N3.below b8) zD _ _,((R3.below b8).far (p:=⟨w1,1,none⟩) me _).far (p:=⟨w1,2,none⟩) me _,((B3.trans (b8.mono l3)).setCell (p:=⟨w1,1,none⟩) xn _).setCell (p:=⟨w1,2,none⟩) xn _⟩
   case rest =>
    obtain ⟨D5,d5,hN,hO,hP,hR,hB⟩:=hcut;have N5:=zH hN;have O5:=zH hO;have P5:=zH hP;have R5:=zH hR;have B5:=zH hB;have l5:=hB.size;have hd5:2<=d5:=ao hP;clear hN hO hP hR hB X3 G3 R3 N3 O3 P3 B3 x0 x1 x2 g0 g1 g2 g3 n0 n1 n2 n3 n4 n5;obtain ⟨n0,n1,n2,n3,n4,n5⟩:=N5.three;obtain ⟨w5,rfl⟩:∃ w5,w5=wc:=⟨_,rfl⟩;go_wp2_with fail;refine (Eo m c3 d5 A3 D5 (s.1,t6) _ (RdI.own O5) hm hc3 (RdG.own P5) hd5 HY OK6).mono ?_;intro e w4 hret;obtain ⟨A4,c4,D4,d4,rfl,o4,p4,b4⟩:=(show jd (qr (s.1,t6)) _ e w4 from hret);clear hret;have R4:=zH (R5.below b4);have B4:=zH (B5.trans (b4.mono l5));have O4:=zH (ae o4 l5);have P4:=zH (ae p4 l5);clear o4 p4 b4;obtain ⟨r0,r1,r2,r3,r4,r5⟩:=R4.three;go_wp2_with fail;refine iu (v:=.tuple #[.agg #[.slice A4 (qr (s.1,t6)).1.length c4,(1:Int),.slice D4 2 d4],.bool true]) R4.out ?_ rfl ?_
    ·exact CE
    exact xp
  ·have HN:=zH (Qu s h7 h8);have k7:(k == 7)=false:=by simpa using h7
   have k8:(k == 8)=false:=by simpa using h8
   have hk6:=zH (show 1<=k/\k<=6 from by have:=HKK.out;omega);obtain ⟨t6,ht6⟩:∃ t,di 1 (Go.Proofs.YtmenmibfkojnoaaGreat.g1 k) s.2=t:=⟨_,rfl⟩;rw [ht6] at HN;have HT6:=zH ht6;clear ht6;go_wp2_with fail;refine (j7 1 2 d3 D3 s.2 (Go.Proofs.YtmenmibfkojnoaaGreat.g1 k) _ zO ((RdG.own P3)) hd3 HO (eh hk6).1 (eh hk6).2).mono ?_;rw [HT6.out];intro e w4 hret;obtain ⟨D4,d4,rfl,o4,b4⟩:=RetT1.of hret;clear hret;have N4:=zH (N3.below b4);have R4:=zH (R3.below b4);have O4:=zH (ab O3 b4);have P4:=zH (ae o4 l3);have B4:=zH (B3.trans (b4.mono l3));clear o4 b4 x0 x1 x2 n0 n1 n2 n3 n4 n5 g0 g1 g2 g3;obtain ⟨n0,n1,n2,n3,n4,n5⟩:=N4.three;go_upto_region 11 with fail
   have NB:=zH (Bx.tab3 N4 (.int .i64 1) (.slice D4 2 d4));have RB2:=zH ((R4.far (p:=⟨w1,1,none⟩) me (.int .i64 1)).far (p:=⟨w1,2,none⟩) me (.slice D4 2 d4));have OB2:=zH (eA O4 N4 zD (.int .i64 1) (.slice D4 2 d4));have TB2:=zH (eA P4 N4 zD (.int .i64 1) (.slice D4 2 d4));have BB:=zH ((B4.setCell (p:=⟨w1,1,none⟩) xo (.int .i64 1)).setCell (p:=⟨w1,2,none⟩) xo (.slice D4 2 d4));obtain ⟨wd,hwd⟩:∃ x,(w4.setCell ⟨w1,1,none⟩ (.int .i64 1)).setCell ⟨w1,2,none⟩ (.slice D4 2 d4)=x:=⟨_,rfl⟩;rw [hwd] at NB RB2 OB2 TB2 BB ⊢;clear hwd n0 n1 n2 n3 n4 n5 N4 R4 O4 P4 B4;obtain ⟨n0,n1,n2,_⟩:=NB.three;obtain ⟨r0,r1,r2,r3,r4,r5⟩:=RB2.three;go_wp2_with fail;refine iu (v:=.tuple #[.agg #[.slice A3 m c3,(1:Int),.slice D4 2 d4],.bool true]) RB2.out ?_ rfl ?_
   ·exact CE
   exact Lh
end Go.Proofs.YtmenmibfkojnoaaGreat
