/- Contracts of NormalFormApplyGate (spec and impl), for valid normal forms and gates of the one qubit. -/
import Derived.Test.YtmenmibfkojnoaaGreatV41
set_option maxHeartbeats 16000000
namespace Go.Proofs.YtmenmibfkojnoaaGreat
open Go.RowKit
set_option linter.unusedVariables false
abbrev RetNfT (s:Nf) (w:World) (e:Ending) (w':World):Prop :=
 ∃ A c D d,e=.returned (.tuple #[.agg #[.slice A s.1.length c,.int .i64 1,.slice D 2 d],.bool true])/\w'.ownsRow w.heap.size 3 1 (.slice A s.1.length c) s.1.length (cellsI (sylI s.1))/\w'.ownsRow w.heap.size 151 4 (.slice D 2 d) 2 (cellsG (pgs 1 s.2))/\Below w.heap.size w w'
theorem nfG_7 (s:Nf) {k:Int} (h:k=7):nfG s k=nfT s:=by unfold nfG;rw [if_pos h]
theorem nfG_8 (s:Nf) {k:Int} (h:k=8):nfG s k=nfT (s.1,appT 1 (g1 6) s.2):=by unfold nfG;rw [if_neg (by omega),if_pos h]
theorem nfG_c (s:Nf) {k:Int} (h7:k ≠ 7) (h8:k ≠ 8):nfG s k=(s.1,appT 1 (g1 k) s.2):=by unfold nfG;rw [if_neg h7,if_neg h8]
theorem okG_1k {k:Int} (hk:1<=k/\k<=8):okG k 0 0 0 1=true:=by
 obtain rfl | rfl | rfl | rfl | rfl | rfl | rfl | rfl:k=1 ∨ k=2 ∨ k=3 ∨ k=4 ∨ k=5 ∨ k=6 ∨ k=7 ∨ k=8:=by omega
 all_goals decide
theorem sylI_len' (s:Nf) {w:World} {A:Option Addr} {n:Nat} (h:RdI w A n (sylI s.1)):s.1.length=n:=by rw [<- h.1,sylI_len]
set_option maxRecDepth 100000 in
theorem s_NfApp (m c d:Nat) (A D:Option Addr) (s:Nf) (k:Int) (w:World) (hk:1<=k/\k<=8) (hs:RdI w A m (sylI s.1)) (hm:m<=1073741824) (hmc:m<=c) (ht:RdG w D 2 (pgs 1 s.2)) (hd:2<=d) (h1:okSyl s.1) (h2:okT 1 s.2) :
  Calls Tryz.prog 144 #[.agg #[.slice A m c,.int .i64 1,.slice D 2 d],.agg #[.int .i64 k,.int .i64 0,.int .i64 0,.int .i64 0]] w (RetNfT (nfG s k) w):=by
 have HS:=zH hs
 have HT:=zH ht
 have HO:=zH h2
 have HY:=zH h1
 have HL:=zH (sylI_len' s hs)
 have HKK:=zH hk
 have X0:=zH (show Bx (((w.alloc (.cells #[.slice A m c,.int .i64 1,.slice D 2 d] 100)).alloc (.cells #[.int .i64 k,.int .i64 0,.int .i64 0,.int .i64 0] 39)).alloc (.cells #[.slice none 0 0,.int .i64 0,.slice none 0 0] 100)) w.heap.size 100 _ from ((Bx.new w _ _).alloc _).alloc _)
 have G0:=zH (show Bx (((w.alloc (.cells #[.slice A m c,.int .i64 1,.slice D 2 d] 100)).alloc (.cells #[.int .i64 k,.int .i64 0,.int .i64 0,.int .i64 0] 39)).alloc (.cells #[.slice none 0 0,.int .i64 0,.slice none 0 0] 100)) (w.heap.size+1) 39 _ from (Bx.new' (by simp)).alloc _)
 have R0:=zH (show Bx (((w.alloc (.cells #[.slice A m c,.int .i64 1,.slice D 2 d] 100)).alloc (.cells #[.int .i64 k,.int .i64 0,.int .i64 0,.int .i64 0] 39)).alloc (.cells #[.slice none 0 0,.int .i64 0,.slice none 0 0] 100)) (w.heap.size+1+1) 100 _ from Bx.new' (by simp))
 have B0:=zH (show Below w.heap.size w (((w.alloc (.cells #[.slice A m c,.int .i64 1,.slice D 2 d] 100)).alloc (.cells #[.int .i64 k,.int .i64 0,.int .i64 0,.int .i64 0] 39)).alloc (.cells #[.slice none 0 0,.int .i64 0,.slice none 0 0] 100)) from (((zW).alloc zR _).alloc (by simp) _).alloc (by simp<;>omega) _)
 clear hs ht h1 h2 hk
 obtain ⟨x0,x1,x2,_⟩:=X0.out.three
 go_enter Tryz.func144,Tryz.ntmps144
 go_wp2_with fail
 refine (s_30Copy m c d A D s _ (HS.out.below B0.out) (by omega) (HT.out.below B0.out)).mono ?_
 intro e w1 hret
 obtain ⟨A3,c3,D3,d3,he,o3,p3,b1⟩:=(show RetNf s _ e w1 from hret)
 clear hret
 rw [HL.out] at he o3
 subst he
 have X1:=zH ((X0.out.below b1).alloc (.cells #[.slice A3 m c3,.int .i64 1,.slice D3 2 d3] 100))
 have G1:=zH ((G0.out.below b1).alloc (.cells #[.slice A3 m c3,.int .i64 1,.slice D3 2 d3] 100))
 have R1:=zH ((R0.out.below b1).alloc (.cells #[.slice A3 m c3,.int .i64 1,.slice D3 2 d3] 100))
 have B1:=zH ((below_trans B0.out b1).alloc (below_trans B0.out b1).size (.cells #[.slice A3 m c3,.int .i64 1,.slice D3 2 d3] 100))
 have N1:=zH (Bx.new w1 100 #[.slice A3 m c3,.int .i64 1,.slice D3 2 d3])
 have O1:=zH ((ownsRow_base o3 B0.out.size).alloc (.cells #[.slice A3 m c3,.int .i64 1,.slice D3 2 d3] 100))
 have P1:=zH ((ownsRow_base p3 B0.out.size).alloc (.cells #[.slice A3 m c3,.int .i64 1,.slice D3 2 d3] 100))
 have lR1:w.heap.size+1+1 < w1.heap.size:=(R0.out.below b1).lt
 clear o3 p3 b1 X0 G0 R0 B0 x0 x1 x2
 go_upto_region 2 with fail
 obtain ⟨wa,hwa⟩:∃ x,w1.alloc (.cells #[.slice A3 m c3,.int .i64 1,.slice D3 2 d3] 100)=x:=⟨_,rfl⟩
 rw [hwa] at X1 G1 R1 B1 N1 O1 P1 ⊢
 clear hwa
 obtain ⟨x0,x1,x2,_⟩:=X1.out.three
 obtain ⟨g0,g1,g2,g3,_⟩:=G1.out.four
 go_wp2_with fail
 refine (s_IsNf m c d A D s _ (HS.out.below B1.out) hm (HT.out.below B1.out) hd HY.out HO.out).mono ?_
 rintro e w2 ⟨rfl,b2⟩
 have X2:=zH (X1.out.below b2)
 have G2:=zH (G1.out.below b2)
 have R2:=zH (R1.out.below b2)
 have N2:=zH (N1.out.below b2)
 have O2:=zH (ownsRow_below O1.out b2)
 have P2:=zH (ownsRow_below P1.out b2)
 have B2:=zH (B1.out.trans (b2.mono B1.out.size))
 clear b2 X1 G1 R1 N1 O1 P1 B1 x0 x1 x2 g0 g1 g2 g3
 obtain ⟨g0,g1,g2,g3,_⟩:=G2.out.four
 go_wp2_with fail
 refine (s_IsValidGate k 0 0 0 1 _).mono ?_
 rintro e w3 ⟨rfl,b3⟩
 rw [okG_1k HKK.out]
 have X3:=zH (X2.out.below b3)
 have G3:=zH (G2.out.below b3)
 have R3:=zH (R2.out.below b3)
 have N3:=zH (N2.out.below b3)
 have O3:=zH (ownsRow_below O2.out b3)
 have P3:=zH (ownsRow_below P2.out b3)
 have B3:=zH (B2.out.trans (b3.mono B2.out.size))
 clear b3 X2 G2 R2 N2 O2 P2 B2 g0 g1 g2 g3
 obtain ⟨x0,x1,x2,_⟩:=X3.out.three
 obtain ⟨g0,g1,g2,g3,_⟩:=G3.out.four
 obtain ⟨n0,n1,n2,n3,n4,n5⟩:=N3.out.three
 have l3:=B3.out.size
 have lN3:w1.heap.size < w3.heap.size:=N3.out.lt
 have hd3:2<=d3:=ownsRow_cap P3.out
 have hc3:m<=c3:=ownsRow_cap O3.out
 go_upto_region 4 with fail
 by_cases h7:k=7
 ·have HN:=zH (nfG_7 s h7)
  subst h7
  go_wp2_with fail
  refine (s_30T m c d A D s _ (HS.out.below B3.out) hm hmc (HT.out.below B3.out) hd HY.out HO.out).mono ?_
  intro e w4 hret
  obtain ⟨A4,c4,D4,d4,rfl,o4,p4,b4⟩:=(show RetNf (nfT s) _ e w4 from hret)
  clear hret
  have R4:=zH (R3.out.below b4)
  have B4:=zH (B3.out.trans (b4.mono l3))
  have O4:=zH (ownsRow_base o4 l3)
  have P4:=zH (ownsRow_base p4 l3)
  clear o4 p4 b4
  obtain ⟨r0,r1,r2,r3,r4,r5⟩:=R4.out.three
  go_wp2_with fail
  refine ret_S3 (v:=.tuple #[.agg #[.slice A4 (nfT s).1.length c4,.int .i64 1,.slice D4 2 d4],.bool true]) R4.out ?_ rfl ?_
  ·intro wS z0 z1 z2;simp [results,Tryz.results144,go_sem,z0,z1,z2]
  rw [HN.out]
  exact ⟨A4,c4,D4,d4,rfl,own_S3x O4.out R4.out (by decide) _ _ _,own_S3x P4.out R4.out (by decide) _ _ _,belowS3 B4.out (by omega) _ _ _⟩
 ·by_cases h8:k=8
  ·have HN:=zH (nfG_8 s h8)
   subst h8
   have OK6:=zH (appT_ok (g1_ok (k:=6) (by omega)).1 (g1_ok (k:=6) (by omega)).2 HO.out)
   obtain ⟨t6,ht6⟩:∃ t,appT 1 (Go.Proofs.YtmenmibfkojnoaaGreat.g1 6) s.2=t:=⟨_,rfl⟩
   rw [ht6] at OK6 HN
   have HT6:=zH ht6
   clear ht6
   go_upto_region 8 with fail
   go_cut [32] from 26 to 32 (fun v wx=>∃ D5 d5,Bx wx w1.heap.size 100 #[.slice A3 m c3,.int .i64 1,.slice D5 2 d5]/\wx.ownsRow w.heap.size 3 1 (.slice A3 m c3) m (cellsI (sylI s.1))/\wx.ownsRow w.heap.size 151 4 (.slice D5 2 d5) 2 (cellsG (pgs 1 t6))/\Bx wx (w.heap.size+1+1) 100 #[.slice none 0 0,.int .i64 0,.slice none 0 0]/\Below w.heap.size w wx)
   case first =>
    have BXd:=X3.out.drew
    obtain ⟨h0,h1,h2,_⟩:=BXd.three
    go_region_with (first
     |(go_at_call 106;refine (s_one _ _ _).mono ?_;rintro e w7 ⟨rfl,b70⟩;have b7:=below_trans (Below.refl w3.heap.size w3).drew b70;obtain ⟨q0,q1,q2,_⟩:=(X3.out.below b7).three)
     |(go_at_call 111;refine (s_TabApp 1 2 d D s.2 (Go.Proofs.YtmenmibfkojnoaaGreat.g1 6) _ (by omega) ((HT.out.below (B3.out.trans (b7.mono l3)))) hd HO.out (g1_ok (by omega)).1 (g1_ok (by omega)).2).mono ?_;rw [HT6.out];intro e w9 hret;obtain ⟨D8,d8,rfl,o8,b80⟩:=RetT1.of hret;clear hret;have b8:=below_trans b7 b80;obtain ⟨q0,q1,q2,q3,q4,q5⟩:=(N3.out.below b8).three)
     |fail)
    all_goals go_wp2_with fail
    all_goals go_meet
    all_goals exact ⟨D8,d8,Bx.tab3 (N3.out.below b8) _ _,own_tab3 (ownsRow_below O3.out b8) (N3.out.below b8) (by decide) _ _,own_tab3 (ownsRow_base o8 (Nat.le_trans l3 b7.size)) (N3.out.below b8) (by decide) _ _,((R3.out.below b8).far (p:=⟨w1.heap.size,1,none⟩) (by show w.heap.size+1+1 ≠ w1.heap.size;omega) _).far (p:=⟨w1.heap.size,2,none⟩) (by show w.heap.size+1+1 ≠ w1.heap.size;omega) _,((B3.out.trans (b8.mono l3)).setCell (p:=⟨w1.heap.size,1,none⟩) (by show w.heap.size<=w1.heap.size;omega) _).setCell (p:=⟨w1.heap.size,2,none⟩) (by show w.heap.size<=w1.heap.size;omega) _⟩
   case rest =>
    obtain ⟨D5,d5,hN,hO,hP,hR,hB⟩:=hcut
    have N5:=zH hN
    have O5:=zH hO
    have P5:=zH hP
    have R5:=zH hR
    have B5:=zH hB
    have l5:=hB.size
    have hd5:2<=d5:=ownsRow_cap hP
    clear hN hO hP hR hB X3 G3 R3 N3 O3 P3 B3 x0 x1 x2 g0 g1 g2 g3 n0 n1 n2 n3 n4 n5
    obtain ⟨n0,n1,n2,n3,n4,n5⟩:=N5.out.three
    obtain ⟨w5,rfl⟩:∃ w5,w5=wc:=⟨_,rfl⟩
    go_wp2_with fail
    refine (s_30T m c3 d5 A3 D5 (s.1,t6) _ (RdI.own O5.out) hm hc3 (RdG.own P5.out) hd5 HY.out OK6.out).mono ?_
    intro e w4 hret
    obtain ⟨A4,c4,D4,d4,rfl,o4,p4,b4⟩:=(show RetNf (nfT (s.1,t6)) _ e w4 from hret)
    clear hret
    have R4:=zH (R5.out.below b4)
    have B4:=zH (B5.out.trans (b4.mono l5))
    have O4:=zH (ownsRow_base o4 l5)
    have P4:=zH (ownsRow_base p4 l5)
    clear o4 p4 b4
    obtain ⟨r0,r1,r2,r3,r4,r5⟩:=R4.out.three
    go_wp2_with fail
    refine ret_S3 (v:=.tuple #[.agg #[.slice A4 (nfT (s.1,t6)).1.length c4,.int .i64 1,.slice D4 2 d4],.bool true]) R4.out ?_ rfl ?_
    ·intro wS z0 z1 z2;simp [results,Tryz.results144,go_sem,z0,z1,z2]
    rw [HN.out]
    exact ⟨A4,c4,D4,d4,rfl,own_S3x O4.out R4.out (by decide) _ _ _,own_S3x P4.out R4.out (by decide) _ _ _,belowS3 B4.out (by omega) _ _ _⟩
  ·have HN:=zH (nfG_c s h7 h8)
   have k7:(k == 7)=false:=by simpa using h7
   have k8:(k == 8)=false:=by simpa using h8
   have hk6:=zH (show 1<=k/\k<=6 from by have:=HKK.out;omega)
   obtain ⟨t6,ht6⟩:∃ t,appT 1 (Go.Proofs.YtmenmibfkojnoaaGreat.g1 k) s.2=t:=⟨_,rfl⟩
   rw [ht6] at HN
   have HT6:=zH ht6
   clear ht6
   go_wp2_with fail
   refine (s_TabApp 1 2 d D s.2 (Go.Proofs.YtmenmibfkojnoaaGreat.g1 k) _ (by omega) ((HT.out.below B3.out)) hd HO.out (g1_ok hk6.out).1 (g1_ok hk6.out).2).mono ?_
   rw [HT6.out]
   intro e w4 hret
   obtain ⟨D4,d4,rfl,o4,b4⟩:=RetT1.of hret
   clear hret
   have N4:=zH (N3.out.below b4)
   have R4:=zH (R3.out.below b4)
   have O4:=zH (ownsRow_below O3.out b4)
   have P4:=zH (ownsRow_base o4 l3)
   have B4:=zH (B3.out.trans (b4.mono l3))
   clear o4 b4 x0 x1 x2 n0 n1 n2 n3 n4 n5 g0 g1 g2 g3
   obtain ⟨n0,n1,n2,n3,n4,n5⟩:=N4.out.three
   go_upto_region 11 with fail
   have NB:=zH (Bx.tab3 N4.out (.int .i64 1) (.slice D4 2 d4))
   have RB2:=zH ((R4.out.far (p:=⟨w1.heap.size,1,none⟩) (by show w.heap.size+1+1 ≠ w1.heap.size;omega) (.int .i64 1)).far (p:=⟨w1.heap.size,2,none⟩) (by show w.heap.size+1+1 ≠ w1.heap.size;omega) (.slice D4 2 d4))
   have OB2:=zH (own_tab3 O4.out N4.out (by decide) (.int .i64 1) (.slice D4 2 d4))
   have TB2:=zH (own_tab3 P4.out N4.out (by decide) (.int .i64 1) (.slice D4 2 d4))
   have BB:=zH ((B4.out.setCell (p:=⟨w1.heap.size,1,none⟩) (by show _<=w1.heap.size;omega) (.int .i64 1)).setCell (p:=⟨w1.heap.size,2,none⟩) (by show _<=w1.heap.size;omega) (.slice D4 2 d4))
   obtain ⟨wd,hwd⟩:∃ x,(w4.setCell ⟨w1.heap.size,1,none⟩ (.int .i64 1)).setCell ⟨w1.heap.size,2,none⟩ (.slice D4 2 d4)=x:=⟨_,rfl⟩
   rw [hwd] at NB RB2 OB2 TB2 BB ⊢
   clear hwd n0 n1 n2 n3 n4 n5 N4 R4 O4 P4 B4
   obtain ⟨n0,n1,n2,_⟩:=NB.out.three
   obtain ⟨r0,r1,r2,r3,r4,r5⟩:=RB2.out.three
   go_wp2_with fail
   refine ret_S3 (v:=.tuple #[.agg #[.slice A3 m c3,.int .i64 1,.slice D4 2 d4],.bool true]) RB2.out ?_ rfl ?_
   ·intro wS z0 z1 z2;simp [results,Tryz.results144,go_sem,z0,z1,z2]
   rw [HN.out]
   refine ⟨A3,c3,D4,d4,by simp only [HL.out],?_,own_S3x TB2.out RB2.out (by decide) _ _ _,belowS3 BB.out (by omega) _ _ _⟩
   simp only [HL.out]
   exact own_S3x OB2.out RB2.out (by decide) _ _ _
set_option maxRecDepth 100000 in
theorem i_NfApp (m c d:Nat) (A D:Option Addr) (s:Nf) (k:Int) (w:World) (hk:1<=k/\k<=8) (hs:RdI w A m (sylI s.1)) (hm:m<=1073741824) (hmc:m<=c) (ht:RdG w D 2 (pgs 1 s.2)) (hd:2<=d) (h1:okSyl s.1) (h2:okT 1 s.2) :
  Calls Tryz.prog 130 #[.agg #[.slice A m c,.int .i64 1,.slice D 2 d],.agg #[.int .i64 k,.int .i64 0,.int .i64 0,.int .i64 0]] w (RetNfT (nfG s k) w):=by
 have HS:=zH hs
 have HT:=zH ht
 have HO:=zH h2
 have HY:=zH h1
 have HL:=zH (sylI_len' s hs)
 have HKK:=zH hk
 have X0:=zH (show Bx (((w.alloc (.cells #[.slice A m c,.int .i64 1,.slice D 2 d] 100)).alloc (.cells #[.int .i64 k,.int .i64 0,.int .i64 0,.int .i64 0] 39)).alloc (.cells #[.slice none 0 0,.int .i64 0,.slice none 0 0] 100)) w.heap.size 100 _ from ((Bx.new w _ _).alloc _).alloc _)
 have G0:=zH (show Bx (((w.alloc (.cells #[.slice A m c,.int .i64 1,.slice D 2 d] 100)).alloc (.cells #[.int .i64 k,.int .i64 0,.int .i64 0,.int .i64 0] 39)).alloc (.cells #[.slice none 0 0,.int .i64 0,.slice none 0 0] 100)) (w.heap.size+1) 39 _ from (Bx.new' (by simp)).alloc _)
 have R0:=zH (show Bx (((w.alloc (.cells #[.slice A m c,.int .i64 1,.slice D 2 d] 100)).alloc (.cells #[.int .i64 k,.int .i64 0,.int .i64 0,.int .i64 0] 39)).alloc (.cells #[.slice none 0 0,.int .i64 0,.slice none 0 0] 100)) (w.heap.size+1+1) 100 _ from Bx.new' (by simp))
 have B0:=zH (show Below w.heap.size w (((w.alloc (.cells #[.slice A m c,.int .i64 1,.slice D 2 d] 100)).alloc (.cells #[.int .i64 k,.int .i64 0,.int .i64 0,.int .i64 0] 39)).alloc (.cells #[.slice none 0 0,.int .i64 0,.slice none 0 0] 100)) from (((zW).alloc zR _).alloc (by simp) _).alloc (by simp<;>omega) _)
 clear hs ht h1 h2 hk
 obtain ⟨x0,x1,x2,_⟩:=X0.out.three
 go_enter Tryz.func130,Tryz.ntmps130
 go_wp2_with fail
 refine (i_copyNf m c d A D s _ (HS.out.below B0.out) (by omega) (HT.out.below B0.out)).mono ?_
 intro e w1 hret
 obtain ⟨A3,c3,D3,d3,he,o3,p3,b1⟩:=(show RetNf s _ e w1 from hret)
 clear hret
 rw [HL.out] at he o3
 subst he
 have X1:=zH ((X0.out.below b1).alloc (.cells #[.slice A3 m c3,.int .i64 1,.slice D3 2 d3] 100))
 have G1:=zH ((G0.out.below b1).alloc (.cells #[.slice A3 m c3,.int .i64 1,.slice D3 2 d3] 100))
 have R1:=zH ((R0.out.below b1).alloc (.cells #[.slice A3 m c3,.int .i64 1,.slice D3 2 d3] 100))
 have B1:=zH ((below_trans B0.out b1).alloc (below_trans B0.out b1).size (.cells #[.slice A3 m c3,.int .i64 1,.slice D3 2 d3] 100))
 have N1:=zH (Bx.new w1 100 #[.slice A3 m c3,.int .i64 1,.slice D3 2 d3])
 have O1:=zH ((ownsRow_base o3 B0.out.size).alloc (.cells #[.slice A3 m c3,.int .i64 1,.slice D3 2 d3] 100))
 have P1:=zH ((ownsRow_base p3 B0.out.size).alloc (.cells #[.slice A3 m c3,.int .i64 1,.slice D3 2 d3] 100))
 have lR1:w.heap.size+1+1 < w1.heap.size:=(R0.out.below b1).lt
 clear o3 p3 b1 X0 G0 R0 B0 x0 x1 x2
 go_upto_region 2 with fail
 obtain ⟨wa,hwa⟩:∃ x,w1.alloc (.cells #[.slice A3 m c3,.int .i64 1,.slice D3 2 d3] 100)=x:=⟨_,rfl⟩
 rw [hwa] at X1 G1 R1 B1 N1 O1 P1 ⊢
 clear hwa
 obtain ⟨x0,x1,x2,_⟩:=X1.out.three
 obtain ⟨g0,g1,g2,g3,_⟩:=G1.out.four
 go_wp2_with fail
 refine (i_IsNf m c d A D s _ (HS.out.below B1.out) hm (HT.out.below B1.out) hd HY.out HO.out).mono ?_
 rintro e w2 ⟨rfl,b2⟩
 have X2:=zH (X1.out.below b2)
 have G2:=zH (G1.out.below b2)
 have R2:=zH (R1.out.below b2)
 have N2:=zH (N1.out.below b2)
 have O2:=zH (ownsRow_below O1.out b2)
 have P2:=zH (ownsRow_below P1.out b2)
 have B2:=zH (B1.out.trans (b2.mono B1.out.size))
 clear b2 X1 G1 R1 N1 O1 P1 B1 x0 x1 x2 g0 g1 g2 g3
 obtain ⟨g0,g1,g2,g3,_⟩:=G2.out.four
 go_wp2_with fail
 refine (i_IsValidGate k 0 0 0 1 _).mono ?_
 rintro e w3 ⟨rfl,b3⟩
 rw [okG_1k HKK.out]
 have X3:=zH (X2.out.below b3)
 have G3:=zH (G2.out.below b3)
 have R3:=zH (R2.out.below b3)
 have N3:=zH (N2.out.below b3)
 have O3:=zH (ownsRow_below O2.out b3)
 have P3:=zH (ownsRow_below P2.out b3)
 have B3:=zH (B2.out.trans (b3.mono B2.out.size))
 clear b3 X2 G2 R2 N2 O2 P2 B2 g0 g1 g2 g3
 obtain ⟨x0,x1,x2,_⟩:=X3.out.three
 obtain ⟨g0,g1,g2,g3,_⟩:=G3.out.four
 obtain ⟨n0,n1,n2,n3,n4,n5⟩:=N3.out.three
 have l3:=B3.out.size
 have lN3:w1.heap.size < w3.heap.size:=N3.out.lt
 have hd3:2<=d3:=ownsRow_cap P3.out
 have hc3:m<=c3:=ownsRow_cap O3.out
 go_upto_region 4 with fail
 by_cases h7:k=7
 ·have HN:=zH (nfG_7 s h7)
  subst h7
  go_wp2_with fail
  refine (i_withT m c3 d3 A3 D3 s _ (RdI.own O3.out) hm hc3 (RdG.own P3.out) hd3 HY.out HO.out).mono ?_
  intro e w4 hret
  obtain ⟨A4,c4,D4,d4,rfl,o4,p4,b4⟩:=(show RetNf (nfT s) _ e w4 from hret)
  clear hret
  have R4:=zH (R3.out.below b4)
  have B4:=zH (B3.out.trans (b4.mono l3))
  have O4:=zH (ownsRow_base o4 l3)
  have P4:=zH (ownsRow_base p4 l3)
  clear o4 p4 b4
  obtain ⟨r0,r1,r2,r3,r4,r5⟩:=R4.out.three
  go_wp2_with fail
  refine ret_S3 (v:=.tuple #[.agg #[.slice A4 (nfT s).1.length c4,.int .i64 1,.slice D4 2 d4],.bool true]) R4.out ?_ rfl ?_
  ·intro wS z0 z1 z2;simp [results,Tryz.results130,go_sem,z0,z1,z2]
  rw [HN.out]
  exact ⟨A4,c4,D4,d4,rfl,own_S3x O4.out R4.out (by decide) _ _ _,own_S3x P4.out R4.out (by decide) _ _ _,belowS3 B4.out (by omega) _ _ _⟩
 ·by_cases h8:k=8
  ·have HN:=zH (nfG_8 s h8)
   subst h8
   have OK6:=zH (appT_ok (g1_ok (k:=6) (by omega)).1 (g1_ok (k:=6) (by omega)).2 HO.out)
   obtain ⟨t6,ht6⟩:∃ t,appT 1 (Go.Proofs.YtmenmibfkojnoaaGreat.g1 6) s.2=t:=⟨_,rfl⟩
   rw [ht6] at OK6 HN
   have HT6:=zH ht6
   clear ht6
   go_upto_region 8 with fail
   go_cut [32] from 26 to 32 (fun v wx=>∃ D5 d5,Bx wx w1.heap.size 100 #[.slice A3 m c3,.int .i64 1,.slice D5 2 d5]/\wx.ownsRow w.heap.size 3 1 (.slice A3 m c3) m (cellsI (sylI s.1))/\wx.ownsRow w.heap.size 151 4 (.slice D5 2 d5) 2 (cellsG (pgs 1 t6))/\Bx wx (w.heap.size+1+1) 100 #[.slice none 0 0,.int .i64 0,.slice none 0 0]/\Below w.heap.size w wx)
   case first =>
    have BXd:=N3.out.drew
    obtain ⟨h0,h1,h2,_⟩:=BXd.three
    go_region_with (first
     |(go_at_call 85;refine (i_one _ _ _).mono ?_;rintro e w7 ⟨rfl,b70⟩;have b7:=below_trans (Below.refl w3.heap.size w3).drew b70;obtain ⟨q0,q1,q2,_⟩:=(N3.out.below b7).three)
     |(go_at_call 115;refine (i_TabApp 1 2 d3 D3 s.2 (Go.Proofs.YtmenmibfkojnoaaGreat.g1 6) _ (by omega) ((RdG.own (ownsRow_below P3.out b7))) hd3 HO.out (g1_ok (by omega)).1 (g1_ok (by omega)).2).mono ?_;rw [HT6.out];intro e w9 hret;obtain ⟨D8,d8,rfl,o8,b80⟩:=RetT1.of hret;clear hret;have b8:=below_trans b7 b80;obtain ⟨q0,q1,q2,q3,q4,q5⟩:=(N3.out.below b8).three)
     |fail)
    all_goals go_wp2_with fail
    all_goals go_meet
    all_goals exact ⟨D8,d8,Bx.tab3 (N3.out.below b8) _ _,own_tab3 (ownsRow_below O3.out b8) (N3.out.below b8) (by decide) _ _,own_tab3 (ownsRow_base o8 (Nat.le_trans l3 b7.size)) (N3.out.below b8) (by decide) _ _,((R3.out.below b8).far (p:=⟨w1.heap.size,1,none⟩) (by show w.heap.size+1+1 ≠ w1.heap.size;omega) _).far (p:=⟨w1.heap.size,2,none⟩) (by show w.heap.size+1+1 ≠ w1.heap.size;omega) _,((B3.out.trans (b8.mono l3)).setCell (p:=⟨w1.heap.size,1,none⟩) (by show w.heap.size<=w1.heap.size;omega) _).setCell (p:=⟨w1.heap.size,2,none⟩) (by show w.heap.size<=w1.heap.size;omega) _⟩
   case rest =>
    obtain ⟨D5,d5,hN,hO,hP,hR,hB⟩:=hcut
    have N5:=zH hN
    have O5:=zH hO
    have P5:=zH hP
    have R5:=zH hR
    have B5:=zH hB
    have l5:=hB.size
    have hd5:2<=d5:=ownsRow_cap hP
    clear hN hO hP hR hB X3 G3 R3 N3 O3 P3 B3 x0 x1 x2 g0 g1 g2 g3 n0 n1 n2 n3 n4 n5
    obtain ⟨n0,n1,n2,n3,n4,n5⟩:=N5.out.three
    obtain ⟨w5,rfl⟩:∃ w5,w5=wc:=⟨_,rfl⟩
    go_wp2_with fail
    refine (i_withT m c3 d5 A3 D5 (s.1,t6) _ (RdI.own O5.out) hm hc3 (RdG.own P5.out) hd5 HY.out OK6.out).mono ?_
    intro e w4 hret
    obtain ⟨A4,c4,D4,d4,rfl,o4,p4,b4⟩:=(show RetNf (nfT (s.1,t6)) _ e w4 from hret)
    clear hret
    have R4:=zH (R5.out.below b4)
    have B4:=zH (B5.out.trans (b4.mono l5))
    have O4:=zH (ownsRow_base o4 l5)
    have P4:=zH (ownsRow_base p4 l5)
    clear o4 p4 b4
    obtain ⟨r0,r1,r2,r3,r4,r5⟩:=R4.out.three
    go_wp2_with fail
    refine ret_S3 (v:=.tuple #[.agg #[.slice A4 (nfT (s.1,t6)).1.length c4,.int .i64 1,.slice D4 2 d4],.bool true]) R4.out ?_ rfl ?_
    ·intro wS z0 z1 z2;simp [results,Tryz.results130,go_sem,z0,z1,z2]
    rw [HN.out]
    exact ⟨A4,c4,D4,d4,rfl,own_S3x O4.out R4.out (by decide) _ _ _,own_S3x P4.out R4.out (by decide) _ _ _,belowS3 B4.out (by omega) _ _ _⟩
  ·have HN:=zH (nfG_c s h7 h8)
   have k7:(k == 7)=false:=by simpa using h7
   have k8:(k == 8)=false:=by simpa using h8
   have hk6:=zH (show 1<=k/\k<=6 from by have:=HKK.out;omega)
   obtain ⟨t6,ht6⟩:∃ t,appT 1 (Go.Proofs.YtmenmibfkojnoaaGreat.g1 k) s.2=t:=⟨_,rfl⟩
   rw [ht6] at HN
   have HT6:=zH ht6
   clear ht6
   go_wp2_with fail
   refine (i_TabApp 1 2 d3 D3 s.2 (Go.Proofs.YtmenmibfkojnoaaGreat.g1 k) _ (by omega) ((RdG.own P3.out)) hd3 HO.out (g1_ok hk6.out).1 (g1_ok hk6.out).2).mono ?_
   rw [HT6.out]
   intro e w4 hret
   obtain ⟨D4,d4,rfl,o4,b4⟩:=RetT1.of hret
   clear hret
   have N4:=zH (N3.out.below b4)
   have R4:=zH (R3.out.below b4)
   have O4:=zH (ownsRow_below O3.out b4)
   have P4:=zH (ownsRow_base o4 l3)
   have B4:=zH (B3.out.trans (b4.mono l3))
   clear o4 b4 x0 x1 x2 n0 n1 n2 n3 n4 n5 g0 g1 g2 g3
   obtain ⟨n0,n1,n2,n3,n4,n5⟩:=N4.out.three
   go_upto_region 11 with fail
   have NB:=zH (Bx.tab3 N4.out (.int .i64 1) (.slice D4 2 d4))
   have RB2:=zH ((R4.out.far (p:=⟨w1.heap.size,1,none⟩) (by show w.heap.size+1+1 ≠ w1.heap.size;omega) (.int .i64 1)).far (p:=⟨w1.heap.size,2,none⟩) (by show w.heap.size+1+1 ≠ w1.heap.size;omega) (.slice D4 2 d4))
   have OB2:=zH (own_tab3 O4.out N4.out (by decide) (.int .i64 1) (.slice D4 2 d4))
   have TB2:=zH (own_tab3 P4.out N4.out (by decide) (.int .i64 1) (.slice D4 2 d4))
   have BB:=zH ((B4.out.setCell (p:=⟨w1.heap.size,1,none⟩) (by show _<=w1.heap.size;omega) (.int .i64 1)).setCell (p:=⟨w1.heap.size,2,none⟩) (by show _<=w1.heap.size;omega) (.slice D4 2 d4))
   obtain ⟨wd,hwd⟩:∃ x,(w4.setCell ⟨w1.heap.size,1,none⟩ (.int .i64 1)).setCell ⟨w1.heap.size,2,none⟩ (.slice D4 2 d4)=x:=⟨_,rfl⟩
   rw [hwd] at NB RB2 OB2 TB2 BB ⊢
   clear hwd n0 n1 n2 n3 n4 n5 N4 R4 O4 P4 B4
   obtain ⟨n0,n1,n2,_⟩:=NB.out.three
   obtain ⟨r0,r1,r2,r3,r4,r5⟩:=RB2.out.three
   go_wp2_with fail
   refine ret_S3 (v:=.tuple #[.agg #[.slice A3 m c3,.int .i64 1,.slice D4 2 d4],.bool true]) RB2.out ?_ rfl ?_
   ·intro wS z0 z1 z2;simp [results,Tryz.results130,go_sem,z0,z1,z2]
   rw [HN.out]
   refine ⟨A3,c3,D4,d4,by simp only [HL.out],?_,own_S3x TB2.out RB2.out (by decide) _ _ _,belowS3 BB.out (by omega) _ _ _⟩
   simp only [HL.out]
   exact own_S3x OB2.out RB2.out (by decide) _ _ _
end Go.Proofs.YtmenmibfkojnoaaGreat
