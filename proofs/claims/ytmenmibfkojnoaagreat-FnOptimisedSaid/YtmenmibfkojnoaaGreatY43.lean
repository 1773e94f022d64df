/- Contract of withT (impl), for valid norm. -/
import Derived.Test.YtmenmibfkojnoaaGreatY41
import Derived.Test.YtmenmibfkojnoaaGreatY42
set_option maxHeartbeats 16000000
set_option maxRecDepth 100000
namespace Go.Proofs.YtmenmibfkojnoaaGreat
open Go.RowKit
set_option linter.unusedVariables false
theorem xm {w:World} {base:Nat} {e:TypeId} {sz n c k:Nat} {A:Option Addr} {xs:List Value} (h:w.ownsRow base e sz (.slice A n c) n xs) (hk:k<=n):w.ownsRow base e sz (.slice A k c) k (xs.take (k * sz)):=by
 have hle:k * sz<=n * sz:=Nat.mul_le_mul_right _ hk;refine ⟨by rw [List.length_take,h.1];omega,?_⟩;rcases h.2 with ⟨h0,h1⟩ | ⟨g,cap,cur,hv,h2,h3,h4,h5,h6,h7⟩
 ·injection h0 with a b c;subst a c
  exact .inl ⟨by rw [show k=0 by omega],zO⟩
 ·injection hv with a b c;subst a c
  refine .inr ⟨g,_,cur,rfl,h2,h3,zO,h5,h6,?_⟩;rw [<- h7,List.take_take,Nat.min_eq_left hle]
theorem tr {t:List Pq} (h:ed 1 t):(cw t).length<=4/\∀ g ∈ cw t,bF 1 g=true/\bh g.k=true:=by
 obtain ⟨K,hK,hKW,_⟩:=Ed h;exact ij (List.mem_of_getElem? hKW)
theorem Bx.tab3 {wx:World} {g t:Nat} {a b c:Value} (h:Bx wx g t #[a,b,c]) (u1 u2:Value):Bx ((wx.setCell ⟨g,1,none⟩ u1).setCell ⟨g,2,none⟩ u2) g t #[a,u1,u2]:=by
 have h1:Bx (wx.setCell ⟨g,1,none⟩ u1) g t #[a,u1,c]:=by simpa using h.set_ 1 u1
 simpa using h1.set_ 2 u2
theorem eA {wx:World} {base g:Nat} {e t:TypeId} {sz n:Nat} {v:Value} {xs:List Value} {cs:Array Value} (h:wx.ownsRow base e sz v n xs) (hg:Bx wx g t cs) (hne:e ≠ t) (a b:Value):((wx.setCell ⟨g,1,none⟩ a).setCell ⟨g,2,none⟩ b).ownsRow base e sz v n xs :=
 aM (aM h hg hne 1 a) (hg.set_ 1 a) hne 2 b
theorem Bx.set3 {wx:World} {g t:Nat} {a b c:Value} (h:Bx wx g t #[a,b,c]) (u0 u1 u2:Value):Bx (S3 wx g u0 u1 u2) g t #[u0,u1,u2]:=by
 have h0:Bx (wx.setCell ⟨g,0,none⟩ u0) g t #[u0,b,c]:=by simpa using h.set_ 0 u0
 exact h0.tab3 u1 u2
theorem iu {P:Program} {fn:Func} {R:Ending->World->Prop} {a:Act} {wy:World} {r t:Nat} {v0 v1 v2 u0 u1 u2 v:Value} (hB:Bx wy r t #[v0,v1,v2])
  (hr:∀ wS:World,wS.cell? ⟨r,0,none⟩=some u0->wS.cell? ⟨r,1,none⟩=some u1->wS.cell? ⟨r,2,none⟩=some u2->(results fn a.tmps).run P wS=.ok v wS)
  (hd:a.defers=[]) (hR:R (.returned v) (S3 wy r u0 u1 u2)):bodyPost P fn R .ret a (S3 wy r u0 u1 u2) :=
 bodyPost_ret (hr _ ((hB.set3 u0 u1 u2).cell 0) ((hB.set3 u0 u1 u2).cell 1) ((hB.set3 u0 u1 u2).cell 2)) hd hR
theorem F8 (s:List Nat) (k:Nat):(aB (dp s)).take (k * 1)=aB (dp (s.take k)):=by
 unfold aB dp;rw [Nat.mul_one,List.map_take,List.map_take]
theorem pz {p:Prop} (h:p:=by show w.heap.size+1 ≠ w1.heap.size;omega):p:=h
theorem pA {p:Prop} (h:p:=by show _<=w1.heap.size;omega):p:=h
theorem Eo (m c d:Nat) (A D:Option Addr) (s:Nf) (w:World) (hs:RdI w A m (dp s.1)) (hm:m<=1073741824) (hmc:m<=c) (ht:RdG w D 2 (dP 1 s.2)) (hd:2<=d) (h1:ef s.1) (h2:ed 1 s.2) :
  Calls Tryz.prog 162 #[.agg #[.slice A m c,(1:Int),.slice D 2 d]] w (jd (qr s) w):=by
 have HS:=zH hs;have HT:=zH ht;have HO:=zH h2;have HY:=zH h1;have HL:=zH (show s.1.length=m by rw [<- hs.1,jc]);have hz4:(Value.agg #[(0:Int),(0:Int),(0:Int),(0:Int)]).cells.size=4:=rfl;have hz1:(Value.int .i64 0).cells.size=1:=rfl;have X0:=zH (show Bx ((w.alloc (.cells #[.slice A m c,(1:Int),.slice D 2 d] 100)).alloc ZO.zN) w.heap.size 100 _ from (Bx.new w _ _).alloc _);have R0:=zH (show Bx ((w.alloc (.cells #[.slice A m c,(1:Int),.slice D 2 d] 100)).alloc ZO.zN) (w.heap.size+1) 100 _ from Bx.new' zI);have B0:=zH (show Below w w ((w.alloc (.cells #[.slice A m c,(1:Int),.slice D 2 d] 100)).alloc ZO.zN) from ((zW).alloc zR _).alloc zI _);obtain ⟨K,hK⟩:∃ K,cr s.2=K:=⟨_,rfl⟩;have hK2:K<=2:=by rw [<- hK];exact (yI h2).2.2.2
 have HK:=zH hK;obtain ⟨dd,hdd⟩:∃ r,bH 1 (dk (dH K)++cw s.2) (ch 1)=r:=⟨_,rfl⟩;have hdb:bP (bH 1 (dk (dH K)) (ch 1)) s.2=dd:=by rw [<- hdd,<- hK];exact (yI h2).1.symm
 have HDD:=zH (show bH 1 ([dk (dH K),cw s.2]:List (List Gt)).flatten (ch 1)=dd by rw [<- hdd];congr 1;simp);have OKD:=zH (show ed 1 dd by rw [<- hdb,<- hK];exact (yI h2).2.1);obtain ⟨a1,ha1⟩:=aV (l:=dd) (k:=1) (by rw [<- hdb,tl];omega);have HA1:=zH ha1;have HDT:=zH (show dT s.2=if a1.p=2 then di 1 (g1 5) dd else dd by
  have e:bP (bH 1 (dk (dH (cr s.2))) (ch 1)) s.2=dd:=by rw [hK,hdb]
  have e1:(bP (bH 1 (dk (dH (cr s.2))) (ch 1)) s.2)[1]? = some a1:=by rw [e];exact ha1
  by_cases h:a1.p=2
  ·rw [KR e1 h,if_pos h,e]
  ·rw [Ql e1 h,if_neg h,e])
 have OKT:=zH (yI h2).2.2.1;have OKC:=zH (tr h2);clear hs ht h1 h2 hK hdd hdb ha1;obtain ⟨x0,x1,x2,_⟩:=X0.three;go_enter Tryz.func162,Tryz.ntmps162;go_wp2_with fail;refine (zv m c d A D s _ (HS.below B0) zO (HT.below B0)).mono ?_;intro e w1 hret;obtain ⟨A3,c3,D3,d3,he,o3,p3,b1⟩:=(show jd s _ e w1 from hret);clear hret;rw [HL.out] at he o3;subst he;have X1:=zH ((X0.below b1).alloc (.cells #[.slice A3 m c3,(1:Int),.slice D3 2 d3] 100));have R1:=zH ((R0.below b1).alloc (.cells #[.slice A3 m c3,(1:Int),.slice D3 2 d3] 100));have B1:=zH ((aa B0 b1).alloc (aa B0 b1).size (.cells #[.slice A3 m c3,(1:Int),.slice D3 2 d3] 100));have N1:=zH (Bx.new w1 100 #[.slice A3 m c3,(1:Int),.slice D3 2 d3]);have O1:=zH ((ae o3 B0.size).alloc (.cells #[.slice A3 m c3,(1:Int),.slice D3 2 d3] 100));have lR1:w.heap.size+1 < w1.heap.size:=(R0.below b1).lt
 clear o3 p3 b1 X0 R0 B0 x0 x1 x2;go_upto_region 2 with fail
 obtain ⟨wa,hwa⟩:∃ x,w1.alloc (.cells #[.slice A3 m c3,(1:Int),.slice D3 2 d3] 100)=x:=⟨_,rfl⟩;rw [hwa] at X1 R1 B1 N1 O1 ⊢;clear hwa;obtain ⟨x0,x1,x2,_⟩:=X1.three;go_wp2_with fail;refine (OF 2 d D s.2 _ (HT.below B1) hd HO).mono ?_;rintro e w2 ⟨rfl,b2⟩;rw [HK.out];have B2:=zH b2;clear b2 x0 x1 x2;obtain ⟨x0,x1,x2,_⟩:=(X1.below B2.out).three;go_wp2_with fail;refine (Cr d D s.2 _ (HT.below (B1.trans (B2.mono B1.size))) HO).mono ?_;rintro e w3 ⟨Aw,cw',rfl,ow,bw⟩;have B3:=zH (aa B2 bw);have OW:=zH (RdG.own ow);clear bw ow B2 x0 x1 x2;go_wp2_with fail;refine (Ct K _ hK2).mono ?_;rintro e w4 ⟨A4,c4,rfl,o4,b4⟩;have B4:=zH (aa B3 b4);have OW4:=zH (OW.below b4);have O4:=zH (RdG.own o4);clear b4 o4 B3 OW;go_wp2_with fail;refine (Qi (dH K).length c4 A4 (dH K) _ O4.out (by have:=(gn K).2.1;omega)).mono ?_;rintro e w5 ⟨A5,c5,rfl,o5,b5⟩
 have B5:=zH ((aa B4 b5).alloc (aa B4 b5).size (.cells #[.slice A5 (dH K).length c5,.slice Aw (cw s.2).length cw'] 24));have OW5:=zH ((OW4.below b5).alloc (.cells #[.slice A5 (dH K).length c5,.slice Aw (cw s.2).length cw'] 24));have O5:=zH (show RdG (w5.alloc (.cells #[.slice A5 (dH K).length c5,.slice Aw (cw s.2).length cw'] 24)) A5 (dk (dH K)).length (dk (dH K)) by rw [gi];exact (RdG.own o5).alloc _);clear b5 o5 B4 OW4 O4;go_wp2_with fail;refine (zx 2 2 (some ⟨w5,0,none⟩) [dk (dH K),cw s.2] [.slice A5 (dH K).length c5,.slice Aw (cw s.2).length cw'] _ rfl (Rd.lit w5 24 #[.slice A5 (dH K).length c5,.slice Aw (cw s.2).length cw'] 2 1 rfl) (fun k x hx=>?_) (by have:=(gn K).2.1;have:=OKC.out.1;simp [gi];omega) (fun g hg=>?_) zO).mono ?_
 ·match k,hx with
  |0,hx=>injection hx with hx;subst hx;exact ⟨A5,c5,by rw [gi];rfl,O5.out⟩
  |1,hx=>injection hx with hx;subst hx;exact ⟨Aw,cw',rfl,OW5.out⟩
 ·simp only [List.flatten_cons,List.flatten_nil,List.append_nil,List.mem_append] at hg;rcases hg with hg | hg
  ·exact (gn K).2.2 g hg
  ·exact OKC.out.2 g hg
 rw [HDD.out];rintro e w6 ⟨A6,c6,rfl,o6,b6⟩;have B6:=zH (aa B5 b6);have X6:=zH (X1.below B6);have R6:=zH (R1.below B6);have N6:=zH (N1.below B6);have O6:=zH (ab O1 B6);have T6:=zH (ae o6 (Nat.le_trans B1.size B5.size));have C6:=zH (B1.trans (B6.mono B1.size));clear b6 o6 B5 OW5 O5 X1 R1 N1 O1 B1 B6;go_upto_region 5 with fail
 have G7:=zH (Bx.new w6 73 #[(1:Int),.slice A6 2 c6]);have W7:=zH (show Below w6 w6 (w6.alloc (.cells #[(1:Int),.slice A6 2 c6] 73)) from (zW).alloc zR _);have O7:=zH (T6.alloc (.cells #[(1:Int),.slice A6 2 c6] 73));obtain ⟨w7,hw7⟩:∃ x,w6.alloc (.cells #[(1:Int),.slice A6 2 c6] 73)=x:=⟨_,rfl⟩;rw [hw7] at G7 W7 O7 ⊢;clear hw7;have lw6:w.heap.size<=w6.heap.size:=C6.size;have lN6:w1.heap.size < w6.heap.size:=N6.lt;have lw7:w6.heap.size < w7.heap.size:=G7.lt;obtain ⟨b6,f6,rfl⟩:=(cC O7.out).first zO;obtain ⟨_,v0,v1,v2,v3⟩:=(cC O7.out).cellsAt (aE HA1.out);simp only [pg,Nat.one_mul] at v0 v1 v2 v3;obtain ⟨y0,y1,y2,y3⟩:=G7.two;go_upto_if 34 with fail
 go_cut [40] from 34 to 40 (fun i wx=>TB w.heap.size w6.heap.size (dT s.2) w6 wx)
 case first =>
  by_cases hp:a1.p=2
  ·have HE:=zH (show di 1 (g1 5) dd=dT s.2 by rw [HDT.out,if_pos hp]);have hpb:(((a1.p:Nat):Int) == 2)=true:=zJ;clear hp v0 v1 v2;go_upto_region 6 with fail
   have G7d:=G7.drew;obtain ⟨h0,h1,_⟩:=G7d.two
   go_region_with (first
    |(go_at_call 85;refine (jo _ _ _).mono ?_;rintro e w8 ⟨rfl,b70⟩;have b7:=aa (Below.refl w7 w7).drew b70;obtain ⟨q0,q1,q2,q3⟩:=(G7.below b7).two)
    |(go_at_call 115;refine (j7 1 2 c6 (some ⟨b6,f6,none⟩) dd (g1 5) _ zO ((cC O7.out).below b7) (ao O7.out) OKD.out (eh zO).1 (eh zO).2).mono ?_;rw [HE.out];intro e w9 hret;obtain ⟨D8,d8,rfl,o8,b80⟩:=RetT1.of hret;clear hret;have b8:=aa b7 b80;obtain ⟨q0,q1,q2,q3⟩:=(G7.below b8).two)
    |fail)
   all_goals go_wp2_with fail
   all_goals go_meet
   all_goals exact ⟨D8,d8,(G7.below b8).set2 _ _,kK (ae o8 (Nat.le_trans lw6 (Nat.le_trans (Nat.le_of_lt lw7) b7.size))) (G7.below b8) zD,ay (W7.trans (b8.mono (Nat.le_of_lt lw7))) zR _ _⟩
  ·have HE:=zH (show dd=dT s.2 by rw [HDT.out,if_neg hp]);have hpb:(((a1.p:Nat):Int) == 2)=false:=zJ;clear hp v0 v1 v2;go_wp2_with fail;go_meet;exact ⟨_,c6,G7.out,HE.out ▸ O7.out,W7.out⟩
 case rest =>
  obtain ⟨A8,c8,hG,hO,hB⟩:=hcut;have G8:=zH hG;have T8:=zH hO;have B8:=zH (C6.trans (hB.mono C6.size));have R8:=zH (R6.below hB);have N8:=zH (N6.below hB);have O8:=zH (ab O6 hB);have l8:w6.heap.size < wc.heap.size:=hG.lt;clear hG hO hB G7 O7 W7 X6 R6 N6 O6 T6 C6 v0 v1 v2 v3 y0 y1 y2 y3;obtain ⟨w8,rfl⟩:∃ w8,w8=wc:=⟨_,rfl⟩;obtain ⟨n0,n1,n2,n3,n4,n5⟩:=N8.three;obtain ⟨g0,g1',_⟩:=G8.two;by_cases hpop:K=0/\0 < m
  ·obtain ⟨M,rfl⟩:∃ M,m=M+1:=⟨m - 1,zO⟩;obtain ⟨k1,hk1⟩:=aV (l:=s.1) (k:=M) (by rw [HL.out];omega);have hk2:k1<=2:=(HY.out M k1 hk1).1;have HNF:=zH (Ef (m:=M+1) (k1:=k1) HK.out hpop.1 zO HL.out (by simpa using hk1));obtain ⟨rfl,_⟩:=hpop;obtain ⟨b,off,hA,_,_⟩:=(RdI.own O8.out).2.2 zO;subst hA;have y0:=(RdI.own O8.out).cellM hk1;have hmc3:M+1<=c3:=ao O8.out;have OP:=zH (show w8.ownsRow w 3 1 (.slice (some ⟨b,off,none⟩) M c3) M (aB (dp (s.1.take M))) by
    have:=xm O8.out (show M<=M+1 by omega);rwa [F8] at this)
   have M1:(M:Int) < (M:Int)+1:=zO;have M2:IntKind.i64.wrap ((M:Int)+1 - 1)=(M:Int):=by rw [show (M:Int)+1 - 1=M by omega];exact Eg zO
   have M3:IntKind.i64.wrap (((M+1:Nat):Int) - 1)=(M:Int):=by rw [show ((M+1:Nat):Int) - 1=M by omega];exact Eg zO
   have M4:(0:Int)<=(M:Int):=zO;have M5:(M:Int)<=(c3:Int):=zO;have HTL:=zH (show (s.1.take M).length=M by rw [List.length_take,HL.out];omega);have OKC2:=zH (tr OKT);have lw8:=B8.size;go_upto_region 10 with fail
   go_wp2_with fail;refine (Cr c8 A8 (dT s.2) _ (cC T8) OKT).mono ?_;rintro e w9 ⟨A9,c9,rfl,o9,b9⟩;have N9:=zH (N8.below b9);have R9:=zH (R8.below b9);have OP9:=zH (ab OP b9);have B9:=zH (B8.trans (b9.mono lw8));have OW9:=zH o9;have lw9:=B9.size;clear o9 b9 n0 n1 n2 n3 n4 n5 N8 R8 OP G8 T8 O8 y0 g0 g1';obtain ⟨n0,n1,n2,n3,n4,n5⟩:=N9.three;go_upto_region 12 with fail
   have NS:=fun (wx:World) (h:Bx wx w1 100 #[.slice (some ⟨b,off,none⟩) (M+1) c3,(1:Int),.slice D3 2 d3])=>(show Bx (wx.setCell ⟨w1,0,none⟩ (.slice (some ⟨b,off,none⟩) M c3)) w1 100 #[.slice (some ⟨b,off,none⟩) M c3,(1:Int),.slice D3 2 d3] by simpa using h.set_ 0 (.slice (some ⟨b,off,none⟩) M c3))
   have NA:=zH (NS _ N9);have RA:=zH (show Bx (w9.setCell ⟨w1,0,none⟩ (.slice (some ⟨b,off,none⟩) M c3)) (w.heap.size+1) 100 _ from R9.far pz _);have OPA:=zH (aM OP9 N9 zD 0 (.slice (some ⟨b,off,none⟩) M c3));have BA:=zH (B9.setCell (p:=⟨w1,0,none⟩) pA (.slice (some ⟨b,off,none⟩) M c3));have OWA:=zH (show RdG (w9.setCell ⟨w1,0,none⟩ (.slice (some ⟨b,off,none⟩) M c3)) A9 (cw (dT s.2)).length (cw (dT s.2)) from RdG.own (fY OW9.out (by show w1.heap.size < w8.heap.size;omega) _));obtain ⟨wa2,hwa2⟩:∃ x,w9.setCell ⟨w1,0,none⟩ (.slice (some ⟨b,off,none⟩) M c3)=x:=⟨_,rfl⟩;rw [hwa2] at NA RA OPA BA OWA ⊢;clear hwa2 n0 n1 n2 n3 n4 n5 N9 R9 OP9 B9 OW9 NS;go_wp2_with fail;refine (Ct k1 _ hk2).mono ?_;rintro e w10 ⟨A10,c10,rfl,o10,b10⟩;have Z10:=zH b10;have O10:=zH (RdG.own o10);clear o10 b10;go_wp2_with fail;refine (jo _ _ _).mono ?_;rintro e w11 ⟨rfl,b11⟩
   have Z11:=zH (aa Z10 b11);have O11:=zH (O10.below b11);clear b11 Z10 O10;have VL:=zH (Rd.lit (w11.alloc (.cells #[(5:Int),(0:Int),(0:Int),(0:Int)] 39)) 24 #[.slice A10 (dH k1).length c10,.slice (some ⟨w11,0,none⟩) 1 1,.slice A9 (cw (dT s.2)).length c9] 3 1 rfl);rw [World.size_alloc] at VL;have GL:=zH (show RdG ((w11.alloc (.cells #[(5:Int),(0:Int),(0:Int),(0:Int)] 39)).alloc (.cells #[.slice A10 (dH k1).length c10,.slice (some ⟨w11,0,none⟩) 1 1,.slice A9 (cw (dT s.2)).length c9] 24)) (some ⟨w11,0,none⟩) 1 [g1 5] from (show RdG (w11.alloc (.cells #[(5:Int),(0:Int),(0:Int),(0:Int)] 39)) (some ⟨w11,0,none⟩) 1 [g1 5] from ⟨rfl,Rd.lit w11 39 #[(5:Int),(0:Int),(0:Int),(0:Int)] 1 4 rfl⟩).alloc _)
   have Z12:=zH (show Below wa2.heap.size wa2 ((w11.alloc (.cells #[(5:Int),(0:Int),(0:Int),(0:Int)] 39)).alloc (.cells #[.slice A10 (dH k1).length c10,.slice (some ⟨w11,0,none⟩) 1 1,.slice A9 (cw (dT s.2)).length c9] 24)) from (Z11.alloc Z11.size _).alloc (Nat.le_trans Z11.size zI) _);have O12:=zH ((O11.alloc (.cells #[(5:Int),(0:Int),(0:Int),(0:Int)] 39)).alloc (.cells #[.slice A10 (dH k1).length c10,.slice (some ⟨w11,0,none⟩) 1 1,.slice A9 (cw (dT s.2)).length c9] 24));have OWB:=zH (OWA.below Z12);have HRW:=zH (show bH 1 ([dH k1,[g1 5],cw (dT s.2)]:List (List Gt)).flatten (ch 1)=bP (bH 1 (dH k1++[g1 5]) (ch 1)) (dT s.2) by
    rw [<- (UJ HO.out (m:=k1) zO).1];congr 1;simp)
   obtain ⟨rr,hrr⟩:∃ r,bP (bH 1 (dH k1++[g1 5]) (ch 1)) (dT s.2)=r:=⟨_,rfl⟩;rw [hrr] at HRW HNF;clear hrr O11 Z11;go_wp2_with fail;refine (zx 3 3 (some ⟨w11.heap.size+1,0,none⟩) [dH k1,[g1 5],cw (dT s.2)] [.slice A10 (dH k1).length c10,.slice (some ⟨w11,0,none⟩) 1 1,.slice A9 (cw (dT s.2)).length c9] _ rfl VL.out (fun k x hx=>?_) (by have:=(gn k1).2.1;have:=OKC2.out.1;simp;omega) (fun g hg=>?_) zO).mono ?_
   ·match k,hx with
    |0,hx=>injection hx with hx;subst hx;exact ⟨A10,c10,rfl,O12.out⟩
    |1,hx=>injection hx with hx;subst hx;exact ⟨_,1,rfl,GL.out⟩
    |2,hx=>injection hx with hx;subst hx;exact ⟨A9,c9,rfl,OWB.out⟩
   ·simp only [List.flatten_cons,List.flatten_nil,List.append_nil,List.mem_append] at hg;rcases hg with hg | hg | hg
    ·exact (gn k1).1 g hg
    ·rw [List.mem_singleton.1 hg];exact eh zO
    ·exact OKC2.out.2 g hg
   rw [HRW.out];rintro e w13 ⟨D5,d5,rfl,o13,b13⟩;have Z13:=zH (aa Z12 b13);have N13:=zH (NA.below Z13);have R13:=zH (RA.below Z13);have OP13:=zH (ab OPA Z13);have B13:=zH (BA.trans (Z13.mono BA.size));have T13:=zH (ae o13 (Nat.le_trans BA.size Z12.size));clear o13 b13 VL GL Z12 O12 OWB OWA Z13 NA RA OPA BA;obtain ⟨n0,n1,n2,n3,n4,n5⟩:=N13.three;go_upto_region 13 with fail
   have NB:=zH (Bx.tab3 N13 (.int .i64 1) (.slice D5 2 d5));have RB2:=zH ((R13.far (p:=⟨w1,1,none⟩) pz (.int .i64 1)).far (p:=⟨w1,2,none⟩) pz (.slice D5 2 d5));have OPB:=zH (eA OP13 N13 zD (.int .i64 1) (.slice D5 2 d5));have TB2:=zH (eA T13 N13 zD (.int .i64 1) (.slice D5 2 d5));have BB:=zH ((B13.setCell (p:=⟨w1,1,none⟩) pA (.int .i64 1)).setCell (p:=⟨w1,2,none⟩) pA (.slice D5 2 d5));obtain ⟨wb,hwb⟩:∃ x,(w13.setCell ⟨w1,1,none⟩ (.int .i64 1)).setCell ⟨w1,2,none⟩ (.slice D5 2 d5)=x:=⟨_,rfl⟩;rw [hwb] at NB RB2 OPB TB2 BB ⊢;clear hwb n0 n1 n2 n3 n4 n5 N13 R13 OP13 T13 B13;obtain ⟨n0,n1,n2,_⟩:=NB.three;obtain ⟨r0,r1,r2,r3,r4,r5⟩:=RB2.three;go_wp2_with fail;refine iu (v:=.agg #[.slice (some ⟨b,off,none⟩) M c3,(1:Int),.slice D5 2 d5]) RB2.out ?_ rfl ?_
   ·intro wS z0 z1 z2;simp [results,Tryz.results162,go_sem,z0,z1,z2]
   rw [HNF.out];refine ⟨some ⟨b,off,none⟩,c3,D5,d5,by simp [HTL.out],?_,?_,?_⟩
   ·simp only [Nat.add_sub_cancel,HTL.out];exact dr OPB.out RB2.out zD _ _ _
   ·exact dr TB2.out RB2.out zD _ _ _
   ·exact dR BB.out zO _ _ _
  ·have HNF:=zH (zw HK HL hpop);have lw8:=B8.size;go_upto_region 8 with fail
   go_cut [50] from 45 to 50 (fun v wx=>v=.bool false/\wx=w8)
   case first =>
    by_cases h0:K=0
    ·have hm0:m=0:=zO;subst h0 hm0;go_wp2_with fail;go_meet;exact ⟨rfl,rfl⟩
    ·have hK0:(((K:Nat):Int) == 0)=false:=zJ;go_wp2_with fail;go_meet;exact ⟨rfl,rfl⟩
   case rest =>
    obtain ⟨rfl,rfl⟩:=hcut;obtain ⟨wz,rfl⟩:∃ x,x=wc:=⟨_,rfl⟩;have OA:=zH (O8.alloc (.cells #[K] 3));have NA:=zH (N8.alloc (.cells #[K] 3));have RA:=zH (R8.alloc (.cells #[K] 3));have GA:=zH (G8.alloc (.cells #[K] 3));have TA:=zH (T8.alloc (.cells #[K] 3));have BA:=zH (B8.alloc lw8 (.cells #[K] 3));have KA:=zH (Tf (Bx.new wz 3 #[K]));go_upto_region 15 with (at_builtin;refine ah rfl (.tmp 76) (.tmp 78) 58 rfl Tryz.underlying58 gY hz1 zD rfl OA.out rfl KA.out re zO zD zS ?_;intro A9 c9 w9 o9 g9;have N9:=zH (az OA.out g9 NA.out zD);have R9:=zH (az OA.out g9 RA.out zD);have G9:=zH (az OA.out g9 GA.out zD);have T9:=zH (TA.kept g9 (lT TA.out OA.out zD));have B9:=zH (ag BA.out BA.size OA.out zR g9);have O9:=zH o9;clear o9 g9 n0 n1 n2 n3 n4 n5 g0 g1' OA NA RA GA TA BA KA;obtain ⟨n0,n1,n2,n3,n4,n5⟩:=N9.three)
    have NC:=zH (show Bx (w9.setCell ⟨w1,0,none⟩ (.slice A9 (m+1) c9)) w1 100 #[.slice A9 (m+1) c9,(1:Int),.slice D3 2 d3] by simpa using N9.set_ 0 (.slice A9 (m+1) c9));have RC:=zH (show Bx (w9.setCell ⟨w1,0,none⟩ (.slice A9 (m+1) c9)) (w.heap.size+1) 100 _ from R9.far pz _);have GC:=zH (show Bx (w9.setCell ⟨w1,0,none⟩ (.slice A9 (m+1) c9)) w6.heap.size 73 _ from G9.far (by show w6.heap.size ≠ w1.heap.size;omega) _);have TC:=zH (aM T9 N9 zD 0 (.slice A9 (m+1) c9));have OC:=zH (aM O9 N9 zD 0 (.slice A9 (m+1) c9));have BC:=zH (B9.setCell (p:=⟨w1,0,none⟩) pA (.slice A9 (m+1) c9));obtain ⟨wb,hwb⟩:∃ x,w9.setCell ⟨w1,0,none⟩ (.slice A9 (m+1) c9)=x:=⟨_,rfl⟩;rw [hwb] at NC RC GC TC OC BC ⊢;clear hwb n0 n1 n2 n3 n4 n5 N9 R9 G9 T9 B9 O9;obtain ⟨n0,n1,n2,n3,n4,n5⟩:=NC.three;obtain ⟨g0,g1',_⟩:=GC.two;go_upto_region 16 with fail
    have NB:=zH (Bx.tab3 NC (.int .i64 1) (.slice A8 2 c8));have RB2:=zH ((RC.far (p:=⟨w1,1,none⟩) pz (.int .i64 1)).far (p:=⟨w1,2,none⟩) pz (.slice A8 2 c8));have OB2:=zH (eA OC NC zD (.int .i64 1) (.slice A8 2 c8));have TB2:=zH (eA TC NC zD (.int .i64 1) (.slice A8 2 c8));have BB:=zH ((BC.setCell (p:=⟨w1,1,none⟩) pA (.int .i64 1)).setCell (p:=⟨w1,2,none⟩) pA (.slice A8 2 c8));obtain ⟨wd,hwd⟩:∃ x,(wb.setCell ⟨w1,1,none⟩ (.int .i64 1)).setCell ⟨w1,2,none⟩ (.slice A8 2 c8)=x:=⟨_,rfl⟩;rw [hwd] at NB RB2 OB2 TB2 BB ⊢;clear hwd n0 n1 n2 n3 n4 n5 g0 g1' NC RC GC TC OC BC;obtain ⟨n0,n1,n2,_⟩:=NB.three;obtain ⟨r0,r1,r2,r3,r4,r5⟩:=RB2.three;go_wp2_with fail;refine iu (v:=.agg #[.slice A9 (m+1) c9,(1:Int),.slice A8 2 c8]) RB2.out ?_ rfl ?_
    ·intro wS z0 z1 z2;simp [results,Tryz.results162,go_sem,z0,z1,z2]
    rw [HNF.out];refine ⟨A9,c9,A8,c8,by simp [HL.out],?_,?_,?_⟩
    ·have e:aB (dp (s.1++[K]))=aB (dp s.1)++aB (dp [K]):=by unfold dp aB;simp
     simp only [List.length_append,List.length_cons,List.length_nil,HL.out,e];exact dr OB2.out RB2.out zD _ _ _
    ·exact dr TB2.out RB2.out zD _ _ _
    ·exact dR BB.out zO _ _ _
theorem Lc {p:Prop} (h:p:=by
  rintro e w2 ⟨rfl,rfl⟩;rw [hin];have X2:=HX;have B2:=HB;by_cases hz:k=0
  ·subst hz;go_wp2_with fail;go_roundg (gk - 1)
   all_goals first
    |omega
    |exact ⟨1,zO,by go_num,X2.out,B2.out⟩
  ·have hz1:=HZ.out zO;have hz2:(0:Int) < (k:Int):=zO;go_wp2_with fail;go_roundg (gk - 1)
   all_goals first
    |omega
    |exact ⟨k+1,zO,by go_num,X2.out,B2.out⟩):p:=h
theorem Ld {p:Prop} (h:p:=by
  rintro e w2 ⟨rfl,b2⟩;have B2:=zH (HB.trans (b2.mono HB.size));obtain ⟨z0,z1,z2,_⟩:=(HX.below b2).three;clear b2;go_wp2_with fail;go_ret;exact ⟨rfl,B2⟩):p:=h
theorem Le (m c d:Nat) (A D:Option Addr) (s:Nf) (w:World) (hs:RdI w A m (dp s.1)) (hm:m<=1073741824) (ht:RdG w D 2 (dP 1 s.2)) (hd:2<=d) (h1:ef s.1) (h2:ed 1 s.2) :
  Calls Tryz.prog 145 #[.agg #[.slice A m c,(1:Int),.slice D 2 d]] w fun e w'=>e=.returned (.bool true)/\Below w w w':=by
 have HS:=zH hs;have HT:=zH ht;have HO:=zH h2;have HY:=zH h1;have HL:=zH (show s.1.length=m by rw [<- hs.1,jc]);have X0:=zH (Bx.new w 100 #[.slice A m c,(1:Int),.slice D 2 d]);have B0:=zH (show Below w w (w.alloc (.cells #[.slice A m c,(1:Int),.slice D 2 d] 100)) from (zW).alloc zR _);clear hs ht h1 h2;obtain ⟨x0,x1,x2,_⟩:=X0.three;go_enter Tryz.func145,Tryz.ntmps145;go_wp2_with fail;go_loopg [3] m (fun g i wr=>∃ (k:Nat),k+g=m/\i=.int .i64 (k:Nat)/\Bx wr w 100 #[.slice A m c,(1:Int),.slice D 2 d]/\Below w w wr)
 case atStart=>exact ⟨0,zO,rfl,X0.out,B0.out⟩
 case round =>
  clear X0 B0 x0 x1 x2;obtain ⟨k,hk,rfl,hX,hB⟩:=hrel;have HX:=zH hX;have HB:=zH hB;obtain ⟨x0,x1,x2,_⟩:=hX.three;by_cases hlt:k < m
  ·obtain ⟨k1,hk1⟩:=aV (l:=s.1) (k:=k) (by rw [HL.out];exact hlt);have hk2:k1<=2:=(HY.out k k1 hk1).1;have hin:ee ((k1:Nat):Int) 0 2=true:=bG zO zO;obtain ⟨b,off,rfl,_,hc⟩:=(HS.below HB.out).2.2 zO;have y0:=hc k _ (oI hk1);have kn:(k:Int) < (m:Int):=zO;have k0:(0:Int)<=(k:Int):=zO;have HZ:=zH (show 0 < k->(((k1:Nat):Int) == 0)=false from fun h=>by have:=(HY.out k k1 hk1).2 h;simp;omega);clear hX hB hk1 hc;go_wp2_with fail;refine (el _ _ _ _).mono ?_;exact Lc
  ·obtain rfl:k=m:=zO;clear hX hB;go_wp2_with fail;refine (my 1 2 d D s.2 _ zO (HT.below HB) HO).mono ?_;exact Ld
theorem Lf (m c d:Nat) (A D:Option Addr) (s:Nf) (w:World) (hs:RdI w A m (dp s.1)) (hm:m<=1073741824) (ht:RdG w D 2 (dP 1 s.2)) (hd:2<=d) (h1:ef s.1) (h2:ed 1 s.2) :
  Calls Tryz.prog 131 #[.agg #[.slice A m c,(1:Int),.slice D 2 d]] w fun e w'=>e=.returned (.bool true)/\Below w w w':=by
 have HS:=zH hs;have HT:=zH ht;have HO:=zH h2;have HY:=zH h1;have HL:=zH (show s.1.length=m by rw [<- hs.1,jc]);have X0:=zH (Bx.new w 100 #[.slice A m c,(1:Int),.slice D 2 d]);have B0:=zH (show Below w w (w.alloc (.cells #[.slice A m c,(1:Int),.slice D 2 d] 100)) from (zW).alloc zR _);clear hs ht h1 h2;obtain ⟨x0,x1,x2,_⟩:=X0.three;go_enter Tryz.func131,Tryz.ntmps131;go_wp2_with fail;go_loopg [8] m (fun g i wr=>∃ (k:Nat),k+g=m/\i=.int .i64 (k:Nat)/\Bx wr w 100 #[.slice A m c,(1:Int),.slice D 2 d]/\Below w w wr)
 case atStart=>exact ⟨0,zO,rfl,X0.out,B0.out⟩
 case round =>
  clear X0 B0 x0 x1 x2;obtain ⟨k,hk,rfl,hX,hB⟩:=hrel;have HX:=zH hX;have HB:=zH hB;obtain ⟨x0,x1,x2,_⟩:=hX.three;by_cases hlt:k < m
  ·obtain ⟨k1,hk1⟩:=aV (l:=s.1) (k:=k) (by rw [HL.out];exact hlt);have hk2:k1<=2:=(HY.out k k1 hk1).1;have hin:ee ((k1:Nat):Int) 0 2=true:=bG zO zO;obtain ⟨b,off,rfl,_,hc⟩:=(HS.below HB.out).2.2 zO;have y0:=hc k _ (oI hk1);have kn:(k:Int) < (m:Int):=zO;have k0:(0:Int)<=(k:Int):=zO;have HZ:=zH (show 0 < k->(((k1:Nat):Int) == 0)=false from fun h=>by have:=(HY.out k k1 hk1).2 h;simp;omega);clear hX hB hk1 hc;go_wp2_with fail;refine (eK _ _ _ _).mono ?_;exact Lc
  ·obtain rfl:k=m:=zO;clear hX hB;go_wp2_with fail;refine (nU 1 2 d D s.2 _ zO (HT.below HB) hd HO).mono ?_;exact Ld
end Go.Proofs.YtmenmibfkojnoaaGreat
