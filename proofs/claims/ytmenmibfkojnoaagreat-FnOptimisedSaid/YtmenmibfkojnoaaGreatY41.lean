/- Contract of l30T (spec), for valid norma. -/
import Derived.Test.YtmenmibfkojnoaaGreatY40
set_option maxHeartbeats 16000000
set_option maxRecDepth 100000
namespace Go.Proofs.YtmenmibfkojnoaaGreat
open Go.RowKit
set_option linter.unusedVariables false
theorem KR {t:List Pq} {a:Pq} (h:(bP (bH 1 (dk (dH (cr t))) (ch 1)) t)[1]? = some a) (hp:a.p=2):dT t=di 1 (g1 5) (bP (bH 1 (dk (dH (cr t))) (ch 1)) t):=by
 unfold dT;simp only;rw [List.getD_eq_getElem?_getD,h];exact if_pos hp
theorem Ql {t:List Pq} {a:Pq} (h:(bP (bH 1 (dk (dH (cr t))) (ch 1)) t)[1]? = some a) (hp:a.p ≠ 2):dT t=bP (bH 1 (dk (dH (cr t))) (ch 1)) t:=by
 unfold dT;simp only;rw [List.getD_eq_getElem?_getD,h];exact if_neg hp
theorem gn (k:Nat):(∀ g ∈ dH k,bF 1 g=true/\bh g.k=true)/\(dH k).length<=2/\∀ g ∈ dk (dH k),bF 1 g=true/\bh g.k=true:=by
 unfold dH;split
 ·exact ⟨zD,zD,zD⟩
 ·split
  ·exact ⟨zD,zD,zD⟩
  ·exact ⟨zD,zD,zD⟩
theorem Cs (k:Nat) (w:World) (hk:k<=2) :
  Calls Tryz.prog 146 #[k] w fun e w'=>∃ A c,e=.returned (.slice A (dH k).length c)/\w'.ownsRow w 39 4 (.slice A (dH k).length c) (dH k).length (af (dH k))/\Below w w w':=by
 have h:=Vq ((k:Nat):Int) w zO;simp only [Int.toNat_natCast] at h;exact h
theorem Ct (k:Nat) (w:World) (hk:k<=2) :
  Calls Tryz.prog 132 #[k] w fun e w'=>∃ A c,e=.returned (.slice A (dH k).length c)/\w'.ownsRow w 39 4 (.slice A (dH k).length c) (dH k).length (af (dH k))/\Below w w w':=by
 have h:=Vr ((k:Nat):Int) w zO;simp only [Int.toNat_natCast] at h;exact h
theorem oI {s:List Nat} {i k:Nat} (h:s[i]? = some k):(aB (dp s))[i]? = some (.int .i64 (k:Nat)):=by
 unfold aB dp;rw [List.map_map,List.getElem?_map,h];rfl
theorem Ef {s:Nf} {K m k1:Nat} (hK:cr s.2=K) (h0:K=0) (hm:0 < m) (hl:s.1.length=m) (hk:s.1[m - 1]? = some k1):qr s=(s.1.take (m - 1),bP (bH 1 (dH k1++[g1 5]) (ch 1)) (dT s.2)):=by
 have hne:s.1 ≠ []:=by intro e;rw [e] at hl;simp at hl;omega
 unfold qr;rw [if_pos ⟨by rw [hK];exact h0,hne⟩,List.dropLast_eq_take,hl,List.getD_eq_getElem?_getD,hk];rfl
theorem zw {s:Nf} {K m:Nat} (hK:cr s.2=K) (hl:s.1.length=m) (h:¬ (K=0/\0 < m)):qr s=(s.1++[K],dT s.2):=by
 unfold qr;rw [if_neg (fun e=>h ⟨by rw [<- hK];exact e.1,by rw [<- hl];exact List.length_pos_iff.2 e.2⟩),hK]
theorem RdI.cellM {w:World} {b off M:Nat} {s:List Nat} {k1:Nat} (h:RdI w (some ⟨b,off,none⟩) (M+1) (dp s)) (hk:s[M]? = some k1):w.cell? ⟨b,off+M,none⟩=some (.int .i64 (k1:Nat)):=by
 obtain ⟨b',off',e,_,hc⟩:=h.2.2 zO;injection e with e;injection e with e1 e2;subst e1 e2
 exact hc M _ (oI hk)
theorem Eg {M:Nat} (h:M<=1073741824):IntKind.i64.wrap (M:Int)=(M:Int):=by rw [IntKind.wrap_i64];omega
theorem Tf {wx:World} {P K:Nat} (h:Bx wx P 3 #[K]):Rd wx 1 (some ⟨P,0,none⟩) 1 (aB (dp [K])) :=
 ⟨rfl,fun _=>⟨P,0,rfl,h.lt,fun j u hu=>by rw [Nat.zero_add,h.cell j,<- hu];simp [aB,dp]⟩⟩
theorem dr {wx:World} {base g:Nat} {e t:TypeId} {sz n:Nat} {v:Value} {xs:List Value} {cs:Array Value} (h:wx.ownsRow base e sz v n xs) (hg:Bx wx g t cs) (hne:e ≠ t) (a b c:Value):(S3 wx g a b c).ownsRow base e sz v n xs :=
 aM (aM (aM h hg hne 0 a) (hg.set_ 0 a) hne 1 b) ((hg.set_ 0 a).set_ 1 b) hne 2 c
def TB (R G:Nat) (r:List Pq) (w0 wx:World):Prop:=∃ A c,Bx wx G 73 #[(1:Int),.slice A 2 c]/\wx.ownsRow R 151 4 (.slice A 2 c) 2 (af (dP 1 r))/\Below w0 w0 wx
theorem Qm (m c d:Nat) (A D:Option Addr) (s:Nf) (w:World) (hs:RdI w A m (dp s.1)) (hm:m<=1073741824) (hmc:m<=c) (ht:RdG w D 2 (dP 1 s.2)) (hd:2<=d) (h1:ef s.1) (h2:ed 1 s.2) :
  Calls Tryz.prog 179 #[.agg #[.slice A m c,(1:Int),.slice D 2 d]] w (jd (qr s) w):=by
 have HS:=zH hs;have HT:=zH ht;have HO:=zH h2;have HY:=zH h1;have HL:=zH (show s.1.length=m by rw [<- hs.1,jc]);have hz4:(Value.agg #[(0:Int),(0:Int),(0:Int),(0:Int)]).cells.size=4:=rfl;have hz1:(Value.int .i64 0).cells.size=1:=rfl;have X0:=zH (show Bx ((w.alloc (.cells #[.slice A m c,(1:Int),.slice D 2 d] 100)).alloc ZO.zN) w.heap.size 100 _ from (Bx.new w _ _).alloc _);have R0:=zH (show Bx ((w.alloc (.cells #[.slice A m c,(1:Int),.slice D 2 d] 100)).alloc ZO.zN) (w.heap.size+1) 100 _ from Bx.new' zI);have B0:=zH (show Below w w ((w.alloc (.cells #[.slice A m c,(1:Int),.slice D 2 d] 100)).alloc ZO.zN) from ((zW).alloc zR _).alloc zI _);obtain ⟨K,hK⟩:∃ K,cr s.2=K:=⟨_,rfl⟩;have hK2:K<=2:=by rw [<- hK];exact (yI h2).2.2.2
 have HK:=zH hK;obtain ⟨ra,hra⟩:∃ r,bH 1 (dk (dH K)) (ch 1)=r:=⟨_,rfl⟩;obtain ⟨dd,hdd⟩:∃ r,bP ra s.2=r:=⟨_,rfl⟩;have HRA:=zH hra;have HDD:=zH hdd;have OKA:=zH (show ed 1 ra by rw [<- hra];exact ku _ _ (gn K).2.2 gR);have OKD:=zH (show ed 1 dd by rw [<- hdd,<- hra,<- hK];exact (yI h2).2.1);obtain ⟨a1,ha1⟩:=aV (l:=dd) (k:=1) (by rw [<- hdd,tl];omega);have HA1:=zH ha1;have HDT:=zH (show dT s.2=if a1.p=2 then di 1 (g1 5) dd else dd by
  have e:bP (bH 1 (dk (dH (cr s.2))) (ch 1)) s.2=dd:=by rw [hK,hra,hdd]
  have e1:(bP (bH 1 (dk (dH (cr s.2))) (ch 1)) s.2)[1]? = some a1:=by rw [e];exact ha1
  by_cases h:a1.p=2
  ·rw [KR e1 h,if_pos h,e]
  ·rw [Ql e1 h,if_neg h,e])
 have OKT:=zH (yI h2).2.2.1;clear hs ht h1 h2 hK hra hdd ha1;go_enter Tryz.func179,Tryz.ntmps179;go_wp2_with fail;refine (Ox 2 d D s.2 _ (HT.below B0) hd HO).mono ?_;rintro e w1 ⟨rfl,b1⟩;rw [HK.out];have X1:=zH (X0.below b1);have R1:=zH (R0.below b1);have B1:=zH (aa B0 b1);clear b1 X0 R0 B0;go_wp2_with fail;refine (Cs K _ hK2).mono ?_;rintro e w2 ⟨A2,c2,rfl,o2,b2⟩;have X2:=zH (X1.below b2);have R2:=zH (R1.below b2);have B2:=zH (aa B1 b2);have O2:=zH (RdG.own o2);clear b2 o2 X1 R1 B1;go_wp2_with fail;refine (Kh (dH K).length c2 A2 (dH K) _ O2.out (by have:=(gn K).2.1;omega)).mono ?_;rintro e w3 ⟨A3,c3,rfl,o3,b3⟩;have X3:=zH (X2.below b3);have R3:=zH (R2.below b3);have B3:=zH (aa B2 b3);have O3:=zH (RdG.own o3);clear b3 o3 X2 R2 B2 O2;go_wp2_with fail
 refine (uM (dH K).length c3 A3 (dk (dH K)) _ O3.out (by have:=(gn K).2.1;omega) (gn K).2.2).mono ?_;rw [HRA.out];rintro e w4 ⟨A4,c4,rfl,o4,b4⟩;have X4:=zH ((X3.below b4).alloc (.cells #[(1:Int),.slice A4 2 c4] 73));have R4:=zH ((R3.below b4).alloc (.cells #[(1:Int),.slice A4 2 c4] 73));have B4:=zH ((aa B3 b4).alloc (aa B3 b4).size (.cells #[(1:Int),.slice A4 2 c4] 73));have O4:=zH (RdG.own (o4.alloc (.cells #[(1:Int),.slice A4 2 c4] 73)));clear b4 o4 X3 R3 B3 O3;obtain ⟨x0,x1,x2,_⟩:=X4.three;go_wp2_with fail;refine (zu c4 d A4 D ra s.2 _ O4 (HT.below B4) hd OKA HO).mono ?_;rw [HDD.out];rintro e w5 ⟨A5,c5,rfl,o5,b5⟩;have lw4:w.heap.size<=(w4.alloc (.cells #[(1:Int),.slice A4 2 c4] 73)).heap.size:=B4.size;have X5:=zH (X4.below b5);have R5:=zH (R4.below b5);have B5:=zH (aa B4 b5);have O5:=zH (ae o5 lw4)
 clear b5 o5 x0 x1 x2 X4 R4 B4 O4 lw4;go_upto_region 4 with fail
 have G6:=zH (Bx.new w5 73 #[(1:Int),.slice A5 2 c5]);have W6:=zH (show Below w5 w5 (w5.alloc (.cells #[(1:Int),.slice A5 2 c5] 73)) from (zW).alloc zR _);have O6:=zH (O5.alloc (.cells #[(1:Int),.slice A5 2 c5] 73));obtain ⟨w6,hw6⟩:∃ x,w5.alloc (.cells #[(1:Int),.slice A5 2 c5] 73)=x:=⟨_,rfl⟩;rw [hw6] at G6 W6 O6 ⊢;clear hw6;have lw5:w.heap.size<=w5.heap.size:=B5.size;have lR5:w.heap.size+1 < w5.heap.size:=R5.lt;have lw6:w5.heap.size < w6.heap.size:=G6.lt;obtain ⟨b6,f6,rfl⟩:=(cC O6.out).first zO;obtain ⟨_,v0,v1,v2,v3⟩:=(cC O6.out).cellsAt (aE HA1.out);simp only [pg,Nat.one_mul] at v0 v1 v2 v3;obtain ⟨g0,g1,g2,g3⟩:=G6.two;go_upto_if 29 with fail
 go_cut [35] from 29 to 35 (fun i wx=>TB w.heap.size w5.heap.size (dT s.2) w5 wx)
 case first =>
  by_cases hp:a1.p=2
  ·have HE:=zH (show di 1 (Go.Proofs.YtmenmibfkojnoaaGreat.g1 5) dd=dT s.2 by rw [HDT.out,if_pos hp]);have hpb:(((a1.p:Nat):Int) == 2)=true:=zJ;clear hp v0 v1 v2;go_upto_region 5 with fail
   have G6d:=G6.drew;obtain ⟨h0,h1,_⟩:=G6d.two
   go_region_with (first
    |(go_at_call 106;refine (eG _ _ _).mono ?_;rintro e w7 ⟨rfl,b70⟩;have b7:=aa (Below.refl w6 w6).drew b70;obtain ⟨q0,q1,q2,q3⟩:=(G6.below b7).two)
    |(go_at_call 111;refine (fu 1 2 c5 (some ⟨b6,f6,none⟩) dd (Go.Proofs.YtmenmibfkojnoaaGreat.g1 5) _ zO ((cC O6.out).below b7) (ao O6.out) OKD.out (eh zO).1 (eh zO).2).mono ?_;rw [HE.out];intro e w8 hret;obtain ⟨D8,d8,rfl,o8,b80⟩:=RetT1.of hret;clear hret;have b8:=aa b7 b80;obtain ⟨q0,q1,q2,q3⟩:=(G6.below b8).two)
    |fail)
   all_goals go_wp2_with fail
   all_goals go_meet
   all_goals exact ⟨D8,d8,(G6.below b8).set2 _ _,kK (ae o8 (Nat.le_trans lw5 (Nat.le_trans (Nat.le_of_lt lw6) b7.size))) (G6.below b8) zD,ay (W6.trans (b8.mono (Nat.le_of_lt lw6))) zR _ _⟩
  ·have HE:=zH (show dd=dT s.2 by rw [HDT.out,if_neg hp]);have hpb:(((a1.p:Nat):Int) == 2)=false:=zJ;clear hp v0 v1 v2;go_wp2_with fail;go_meet;exact ⟨_,c5,G6.out,HE.out ▸ O6.out,W6.out⟩
 case rest =>
  obtain ⟨A6,c6,hG,hO,hB⟩:=hcut;have G7:=zH hG;have O7:=zH hO;have B7:=zH (aa B5 hB);have X7:=zH (X5.below hB);have R7:=zH (R5.below hB);have l7:w5.heap.size < wc.heap.size:=hG.lt;clear hG hO hB G6 O6 W6 X5 R5 B5 O5 v3 v2 v1 v0 g0 g1 g2 g3;obtain ⟨w7,rfl⟩:∃ w7,w7=wc:=⟨_,rfl⟩;obtain ⟨x0,x1,x2,_⟩:=X7.three;by_cases hpop:K=0/\0 < m
  ·obtain ⟨M,rfl⟩:∃ M,m=M+1:=⟨m - 1,zO⟩;obtain ⟨k1,hk1⟩:=aV (l:=s.1) (k:=M) (by rw [HL.out];omega);have hk2:k1<=2:=(HY.out M k1 hk1).1;have HNF:=zH (Ef (m:=M+1) (k1:=k1) HK.out hpop.1 zO HL.out (by simpa using hk1));obtain ⟨rfl,_⟩:=hpop;obtain ⟨b,off,hA,_,_⟩:=HS.out.2.2 zO;subst hA;have RS:=zH (fun (w9:World) (z9:Below w7 w7 w9)=>(HS.below (B7.trans (z9.mono B7.size))).cellM hk1);have y0:=RS.out _ (zW);have y1:=(Below.refl w7 w7);have M1:(M:Int) < (M:Int)+1:=zO;have M2:IntKind.i64.wrap ((M:Int)+1 - 1)=(M:Int):=by rw [show (M:Int)+1 - 1=M by omega];exact Eg zO
   have M3:IntKind.i64.wrap (((M+1:Nat):Int) - 1)=(M:Int):=by rw [show ((M+1:Nat):Int) - 1=M by omega];exact Eg zO
   have M4:(0:Int)<=(M:Int):=zO;have M5:(M:Int)<=(c:Int):=zO;go_wp2_with fail;refine (Cs k1 _ hk2).mono ?_;rintro e w8 ⟨A8,c8,rfl,o8,b8⟩;have O8:=zH o8;have B8:=zH b8;clear o8 b8 y0 y1;have hk3:=(gn k1).2.1;go_wp2_with fail;refine (eG _ _ _).mono ?_;rintro e w9 ⟨rfl,b9⟩;have O9:=zH ((ab O8 b9).alloc (.cells #[(5:Int),(0:Int),(0:Int),(0:Int)] 39));have B9:=zH ((aa B8 b9).alloc (aa B8 b9).size (.cells #[(5:Int),(0:Int),(0:Int),(0:Int)] 39));have lw9:=B9.size;clear O8 B8 b9
   go_wp2_with (at_builtin;refine ah rfl (.tmp 52) (.tmp 54) 24 rfl Tryz.underlying24 ak hz4 zD rfl O9.out rfl (Rd.lit w9 39 #[(5:Int),(0:Int),(0:Int),(0:Int)] 1 4 rfl) zV zO zD lw9 ?_;intro A10 c10 w10 o10 gr;have B10:=zH (ag B9.out B9.size O9.out zR gr);have O10:=zH o10;clear o10 gr)
   have OKW:=zH (show ∀ g ∈ dH k1++[Go.Proofs.YtmenmibfkojnoaaGreat.g1 5],bF 1 g=true/\bh g.k=true from fun g hg=>by
    rcases List.mem_append.1 hg with h | h
    ·exact (gn k1).1 g h
    ·rw [List.mem_singleton.1 h];exact eh zO)
   obtain ⟨rw',hrw⟩:∃ r,bH 1 (dH k1++[Go.Proofs.YtmenmibfkojnoaaGreat.g1 5]) (ch 1)=r:=⟨_,rfl⟩;rw [hrw] at HNF;have OKR:=zH (show ed 1 rw' by rw [<- hrw];exact ku _ _ OKW.out gR);have HRW:=zH hrw;clear hrw;refine (uM ((dH k1).length+1) c10 A10 (dH k1++[Go.Proofs.YtmenmibfkojnoaaGreat.g1 5]) _ (RdG.own (by rw [av];exact O10.out)) zO OKW.out).mono ?_;rw [HRW.out];rintro e w11 ⟨A11,c11,rfl,o11,b11⟩;have Z11:=aa B10.out b11;have X12:=zH ((X7.below Z11).alloc (.cells #[(1:Int),.slice A11 2 c11] 73));have R12:=zH ((R7.below Z11).alloc (.cells #[(1:Int),.slice A11 2 c11] 73));have G12:=zH ((G7.below Z11).alloc (.cells #[(1:Int),.slice A11 2 c11] 73));have T12:=zH (Bx.new w11 73 #[(1:Int),.slice A11 2 c11]);have O12:=zH (cC (o11.alloc (.cells #[(1:Int),.slice A11 2 c11] 73)))
   have P12:=zH (cC ((ab O7 Z11).alloc (.cells #[(1:Int),.slice A11 2 c11] 73)));have B12:=zH ((B7.trans (Z11.mono B7.size)).alloc (Nat.le_trans B7.size Z11.size) (.cells #[(1:Int),.slice A11 2 c11] 73));have hc6:2<=c6:=ao O7.out;have ne11:w.heap.size+1 < w11.heap.size:=Nat.lt_of_lt_of_le (R7.below Z11).lt zR;have ne5:w.heap.size+1 < w5.heap.size:=lR5;clear o11 b11 Z11 X7 R7 G7 O7 B7 O10 B10 O9 B9 lw9 x0 x1 x2;go_upto_region 9 with fail
   obtain ⟨wz,hwz⟩:∃ x,w11.alloc (.cells #[(1:Int),.slice A11 2 c11] 73)=x:=⟨_,rfl⟩;rw [hwz] at X12 R12 G12 T12 O12 P12 B12 ⊢;clear hwz;have hR1:w.heap.size+1 < wz.heap.size:=R12.lt;have hbw:w.heap.size<=wz.heap.size:=B12.size;have n1:w.heap.size ≠ w.heap.size+1:=zO;have n2:w11.heap.size ≠ w.heap.size+1:=by have:=ne11;omega
   have n3:w5.heap.size ≠ w.heap.size+1:=by have:=ne5;omega
   have TK:=fun (w9:World) (z9:Below wz wz w9)=>(⟨(X12.below z9).cell 0,⟨(T12.below z9).cell 0,(T12.below z9).cell 1⟩,⟨(G12.below z9).cell 0,(G12.below z9).cell 1⟩⟩:w9.cell? ⟨w,0,none⟩=some (.slice (some ⟨b,off,none⟩) (M+1) c)/\(w9.cell? ⟨w11,0,none⟩=some (.int .i64 1)/\w9.cell? ⟨w11,1,none⟩=some (.slice A11 2 c11))/\(w9.cell? ⟨w5,0,none⟩=some (.int .i64 1)/\w9.cell? ⟨w5,1,none⟩=some (.slice A6 2 c6)))
   have TF:=fun (w9:World) (z9:Below wz wz w9) (u0 u1 u2:Value)=>(⟨((X12.below z9).far3 n1 u0 u1 u2).cell 0,⟨((T12.below z9).far3 n2 u0 u1 u2).cell 0,((T12.below z9).far3 n2 u0 u1 u2).cell 1⟩,⟨((G12.below z9).far3 n3 u0 u1 u2).cell 0,((G12.below z9).far3 n3 u0 u1 u2).cell 1⟩⟩:(S3 w9 (w.heap.size+1) u0 u1 u2).cell? ⟨w,0,none⟩=some (.slice (some ⟨b,off,none⟩) (M+1) c)/\((S3 w9 (w.heap.size+1) u0 u1 u2).cell? ⟨w11,0,none⟩=some (.int .i64 1)/\(S3 w9 (w.heap.size+1) u0 u1 u2).cell? ⟨w11,1,none⟩=some (.slice A11 2 c11))/\((S3 w9 (w.heap.size+1) u0 u1 u2).cell? ⟨w5,0,none⟩=some (.int .i64 1)/\(S3 w9 (w.heap.size+1) u0 u1 u2).cell? ⟨w5,1,none⟩=some (.slice A6 2 c6)))
   have RT:=zH (show Rd wz 1 (some ⟨b,off,none⟩) M (aB (dp (s.1.take M))) by
    have h:=(HS.below B12.out).pre (k:=M) zO;have e:(dp s.1).take M=dp (s.1.take M):=by unfold dp;rw [List.map_take]
    rw [e] at h;exact h.2)
   have HTL:=zH (show (s.1.take M).length=M by rw [List.length_take,HL.out];omega)
   go_region_held3 (fun w'=>w'.cell? ⟨w,0,none⟩=some (.slice (some ⟨b,off,none⟩) (M+1) c)/\(w'.cell? ⟨w11,0,none⟩=some (.int .i64 1)/\w'.cell? ⟨w11,1,none⟩=some (.slice A11 2 c11))/\(w'.cell? ⟨w5,0,none⟩=some (.int .i64 1)/\w'.cell? ⟨w5,1,none⟩=some (.slice A6 2 c6)))
    (first
     |with_reducible exact TK _ (zW).drew
     |with_reducible exact TK _ (eH (zW))
     |with_reducible exact TK _ (ce (zW))
     |with_reducible exact TK _ z3
     |with_reducible exact TK _ z5
     |with_reducible exact TK _ (ce z5)
     |with_reducible exact TK _ (eH z5)
     |with_reducible exact TK _ (ce z3)
     |with_reducible exact TF _ z3 _ _ _
     |with_reducible exact TF _ z5 _ _ _)
    (first
     |(refine eT zF (.tmp 59) (.tmp 63) 58 zF Tryz.underlying58 gY hz1 (base:=wz.heap.size) (news:=aB (dp (s.1.take M))) rfl ?_ ?_ rfl ?_ zO zD ?_;(first | with_reducible exact kA zI | with_reducible exact Bx.new' zI | with_reducible exact mH (Bx.new' zI) | with_reducible exact Bx.below (kA zI) b5 | with_reducible exact Bx.below (Bx.new' zI) b5);(first | exact zR | exact Nat.le_succ _ | exact z5.size);(first | with_reducible exact RT.out.below z5 | with_reducible exact RT.out.below (ce z5) | with_reducible exact Rd.drew (RT.out.alloc _) | with_reducible exact RT.out.alloc _);intro A3 c3 w3 o3 b3;have z3:Below wz wz w3:=(by first | with_reducible exact aa (eH (Below.refl _ wz)) b3 | with_reducible exact aa (ce (Below.refl _ wz)) b3 | with_reducible exact aa (ce z5) b3 | with_reducible exact aa z5 b3);(first | (with_reducible have p5:=ab o5 b3) | (with_reducible have p5:=ab (World.ownsRow.alloc o5 _) b3) | skip);have ⟨q0,q1,q2,f0,f1,f2⟩:=(R12.out.below z3).three)
     |(go_at_call 209;refine (zu c11 c6 A11 A6 rw' (dT s.2) _ (by first | with_reducible exact O12.out.below z3 | with_reducible exact O12.out.drew | with_reducible exact (O12.out.alloc _).drew | with_reducible exact O12.out.alloc _) (by first | with_reducible exact P12.out.below z3 | with_reducible exact P12.out.drew | with_reducible exact (P12.out.alloc _).drew | with_reducible exact P12.out.alloc _) hc6 OKR.out OKT.out).mono ?_;intro e w5' hret;obtain ⟨D5,d5,rfl,o5,b5⟩:=(show RetT2 (bP rw' (dT s.2)) _ e w5' from hret);clear hret;have z5:Below wz wz w5':=(by first | with_reducible exact aa z3 b5 | with_reducible exact aa (Below.refl _ wz).drew b5 | with_reducible exact aa (eH (Below.refl _ wz)) b5 | with_reducible exact aa (ce (Below.refl _ wz)) b5);(first | (with_reducible have p3:=ab o3 b5) | skip);have ⟨q0,q1,q2,f0,f1,f2⟩:=(R12.out.below z5).three)
     |fail)
   all_goals
    go_wp2_with fail;refine bodyPost_ret (v:=.agg #[.slice A3 M c3,(1:Int),.slice D5 2 d5]) (by simp [results,Tryz.results179,go_sem,q0,q1,q2]) rfl ?_;rw [HNF.out];refine ⟨A3,c3,D5,d5,by simp [HTL.out],?_,?_,?_⟩
    ·simp only [Nat.add_sub_cancel,HTL.out]
     first
      |exact ae (fG p3 hR1) hbw
      |exact ae (fG o3 hR1) hbw
    ·first
      |exact ae (fG p5 hR1) hbw
      |exact ae (fG o5 hR1) hbw
      |exact ae (fG o5 (Nat.lt_of_lt_of_le hR1 z3.size)) (Nat.le_trans hbw z3.size)
      |exact ae (fG p5 zJ) zJ
      |exact ae (fG o5 zJ) zJ
    ·first
      |exact dR (B12.trans (z5.mono hbw)) zO _ _ _
      |exact dR (B12.trans (z3.mono hbw)) zO _ _ _
  ·have HNF:=zH (zw HK HL hpop);have hlast:decide (0<=IntKind.i64.wrap ((m:Int) - 1))=decide (0 < m):=by
    rw [IntKind.wrap_i64];by_cases h0:0 < m
    ·rw [decide_eq_true h0,decide_eq_true];omega
    ·rw [decide_eq_false h0,decide_eq_false];omega
   have KK:(decide (0 < m)=false)\/(((K:Nat):Int) == 0)=false:=by
    by_cases h0:0 < m
    ·right;simp;omega
    ·left;simpa using h0
   have O8:=O7;have hc6:2<=c6:=ao O7.out;go_upto_region 7 with fail
   go_cut [45] from 40 to 45 (fun v wx=>v=.bool false/\wx=w7)
   case first =>
    by_cases h0:K=0
    ·have hm0:m=0:=zO;subst h0 hm0;go_wp2_with fail;go_meet;exact ⟨rfl,rfl⟩
    ·have hK0:(((K:Nat):Int) == 0)=false:=zJ;go_wp2_with fail;go_meet;exact ⟨rfl,rfl⟩
   case rest =>
    obtain ⟨rfl,rfl⟩:=hcut;go_upto_region 10 with fail
    obtain ⟨wz,rfl⟩:∃ x,x=wc:=⟨_,rfl⟩;have hR1:w.heap.size+1 < wz.heap.size:=R7.lt;have hbw:w.heap.size<=wz.heap.size:=B7.size;have n1:w.heap.size ≠ w.heap.size+1:=zO;have n3:w5.heap.size ≠ w.heap.size+1:=zO;have TK:=fun (w9:World) (z9:Below wz wz w9)=>(⟨(X7.below z9).cell 0,(G7.below z9).cell 0,(G7.below z9).cell 1⟩:w9.cell? ⟨w,0,none⟩=some (.slice A m c)/\w9.cell? ⟨w5,0,none⟩=some (.int .i64 1)/\w9.cell? ⟨w5,1,none⟩=some (.slice A6 2 c6))
    have TF:=fun (w9:World) (z9:Below wz wz w9) (u0 u1 u2:Value)=>(⟨((X7.below z9).far3 n1 u0 u1 u2).cell 0,((G7.below z9).far3 n3 u0 u1 u2).cell 0,((G7.below z9).far3 n3 u0 u1 u2).cell 1⟩:(S3 w9 (w.heap.size+1) u0 u1 u2).cell? ⟨w,0,none⟩=some (.slice A m c)/\(S3 w9 (w.heap.size+1) u0 u1 u2).cell? ⟨w5,0,none⟩=some (.int .i64 1)/\(S3 w9 (w.heap.size+1) u0 u1 u2).cell? ⟨w5,1,none⟩=some (.slice A6 2 c6))
    have RT:=zH (HS.below B7.out).2
    go_region_held3 (fun w'=>w'.cell? ⟨w,0,none⟩=some (.slice A m c)/\w'.cell? ⟨w5,0,none⟩=some (.int .i64 1)/\w'.cell? ⟨w5,1,none⟩=some (.slice A6 2 c6))
     (first
      |with_reducible exact TK _ (zW).drew
      |with_reducible exact TK _ (eH (zW))
      |with_reducible exact TK _ (ce (zW))
      |with_reducible exact TK _ (ce (ce (zW)))
      |with_reducible exact TK _ (eH (ce (zW)))
      |with_reducible exact TK _ z3
      |with_reducible exact TK _ (ce z3)
      |with_reducible exact TK _ (eH z3)
      |with_reducible exact TK _ z4
      |with_reducible exact TF _ z4 _ _ _)
     (first
      |(refine eT zF (.tmp 69) (.tmp 71) 58 zF Tryz.underlying58 gY hz1 (base:=wz.heap.size) (news:=aB (dp s.1)) rfl ?_ ?_ rfl ?_ zO zD ?_;(first | with_reducible exact kA zI | with_reducible exact Bx.new' zI | with_reducible exact mH (Bx.new' zI) | with_reducible exact (Bx.new' zI).alloc _);(first | exact zR | exact Nat.le_succ _);(first | with_reducible exact Rd.drew (RT.out.alloc _) | with_reducible exact RT.out.alloc _ | with_reducible exact (RT.out.alloc _).alloc _ | with_reducible exact Rd.drew ((RT.out.alloc _).alloc _));intro A3 c3 w3 o3 b3;have z3:Below wz wz w3:=(by first | with_reducible exact aa (eH (Below.refl _ wz)) b3 | with_reducible exact aa (ce (Below.refl _ wz)) b3 | with_reducible exact aa (ce (ce (Below.refl _ wz))) b3 | with_reducible exact aa (eH (ce (Below.refl _ wz))) b3);have p3:w3.ownsRow wz 3 1 (.slice A3 m c3) m (aB (dp s.1)):=o3)
      |(refine bv zF (.tmp 72) (.tmp 74) 58 zF Tryz.underlying58 gY hz1 zD (base:=wz.heap.size) (xs:=aB (dp s.1)) (news:=aB (dp [K])) rfl ?_ rfl ?_ re zO zD ?_ ?_;(first | with_reducible exact p3 | with_reducible exact p3.alloc _ | with_reducible exact aq (p3.alloc _));(first | exact Tf (Bx.below (kA zI) b3) | exact Tf (Bx.below (Bx.new' zI) b3) | exact Tf (Bx.below ((Bx.new' zI).alloc _) b3) | exact Tf (Bx.below (mH (Bx.new' zI)) b3) | exact Tf (Bx.new' zI) | exact Tf (kA zI));(first | exact z3.size | exact Nat.le_trans z3.size zI);intro A4 c4 w4 o4 gr;have z4:Below wz wz w4:=(by first | with_reducible exact ag z3 z3.size p3 zR gr | with_reducible exact ag (ce z3) (Nat.le_trans z3.size zI) (p3.alloc _) zR gr | with_reducible exact ag (eH z3) (Nat.le_trans z3.size zI) (aq (p3.alloc _)) zR gr);have ⟨q0,q1,q2,f0,f1,f2⟩:=(R7.out.below z4).three)
      |fail)
    all_goals
     go_wp2_with fail;refine bodyPost_ret (v:=.agg #[.slice A4 (m+1) c4,(1:Int),.slice A6 2 c6]) (by simp [results,Tryz.results179,go_sem,q0,q1,q2]) rfl ?_;rw [HNF.out];refine ⟨A4,c4,A6,c6,by simp [HL.out],?_,?_,?_⟩
     ·have e:aB (dp (s.1++[K]))=aB (dp s.1)++aB (dp [K]):=by unfold dp aB;simp
      simp only [List.length_append,List.length_cons,List.length_nil,HL.out,e];exact ae (fG o4 hR1) hbw
     ·exact dr (ab O7.out z4) (R7.below z4) zD _ _ _
     ·exact dR (B7.trans (z4.mono hbw)) zO _ _ _
theorem zx (n c:Nat) (A:Option Addr) (ws:List (List Gt)) (vs:List Value) (w:World) (hl:ws.length=n) (hr:Rd w 1 A n vs) (hi:∀ (k:Nat) (x:List Gt),ws[k]? = some x->∃ D d,vs[k]? = some (.slice D x.length d)/\RdG w D x.length x)
  (h60:ws.flatten.length<=60) (hok:∀ g ∈ ws.flatten,bF 1 g=true/\bh g.k=true) (hn:n<=1000):Calls Tryz.prog 201 #[.slice A n c] w (RetT2 (bH 1 ws.flatten (ch 1)) w):=by
 have hz4:(Value.agg #[(0:Int),(0:Int),(0:Int),(0:Int)]).cells.size=4:=rfl;have HR:=zH hr;have HI:=zH hi;have HL:=zH hl;have HK:=zH hok;have H6:=zH h60;have HSUM:=zH (show ∀ k,k < n->((ws.take k).flatten).length+(ws.getD k []).length<=60/\(ws.take (k+1)).flatten=(ws.take k).flatten++ws.getD k [] from fun k hk=>by
  have e:ws.take (k+1)=ws.take k++[ws.getD k []]:=by
   rw [List.take_succ_eq_append_getElem zO,List.getD_eq_getElem?_getD,List.getElem?_eq_getElem zO];rfl
  have e2:(ws.take (k+1)).flatten=(ws.take k).flatten++ws.getD k []:=by rw [e];simp
  refine ⟨?_,e2⟩;have h3:ws.flatten.length=(ws.take (k+1)).flatten.length+(ws.drop (k+1)).flatten.length:=by
   rw [<- List.length_append,<- List.flatten_append,List.take_append_drop]
  rw [e2,List.length_append] at h3;omega)
 have R0:=zH (show Bx ((w.alloc ZO.zT).alloc (.cells #[] 39)) w 73 #[(0:Int),.slice none 0 0] from (Bx.new w _ _).alloc _);have B0:=zH (show Below w w ((w.alloc ZO.zT).alloc (.cells #[] 39)) from ((zW).alloc zR _).alloc zI _);have O0:=zH (show ((w.alloc ZO.zT).alloc (.cells #[] 39)).ownsRow w 39 4 (.slice (some ⟨w.heap.size+1,0,none⟩) ([]:List Gt).length 0) ([]:List Gt).length (af []) by
  have:=World.ownsRow_lit (base:=w.heap.size) (e:=39) (size:=4) (w.alloc ZO.zT) #[] 0 zI zM rfl;rw [World.size_alloc] at this;exact this)
 clear hr hi hl hok h60;go_enter Tryz.func201,Tryz.ntmps201;go_wp2_with fail;go_loopg [3,11] n (fun g v3 i wr=>∃ (k:Nat) (A3:Option Addr) (c3:Nat) (L:List Gt),k+g=n/\i=.int .i64 (k:Nat)/\v3=.slice A3 L.length c3/\(ws.take k).flatten=L/\wr.ownsRow w 39 4 (.slice A3 L.length c3) L.length (af L)/\Bx wr w 73 #[(0:Int),.slice none 0 0]/\Below w w wr)
 case atStart=>exact ⟨0,_,0,[],zO,rfl,rfl,rfl,O0.out,R0.out,B0.out⟩
 case round =>
  clear O0 R0 B0;obtain ⟨k,A3,c3,L,hk,rfl,rfl,hLL,hO,hX,hB⟩:=hrel;have HLL:=zH hLL;have OW:=zH hO;have RX:=zH hX;have BW:=zH hB;clear hO hX hB hLL;by_cases hlt:k < n
  ·obtain ⟨x,hx⟩:=aV (l:=ws) (k:=k) (by rw [HL.out];exact hlt);obtain ⟨D,d,hv,hd⟩:=HI.out k x hx;have HX:=zH (hd.below BW);obtain ⟨h61,hsn⟩:=HSUM.out k hlt;have hgx:ws.getD k []=x:=by rw [List.getD_eq_getElem?_getD,hx];rfl
   rw [hgx,HLL.out] at h61 hsn;have HSN:=zH hsn;obtain ⟨b,off,rfl,hbl,hc⟩:=(HR.below BW.out).2 zO;have y0:=hc k _ hv;have kn:(k:Int) < (n:Int):=zO;have lw:=BW.size;clear hx hv hd hsn hgx hc
   go_wp2_with (at_builtin;refine ah rfl (.tmp 15) (.tmp 16) 24 rfl Tryz.underlying24 ak hz4 zD rfl OW.out rfl HX.out.2 aQ zO zD lw ?_;intro A5 c5 w5 o5 g5;have B5:=zH (ag BW.out lw OW.out zR g5);have R5:=zH (az OW.out g5 RX.out zD);have O5:=zH o5;clear o5 g5)
   go_roundg (gk - 1)
   case measure=>omega
   case rel =>
    refine ⟨k+1,A5,c5,L++x,zO,by go_num,by rw [List.length_append],HSN.out,?_,R5.out,B5.out⟩;rw [List.length_append,av];exact O5.out
  ·obtain rfl:k=n:=zO;have HF:=zH (show ws.flatten=L by rw [<- HLL.out,List.take_of_length_le (by rw [HL.out];exact zR)]);rw [HF.out] at H6 HK;go_wp2_with fail;refine (uN L.length c3 A3 L _ (RdG.own OW) H6 HK).mono ?_;rintro e w4 ⟨A4,c4,rfl,o4,b4⟩;have R4:=zH ((RX.below b4).alloc (.cells #[(1:Int),.slice A4 2 c4] 73));have B4:=zH ((BW.trans (b4.mono BW.size)).alloc (Nat.le_trans BW.size b4.size) (.cells #[(1:Int),.slice A4 2 c4] 73));have O4:=zH ((ae o4 BW.size).alloc (.cells #[(1:Int),.slice A4 2 c4] 73));clear o4 b4 RX BW OW;obtain ⟨r0,r1,r2,r3⟩:=R4.two;go_wp2_with fail;have RB:=R4.out
   with_reducible refine eD (v:=.agg #[(1:Int),.slice A4 2 c4]) RB ?_ ?_ ⟨A4,c4,rfl,?_,?_⟩
   ·intro wS z0 z1;simp [results,Tryz.results201,go_sem,z0,z1]
   ·rfl
   ·rw [HF.out];exact kK O4.out RB zD
   ·exact ay B4.out zR _ _
end Go.Proofs.YtmenmibfkojnoaaGreat
