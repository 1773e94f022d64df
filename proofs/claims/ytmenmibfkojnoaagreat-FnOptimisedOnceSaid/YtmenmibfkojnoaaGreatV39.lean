/- Contract of l30T (spec), for valid normal forms. -/
import Derived.Test.YtmenmibfkojnoaaGreatV38
set_option maxHeartbeats 16000000
namespace Go.Proofs.YtmenmibfkojnoaaGreat
open Go.RowKit
set_option linter.unusedVariables false
theorem dT_yes {t:List Pq} {a:Pq} (h:(behind (runT 1 (invL (rep (coset t))) (idT 1)) t)[1]? = some a) (hp:a.p=2):dT t=appT 1 (g1 5) (behind (runT 1 (invL (rep (coset t))) (idT 1)) t):=by
 unfold dT
 simp only
 rw [List.getD_eq_getElem?_getD,h]
 exact if_pos hp
theorem dT_no {t:List Pq} {a:Pq} (h:(behind (runT 1 (invL (rep (coset t))) (idT 1)) t)[1]? = some a) (hp:a.p ≠ 2):dT t=behind (runT 1 (invL (rep (coset t))) (idT 1)) t:=by
 unfold dT
 simp only
 rw [List.getD_eq_getElem?_getD,h]
 exact if_neg hp
theorem rep_ok (k:Nat):(∀ g ∈ rep k,okN 1 g=true/\cliff g.k=true)/\(rep k).length<=2/\∀ g ∈ invL (rep k),okN 1 g=true/\cliff g.k=true:=by
 unfold rep
 split
 ·exact ⟨by decide,by decide,by decide⟩
 ·split
  ·exact ⟨by decide,by decide,by decide⟩
  ·exact ⟨by decide,by decide,by decide⟩
theorem s_Rep' (k:Nat) (w:World) (hk:k<=2) :
  Calls Tryz.prog 146 #[.int .i64 (k:Nat)] w fun e w'=>∃ A c,e=.returned (.slice A (rep k).length c)/\w'.ownsRow w.heap.size 39 4 (.slice A (rep k).length c) (rep k).length (cellsG (rep k))/\Below w.heap.size w w':=by
 have h:=s_Rep ((k:Nat):Int) w (by omega)
 simp only [Int.toNat_natCast] at h
 exact h
theorem i_Rep' (k:Nat) (w:World) (hk:k<=2) :
  Calls Tryz.prog 132 #[.int .i64 (k:Nat)] w fun e w'=>∃ A c,e=.returned (.slice A (rep k).length c)/\w'.ownsRow w.heap.size 39 4 (.slice A (rep k).length c) (rep k).length (cellsG (rep k))/\Below w.heap.size w w':=by
 have h:=i_Rep ((k:Nat):Int) w (by omega)
 simp only [Int.toNat_natCast] at h
 exact h
theorem sylI_at {s:List Nat} {i k:Nat} (h:s[i]? = some k):(cellsI (sylI s))[i]? = some (.int .i64 (k:Nat)):=by
 unfold cellsI sylI
 rw [List.map_map,List.getElem?_map,h]
 rfl
theorem nfT_pop {s:Nf} {K m k1:Nat} (hK:coset s.2=K) (h0:K=0) (hm:0 < m) (hl:s.1.length=m) (hk:s.1[m - 1]? = some k1):nfT s=(s.1.take (m - 1),behind (runT 1 (rep k1++[g1 5]) (idT 1)) (dT s.2)):=by
 have hne:s.1 ≠ []:=by intro e;rw [e] at hl;simp at hl;omega
 unfold nfT
 rw [if_pos ⟨by rw [hK];exact h0,hne⟩,List.dropLast_eq_take,hl,List.getD_eq_getElem?_getD,hk]
 rfl
theorem nfT_push {s:Nf} {K m:Nat} (hK:coset s.2=K) (hl:s.1.length=m) (h:¬ (K=0/\0 < m)):nfT s=(s.1++[K],dT s.2):=by
 unfold nfT
 rw [if_neg (fun e=>h ⟨by rw [<- hK];exact e.1,by rw [<- hl];exact List.length_pos_iff.2 e.2⟩),hK]
theorem RdI.cellM {w:World} {b off M:Nat} {s:List Nat} {k1:Nat} (h:RdI w (some ⟨b,off,none⟩) (M+1) (sylI s)) (hk:s[M]? = some k1):w.cell? ⟨b,off+M,none⟩=some (.int .i64 (k1:Nat)):=by
 obtain ⟨b',off',e,_,hc⟩:=h.2.2 (by omega)
 injection e with e
 injection e with e1 e2
 subst e1 e2
 exact hc M _ (sylI_at hk)
theorem wrapM {M:Nat} (h:M<=1073741824):IntKind.i64.wrap (M:Int)=(M:Int):=by rw [IntKind.wrap_i64];omega
theorem rdK {wx:World} {P K:Nat} (h:Bx wx P 3 #[.int .i64 (K:Nat)]):Rd wx 1 (some ⟨P,0,none⟩) 1 (cellsI (sylI [K])) :=
 ⟨rfl,fun _=>⟨P,0,rfl,h.lt,fun j u hu=>by rw [Nat.zero_add,h.cell j,<- hu];simp [cellsI,sylI]⟩⟩
theorem own_S3x {wx:World} {base g:Nat} {e t:TypeId} {sz n:Nat} {v:Value} {xs:List Value} {cs:Array Value} (h:wx.ownsRow base e sz v n xs) (hg:Bx wx g t cs) (hne:e ≠ t) (a b c:Value):(S3 wx g a b c).ownsRow base e sz v n xs :=
 own_farT (own_farT (own_farT h hg hne 0 a) (hg.set_ 0 a) hne 1 b) ((hg.set_ 0 a).set_ 1 b) hne 2 c
def TB (R G:Nat) (r:List Pq) (w0 wx:World):Prop:=∃ A c,Bx wx G 73 #[.int .i64 1,.slice A 2 c]/\wx.ownsRow R 151 4 (.slice A 2 c) 2 (cellsG (pgs 1 r))/\Below w0.heap.size w0 wx
set_option maxRecDepth 100000 in
theorem s_30T (m c d:Nat) (A D:Option Addr) (s:Nf) (w:World) (hs:RdI w A m (sylI s.1)) (hm:m<=1073741824) (hmc:m<=c) (ht:RdG w D 2 (pgs 1 s.2)) (hd:2<=d) (h1:okSyl s.1) (h2:okT 1 s.2) :
  Calls Tryz.prog 179 #[.agg #[.slice A m c,.int .i64 1,.slice D 2 d]] w (RetNf (nfT s) w):=by
 have HS:=zH hs
 have HT:=zH ht
 have HO:=zH h2
 have HY:=zH h1
 have HL:=zH (show s.1.length=m by rw [<- hs.1,sylI_len])
 have hz4:(Value.agg #[.int .i64 0,.int .i64 0,.int .i64 0,.int .i64 0]).cells.size=4:=rfl
 have hz1:(Value.int .i64 0).cells.size=1:=rfl
 have X0:=zH (show Bx ((w.alloc (.cells #[.slice A m c,.int .i64 1,.slice D 2 d] 100)).alloc (.cells #[.slice none 0 0,.int .i64 0,.slice none 0 0] 100)) w.heap.size 100 _ from (Bx.new w _ _).alloc _)
 have R0:=zH (show Bx ((w.alloc (.cells #[.slice A m c,.int .i64 1,.slice D 2 d] 100)).alloc (.cells #[.slice none 0 0,.int .i64 0,.slice none 0 0] 100)) (w.heap.size+1) 100 _ from Bx.new' (by simp))
 have B0:=zH (show Below w.heap.size w ((w.alloc (.cells #[.slice A m c,.int .i64 1,.slice D 2 d] 100)).alloc (.cells #[.slice none 0 0,.int .i64 0,.slice none 0 0] 100)) from ((zW).alloc zR _).alloc (by simp) _)
 obtain ⟨K,hK⟩:∃ K,coset s.2=K:=⟨_,rfl⟩
 have hK2:K<=2:=by rw [<- hK];exact (nf_d h2).2.2.2
 have HK:=zH hK
 obtain ⟨ra,hra⟩:∃ r,runT 1 (invL (rep K)) (idT 1)=r:=⟨_,rfl⟩
 obtain ⟨dd,hdd⟩:∃ r,behind ra s.2=r:=⟨_,rfl⟩
 have HRA:=zH hra
 have HDD:=zH hdd
 have OKA:=zH (show okT 1 ra by rw [<- hra];exact runT_ok _ _ (rep_ok K).2.2 idT1_ok)
 have OKD:=zH (show okT 1 dd by rw [<- hdd,<- hra,<- hK];exact (nf_d h2).2.1)
 obtain ⟨a1,ha1⟩:=get_lt (l:=dd) (k:=1) (by rw [<- hdd,behind_len];omega)
 have HA1:=zH ha1
 have HDT:=zH (show dT s.2=if a1.p=2 then appT 1 (g1 5) dd else dd by
  have e:behind (runT 1 (invL (rep (coset s.2))) (idT 1)) s.2=dd:=by rw [hK,hra,hdd]
  have e1:(behind (runT 1 (invL (rep (coset s.2))) (idT 1)) s.2)[1]? = some a1:=by rw [e];exact ha1
  by_cases h:a1.p=2
  ·rw [dT_yes e1 h,if_pos h,e]
  ·rw [dT_no e1 h,if_neg h,e])
 have OKT:=zH (nf_d h2).2.2.1
 clear hs ht h1 h2 hK hra hdd ha1
 go_enter Tryz.func179,Tryz.ntmps179
 go_wp2_with fail
 refine (s_Coset 2 d D s.2 _ (HT.out.below B0.out) hd HO.out).mono ?_
 rintro e w1 ⟨rfl,b1⟩
 rw [HK.out]
 have X1:=zH (X0.out.below b1)
 have R1:=zH (R0.out.below b1)
 have B1:=zH (below_trans B0.out b1)
 clear b1 X0 R0 B0
 go_wp2_with fail
 refine (s_Rep' K _ hK2).mono ?_
 rintro e w2 ⟨A2,c2,rfl,o2,b2⟩
 have X2:=zH (X1.out.below b2)
 have R2:=zH (R1.out.below b2)
 have B2:=zH (below_trans B1.out b2)
 have O2:=zH (RdG.own o2)
 clear b2 o2 X1 R1 B1
 go_wp2_with fail
 refine (s_Inv (rep K).length c2 A2 (rep K) _ O2.out (by have:=(rep_ok K).2.1;omega)).mono ?_
 rintro e w3 ⟨A3,c3,rfl,o3,b3⟩
 have X3:=zH (X2.out.below b3)
 have R3:=zH (R2.out.below b3)
 have B3:=zH (below_trans B2.out b3)
 have O3:=zH (RdG.own o3)
 clear b3 o3 X2 R2 B2 O2
 go_wp2_with fail
 refine (s_WordTab (rep K).length c3 A3 (invL (rep K)) _ O3.out (by have:=(rep_ok K).2.1;omega) (rep_ok K).2.2).mono ?_
 rw [HRA.out]
 rintro e w4 ⟨A4,c4,rfl,o4,b4⟩
 have X4:=zH ((X3.out.below b4).alloc (.cells #[.int .i64 1,.slice A4 2 c4] 73))
 have R4:=zH ((R3.out.below b4).alloc (.cells #[.int .i64 1,.slice A4 2 c4] 73))
 have B4:=zH ((below_trans B3.out b4).alloc (below_trans B3.out b4).size (.cells #[.int .i64 1,.slice A4 2 c4] 73))
 have O4:=zH (RdG.own (o4.alloc (.cells #[.int .i64 1,.slice A4 2 c4] 73)))
 clear b4 o4 X3 R3 B3 O3
 obtain ⟨x0,x1,x2,_⟩:=X4.out.three
 go_wp2_with fail
 refine (s_Behind c4 d A4 D ra s.2 _ O4.out (HT.out.below B4.out) hd OKA.out HO.out).mono ?_
 rw [HDD.out]
 rintro e w5 ⟨A5,c5,rfl,o5,b5⟩
 have lw4:w.heap.size<=(w4.alloc (.cells #[.int .i64 1,.slice A4 2 c4] 73)).heap.size:=B4.out.size
 have X5:=zH (X4.out.below b5)
 have R5:=zH (R4.out.below b5)
 have B5:=zH (below_trans B4.out b5)
 have O5:=zH (ownsRow_base o5 lw4)
 clear b5 o5 x0 x1 x2 X4 R4 B4 O4 lw4
 go_upto_region 4 with fail
 have G6:=zH (Bx.new w5 73 #[.int .i64 1,.slice A5 2 c5])
 have W6:=zH (show Below w5.heap.size w5 (w5.alloc (.cells #[.int .i64 1,.slice A5 2 c5] 73)) from (zW).alloc zR _)
 have O6:=zH (O5.out.alloc (.cells #[.int .i64 1,.slice A5 2 c5] 73))
 obtain ⟨w6,hw6⟩:∃ x,w5.alloc (.cells #[.int .i64 1,.slice A5 2 c5] 73)=x:=⟨_,rfl⟩
 rw [hw6] at G6 W6 O6 ⊢
 clear hw6
 have lw5:w.heap.size<=w5.heap.size:=B5.out.size
 have lR5:w.heap.size+1 < w5.heap.size:=R5.out.lt
 have lw6:w5.heap.size < w6.heap.size:=G6.out.lt
 obtain ⟨b6,f6,rfl⟩:=(two_cells O6.out).first (by omega)
 obtain ⟨_,v0,v1,v2,v3⟩:=(two_cells O6.out).cellsAt (pgs_drop HA1.out)
 simp only [pg,Nat.one_mul] at v0 v1 v2 v3
 obtain ⟨g0,g1,g2,g3⟩:=G6.out.two
 go_upto_if 29 with fail
 go_cut [35] from 29 to 35 (fun i wx=>TB w.heap.size w5.heap.size (dT s.2) w5 wx)
 case first =>
  by_cases hp:a1.p=2
  ·have HE:=zH (show appT 1 (Go.Proofs.YtmenmibfkojnoaaGreat.g1 5) dd=dT s.2 by rw [HDT.out,if_pos hp])
   have hpb:(((a1.p:Nat):Int) == 2)=true:=by simp;omega
   clear hp v0 v1 v2
   go_upto_region 5 with fail
   have G6d:=G6.out.drew
   obtain ⟨h0,h1,_⟩:=G6d.two
   go_region_with (first
    |(go_at_call 106;refine (s_one _ _ _).mono ?_;rintro e w7 ⟨rfl,b70⟩;have b7:=below_trans (Below.refl w6.heap.size w6).drew b70;obtain ⟨q0,q1,q2,q3⟩:=(G6.out.below b7).two)
    |(go_at_call 111;refine (s_TabApp 1 2 c5 (some ⟨b6,f6,none⟩) dd (Go.Proofs.YtmenmibfkojnoaaGreat.g1 5) _ (by omega) ((two_cells O6.out).below b7) (ownsRow_cap O6.out) OKD.out (g1_ok (by omega)).1 (g1_ok (by omega)).2).mono ?_;rw [HE.out];intro e w8 hret;obtain ⟨D8,d8,rfl,o8,b80⟩:=RetT1.of hret;clear hret;have b8:=below_trans b7 b80;obtain ⟨q0,q1,q2,q3⟩:=(G6.out.below b8).two)
    |fail)
   all_goals go_wp2_with fail
   all_goals go_meet
   all_goals exact ⟨D8,d8,(G6.out.below b8).set2 _ _,own_S2x (ownsRow_base o8 (Nat.le_trans lw5 (Nat.le_trans (Nat.le_of_lt lw6) b7.size))) (G6.out.below b8) (by decide),belowS2 (W6.out.trans (b8.mono (Nat.le_of_lt lw6))) zR _ _⟩
  ·have HE:=zH (show dd=dT s.2 by rw [HDT.out,if_neg hp])
   have hpb:(((a1.p:Nat):Int) == 2)=false:=by simp;omega
   clear hp v0 v1 v2
   go_wp2_with fail
   go_meet
   exact ⟨_,c5,G6.out,HE.out ▸ O6.out,W6.out⟩
 case rest =>
  obtain ⟨A6,c6,hG,hO,hB⟩:=hcut
  have G7:=zH hG
  have O7:=zH hO
  have B7:=zH (below_trans B5.out hB)
  have X7:=zH (X5.out.below hB)
  have R7:=zH (R5.out.below hB)
  have l7:w5.heap.size < wc.heap.size:=hG.lt
  clear hG hO hB G6 O6 W6 X5 R5 B5 O5 v3 v2 v1 v0 g0 g1 g2 g3
  obtain ⟨w7,rfl⟩:∃ w7,w7=wc:=⟨_,rfl⟩
  obtain ⟨x0,x1,x2,_⟩:=X7.out.three
  by_cases hpop:K=0/\0 < m
  ·obtain ⟨M,rfl⟩:∃ M,m=M+1:=⟨m - 1,by omega⟩
   obtain ⟨k1,hk1⟩:=get_lt (l:=s.1) (k:=M) (by rw [HL.out];omega)
   have hk2:k1<=2:=(HY.out M k1 hk1).1
   have HNF:=zH (nfT_pop (m:=M+1) (k1:=k1) HK.out hpop.1 (by omega) HL.out (by simpa using hk1))
   obtain ⟨rfl,_⟩:=hpop
   obtain ⟨b,off,hA,_,_⟩:=HS.out.2.2 (by omega)
   subst hA
   have RS:=zH (fun (w9:World) (z9:Below w7.heap.size w7 w9)=>(HS.out.below (B7.out.trans (z9.mono B7.out.size))).cellM hk1)
   have y0:=RS.out _ (zW)
   have y1:=(Below.refl w7.heap.size w7)
   have M1:(M:Int) < (M:Int)+1:=by omega
   have M2:IntKind.i64.wrap ((M:Int)+1 - 1)=(M:Int):=by rw [show (M:Int)+1 - 1=M by omega];exact wrapM (by omega)
   have M3:IntKind.i64.wrap (((M+1:Nat):Int) - 1)=(M:Int):=by rw [show ((M+1:Nat):Int) - 1=M by omega];exact wrapM (by omega)
   have M4:(0:Int)<=(M:Int):=by omega
   have M5:(M:Int)<=(c:Int):=by omega
   go_wp2_with fail
   refine (s_Rep' k1 _ hk2).mono ?_
   rintro e w8 ⟨A8,c8,rfl,o8,b8⟩
   have O8:=zH o8
   have B8:=zH b8
   clear o8 b8 y0 y1
   have hk3:=(rep_ok k1).2.1
   go_wp2_with fail
   refine (s_one _ _ _).mono ?_
   rintro e w9 ⟨rfl,b9⟩
   have O9:=zH ((ownsRow_below O8.out b9).alloc (.cells #[.int .i64 5,.int .i64 0,.int .i64 0,.int .i64 0] 39))
   have B9:=zH ((below_trans B8.out b9).alloc (below_trans B8.out b9).size (.cells #[.int .i64 5,.int .i64 0,.int .i64 0,.int .i64 0] 39))
   have lw9:=B9.out.size
   clear O8 B8 b9
   go_wp2_with (at_builtin;refine wpList_app rfl (.tmp 52) (.tmp 54) 24 rfl Tryz.underlying24 infoGate hz4 (by decide) rfl O9.out rfl (Rd.lit w9 39 #[.int .i64 5,.int .i64 0,.int .i64 0,.int .i64 0] 1 4 rfl) (by simp [Value.oneCell']) (by omega) (by decide) lw9 ?_;intro A10 c10 w10 o10 gr;have B10:=zH (below_grown B9.out B9.out.size O9.out zR gr);have O10:=zH o10;clear o10 gr)
   have OKW:=zH (show ∀ g ∈ rep k1++[Go.Proofs.YtmenmibfkojnoaaGreat.g1 5],okN 1 g=true/\cliff g.k=true from fun g hg=>by
    rcases List.mem_append.1 hg with h | h
    ·exact (rep_ok k1).1 g h
    ·rw [List.mem_singleton.1 h];exact g1_ok (by omega))
   obtain ⟨rw',hrw⟩:∃ r,runT 1 (rep k1++[Go.Proofs.YtmenmibfkojnoaaGreat.g1 5]) (idT 1)=r:=⟨_,rfl⟩
   rw [hrw] at HNF
   have OKR:=zH (show okT 1 rw' by rw [<- hrw];exact runT_ok _ _ OKW.out idT1_ok)
   have HRW:=zH hrw
   clear hrw
   refine (s_WordTab ((rep k1).length+1) c10 A10 (rep k1++[Go.Proofs.YtmenmibfkojnoaaGreat.g1 5]) _ (RdG.own (by rw [cellsG_append];exact O10.out)) (by omega) OKW.out).mono ?_
   rw [HRW.out]
   rintro e w11 ⟨A11,c11,rfl,o11,b11⟩
   have Z11:=below_trans B10.out b11
   have X12:=zH ((X7.out.below Z11).alloc (.cells #[.int .i64 1,.slice A11 2 c11] 73))
   have R12:=zH ((R7.out.below Z11).alloc (.cells #[.int .i64 1,.slice A11 2 c11] 73))
   have G12:=zH ((G7.out.below Z11).alloc (.cells #[.int .i64 1,.slice A11 2 c11] 73))
   have T12:=zH (Bx.new w11 73 #[.int .i64 1,.slice A11 2 c11])
   have O12:=zH (two_cells (o11.alloc (.cells #[.int .i64 1,.slice A11 2 c11] 73)))
   have P12:=zH (two_cells ((ownsRow_below O7.out Z11).alloc (.cells #[.int .i64 1,.slice A11 2 c11] 73)))
   have B12:=zH ((B7.out.trans (Z11.mono B7.out.size)).alloc (Nat.le_trans B7.out.size Z11.size) (.cells #[.int .i64 1,.slice A11 2 c11] 73))
   have hc6:2<=c6:=ownsRow_cap O7.out
   have ne11:w.heap.size+1 < w11.heap.size:=Nat.lt_of_lt_of_le (R7.out.below Z11).lt zR
   have ne5:w.heap.size+1 < w5.heap.size:=lR5
   clear o11 b11 Z11 X7 R7 G7 O7 B7 O10 B10 O9 B9 lw9 x0 x1 x2
   go_upto_region 9 with fail
   obtain ⟨wz,hwz⟩:∃ x,w11.alloc (.cells #[.int .i64 1,.slice A11 2 c11] 73)=x:=⟨_,rfl⟩
   rw [hwz] at X12 R12 G12 T12 O12 P12 B12 ⊢
   clear hwz
   have hR1:w.heap.size+1 < wz.heap.size:=R12.out.lt
   have hbw:w.heap.size<=wz.heap.size:=B12.out.size
   have n1:w.heap.size ≠ w.heap.size+1:=by omega
   have n2:w11.heap.size ≠ w.heap.size+1:=by have:=ne11;omega
   have n3:w5.heap.size ≠ w.heap.size+1:=by have:=ne5;omega
   have TK:=fun (w9:World) (z9:Below wz.heap.size wz w9)=>(⟨(X12.out.below z9).cell 0,⟨(T12.out.below z9).cell 0,(T12.out.below z9).cell 1⟩,⟨(G12.out.below z9).cell 0,(G12.out.below z9).cell 1⟩⟩:w9.cell? ⟨w.heap.size,0,none⟩=some (.slice (some ⟨b,off,none⟩) (M+1) c)/\(w9.cell? ⟨w11.heap.size,0,none⟩=some (.int .i64 1)/\w9.cell? ⟨w11.heap.size,1,none⟩=some (.slice A11 2 c11))/\(w9.cell? ⟨w5.heap.size,0,none⟩=some (.int .i64 1)/\w9.cell? ⟨w5.heap.size,1,none⟩=some (.slice A6 2 c6)))
   have TF:=fun (w9:World) (z9:Below wz.heap.size wz w9) (u0 u1 u2:Value)=>(⟨((X12.out.below z9).far3 n1 u0 u1 u2).cell 0,⟨((T12.out.below z9).far3 n2 u0 u1 u2).cell 0,((T12.out.below z9).far3 n2 u0 u1 u2).cell 1⟩,⟨((G12.out.below z9).far3 n3 u0 u1 u2).cell 0,((G12.out.below z9).far3 n3 u0 u1 u2).cell 1⟩⟩:(S3 w9 (w.heap.size+1) u0 u1 u2).cell? ⟨w.heap.size,0,none⟩=some (.slice (some ⟨b,off,none⟩) (M+1) c)/\((S3 w9 (w.heap.size+1) u0 u1 u2).cell? ⟨w11.heap.size,0,none⟩=some (.int .i64 1)/\(S3 w9 (w.heap.size+1) u0 u1 u2).cell? ⟨w11.heap.size,1,none⟩=some (.slice A11 2 c11))/\((S3 w9 (w.heap.size+1) u0 u1 u2).cell? ⟨w5.heap.size,0,none⟩=some (.int .i64 1)/\(S3 w9 (w.heap.size+1) u0 u1 u2).cell? ⟨w5.heap.size,1,none⟩=some (.slice A6 2 c6)))
   have RT:=zH (show Rd wz 1 (some ⟨b,off,none⟩) M (cellsI (sylI (s.1.take M))) by
    have h:=(HS.out.below B12.out).pre (k:=M) (by omega)
    have e:(sylI s.1).take M=sylI (s.1.take M):=by unfold sylI;rw [List.map_take]
    rw [e] at h
    exact h.2)
   have HTL:=zH (show (s.1.take M).length=M by rw [List.length_take,HL.out];omega)
   go_region_held3 (fun w'=>w'.cell? ⟨w.heap.size,0,none⟩=some (.slice (some ⟨b,off,none⟩) (M+1) c)/\(w'.cell? ⟨w11.heap.size,0,none⟩=some (.int .i64 1)/\w'.cell? ⟨w11.heap.size,1,none⟩=some (.slice A11 2 c11))/\(w'.cell? ⟨w5.heap.size,0,none⟩=some (.int .i64 1)/\w'.cell? ⟨w5.heap.size,1,none⟩=some (.slice A6 2 c6)))
    (first
     |with_reducible exact TK _ (zW).drew
     |with_reducible exact TK _ (keepA (zW))
     |with_reducible exact TK _ (keepC (zW))
     |with_reducible exact TK _ z3
     |with_reducible exact TK _ z5
     |with_reducible exact TK _ (keepC z5)
     |with_reducible exact TK _ (keepA z5)
     |with_reducible exact TK _ (keepC z3)
     |with_reducible exact TF _ z3 _ _ _
     |with_reducible exact TF _ z5 _ _ _)
    (first
     |(refine step_mk0 (by rfl) (.tmp 59) (.tmp 63) 58 (by rfl) Tryz.underlying58 infoInt1 hz1 (base:=wz.heap.size) (news:=cellsI (sylI (s.1.take M))) rfl ?_ ?_ rfl ?_ (by omega) (by decide) ?_;(first | with_reducible exact bx_n (by simp) | with_reducible exact Bx.new' (by simp) | with_reducible exact bx_o (Bx.new' (by simp)) | with_reducible exact Bx.below (bx_n (by simp)) b5 | with_reducible exact Bx.below (Bx.new' (by simp)) b5);(first | exact zR | exact Nat.le_succ _ | exact z5.size);(first | with_reducible exact RT.out.below z5 | with_reducible exact RT.out.below (keepC z5) | with_reducible exact Rd.drew (RT.out.alloc _) | with_reducible exact RT.out.alloc _);intro A3 c3 w3 o3 b3;have z3:Below wz.heap.size wz w3:=(by first | with_reducible exact below_trans (keepA (Below.refl _ wz)) b3 | with_reducible exact below_trans (keepC (Below.refl _ wz)) b3 | with_reducible exact below_trans (keepC z5) b3 | with_reducible exact below_trans z5 b3);(first | (with_reducible have p5:=ownsRow_below o5 b3) | (with_reducible have p5:=ownsRow_below (World.ownsRow.alloc o5 _) b3) | skip);have ⟨q0,q1,q2,f0,f1,f2⟩:=(R12.out.below z3).three)
     |(go_at_call 209;refine (s_Behind c11 c6 A11 A6 rw' (dT s.2) _ (by first | with_reducible exact O12.out.below z3 | with_reducible exact O12.out.drew | with_reducible exact (O12.out.alloc _).drew | with_reducible exact O12.out.alloc _) (by first | with_reducible exact P12.out.below z3 | with_reducible exact P12.out.drew | with_reducible exact (P12.out.alloc _).drew | with_reducible exact P12.out.alloc _) hc6 OKR.out OKT.out).mono ?_;intro e w5' hret;obtain ⟨D5,d5,rfl,o5,b5⟩:=(show RetT2 (behind rw' (dT s.2)) _ e w5' from hret);clear hret;have z5:Below wz.heap.size wz w5':=(by first | with_reducible exact below_trans z3 b5 | with_reducible exact below_trans (Below.refl _ wz).drew b5 | with_reducible exact below_trans (keepA (Below.refl _ wz)) b5 | with_reducible exact below_trans (keepC (Below.refl _ wz)) b5);(first | (with_reducible have p3:=ownsRow_below o3 b5) | skip);have ⟨q0,q1,q2,f0,f1,f2⟩:=(R12.out.below z5).three)
     |fail)
   all_goals
    go_wp2_with fail
    refine bodyPost_ret (v:=.agg #[.slice A3 M c3,.int .i64 1,.slice D5 2 d5]) (by simp [results,Tryz.results179,go_sem,q0,q1,q2]) rfl ?_
    rw [HNF.out]
    refine ⟨A3,c3,D5,d5,by simp [HTL.out],?_,?_,?_⟩
    ·simp only [Nat.add_sub_cancel,HTL.out]
     first
      |exact ownsRow_base (own_S3 p3 hR1) hbw
      |exact ownsRow_base (own_S3 o3 hR1) hbw
    ·first
      |exact ownsRow_base (own_S3 p5 hR1) hbw
      |exact ownsRow_base (own_S3 o5 hR1) hbw
      |exact ownsRow_base (own_S3 o5 (Nat.lt_of_lt_of_le hR1 z3.size)) (Nat.le_trans hbw z3.size)
      |exact ownsRow_base (own_S3 p5 (by simp;omega)) (by simp;omega)
      |exact ownsRow_base (own_S3 o5 (by simp;omega)) (by simp;omega)
    ·first
      |exact belowS3 (B12.out.trans (z5.mono hbw)) (by omega) _ _ _
      |exact belowS3 (B12.out.trans (z3.mono hbw)) (by omega) _ _ _
  ·have HNF:=zH (nfT_push HK.out HL.out hpop)
   have hlast:decide (0<=IntKind.i64.wrap ((m:Int) - 1))=decide (0 < m):=by
    rw [IntKind.wrap_i64]
    by_cases h0:0 < m
    ·rw [decide_eq_true h0,decide_eq_true];omega
    ·rw [decide_eq_false h0,decide_eq_false];omega
   have KK:(decide (0 < m)=false) ∨ (((K:Nat):Int) == 0)=false:=by
    by_cases h0:0 < m
    ·right;simp;omega
    ·left;simpa using h0
   have O8:=O7
   have hc6:2<=c6:=ownsRow_cap O7.out
   go_upto_region 7 with fail
   go_cut [45] from 40 to 45 (fun v wx=>v=.bool false/\wx=w7)
   case first =>
    by_cases h0:K=0
    ·have hm0:m=0:=by omega
     subst h0 hm0
     go_wp2_with fail
     go_meet
     exact ⟨rfl,rfl⟩
    ·have hK0:(((K:Nat):Int) == 0)=false:=by simp;omega
     go_wp2_with fail
     go_meet
     exact ⟨rfl,rfl⟩
   case rest =>
    obtain ⟨rfl,rfl⟩:=hcut
    go_upto_region 10 with fail
    obtain ⟨wz,rfl⟩:∃ x,x=wc:=⟨_,rfl⟩
    have hR1:w.heap.size+1 < wz.heap.size:=R7.out.lt
    have hbw:w.heap.size<=wz.heap.size:=B7.out.size
    have n1:w.heap.size ≠ w.heap.size+1:=by omega
    have n3:w5.heap.size ≠ w.heap.size+1:=by omega
    have TK:=fun (w9:World) (z9:Below wz.heap.size wz w9)=>(⟨(X7.out.below z9).cell 0,(G7.out.below z9).cell 0,(G7.out.below z9).cell 1⟩:w9.cell? ⟨w.heap.size,0,none⟩=some (.slice A m c)/\w9.cell? ⟨w5.heap.size,0,none⟩=some (.int .i64 1)/\w9.cell? ⟨w5.heap.size,1,none⟩=some (.slice A6 2 c6))
    have TF:=fun (w9:World) (z9:Below wz.heap.size wz w9) (u0 u1 u2:Value)=>(⟨((X7.out.below z9).far3 n1 u0 u1 u2).cell 0,((G7.out.below z9).far3 n3 u0 u1 u2).cell 0,((G7.out.below z9).far3 n3 u0 u1 u2).cell 1⟩:(S3 w9 (w.heap.size+1) u0 u1 u2).cell? ⟨w.heap.size,0,none⟩=some (.slice A m c)/\(S3 w9 (w.heap.size+1) u0 u1 u2).cell? ⟨w5.heap.size,0,none⟩=some (.int .i64 1)/\(S3 w9 (w.heap.size+1) u0 u1 u2).cell? ⟨w5.heap.size,1,none⟩=some (.slice A6 2 c6))
    have RT:=zH (HS.out.below B7.out).2
    go_region_held3 (fun w'=>w'.cell? ⟨w.heap.size,0,none⟩=some (.slice A m c)/\w'.cell? ⟨w5.heap.size,0,none⟩=some (.int .i64 1)/\w'.cell? ⟨w5.heap.size,1,none⟩=some (.slice A6 2 c6))
     (first
      |with_reducible exact TK _ (zW).drew
      |with_reducible exact TK _ (keepA (zW))
      |with_reducible exact TK _ (keepC (zW))
      |with_reducible exact TK _ (keepC (keepC (zW)))
      |with_reducible exact TK _ (keepA (keepC (zW)))
      |with_reducible exact TK _ z3
      |with_reducible exact TK _ (keepC z3)
      |with_reducible exact TK _ (keepA z3)
      |with_reducible exact TK _ z4
      |with_reducible exact TF _ z4 _ _ _)
     (first
      |(refine step_mk0 (by rfl) (.tmp 69) (.tmp 71) 58 (by rfl) Tryz.underlying58 infoInt1 hz1 (base:=wz.heap.size) (news:=cellsI (sylI s.1)) rfl ?_ ?_ rfl ?_ (by omega) (by decide) ?_;(first | with_reducible exact bx_n (by simp) | with_reducible exact Bx.new' (by simp) | with_reducible exact bx_o (Bx.new' (by simp)) | with_reducible exact (Bx.new' (by simp)).alloc _);(first | exact zR | exact Nat.le_succ _);(first | with_reducible exact Rd.drew (RT.out.alloc _) | with_reducible exact RT.out.alloc _ | with_reducible exact (RT.out.alloc _).alloc _ | with_reducible exact Rd.drew ((RT.out.alloc _).alloc _));intro A3 c3 w3 o3 b3;have z3:Below wz.heap.size wz w3:=(by first | with_reducible exact below_trans (keepA (Below.refl _ wz)) b3 | with_reducible exact below_trans (keepC (Below.refl _ wz)) b3 | with_reducible exact below_trans (keepC (keepC (Below.refl _ wz))) b3 | with_reducible exact below_trans (keepA (keepC (Below.refl _ wz))) b3);have p3:w3.ownsRow wz.heap.size 3 1 (.slice A3 m c3) m (cellsI (sylI s.1)):=o3)
      |(refine step_app (by rfl) (.tmp 72) (.tmp 74) 58 (by rfl) Tryz.underlying58 infoInt1 hz1 (by decide) (base:=wz.heap.size) (xs:=cellsI (sylI s.1)) (news:=cellsI (sylI [K])) rfl ?_ rfl ?_ one_cellsI (by omega) (by decide) ?_ ?_;(first | with_reducible exact p3 | with_reducible exact p3.alloc _ | with_reducible exact ownsRow_drew (p3.alloc _));(first | exact rdK (Bx.below (bx_n (by simp)) b3) | exact rdK (Bx.below (Bx.new' (by simp)) b3) | exact rdK (Bx.below ((Bx.new' (by simp)).alloc _) b3) | exact rdK (Bx.below (bx_o (Bx.new' (by simp))) b3) | exact rdK (Bx.new' (by simp)) | exact rdK (bx_n (by simp)));(first | exact z3.size | exact Nat.le_trans z3.size (by simp));intro A4 c4 w4 o4 gr;have z4:Below wz.heap.size wz w4:=(by first | with_reducible exact below_grown z3 z3.size p3 zR gr | with_reducible exact below_grown (keepC z3) (Nat.le_trans z3.size (by simp)) (p3.alloc _) zR gr | with_reducible exact below_grown (keepA z3) (Nat.le_trans z3.size (by simp)) (ownsRow_drew (p3.alloc _)) zR gr);have ⟨q0,q1,q2,f0,f1,f2⟩:=(R7.out.below z4).three)
      |fail)
    all_goals
     go_wp2_with fail
     refine bodyPost_ret (v:=.agg #[.slice A4 (m+1) c4,.int .i64 1,.slice A6 2 c6]) (by simp [results,Tryz.results179,go_sem,q0,q1,q2]) rfl ?_
     rw [HNF.out]
     refine ⟨A4,c4,A6,c6,by simp [HL.out],?_,?_,?_⟩
     ·have e:cellsI (sylI (s.1++[K]))=cellsI (sylI s.1)++cellsI (sylI [K]):=by unfold sylI cellsI;simp
      simp only [List.length_append,List.length_cons,List.length_nil,HL.out,e]
      exact ownsRow_base (own_S3 o4 hR1) hbw
     ·exact own_S3x (ownsRow_below O7.out z4) (R7.out.below z4) (by decide) _ _ _
     ·exact belowS3 (B7.out.trans (z4.mono hbw)) (by omega) _ _ _
end Go.Proofs.YtmenmibfkojnoaaGreat
