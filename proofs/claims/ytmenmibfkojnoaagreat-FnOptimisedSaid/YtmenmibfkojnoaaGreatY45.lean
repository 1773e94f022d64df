/- Contracts of IdentityNormalForm and Comp. -/
import Derived.Test.YtmenmibfkojnoaaGreatY44
set_option maxHeartbeats 16000000
set_option maxRecDepth 100000
namespace Go.Proofs.YtmenmibfkojnoaaGreat
open Go.RowKit
set_option linter.unusedVariables false
theorem Ep (s:Nf):(qr s).1.length<=s.1.length+1:=by
 unfold qr;split
 ·simp only [List.length_dropLast];omega
 ·simp only [List.length_append,List.length_cons,List.length_nil];omega
theorem xq (s:Nf) (k:Int):(qO s k).1.length<=s.1.length+1:=by
 unfold qO;split
 ·exact Ep s
 ·split
  ·exact Ep (s.1,_)
  ·exact Nat.le_succ _
theorem zC {l:List Gt} {k:Nat} {g:Gt} {s S:Nf} (hg:l[k]? = some g) (h:ut ((l.drop k).map Gt.k) s=S):ut ((l.drop (k+1)).map Gt.k) (qO s g.k)=S:=by
 obtain ⟨hk,e⟩:=List.getElem?_eq_some_iff.1 hg;rw [ax hk,e] at h;exact h
theorem Er {l:List Gt} {k:Nat} {s S:Nf} (hk:l.length<=k) (h:ut ((l.drop k).map Gt.k) s=S):s=S:=by
 rw [List.drop_eq_nil_of_le hk] at h;exact h
def NfB (R G:Nat) (A:Option Addr) (c:Nat) (D:Option Addr) (d:Nat) (s:Nf) (wx:World):Prop :=
 Bx wx G 100 #[.slice A s.1.length c,(1:Int),.slice D 2 d]/\wx.ownsRow R 3 1 (.slice A s.1.length c) s.1.length (aB (dp s.1))/\wx.ownsRow R 151 4 (.slice D 2 d) 2 (af (dP 1 s.2))/\ef s.1/\ed 1 s.2
section
variable {R G c d:Nat} {A D:Option Addr} {s:Nf} {wx w':World}
theorem NfB.below (h:NfB R G A c D d s wx) (hb:Below wx wx w'):NfB R G A c D d s w':=⟨h.1.below hb,ab h.2.1 hb,ab h.2.2.1 hb,h.2.2.2⟩
theorem NfB.alloc (h:NfB R G A c D d s wx) (o:Obj):NfB R G A c D d s (wx.alloc o):=h.below ((zW).alloc zR _)
theorem NfB.far (h:NfB R G A c D d s wx) {r t:Nat} {cs:Array Value} (hr:G ≠ r) (hB:Bx wx r t cs) (n1:3 ≠ t) (n2:151 ≠ t) (a b e:Value):NfB R G A c D d s (S3 wx r a b e) :=
 ⟨h.1.far3 hr a b e,dr h.2.1 hB n1 a b e,dr h.2.2.1 hB n2 a b e,h.2.2.2⟩
theorem NfB.put (h:NfB R G A c D d s wx) {r:Nat} {v0 v1 v2:Value} (hr:G ≠ r) (hB:Bx wx r 100 #[v0,v1,v2]):NfB R r A c D d s (S3 wx r (.slice A s.1.length c) (.int .i64 1) (.slice D 2 d)) :=
 ⟨hB.set3 _ _ _,dr h.2.1 hB zD _ _ _,dr h.2.2.1 hB zD _ _ _,h.2.2.2⟩
end
theorem xr {w w':World} {R:Nat} {A D:Option Addr} {c d:Nat} {s:Nf} (h1:w'.ownsRow R 3 1 (.slice A s.1.length c) s.1.length (aB (dp s.1))) (h2:w'.ownsRow R 151 4 (.slice D 2 d) 2 (af (dP 1 s.2))) (h3:ef s.1) (h4:ed 1 s.2) :
  NfB R w'.heap.size A c D d s (w'.alloc (.cells #[.slice A s.1.length c,(1:Int),.slice D 2 d] 100)):=⟨Bx.new _ _ _,h1.alloc _,h2.alloc _,h3,h4⟩
theorem Li {p:Prop} (h:p:=by
  exact ⟨none,0,A1,c1,rfl,World.ownsRow_nil _ _ _ _,dr O1 R1 zD _ _ _,dR B1 zR _ _ _⟩):p:=h
theorem TH (w:World):Calls Tryz.prog 143 #[] w (jd ([],ch 1) w):=by
 have R0:=zH (Bx.new w 100 #[.slice none 0 0,(0:Int),.slice none 0 0]);have B0:=zH (show Below w w (w.alloc ZO.zN) from (zW).alloc zR _);go_enter Tryz.func143,Tryz.ntmps143;go_wp2_with fail;refine (wi 1 _ zO).mono ?_;intro e w1 hret;obtain ⟨A1,c1,rfl,o1,b1⟩:=RetT2.of hret;clear hret;have R1:=zH (R0.below b1);have B1:=zH (aa B0 b1);have O1:=zH (ae o1 B0.size);clear o1 b1 R0 B0;obtain ⟨r0,r1,r2,r3,r4,r5⟩:=R1.three;go_wp2_with fail;refine iu (v:=.agg #[.slice none 0 0,(1:Int),.slice A1 2 c1]) R1.out ?_ rfl ?_
 ·intro wS z0 z1 z2;simp [results,Tryz.results143,go_sem,z0,z1,z2]
 exact Li
theorem TI (w:World):Calls Tryz.prog 129 #[] w (jd ([],ch 1) w):=by
 have R0:=zH (Bx.new w 100 #[.slice none 0 0,(0:Int),.slice none 0 0]);have B0:=zH (show Below w w (w.alloc ZO.zN) from (zW).alloc zR _);go_enter Tryz.func129,Tryz.ntmps129;go_wp2_with fail;refine (wh 1 _ zO).mono ?_;intro e w1 hret;obtain ⟨A1,c1,rfl,o1,b1⟩:=RetT2.of hret;clear hret;have R1:=zH (R0.below b1);have B1:=zH (aa B0 b1);have O1:=zH (ae o1 B0.size);clear o1 b1 R0 B0;obtain ⟨r0,r1,r2,r3,r4,r5⟩:=R1.three;go_wp2_with fail;refine iu (v:=.agg #[.slice none 0 0,(1:Int),.slice A1 2 c1]) R1.out ?_ rfl ?_
 ·intro wS z0 z1 z2;simp [results,Tryz.results129,go_sem,z0,z1,z2]
 exact Li
theorem Lj {p:Prop} (h:p:=by
  have hlk:k < l.length:=by rw [HN.out];exact hlt
  rw [ax hlk] at hd;injection hd with hd _;rw [List.getElem?_eq_getElem hlk,hd]):p:=h
theorem Lk {p:Prop} (h:p:=by
  rw [<- HE.out];exact ⟨A3,c3,D3,d3,rfl,dr N3.out.2.1 R3 zD _ _ _,dr N3.out.2.2.1 R3 zD _ _ _,dR B3 zR _ _ _⟩):p:=h
theorem Ll (m c:Nat) (A:Option Addr) (l:List Gt) (w:World) (hr:RdG w A m l) (hm:m<=1073741824) (hl:∀ g ∈ l,g=g1 g.k/\1<=g.k/\g.k<=8) :
  Calls Tryz.prog 86 #[.slice A m c] w (pB (ut (l.map Gt.k) ([],ch 1)) w):=by
 have HW:=zH hr;have HL:=zH hl;have HN:=zH hr.1;have R0:=zH (Bx.new w 100 #[.slice none 0 0,(0:Int),.slice none 0 0]);have B0:=zH (show Below w w (w.alloc ZO.zN) from (zW).alloc zR _);obtain ⟨S,hS⟩:∃ S,ut (l.map Gt.k) ([],ch 1)=S:=⟨_,rfl⟩;have HS0:=zH (show ut ((l.drop 0).map Gt.k) ([],ch 1)=S from hS);rw [hS];clear hr hl hS;go_enter Tryz.func86,Tryz.ntmps86;go_wp2_with fail;refine (TI _).mono ?_;intro e w1 hret;obtain ⟨A1,c1,D1,d1,rfl,o1,p1,b1⟩:=(show jd ([],ch 1) _ e w1 from hret);clear hret;have N1:=zH (xr (w:=w) (s:=([],ch 1)) (ae o1 B0.size) (ae p1 B0.size) iJ gR);have R1:=zH ((R0.below b1).alloc (.cells #[.slice A1 ([]:List Nat).length c1,(1:Int),.slice D1 2 d1] 100));have B1:=zH ((aa B0 b1).alloc (aa B0 b1).size (.cells #[.slice A1 ([]:List Nat).length c1,(1:Int),.slice D1 2 d1] 100))
 have lG:w.heap.size < w1.heap.size:=(R0.below b1).lt;clear o1 p1 b1 R0 B0;obtain ⟨G,hG⟩:∃ G,G=w1.heap.size:=⟨_,rfl⟩;go_wp2_with fail;rw [<- hG] at N1 lG ⊢;clear hG;go_loopg [12] m (fun g i wr=>∃ (k:Nat) (A3:Option Addr) (c3:Nat) (D3:Option Addr) (d3:Nat) (s:Nf),k+g=m/\i=.int .i64 (k:Nat)/\NfB w.heap.size G A3 c3 D3 d3 s wr/\s.1.length<=k/\ut ((l.drop k).map Gt.k) s=S/\Bx wr w 100 #[.slice none 0 0,(0:Int),.slice none 0 0]/\Below w w wr)
 case atStart=>exact ⟨0,A1,c1,D1,d1,([],ch 1),zO,rfl,N1.out,zR,HS0.out,R1.out,B1.out⟩
 case round =>
  clear N1 R1 B1 HS0;obtain ⟨k,A3,c3,D3,d3,s,hk,rfl,hN,hsk,hS,hR,hB⟩:=hrel;have N3:=zH hN;have HS3:=zH hS;have R3:=zH hR;have B3:=zH hB;clear hN hS hR hB;by_cases hlt:k < m
  ·obtain ⟨b,off,g,rfl,hbl,hd,c0,c1',c2,c3'⟩:=(HW.below B3.out).at_ hlt;have hgk:l[k]? = some g:=by
    exact Lj
   obtain ⟨hg1,hg2⟩:=HL.out g (List.mem_of_getElem? hgk);obtain ⟨kk,rfl⟩:∃ kk,g=g1 kk:=⟨_,hg1⟩;have HGK:=zH hgk;have HG2:=zH hg2;have NX:=zH (zC hgk HS3);have hc0:(g1 kk).k=kk:=rfl;have hc1:(g1 kk).a=0:=rfl;have hc2:(g1 kk).b=0:=rfl;have hc3:(g1 kk).c=0:=rfl;rw [hc0] at c0 NX HG2;rw [hc1] at c1';rw [hc2] at c2;rw [hc3] at c3';have NA:=zH (N3.alloc (.cells #[kk,(0:Int),(0:Int),(0:Int)] 39));have GA:=zH (Bx.new wr 39 #[kk,(0:Int),(0:Int),(0:Int)]);have RA:=zH (R3.alloc (.cells #[kk,(0:Int),(0:Int),(0:Int)] 39));have BA:=zH (B3.alloc B3.size (.cells #[kk,(0:Int),(0:Int),(0:Int)] 39));have kn:(k:Int) < (m:Int):=zO;have lw:=B3.size;clear hd hgk hg1 hg2 hc0 hc1 hc2 hc3 HS3 N3 R3 B3;obtain ⟨n0,n1,n2,n3,n4,n5⟩:=NA.out.1.three;obtain ⟨g0,g1',g2,g3,_⟩:=GA.four;go_wp2_with fail
   refine (OU s.1.length c3 d3 A3 D3 s kk _ HG2 (RdI.own NA.out.2.1) zO (ao NA.out.2.1) (RdG.own NA.out.2.2.1) (ao NA.out.2.2.1) NA.out.2.2.2.1 NA.out.2.2.2.2).mono ?_;intro e w4 hret;obtain ⟨A4,c4,D4,d4,rfl,o4,p4,b4⟩:=(show pB (qO s kk) _ e w4 from hret);clear hret;have HOK:=zH (vM HG2 NA.out.2.2.2.1 NA.out.2.2.2.2);have hln:(qO s kk).1.length<=k+1:=by have:=xq s kk;omega
   obtain ⟨s',hs'⟩:∃ s',qO s kk=s':=⟨_,rfl⟩;rw [hs'] at o4 p4 NX HOK hln ⊢;clear hs';have N4:=zH (xr (w:=w) (ae o4 BA.size) (ae p4 BA.size) HOK.out.1 HOK.out.2);have G4:=zH ((NA.out.1.below b4).alloc (.cells #[.slice A4 s'.1.length c4,(1:Int),.slice D4 2 d4] 100));have R4:=zH ((RA.below b4).alloc (.cells #[.slice A4 s'.1.length c4,(1:Int),.slice D4 2 d4] 100));have B4:=zH ((BA.trans (b4.mono BA.size)).alloc (Nat.le_trans BA.size b4.size) (.cells #[.slice A4 s'.1.length c4,(1:Int),.slice D4 2 d4] 100));have hGn:w4.heap.size ≠ G:=by have:=(NA.out.1.below b4).lt;omega
   have hGR:w.heap.size ≠ G:=zO;clear o4 p4 b4 NA GA RA BA n0 n1 n2 n3 n4 n5 g0 g1' g2 g3 c0 c1' c2 c3';obtain ⟨n0,n1,n2,n3,n4,n5⟩:=G4.three;obtain ⟨y0,y1,y2,_⟩:=N4.out.1.three;go_wp2_with fail;go_roundg (gk - 1)
   case measure=>omega
   case rel =>
    exact ⟨k+1,A4,c4,D4,d4,s',zO,by go_num,N4.put hGn G4.out,hln,NX.out,R4.far3 hGR _ _ _,dR B4.out zO _ _ _⟩
  ·obtain rfl:k=m:=zO;have HE:=zH (Er (by rw [HN.out];exact zR) HS3.out);obtain ⟨n0,n1,n2,n3,n4,n5⟩:=N3.out.1.three;obtain ⟨r0,r1,r2,r3,r4,r5⟩:=R3.three;clear HS3;go_wp2_with fail;refine iu (v:=.tuple #[.agg #[.slice A3 s.1.length c3,(1:Int),.slice D3 2 d3],.bool true]) R3.out ?_ rfl ?_
   ·intro wS z0 z1 z2;simp [results,Tryz.results86,go_sem,z0,z1,z2]
   exact Lk
theorem xt {p:Prop} (h:p:=by have:=lw;simp;omega):p:=h
theorem Lm (m c:Nat) (A:Option Addr) (l:List Gt) (w:World) (hr:RdG w A m l) (hm:m<=1073741824) (hl:∀ g ∈ l,g=g1 g.k/\1<=g.k/\g.k<=8) :
  Calls Tryz.prog 107 #[.slice A m c] w (pB (ut (l.map Gt.k) ([],ch 1)) w):=by
 have HW:=zH hr;have HL:=zH hl;have HN:=zH hr.1;have R0:=zH (Bx.new w 100 #[.slice none 0 0,(0:Int),.slice none 0 0]);have B0:=zH (show Below w w (w.alloc ZO.zN) from (zW).alloc zR _);obtain ⟨S,hS⟩:∃ S,ut (l.map Gt.k) ([],ch 1)=S:=⟨_,rfl⟩;have HS0:=zH (show ut ((l.drop 0).map Gt.k) ([],ch 1)=S from hS);rw [hS];clear hr hl hS;go_enter Tryz.func107,Tryz.ntmps107;go_wp2_with fail;refine (TH _).mono ?_;intro e w1 hret;obtain ⟨A1,c1,D1,d1,rfl,o1,p1,b1⟩:=(show jd ([],ch 1) _ e w1 from hret);clear hret;have N1:=zH (xr (w:=w) (s:=([],ch 1)) (ae o1 B0.size) (ae p1 B0.size) iJ gR);have R1:=zH ((R0.below b1).alloc (.cells #[.slice A1 ([]:List Nat).length c1,(1:Int),.slice D1 2 d1] 100));have B1:=zH ((aa B0 b1).alloc (aa B0 b1).size (.cells #[.slice A1 ([]:List Nat).length c1,(1:Int),.slice D1 2 d1] 100))
 have lG:w.heap.size < w1.heap.size:=(R0.below b1).lt;clear o1 p1 b1 R0 B0;obtain ⟨G,hG⟩:∃ G,G=w1.heap.size:=⟨_,rfl⟩;go_wp2_with fail;rw [<- hG] at N1 lG ⊢;clear hG;go_loopg [5] m (fun g i wr=>∃ (k:Nat) (A3:Option Addr) (c3:Nat) (D3:Option Addr) (d3:Nat) (s:Nf),k+g=m/\i=.int .i64 (k:Nat)/\NfB w.heap.size G A3 c3 D3 d3 s wr/\s.1.length<=k/\ut ((l.drop k).map Gt.k) s=S/\Bx wr w 100 #[.slice none 0 0,(0:Int),.slice none 0 0]/\Below w w wr)
 case atStart=>exact ⟨0,A1,c1,D1,d1,([],ch 1),zO,rfl,N1.out,zR,HS0.out,R1.out,B1.out⟩
 case round =>
  clear N1 R1 B1 HS0;obtain ⟨k,A3,c3,D3,d3,s,hk,rfl,hN,hsk,hS,hR,hB⟩:=hrel;have N3:=zH hN;have HS3:=zH hS;have R3:=zH hR;have B3:=zH hB;clear hN hS hR hB;by_cases hlt:k < m
  ·obtain ⟨b,off,g,rfl,hbl,hd,c0,c1',c2,c3'⟩:=(HW.below B3.out).at_ hlt;have hgk:l[k]? = some g:=by
    exact Lj
   obtain ⟨hg1,hg2⟩:=HL.out g (List.mem_of_getElem? hgk);obtain ⟨kk,rfl⟩:∃ kk,g=g1 kk:=⟨_,hg1⟩;have HGK:=zH hgk;have HG2:=zH hg2;have NX:=zH (zC hgk HS3);have hc0:(g1 kk).k=kk:=rfl;have hc1:(g1 kk).a=0:=rfl;have hc2:(g1 kk).b=0:=rfl;have hc3:(g1 kk).c=0:=rfl;rw [hc0] at c0 NX HG2;rw [hc1] at c1';rw [hc2] at c2;rw [hc3] at c3';have kn:(k:Int) < (m:Int):=zO;have lw:=B3.size;have HOK:=zH (vM HG2 N3.out.2.2.2.1 N3.out.2.2.2.2);have hln:(qO s kk).1.length<=k+1:=by have:=xq s kk;omega
   obtain ⟨s',hs'⟩:∃ s',qO s kk=s':=⟨_,rfl⟩;rw [hs'] at NX HOK hln;have HSG:=zH hs';clear hd hgk hg1 hg2 hc0 hc1 hc2 hc3 HS3 hs';go_upto_region 5 with fail
   go_cut [6,7] (fun s6 s7 wx=>∃ P A4 c4 D4 d4,s6=.pointer (some ⟨P,0,none⟩)/\s7=.bool true/\P ≠ G/\NfB w.heap.size P A4 c4 D4 d4 s' wx/\Below wr wr wx)
   case first =>
    have TK:=fun (w5:World) (b5:Below wr wr w5)=>(⟨(N3.out.1.below b5).cell 0,(N3.out.1.below b5).cell 1,(N3.out.1.below b5).cell 2,⟨(b5.cell (p:=⟨b,off+k * 4,none⟩) hbl).trans c0,(b5.cell (p:=⟨b,off+k * 4+1,none⟩) hbl).trans c1',(b5.cell (p:=⟨b,off+k * 4+2,none⟩) hbl).trans c2,(b5.cell (p:=⟨b,off+k * 4+3,none⟩) hbl).trans c3'⟩⟩:w5.cell? ⟨G,0,none⟩=some (.slice A3 s.1.length c3)/\w5.cell? ⟨G,1,none⟩=some (.int .i64 1)/\w5.cell? ⟨G,2,none⟩=some (.slice D3 2 d3)/\(w5.cell? ⟨b,off+k * 4,none⟩=some (.int .i64 kk)/\w5.cell? ⟨b,off+k * 4+1,none⟩=some (.int .i64 0)/\w5.cell? ⟨b,off+k * 4+2,none⟩=some (.int .i64 0)/\w5.cell? ⟨b,off+k * 4+3,none⟩=some (.int .i64 0)))
    have BA:=(Below.refl wr wr).alloc zR ZO.zN;have lGr:G < wr.heap.size:=N3.out.1.lt;have K3:=fun (w5:World) (b5:Below wr wr w5)=>N3.below b5
    go_region_held3 (fun w'=>w'.cell? ⟨G,0,none⟩=some (.slice A3 s.1.length c3)/\w'.cell? ⟨G,1,none⟩=some (.int .i64 1)/\w'.cell? ⟨G,2,none⟩=some (.slice D3 2 d3)/\(w'.cell? ⟨b,off+k * 4,none⟩=some (.int .i64 kk)/\w'.cell? ⟨b,off+k * 4+1,none⟩=some (.int .i64 0)/\w'.cell? ⟨b,off+k * 4+2,none⟩=some (.int .i64 0)/\w'.cell? ⟨b,off+k * 4+3,none⟩=some (.int .i64 0)))
     (first
      |with_reducible exact TK _ (Below.refl wr wr).drew
      |with_reducible exact TK _ BA.drew
      |with_reducible exact TK _ BA
      |with_reducible exact TK _ b5
      |with_reducible exact TK _ (b5.alloc b5.size _)
      |with_reducible exact TK _ (b5.alloc b5.size _).drew
      |with_reducible exact TK _ b5.drew
      |with_reducible exact TK _ (dR b5 zR _ _ _)
      |with_reducible exact TK _ (dR b5 zR _ _ _).drew)
     (first
      |(go_at_call 144;refine (OS s.1.length c3 d3 A3 D3 s kk _ HG2.out (by first | exact RdI.own (K3 _ (Below.refl wr wr).drew).2.1 | exact RdI.own (K3 _ BA.drew).2.1 | exact RdI.own (K3 _ BA).2.1) zO (ao N3.out.2.1) (by first | exact RdG.own (K3 _ (Below.refl wr wr).drew).2.2.1 | exact RdG.own (K3 _ BA.drew).2.2.1 | exact RdG.own (K3 _ BA).2.2.1) (ao N3.out.2.2.1) N3.out.2.2.2.1 N3.out.2.2.2.2).mono ?_;rw [HSG.out];intro e w4 hret;obtain ⟨A4,c4,D4,d4,rfl,o4,p4,b4⟩:=(show pB s' _ e w4 from hret);clear hret;have b5:Below wr wr w4:=(by first | with_reducible exact aa (Below.refl wr wr).drew b4 | with_reducible exact aa BA.drew b4 | with_reducible exact aa BA b4);(first | (have PB:Bx w4 wr 100 #[.slice none 0 0,(0:Int),.slice none 0 0]:=(by first | with_reducible exact (Bx.drew (Bx.new wr _ _)).below b4 | with_reducible exact (Bx.new wr _ _).below b4);obtain ⟨q0,q1,q2,q3,q4,q5⟩:=PB.three) | skip))
      |fail)
    all_goals go_wp2_with fail
    all_goals go_meet
    all_goals first
     |exact ⟨_,A4,c4,D4,d4,rfl,rfl,by have:=b5.size;omega,xr (w:=w) (ae o4 xt) (ae p4 xt) HOK.out.1 HOK.out.2,by with_reducible exact b5.alloc b5.size _⟩
     |exact ⟨_,A4,c4,D4,d4,rfl,rfl,zO,⟨PB.set3 _ _ _,dr (ae o4 xt) PB zD _ _ _,dr (ae p4 xt) PB zD _ _ _,HOK.out.1,HOK.out.2⟩,by with_reducible exact dR b5 zR _ _ _⟩
   case rest =>
    obtain ⟨P,A4,c4,D4,d4,rfl,rfl,hPG,hN,hB5⟩:=hcut;have N4:=zH hN;have G4:=zH (N3.out.1.below hB5);have R4:=zH (R3.below hB5);have B4:=zH (B3.trans (hB5.mono lw));have hGR:w.heap.size ≠ G:=zO;clear hN hB5 N3 R3 B3 c0 c1' c2 c3';obtain ⟨n0,n1,n2,n3,n4,n5⟩:=G4.three;obtain ⟨y0,y1,y2,_⟩:=N4.out.1.three;go_wp2_with fail;go_roundg (gk - 1)
    case measure=>omega
    case rel =>
     exact ⟨k+1,A4,c4,D4,d4,s',zO,by go_num,N4.put hPG G4.out,hln,NX.out,R4.far3 hGR _ _ _,dR B4.out zO _ _ _⟩
  ·obtain rfl:k=m:=zO;have HE:=zH (Er (by rw [HN.out];exact zR) HS3.out);obtain ⟨n0,n1,n2,n3,n4,n5⟩:=N3.out.1.three;obtain ⟨r0,r1,r2,r3,r4,r5⟩:=R3.three;clear HS3;go_wp2_with fail;refine iu (v:=.tuple #[.agg #[.slice A3 s.1.length c3,(1:Int),.slice D3 2 d3],.bool true]) R3.out ?_ rfl ?_
   ·intro wS z0 z1 z2;simp [results,Tryz.results107,go_sem,z0,z1,z2]
   exact Lk
def qy (l:List Nat):List Gt:=l.flatMap fun k=>dH k++[g1 7]
theorem uR {s:List Nat} {k k1:Nat} (h:s[k]? = some k1):qy (s.take (k+1))=qy (s.take k)++dH k1++[g1 7]:=by
 rw [db h];unfold qy;rw [List.flatMap_append];simp
theorem oJ (l:List Nat):(qy l).length<=3 * l.length:=by
 unfold qy
 induction l with
 |nil=>simp
 |cons k r ih =>
  have:=(gn k).2.1;simp only [List.flatMap_cons,List.length_append,List.length_cons,List.length_nil] at ih ⊢;omega
theorem xu (s:Nf):qP s=qy s.1++cw s.2:=rfl
theorem Ln {p:Prop} (h:p:=by
  go_roundg (gk - 1)
  case measure=>omega
  case rel =>
   refine ⟨k+1,A7,c7,L++dH k1++[g1 7],zO,by go_num,by simp [Nat.add_assoc],HSN.out,?_,X7.out,B7.out⟩;have:=O7.out;simp only [List.length_append,List.length_cons,List.length_nil,av] at this ⊢;exact this):p:=h
theorem Lo {p:Prop} (h:p:=by
  go_ret;refine ⟨A5,c5,?_,?_,B5.out⟩
  ·rw [xu,HF.out,List.length_append];rfl
  ·rw [xu,HF.out,List.length_append,av];exact O5.out):p:=h
theorem F9 (m c d:Nat) (A D:Option Addr) (s:Nf) (w:World) (hs:RdI w A m (dp s.1)) (hm:m<=1073741824) (ht:RdG w D 2 (dP 1 s.2)) (hd:2<=d) (h1:ef s.1) (h2:ed 1 s.2) :
  Calls Tryz.prog 108 #[.agg #[.slice A m c,(1:Int),.slice D 2 d]] w (jl 39 4 (af (qP s)) (qP s).length w):=by
 have hz4:(Value.agg #[(0:Int),(0:Int),(0:Int),(0:Int)]).cells.size=4:=rfl;have HS:=zH hs;have HT:=zH ht;have HO:=zH h2;have HY:=zH h1;have HL:=zH (mF s hs);have OKC:=zH (tr h2);have X0:=zH (show Bx ((w.alloc (.cells #[.slice A m c,(1:Int),.slice D 2 d] 100)).alloc (.cells #[] 39)) w.heap.size 100 _ from (Bx.new w _ _).alloc _);have B0:=zH (show Below w w ((w.alloc (.cells #[.slice A m c,(1:Int),.slice D 2 d] 100)).alloc (.cells #[] 39)) from ((zW).alloc zR _).alloc zI _);have O0:=zH (show ((w.alloc (.cells #[.slice A m c,(1:Int),.slice D 2 d] 100)).alloc (.cells #[] 39)).ownsRow w 39 4 (.slice (some ⟨w.heap.size+1,0,none⟩) 0 0) 0 (af []) by
  have:=World.ownsRow_lit (base:=w.heap.size) (e:=39) (size:=4) (w.alloc (.cells #[.slice A m c,(1:Int),.slice D 2 d] 100)) #[] 0 zI zM rfl;rw [World.size_alloc] at this;exact this)
 clear hs ht h1 h2;obtain ⟨x0,x1,x2,_⟩:=X0.three;go_enter Tryz.func108,Tryz.ntmps108;go_wp2_with fail;refine (Le m c d A D s _ (HS.below B0) hm (HT.below B0) hd HY HO).mono ?_;rintro e w2 ⟨rfl,b2⟩;have X2:=zH (X0.below b2);have B2:=zH (B0.trans (b2.mono B0.size));have O2:=zH (ab O0 b2);clear b2 X0 B0 O0 x0 x1 x2;obtain ⟨x0,x1,x2,_⟩:=X2.three;go_wp2_with fail;go_loopg [3,4] m (fun g v3 i wr=>∃ (k:Nat) (A3:Option Addr) (c3:Nat) (L:List Gt),k+g=m/\i=.int .i64 (k:Nat)/\v3=.slice A3 L.length c3/\qy (s.1.take k)=L/\wr.ownsRow w 39 4 (.slice A3 L.length c3) L.length (af L)/\Bx wr w 100 #[.slice A m c,(1:Int),.slice D 2 d]/\Below w w wr)
 case atStart=>exact ⟨0,_,0,[],zO,rfl,rfl,rfl,O2.out,X2.out,B2.out⟩
 case round =>
  clear O2 X2 B2 x0 x1 x2;obtain ⟨k,A3,c3,L,hk,rfl,rfl,hLL,hO,hX,hB⟩:=hrel;have HLL:=zH hLL;have O3:=zH hO;have X3:=zH hX;have B3:=zH hB;have l3:=hB.size;have hLk:L.length<=3 * k:=by
   have:=oJ (s.1.take k);rw [hLL,List.length_take] at this;omega
  clear hLL hO hX hB;obtain ⟨x0,x1,x2,_⟩:=X3.three;by_cases hlt:k < m
  ·obtain ⟨k1,hk1⟩:=aV (l:=s.1) (k:=k) (by rw [HL.out];exact hlt);have hk2:k1<=2:=(HY.out k k1 hk1).1;have hk3:=(gn k1).2.1;have HSN:=zH (show qy (s.1.take (k+1))=L++dH k1++[g1 7] by rw [uR hk1,HLL.out]);obtain ⟨b,off,rfl,hbl,hc⟩:=(HS.below B3.out).2.2 zO;have y0:=hc k _ (oI hk1);have kn:(k:Int) < (m:Int):=zO;have k0:(0:Int)<=(k:Int):=zO;clear hk1 hc;go_wp2_with fail;refine (Cs k1 _ hk2).mono ?_;rintro e w4 ⟨A4,c4,rfl,o4,b4⟩;have O4:=zH (ab O3 b4);have X4:=zH (X3.below b4);have B4:=zH (B3.trans (b4.mono l3));have P4:=zH (RdG.own o4);have l4:=B4.size;clear o4 b4 O3 X3 B3 x0 x1 x2 y0
   go_wp2_with (at_builtin;refine ah rfl (.tmp 19) (.tmp 25) 24 rfl Tryz.underlying24 ak hz4 zD rfl O4.out rfl P4.out.2 aQ zO zD l4 ?_;intro A5 c5 w5 o5 g5;have B5:=zH (ag B4.out l4 O4.out zR g5);have X5:=zH (az O4.out g5 X4.out zD);have O5:=zH o5;clear o5 g5)
   refine (eG _ _ _).mono ?_;rintro e w6 ⟨rfl,b6⟩;have l5:=B5.size;have O6:=zH ((ab O5 b6).alloc (.cells #[(7:Int),(0:Int),(0:Int),(0:Int)] 39));have X6:=zH ((X5.below b6).alloc (.cells #[(7:Int),(0:Int),(0:Int),(0:Int)] 39));have B6:=zH ((B5.trans (b6.mono l5)).alloc (Nat.le_trans l5 b6.size) (.cells #[(7:Int),(0:Int),(0:Int),(0:Int)] 39));have l6:=B6.size;clear b6 O4 P4 X4 B4 O5 X5 B5
   go_wp2_with (at_builtin;refine ah rfl (.tmp 26) (.tmp 28) 24 rfl Tryz.underlying24 ak hz4 zD rfl O6.out rfl (Rd.lit w6 39 #[(7:Int),(0:Int),(0:Int),(0:Int)] 1 4 rfl) zV zO zD l6 ?_;intro A7 c7 w7 o7 g7;have B7:=zH (ag B6.out l6 O6.out zR g7);have X7:=zH (az O6.out g7 X6.out zD);have O7:=zH o7;clear o7 g7)
   exact Ln
  ·obtain rfl:k=m:=zO;have HF:=zH (show qy s.1=L by rw [<- HLL.out,List.take_of_length_le (by rw [HL.out];exact zR)]);have hc4:=OKC.out.1;go_wp2_with fail;refine (Te d D s.2 _ (HT.below B3) HO).mono ?_;rintro e w4 ⟨A4,c4,rfl,o4,b4⟩;have O4:=zH (ab O3 b4);have B4:=zH (B3.trans (b4.mono l3));have P4:=zH (RdG.own o4);have l4:=B4.size;clear o4 b4 O3 X3 B3 x0 x1 x2
   go_wp2_with (at_builtin;refine ah rfl (.tmp 36) (.tmp 37) 24 rfl Tryz.underlying24 ak hz4 zD rfl O4.out rfl P4.out.2 aQ zO zD l4 ?_;intro A5 c5 w5 o5 g5;have B5:=zH (ag B4.out l4 O4.out zR g5);have O5:=zH o5;clear o5 g5)
   exact Lo
theorem Ga (m c d:Nat) (A D:Option Addr) (s:Nf) (w:World) (hs:RdI w A m (dp s.1)) (hm:m<=1073741824) (ht:RdG w D 2 (dP 1 s.2)) (hd:2<=d) (h1:ef s.1) (h2:ed 1 s.2) :
  Calls Tryz.prog 87 #[.agg #[.slice A m c,(1:Int),.slice D 2 d]] w (jl 39 4 (af (qP s)) (qP s).length w):=by
 have hz4:(Value.agg #[(0:Int),(0:Int),(0:Int),(0:Int)]).cells.size=4:=rfl;have HS:=zH hs;have HT:=zH ht;have HO:=zH h2;have HY:=zH h1;have HL:=zH (mF s hs);have OKC:=zH (tr h2);have X0:=zH (Bx.new w 100 #[.slice A m c,(1:Int),.slice D 2 d]);have B0:=zH (show Below w w (w.alloc (.cells #[.slice A m c,(1:Int),.slice D 2 d] 100)) from (zW).alloc zR _);clear hs ht h1 h2;obtain ⟨x0,x1,x2,_⟩:=X0.three;go_enter Tryz.func87,Tryz.ntmps87;go_wp2_with fail;refine (Lf m c d A D s _ (HS.below B0) hm (HT.below B0) hd HY HO).mono ?_;rintro e w2 ⟨rfl,b2⟩;have X2:=zH ((X0.below b2).alloc (.cells #[] 39));have B2:=zH ((B0.trans (b2.mono B0.size)).alloc (Nat.le_trans B0.size b2.size) (.cells #[] 39));have O2:=zH (World.ownsRow_lit (base:=w.heap.size) (e:=39) (size:=4) w2 #[] 0 (Nat.le_trans B0.size b2.size) zM rfl);clear b2 X0 B0 x0 x1 x2;obtain ⟨x0,x1,x2,_⟩:=X2.three;go_wp2_with fail
 go_loopg [3,15] m (fun g v3 i wr=>∃ (k:Nat) (A3:Option Addr) (c3:Nat) (L:List Gt),k+g=m/\i=.int .i64 (k:Nat)/\v3=.slice A3 L.length c3/\qy (s.1.take k)=L/\wr.ownsRow w 39 4 (.slice A3 L.length c3) L.length (af L)/\Bx wr w 100 #[.slice A m c,(1:Int),.slice D 2 d]/\Below w w wr)
 case atStart=>exact ⟨0,_,0,[],zO,rfl,rfl,rfl,O2.out,X2.out,B2.out⟩
 case round =>
  clear O2 X2 B2 x0 x1 x2;obtain ⟨k,A3,c3,L,hk,rfl,rfl,hLL,hO,hX,hB⟩:=hrel;have HLL:=zH hLL;have O3:=zH hO;have X3:=zH hX;have B3:=zH hB;have l3:=hB.size;have hLk:L.length<=3 * k:=by
   have:=oJ (s.1.take k);rw [hLL,List.length_take] at this;omega
  clear hLL hO hX hB;obtain ⟨x0,x1,x2,_⟩:=X3.three;by_cases hlt:k < m
  ·obtain ⟨k1,hk1⟩:=aV (l:=s.1) (k:=k) (by rw [HL.out];exact hlt);have hk2:k1<=2:=(HY.out k k1 hk1).1;have hk3:=(gn k1).2.1;have HSN:=zH (show qy (s.1.take (k+1))=L++dH k1++[g1 7] by rw [uR hk1,HLL.out]);obtain ⟨b,off,rfl,hbl,hc⟩:=(HS.below B3.out).2.2 zO;have y0:=hc k _ (oI hk1);have kn:(k:Int) < (m:Int):=zO;have k0:(0:Int)<=(k:Int):=zO;clear hk1 hc;go_wp2_with fail;refine (Ct k1 _ hk2).mono ?_;rintro e w4 ⟨A4,c4,rfl,o4,b4⟩;have O4:=zH (ab O3 b4);have X4:=zH (X3.below b4);have B4:=zH (B3.trans (b4.mono l3));have P4:=zH (RdG.own o4);have l4:=B4.size;clear o4 b4 O3 X3 B3 x0 x1 x2 y0
   go_wp2_with (at_builtin;refine ah rfl (.tmp 19) (.tmp 21) 24 rfl Tryz.underlying24 ak hz4 zD rfl O4.out rfl P4.out.2 aQ zO zD l4 ?_;intro A5 c5 w5 o5 g5;have B5:=zH (ag B4.out l4 O4.out zR g5);have X5:=zH (az O4.out g5 X4.out zD);have O5:=zH o5;clear o5 g5)
   refine (jo _ _ _).mono ?_;rintro e w6 ⟨rfl,b6⟩;have l5:=B5.size;have O6:=zH ((ab O5 b6).alloc (.cells #[(7:Int),(0:Int),(0:Int),(0:Int)] 39));have X6:=zH ((X5.below b6).alloc (.cells #[(7:Int),(0:Int),(0:Int),(0:Int)] 39));have B6:=zH ((B5.trans (b6.mono l5)).alloc (Nat.le_trans l5 b6.size) (.cells #[(7:Int),(0:Int),(0:Int),(0:Int)] 39));have l6:=B6.size;clear b6 O4 P4 X4 B4 O5 X5 B5
   go_wp2_with (at_builtin;refine ah rfl (.tmp 22) (.tmp 24) 24 rfl Tryz.underlying24 ak hz4 zD rfl O6.out rfl (Rd.lit w6 39 #[(7:Int),(0:Int),(0:Int),(0:Int)] 1 4 rfl) zV zO zD l6 ?_;intro A7 c7 w7 o7 g7;have B7:=zH (ag B6.out l6 O6.out zR g7);have X7:=zH (az O6.out g7 X6.out zD);have O7:=zH o7;clear o7 g7)
   exact Ln
  ·obtain rfl:k=m:=zO;have HF:=zH (show qy s.1=L by rw [<- HLL.out,List.take_of_length_le (by rw [HL.out];exact zR)]);have hc4:=OKC.out.1;go_wp2_with fail;refine (Cr d D s.2 _ (HT.below B3) HO).mono ?_;rintro e w4 ⟨A4,c4,rfl,o4,b4⟩;have O4:=zH (ab O3 b4);have B4:=zH (B3.trans (b4.mono l3));have P4:=zH (RdG.own o4);have l4:=B4.size;clear o4 b4 O3 X3 B3 x0 x1 x2
   go_wp2_with (at_builtin;refine ah rfl (.tmp 33) (.tmp 34) 24 rfl Tryz.underlying24 ak hz4 zD rfl O4.out rfl P4.out.2 aQ zO zD l4 ?_;intro A5 c5 w5 o5 g5;have B5:=zH (ag B4.out l4 O4.out zR g5);have O5:=zH o5;clear o5 g5)
   exact Lo
theorem tu {l:List Gt} {k:Nat} {g:Gt} (hd:l.drop k=g :: l.drop (k+1)):bn (l.drop k)=(if g.k=7\/g.k=8 then 100 else 1)+bn (l.drop (k+1)):=by rw [hd];rfl
theorem Gb {l:List Gt} {k:Nat} (h:l.length<=k):bn (l.drop k)=0:=by rw [List.drop_eq_nil_of_le h];rfl
theorem mf:∀ l:List Gt,l.length<=bn l/\bn l<=100 * l.length
 |[]=>⟨zR,zR⟩
 |g :: r=>by
  have:=mf r;rw [bn,List.length_cons];split<;>omega
theorem Lp {p:Prop} (h:p:=by
  go_wp2_with fail;go_roundg (gk - 1)
  case measure=>omega
  case rel =>
   have:=HX.out;rw [HC2.out] at this;exact ⟨k+1,x+100,zO,by go_num,by go_num,zO,zO,HB.out⟩):p:=h
theorem Lq {p:Prop} (h:p:=by
  go_wp2_with fail;go_ret;have:=HX.out;rw [Gb (by have:=H.out.1;omega)] at this;exact ⟨cR zO,hb⟩):p:=h
theorem uS (A:Option Addr) (n cap:Nat) (gs:List Gt) (w:World) (h:RdG w A n gs) (hn:n<=1099511627776) :
  Calls Tryz.prog 109 #[.slice A n cap] w fun e w'=>e=.returned (.int .i64 (bn gs:Nat))/\Below w w w':=by
 have H:=zH h;clear h;go_enter Tryz.func109,Tryz.ntmps109;go_wp2_with fail;go_loopg [3,4] n (fun m s i wr=>∃ (k:Nat) (x:Nat),k+m=n/\i=.int .i64 k/\s=.int .i64 x/\x<=100 * k/\x+bn (gs.drop k)=bn gs/\Below w w wr)
 case atStart=>exact ⟨0,0,zO,rfl,rfl,zO,zI,zW⟩
 case round =>
  obtain ⟨k,x,hk,rfl,rfl,h1,hx,hb⟩:=hrel;have HX:=zH hx;have HB:=zH hb;clear hx;by_cases hlt:k < n
  ·obtain ⟨b,off,g,rfl,hB,hd,c0,c1,c2,c3⟩:=(H.below hb).at_ hlt;have HC:=zH (tu hd);have kn:(k:Int) < (n:Int):=zO;clear hd hb;by_cases h7:g.k=7
   ·have h7':(g.k == 7)=true:=by simpa using h7
    have HC2:=zH (show bn (gs.drop k)=100+bn (gs.drop (k+1)) by rw [HC.out,if_pos (Or.inl h7)]);clear h7 HC;exact Lp
   ·have h7':(g.k == 7)=false:=by simpa using h7
    by_cases h8:g.k=8
    ·have h8':(g.k == 8)=true:=by simpa using h8
     have HC2:=zH (show bn (gs.drop k)=100+bn (gs.drop (k+1)) by rw [HC.out,if_pos (Or.inr h8)]);clear h7 h8 HC;exact Lp
    ·have h8':(g.k == 8)=false:=by simpa using h8
     have HC2:=zH (show bn (gs.drop k)=1+bn (gs.drop (k+1)) by rw [HC.out,if_neg zO]);clear h7 h8 HC;go_wp2_with fail;go_roundg (gk - 1)
     case measure=>omega
     case rel =>
      have:=HX.out;rw [HC2.out] at this;exact ⟨k+1,x+1,zO,by go_num,by go_num,zO,zO,HB.out⟩
  ·exact Lq
theorem Lr {p:Prop} (h:p:=by
  go_wp2_with fail;go_roundg (gk - 1)
  case measure=>omega
  case rel =>
   have:=HX.out;rw [HC2.out] at this;exact ⟨k+1,x+100,zO,by go_num,by go_num,zO,zO,(HB.alloc HB.size _)⟩):p:=h
theorem uT (A:Option Addr) (n cap:Nat) (gs:List Gt) (w:World) (h:RdG w A n gs) (hn:n<=1099511627776) :
  Calls Tryz.prog 88 #[.slice A n cap] w fun e w'=>e=.returned (.int .i64 (bn gs:Nat))/\Below w w w':=by
 have H:=zH h;clear h;go_enter Tryz.func88,Tryz.ntmps88;go_wp2_with fail;go_loopg [3,8] n (fun m s i wr=>∃ (k:Nat) (x:Nat),k+m=n/\i=.int .i64 k/\s=.int .i64 x/\x<=100 * k/\x+bn (gs.drop k)=bn gs/\Below w w wr)
 case atStart=>exact ⟨0,0,zO,rfl,rfl,zO,zI,zW⟩
 case round =>
  obtain ⟨k,x,hk,rfl,rfl,h1,hx,hb⟩:=hrel;have HX:=zH hx;have HB:=zH hb;clear hx;by_cases hlt:k < n
  ·obtain ⟨b,off,g,rfl,hB,hd,c0,c1,c2,c3⟩:=(H.below hb).at_ hlt;have HC:=zH (tu hd);have kn:(k:Int) < (n:Int):=zO;have GA:=(Bx.new wr 39 #[g.k,g.a,g.b,g.c]);obtain ⟨g0,g1',g2,g3,_⟩:=GA.four;clear hd hb;by_cases h7:g.k=7
   ·have h7':(g.k == 7)=true:=by simpa using h7
    have HC2:=zH (show bn (gs.drop k)=100+bn (gs.drop (k+1)) by rw [HC.out,if_pos (Or.inl h7)]);clear h7 HC;exact Lr
   ·have h7':(g.k == 7)=false:=by simpa using h7
    by_cases h8:g.k=8
    ·have h8':(g.k == 8)=true:=by simpa using h8
     have HC2:=zH (show bn (gs.drop k)=100+bn (gs.drop (k+1)) by rw [HC.out,if_pos (Or.inr h8)]);clear h7 h8 HC;exact Lr
    ·have h8':(g.k == 8)=false:=by simpa using h8
     have HC2:=zH (show bn (gs.drop k)=1+bn (gs.drop (k+1)) by rw [HC.out,if_neg zO]);clear h7 h8 HC;go_wp2_with fail;go_roundg (gk - 1)
     case measure=>omega
     case rel =>
      have:=HX.out;rw [HC2.out] at this;exact ⟨k+1,x+1,zO,by go_num,by go_num,zO,zO,(HB.alloc HB.size _)⟩
  ·exact Lq
end Go.Proofs.YtmenmibfkojnoaaGreat
