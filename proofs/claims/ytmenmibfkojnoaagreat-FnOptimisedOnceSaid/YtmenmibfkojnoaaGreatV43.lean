/- Contracts of IdentityNormalForm and ComputeNormalForm (spec and impl), for gates of the one qubit. Contract of ComputeNormalForm (spec), for gates of the one qubit. -/
import Derived.Test.YtmenmibfkojnoaaGreatV42
set_option maxHeartbeats 16000000
namespace Go.Proofs.YtmenmibfkojnoaaGreat
open Go.RowKit
set_option linter.unusedVariables false
theorem nfT_len (s:Nf):(nfT s).1.length<=s.1.length+1:=by
 unfold nfT
 split
 ·simp only [List.length_dropLast];omega
 ·simp only [List.length_append,List.length_cons,List.length_nil];omega
theorem nfG_len (s:Nf) (k:Int):(nfG s k).1.length<=s.1.length+1:=by
 unfold nfG
 split
 ·exact nfT_len s
 ·split
  ·exact nfT_len (s.1,_)
  ·exact Nat.le_succ _
theorem nfL_next {l:List Gt} {k:Nat} {g:Gt} {s S:Nf} (hg:l[k]? = some g) (h:nfL ((l.drop k).map Gt.k) s=S):nfL ((l.drop (k+1)).map Gt.k) (nfG s g.k)=S:=by
 obtain ⟨hk,e⟩:=List.getElem?_eq_some_iff.1 hg
 rw [drop_cons hk,e] at h
 exact h
theorem nfL_end {l:List Gt} {k:Nat} {s S:Nf} (hk:l.length<=k) (h:nfL ((l.drop k).map Gt.k) s=S):s=S:=by
 rw [List.drop_eq_nil_of_le hk] at h
 exact h
def NfB (R G:Nat) (A:Option Addr) (c:Nat) (D:Option Addr) (d:Nat) (s:Nf) (wx:World):Prop :=
 Bx wx G 100 #[.slice A s.1.length c,.int .i64 1,.slice D 2 d]/\wx.ownsRow R 3 1 (.slice A s.1.length c) s.1.length (cellsI (sylI s.1))/\wx.ownsRow R 151 4 (.slice D 2 d) 2 (cellsG (pgs 1 s.2))/\okSyl s.1/\okT 1 s.2
section
variable {R G c d:Nat} {A D:Option Addr} {s:Nf} {wx w':World}
theorem NfB.below (h:NfB R G A c D d s wx) (hb:Below wx.heap.size wx w'):NfB R G A c D d s w':=⟨h.1.below hb,ownsRow_below h.2.1 hb,ownsRow_below h.2.2.1 hb,h.2.2.2⟩
theorem NfB.alloc (h:NfB R G A c D d s wx) (o:Obj):NfB R G A c D d s (wx.alloc o):=h.below ((zW).alloc zR _)
theorem NfB.far (h:NfB R G A c D d s wx) {r t:Nat} {cs:Array Value} (hr:G ≠ r) (hB:Bx wx r t cs) (n1:3 ≠ t) (n2:151 ≠ t) (a b e:Value):NfB R G A c D d s (S3 wx r a b e) :=
 ⟨h.1.far3 hr a b e,own_S3x h.2.1 hB n1 a b e,own_S3x h.2.2.1 hB n2 a b e,h.2.2.2⟩
theorem NfB.put (h:NfB R G A c D d s wx) {r:Nat} {v0 v1 v2:Value} (hr:G ≠ r) (hB:Bx wx r 100 #[v0,v1,v2]):NfB R r A c D d s (S3 wx r (.slice A s.1.length c) (.int .i64 1) (.slice D 2 d)) :=
 ⟨hB.set3 _ _ _,own_S3x h.2.1 hB (by decide) _ _ _,own_S3x h.2.2.1 hB (by decide) _ _ _,h.2.2.2⟩
end
theorem mk_NfB {w w':World} {R:Nat} {A D:Option Addr} {c d:Nat} {s:Nf} (h1:w'.ownsRow R 3 1 (.slice A s.1.length c) s.1.length (cellsI (sylI s.1))) (h2:w'.ownsRow R 151 4 (.slice D 2 d) 2 (cellsG (pgs 1 s.2))) (h3:okSyl s.1) (h4:okT 1 s.2) :
  NfB R w'.heap.size A c D d s (w'.alloc (.cells #[.slice A s.1.length c,.int .i64 1,.slice D 2 d] 100)):=⟨Bx.new _ _ _,h1.alloc _,h2.alloc _,h3,h4⟩
set_option maxRecDepth 100000 in
theorem s_IdNf (w:World):Calls Tryz.prog 143 #[] w (RetNf ([],idT 1) w):=by
 have R0:=zH (Bx.new w 100 #[.slice none 0 0,.int .i64 0,.slice none 0 0])
 have B0:=zH (show Below w.heap.size w (w.alloc (.cells #[.slice none 0 0,.int .i64 0,.slice none 0 0] 100)) from (zW).alloc zR _)
 go_enter Tryz.func143,Tryz.ntmps143
 go_wp2_with fail
 refine (s_IdTab 1 _ (by omega)).mono ?_
 intro e w1 hret
 obtain ⟨A1,c1,rfl,o1,b1⟩:=RetT2.of hret
 clear hret
 have R1:=zH (R0.out.below b1)
 have B1:=zH (below_trans B0.out b1)
 have O1:=zH (ownsRow_base o1 B0.out.size)
 clear o1 b1 R0 B0
 obtain ⟨r0,r1,r2,r3,r4,r5⟩:=R1.out.three
 go_wp2_with fail
 refine ret_S3 (v:=.agg #[.slice none 0 0,.int .i64 1,.slice A1 2 c1]) R1.out ?_ rfl ?_
 ·intro wS z0 z1 z2;simp [results,Tryz.results143,go_sem,z0,z1,z2]
 exact ⟨none,0,A1,c1,rfl,World.ownsRow_nil _ _ _ _,own_S3x O1.out R1.out (by decide) _ _ _,belowS3 B1.out zR _ _ _⟩
set_option maxRecDepth 100000 in
theorem i_IdNf (w:World):Calls Tryz.prog 129 #[] w (RetNf ([],idT 1) w):=by
 have R0:=zH (Bx.new w 100 #[.slice none 0 0,.int .i64 0,.slice none 0 0])
 have B0:=zH (show Below w.heap.size w (w.alloc (.cells #[.slice none 0 0,.int .i64 0,.slice none 0 0] 100)) from (zW).alloc zR _)
 go_enter Tryz.func129,Tryz.ntmps129
 go_wp2_with fail
 refine (i_IdTab 1 _ (by omega)).mono ?_
 intro e w1 hret
 obtain ⟨A1,c1,rfl,o1,b1⟩:=RetT2.of hret
 clear hret
 have R1:=zH (R0.out.below b1)
 have B1:=zH (below_trans B0.out b1)
 have O1:=zH (ownsRow_base o1 B0.out.size)
 clear o1 b1 R0 B0
 obtain ⟨r0,r1,r2,r3,r4,r5⟩:=R1.out.three
 go_wp2_with fail
 refine ret_S3 (v:=.agg #[.slice none 0 0,.int .i64 1,.slice A1 2 c1]) R1.out ?_ rfl ?_
 ·intro wS z0 z1 z2;simp [results,Tryz.results129,go_sem,z0,z1,z2]
 exact ⟨none,0,A1,c1,rfl,World.ownsRow_nil _ _ _ _,own_S3x O1.out R1.out (by decide) _ _ _,belowS3 B1.out zR _ _ _⟩
set_option maxRecDepth 100000 in
theorem i_CompNf (m c:Nat) (A:Option Addr) (l:List Gt) (w:World) (hr:RdG w A m l) (hm:m<=1073741824) (hl:∀ g ∈ l,g=g1 g.k/\1<=g.k/\g.k<=8) :
  Calls Tryz.prog 86 #[.slice A m c] w (RetNfT (nfL (l.map Gt.k) ([],idT 1)) w):=by
 have HW:=zH hr
 have HL:=zH hl
 have HN:=zH hr.1
 have R0:=zH (Bx.new w 100 #[.slice none 0 0,.int .i64 0,.slice none 0 0])
 have B0:=zH (show Below w.heap.size w (w.alloc (.cells #[.slice none 0 0,.int .i64 0,.slice none 0 0] 100)) from (zW).alloc zR _)
 obtain ⟨S,hS⟩:∃ S,nfL (l.map Gt.k) ([],idT 1)=S:=⟨_,rfl⟩
 have HS0:=zH (show nfL ((l.drop 0).map Gt.k) ([],idT 1)=S from hS)
 rw [hS]
 clear hr hl hS
 go_enter Tryz.func86,Tryz.ntmps86
 go_wp2_with fail
 refine (i_IdNf _).mono ?_
 intro e w1 hret
 obtain ⟨A1,c1,D1,d1,rfl,o1,p1,b1⟩:=(show RetNf ([],idT 1) _ e w1 from hret)
 clear hret
 have N1:=zH (mk_NfB (w:=w) (s:=([],idT 1)) (ownsRow_base o1 B0.out.size) (ownsRow_base p1 B0.out.size) okSyl_nil idT1_ok)
 have R1:=zH ((R0.out.below b1).alloc (.cells #[.slice A1 ([]:List Nat).length c1,.int .i64 1,.slice D1 2 d1] 100))
 have B1:=zH ((below_trans B0.out b1).alloc (below_trans B0.out b1).size (.cells #[.slice A1 ([]:List Nat).length c1,.int .i64 1,.slice D1 2 d1] 100))
 have lG:w.heap.size < w1.heap.size:=(R0.out.below b1).lt
 clear o1 p1 b1 R0 B0
 obtain ⟨G,hG⟩:∃ G,G=w1.heap.size:=⟨_,rfl⟩
 go_wp2_with fail
 rw [<- hG] at N1 lG ⊢
 clear hG
 go_loopg [12] m (fun g i wr=>∃ (k:Nat) (A3:Option Addr) (c3:Nat) (D3:Option Addr) (d3:Nat) (s:Nf),k+g=m/\i=.int .i64 (k:Nat)/\NfB w.heap.size G A3 c3 D3 d3 s wr/\s.1.length<=k/\nfL ((l.drop k).map Gt.k) s=S/\Bx wr w.heap.size 100 #[.slice none 0 0,.int .i64 0,.slice none 0 0]/\Below w.heap.size w wr)
 case atStart=>exact ⟨0,A1,c1,D1,d1,([],idT 1),by omega,rfl,N1.out,zR,HS0.out,R1.out,B1.out⟩
 case round =>
  clear N1 R1 B1 HS0
  obtain ⟨k,A3,c3,D3,d3,s,hk,rfl,hN,hsk,hS,hR,hB⟩:=hrel
  have N3:=zH hN
  have HS3:=zH hS
  have R3:=zH hR
  have B3:=zH hB
  clear hN hS hR hB
  by_cases hlt:k < m
  ·obtain ⟨b,off,g,rfl,hbl,hd,c0,c1',c2,c3'⟩:=(HW.out.below B3.out).at_ hlt
   have hgk:l[k]? = some g:=by
    have hlk:k < l.length:=by rw [HN.out];exact hlt
    rw [drop_cons hlk] at hd
    injection hd with hd _
    rw [List.getElem?_eq_getElem hlk,hd]
   obtain ⟨hg1,hg2⟩:=HL.out g (List.mem_of_getElem? hgk)
   obtain ⟨kk,rfl⟩:∃ kk,g=g1 kk:=⟨_,hg1⟩
   have HGK:=zH hgk
   have HG2:=zH hg2
   have NX:=zH (nfL_next hgk HS3.out)
   have hc0:(g1 kk).k=kk:=rfl
   have hc1:(g1 kk).a=0:=rfl
   have hc2:(g1 kk).b=0:=rfl
   have hc3:(g1 kk).c=0:=rfl
   rw [hc0] at c0 NX HG2
   rw [hc1] at c1'
   rw [hc2] at c2
   rw [hc3] at c3'
   have NA:=zH (N3.out.alloc (.cells #[.int .i64 kk,.int .i64 0,.int .i64 0,.int .i64 0] 39))
   have GA:=zH (Bx.new wr 39 #[.int .i64 kk,.int .i64 0,.int .i64 0,.int .i64 0])
   have RA:=zH (R3.out.alloc (.cells #[.int .i64 kk,.int .i64 0,.int .i64 0,.int .i64 0] 39))
   have BA:=zH (B3.out.alloc B3.out.size (.cells #[.int .i64 kk,.int .i64 0,.int .i64 0,.int .i64 0] 39))
   have kn:(k:Int) < (m:Int):=by omega
   have lw:=B3.out.size
   clear hd hgk hg1 hg2 hc0 hc1 hc2 hc3 HS3 N3 R3 B3
   obtain ⟨n0,n1,n2,n3,n4,n5⟩:=NA.out.1.three
   obtain ⟨g0,g1',g2,g3,_⟩:=GA.out.four
   go_wp2_with fail
   refine (i_NfApp s.1.length c3 d3 A3 D3 s kk _ HG2.out (RdI.own NA.out.2.1) (by omega) (ownsRow_cap NA.out.2.1) (RdG.own NA.out.2.2.1) (ownsRow_cap NA.out.2.2.1) NA.out.2.2.2.1 NA.out.2.2.2.2).mono ?_
   intro e w4 hret
   obtain ⟨A4,c4,D4,d4,rfl,o4,p4,b4⟩:=(show RetNfT (nfG s kk) _ e w4 from hret)
   clear hret
   have HOK:=zH (nfG_ok HG2.out NA.out.2.2.2.1 NA.out.2.2.2.2)
   have hln:(nfG s kk).1.length<=k+1:=by have:=nfG_len s kk;omega
   obtain ⟨s',hs'⟩:∃ s',nfG s kk=s':=⟨_,rfl⟩
   rw [hs'] at o4 p4 NX HOK hln ⊢
   clear hs'
   have N4:=zH (mk_NfB (w:=w) (ownsRow_base o4 BA.out.size) (ownsRow_base p4 BA.out.size) HOK.out.1 HOK.out.2)
   have G4:=zH ((NA.out.1.below b4).alloc (.cells #[.slice A4 s'.1.length c4,.int .i64 1,.slice D4 2 d4] 100))
   have R4:=zH ((RA.out.below b4).alloc (.cells #[.slice A4 s'.1.length c4,.int .i64 1,.slice D4 2 d4] 100))
   have B4:=zH ((BA.out.trans (b4.mono BA.out.size)).alloc (Nat.le_trans BA.out.size b4.size) (.cells #[.slice A4 s'.1.length c4,.int .i64 1,.slice D4 2 d4] 100))
   have hGn:w4.heap.size ≠ G:=by have:=(NA.out.1.below b4).lt;omega
   have hGR:w.heap.size ≠ G:=by omega
   clear o4 p4 b4 NA GA RA BA n0 n1 n2 n3 n4 n5 g0 g1' g2 g3 c0 c1' c2 c3'
   obtain ⟨n0,n1,n2,n3,n4,n5⟩:=G4.out.three
   obtain ⟨y0,y1,y2,_⟩:=N4.out.1.three
   go_wp2_with fail
   go_roundg (gk - 1)
   case measure=>omega
   case rel =>
    exact ⟨k+1,A4,c4,D4,d4,s',by omega,by go_num,N4.out.put hGn G4.out,hln,NX.out,R4.out.far3 hGR _ _ _,belowS3 B4.out (by omega) _ _ _⟩
  ·obtain rfl:k=m:=by omega
   have HE:=zH (nfL_end (by rw [HN.out];exact zR) HS3.out)
   obtain ⟨n0,n1,n2,n3,n4,n5⟩:=N3.out.1.three
   obtain ⟨r0,r1,r2,r3,r4,r5⟩:=R3.out.three
   clear HS3
   go_wp2_with fail
   refine ret_S3 (v:=.tuple #[.agg #[.slice A3 s.1.length c3,.int .i64 1,.slice D3 2 d3],.bool true]) R3.out ?_ rfl ?_
   ·intro wS z0 z1 z2;simp [results,Tryz.results86,go_sem,z0,z1,z2]
   rw [<- HE.out]
   exact ⟨A3,c3,D3,d3,rfl,own_S3x N3.out.2.1 R3.out (by decide) _ _ _,own_S3x N3.out.2.2.1 R3.out (by decide) _ _ _,belowS3 B3.out zR _ _ _⟩
set_option maxRecDepth 100000 in
theorem s_CompNf (m c:Nat) (A:Option Addr) (l:List Gt) (w:World) (hr:RdG w A m l) (hm:m<=1073741824) (hl:∀ g ∈ l,g=g1 g.k/\1<=g.k/\g.k<=8) :
  Calls Tryz.prog 107 #[.slice A m c] w (RetNfT (nfL (l.map Gt.k) ([],idT 1)) w):=by
 have HW:=zH hr
 have HL:=zH hl
 have HN:=zH hr.1
 have R0:=zH (Bx.new w 100 #[.slice none 0 0,.int .i64 0,.slice none 0 0])
 have B0:=zH (show Below w.heap.size w (w.alloc (.cells #[.slice none 0 0,.int .i64 0,.slice none 0 0] 100)) from (zW).alloc zR _)
 obtain ⟨S,hS⟩:∃ S,nfL (l.map Gt.k) ([],idT 1)=S:=⟨_,rfl⟩
 have HS0:=zH (show nfL ((l.drop 0).map Gt.k) ([],idT 1)=S from hS)
 rw [hS]
 clear hr hl hS
 go_enter Tryz.func107,Tryz.ntmps107
 go_wp2_with fail
 refine (s_IdNf _).mono ?_
 intro e w1 hret
 obtain ⟨A1,c1,D1,d1,rfl,o1,p1,b1⟩:=(show RetNf ([],idT 1) _ e w1 from hret)
 clear hret
 have N1:=zH (mk_NfB (w:=w) (s:=([],idT 1)) (ownsRow_base o1 B0.out.size) (ownsRow_base p1 B0.out.size) okSyl_nil idT1_ok)
 have R1:=zH ((R0.out.below b1).alloc (.cells #[.slice A1 ([]:List Nat).length c1,.int .i64 1,.slice D1 2 d1] 100))
 have B1:=zH ((below_trans B0.out b1).alloc (below_trans B0.out b1).size (.cells #[.slice A1 ([]:List Nat).length c1,.int .i64 1,.slice D1 2 d1] 100))
 have lG:w.heap.size < w1.heap.size:=(R0.out.below b1).lt
 clear o1 p1 b1 R0 B0
 obtain ⟨G,hG⟩:∃ G,G=w1.heap.size:=⟨_,rfl⟩
 go_wp2_with fail
 rw [<- hG] at N1 lG ⊢
 clear hG
 go_loopg [5] m (fun g i wr=>∃ (k:Nat) (A3:Option Addr) (c3:Nat) (D3:Option Addr) (d3:Nat) (s:Nf),k+g=m/\i=.int .i64 (k:Nat)/\NfB w.heap.size G A3 c3 D3 d3 s wr/\s.1.length<=k/\nfL ((l.drop k).map Gt.k) s=S/\Bx wr w.heap.size 100 #[.slice none 0 0,.int .i64 0,.slice none 0 0]/\Below w.heap.size w wr)
 case atStart=>exact ⟨0,A1,c1,D1,d1,([],idT 1),by omega,rfl,N1.out,zR,HS0.out,R1.out,B1.out⟩
 case round =>
  clear N1 R1 B1 HS0
  obtain ⟨k,A3,c3,D3,d3,s,hk,rfl,hN,hsk,hS,hR,hB⟩:=hrel
  have N3:=zH hN
  have HS3:=zH hS
  have R3:=zH hR
  have B3:=zH hB
  clear hN hS hR hB
  by_cases hlt:k < m
  ·obtain ⟨b,off,g,rfl,hbl,hd,c0,c1',c2,c3'⟩:=(HW.out.below B3.out).at_ hlt
   have hgk:l[k]? = some g:=by
    have hlk:k < l.length:=by rw [HN.out];exact hlt
    rw [drop_cons hlk] at hd
    injection hd with hd _
    rw [List.getElem?_eq_getElem hlk,hd]
   obtain ⟨hg1,hg2⟩:=HL.out g (List.mem_of_getElem? hgk)
   obtain ⟨kk,rfl⟩:∃ kk,g=g1 kk:=⟨_,hg1⟩
   have HGK:=zH hgk
   have HG2:=zH hg2
   have NX:=zH (nfL_next hgk HS3.out)
   have hc0:(g1 kk).k=kk:=rfl
   have hc1:(g1 kk).a=0:=rfl
   have hc2:(g1 kk).b=0:=rfl
   have hc3:(g1 kk).c=0:=rfl
   rw [hc0] at c0 NX HG2
   rw [hc1] at c1'
   rw [hc2] at c2
   rw [hc3] at c3'
   have kn:(k:Int) < (m:Int):=by omega
   have lw:=B3.out.size
   have HOK:=zH (nfG_ok HG2.out N3.out.2.2.2.1 N3.out.2.2.2.2)
   have hln:(nfG s kk).1.length<=k+1:=by have:=nfG_len s kk;omega
   obtain ⟨s',hs'⟩:∃ s',nfG s kk=s':=⟨_,rfl⟩
   rw [hs'] at NX HOK hln
   have HSG:=zH hs'
   clear hd hgk hg1 hg2 hc0 hc1 hc2 hc3 HS3 hs'
   go_upto_region 5 with fail
   go_cut [6,7] (fun s6 s7 wx=>∃ P A4 c4 D4 d4,s6=.pointer (some ⟨P,0,none⟩)/\s7=.bool true/\P ≠ G/\NfB w.heap.size P A4 c4 D4 d4 s' wx/\Below wr.heap.size wr wx)
   case first =>
    have TK:=fun (w5:World) (b5:Below wr.heap.size wr w5)=>(⟨(N3.out.1.below b5).cell 0,(N3.out.1.below b5).cell 1,(N3.out.1.below b5).cell 2,⟨(b5.cell (p:=⟨b,off+k * 4,none⟩) hbl).trans c0,(b5.cell (p:=⟨b,off+k * 4+1,none⟩) hbl).trans c1',(b5.cell (p:=⟨b,off+k * 4+2,none⟩) hbl).trans c2,(b5.cell (p:=⟨b,off+k * 4+3,none⟩) hbl).trans c3'⟩⟩:w5.cell? ⟨G,0,none⟩=some (.slice A3 s.1.length c3)/\w5.cell? ⟨G,1,none⟩=some (.int .i64 1)/\w5.cell? ⟨G,2,none⟩=some (.slice D3 2 d3)/\(w5.cell? ⟨b,off+k * 4,none⟩=some (.int .i64 kk)/\w5.cell? ⟨b,off+k * 4+1,none⟩=some (.int .i64 0)/\w5.cell? ⟨b,off+k * 4+2,none⟩=some (.int .i64 0)/\w5.cell? ⟨b,off+k * 4+3,none⟩=some (.int .i64 0)))
    have BA:=(Below.refl wr.heap.size wr).alloc zR (.cells #[.slice none 0 0,.int .i64 0,.slice none 0 0] 100)
    have lGr:G < wr.heap.size:=N3.out.1.lt
    have K3:=fun (w5:World) (b5:Below wr.heap.size wr w5)=>N3.out.below b5
    go_region_held3 (fun w'=>w'.cell? ⟨G,0,none⟩=some (.slice A3 s.1.length c3)/\w'.cell? ⟨G,1,none⟩=some (.int .i64 1)/\w'.cell? ⟨G,2,none⟩=some (.slice D3 2 d3)/\(w'.cell? ⟨b,off+k * 4,none⟩=some (.int .i64 kk)/\w'.cell? ⟨b,off+k * 4+1,none⟩=some (.int .i64 0)/\w'.cell? ⟨b,off+k * 4+2,none⟩=some (.int .i64 0)/\w'.cell? ⟨b,off+k * 4+3,none⟩=some (.int .i64 0)))
     (first
      |with_reducible exact TK _ (Below.refl wr.heap.size wr).drew
      |with_reducible exact TK _ BA.drew
      |with_reducible exact TK _ BA
      |with_reducible exact TK _ b5
      |with_reducible exact TK _ (b5.alloc b5.size _)
      |with_reducible exact TK _ (b5.alloc b5.size _).drew
      |with_reducible exact TK _ b5.drew
      |with_reducible exact TK _ (belowS3 b5 zR _ _ _)
      |with_reducible exact TK _ (belowS3 b5 zR _ _ _).drew)
     (first
      |(go_at_call 144;refine (s_NfApp s.1.length c3 d3 A3 D3 s kk _ HG2.out (by first | exact RdI.own (K3 _ (Below.refl wr.heap.size wr).drew).2.1 | exact RdI.own (K3 _ BA.drew).2.1 | exact RdI.own (K3 _ BA).2.1) (by omega) (ownsRow_cap N3.out.2.1) (by first | exact RdG.own (K3 _ (Below.refl wr.heap.size wr).drew).2.2.1 | exact RdG.own (K3 _ BA.drew).2.2.1 | exact RdG.own (K3 _ BA).2.2.1) (ownsRow_cap N3.out.2.2.1) N3.out.2.2.2.1 N3.out.2.2.2.2).mono ?_;rw [HSG.out];intro e w4 hret;obtain ⟨A4,c4,D4,d4,rfl,o4,p4,b4⟩:=(show RetNfT s' _ e w4 from hret);clear hret;have b5:Below wr.heap.size wr w4:=(by first | with_reducible exact below_trans (Below.refl wr.heap.size wr).drew b4 | with_reducible exact below_trans BA.drew b4 | with_reducible exact below_trans BA b4);(first | (have PB:Bx w4 wr.heap.size 100 #[.slice none 0 0,.int .i64 0,.slice none 0 0]:=(by first | with_reducible exact (Bx.drew (Bx.new wr _ _)).below b4 | with_reducible exact (Bx.new wr _ _).below b4);obtain ⟨q0,q1,q2,q3,q4,q5⟩:=PB.three) | skip))
      |fail)
    all_goals go_wp2_with fail
    all_goals go_meet
    all_goals first
     |exact ⟨_,A4,c4,D4,d4,rfl,rfl,by have:=b5.size;omega,mk_NfB (w:=w) (ownsRow_base o4 (by have:=lw;simp;omega)) (ownsRow_base p4 (by have:=lw;simp;omega)) HOK.out.1 HOK.out.2,by with_reducible exact b5.alloc b5.size _⟩
     |exact ⟨_,A4,c4,D4,d4,rfl,rfl,by omega,⟨PB.set3 _ _ _,own_S3x (ownsRow_base o4 (by have:=lw;simp;omega)) PB (by decide) _ _ _,own_S3x (ownsRow_base p4 (by have:=lw;simp;omega)) PB (by decide) _ _ _,HOK.out.1,HOK.out.2⟩,by with_reducible exact belowS3 b5 zR _ _ _⟩
   case rest =>
    obtain ⟨P,A4,c4,D4,d4,rfl,rfl,hPG,hN,hB5⟩:=hcut
    have N4:=zH hN
    have G4:=zH (N3.out.1.below hB5)
    have R4:=zH (R3.out.below hB5)
    have B4:=zH (B3.out.trans (hB5.mono lw))
    have hGR:w.heap.size ≠ G:=by omega
    clear hN hB5 N3 R3 B3 c0 c1' c2 c3'
    obtain ⟨n0,n1,n2,n3,n4,n5⟩:=G4.out.three
    obtain ⟨y0,y1,y2,_⟩:=N4.out.1.three
    go_wp2_with fail
    go_roundg (gk - 1)
    case measure=>omega
    case rel =>
     exact ⟨k+1,A4,c4,D4,d4,s',by omega,by go_num,N4.out.put hPG G4.out,hln,NX.out,R4.out.far3 hGR _ _ _,belowS3 B4.out (by omega) _ _ _⟩
  ·obtain rfl:k=m:=by omega
   have HE:=zH (nfL_end (by rw [HN.out];exact zR) HS3.out)
   obtain ⟨n0,n1,n2,n3,n4,n5⟩:=N3.out.1.three
   obtain ⟨r0,r1,r2,r3,r4,r5⟩:=R3.out.three
   clear HS3
   go_wp2_with fail
   refine ret_S3 (v:=.tuple #[.agg #[.slice A3 s.1.length c3,.int .i64 1,.slice D3 2 d3],.bool true]) R3.out ?_ rfl ?_
   ·intro wS z0 z1 z2;simp [results,Tryz.results107,go_sem,z0,z1,z2]
   rw [<- HE.out]
   exact ⟨A3,c3,D3,d3,rfl,own_S3x N3.out.2.1 R3.out (by decide) _ _ _,own_S3x N3.out.2.2.1 R3.out (by decide) _ _ _,belowS3 B3.out zR _ _ _⟩
end Go.Proofs.YtmenmibfkojnoaaGreat
