/- Contract of CliffordWord (spec), for val. -/
import Derived.Test.YtmenmibfkojnoaaGreatY39
set_option maxHeartbeats 16000000
set_option maxRecDepth 100000
namespace Go.Proofs.YtmenmibfkojnoaaGreat
open Go.RowKit
set_option linter.unusedVariables false
theorem KM {r:List Pq} {i j:Nat} (hok:ed 1 r) (hi:i<=24) (hj:(dw i).2[j]? = some r):(dw i).1[j]? = some (cw r):=by
 obtain ⟨K,hK,hKW,hKT⟩:=Ed hok;obtain ⟨b1,b2,b3,b4,_⟩:=px hi;have hlt:=(List.getElem?_eq_some_iff.1 hj).1;rw [b3,List.getElem?_take] at hj;rw [if_pos hlt] at hj;have hjK:j=K:=(hKT j zO).1 (by rw [List.getD_eq_getElem?_getD,hj];rfl);rw [b2,List.getElem?_take,if_pos zO,hjK];exact hKW
theorem Te (c:Nat) (A:Option Addr) (r:List Pq) (w:World) (hr:RdG w A 2 (dP 1 r)) (hok:ed 1 r) :
  Calls Tryz.prog 147 #[.agg #[(1:Int),.slice A 2 c]] w (RetGT (cw r) w):=by
 have HR:=zH hr;have HOK:=zH hok;have hz4:(Value.agg #[(0:Int),(0:Int),(0:Int),(0:Int)]).cells.size=4:=rfl;have X0:=zH (Bx.new w 73 #[(1:Int),.slice A 2 c]);have B0:=zH (show Below w w (w.alloc (.cells #[(1:Int),.slice A 2 c] 73)) from (zW).alloc zR _);clear hr hok;go_enter Tryz.func147,Tryz.ntmps147;go_wp2_with fail;refine (my 1 2 c A r _ zO (HR.below B0) HOK).mono ?_;rintro e w1 ⟨rfl,b1⟩;have X1:=zH (X0.below b1);have B1:=zH (aa B0 b1);clear b1 X0 B0;obtain ⟨x0,x1,_⟩:=X1.two;go_wp2_with fail;refine (Vt c A r _ (HR.below B1) HOK).mono ?_;rintro e w2 ⟨i,m,A1,c1,A2,c2,rfl,hi,hmem,hW,hT,b2⟩;obtain ⟨j,hj,hj2⟩:=mE _ 0 hmem;rw [Nat.zero_add] at hj;have HJ:=zH hj;have HJW:=zH (KM HOK hi hj2);have hm24:m<=24:=by have:=(px hi).2.2.2.1;have:=hT.1;omega
 have hjm:j < m:=by have:=(List.getElem?_eq_some_iff.1 hj2).1;have:=hT.1;omega
 have W2:=zH hW;have T2:=zH hT;have X2:=zH (X1.below b2);have B2:=zH (aa B1 b2);have lb:=B1.size;clear hW hT b2 hj hj2 hmem X1 B1 x0 x1;obtain ⟨x0,x1,_⟩:=X2.two;go_wp2_with fail;refine (th w1.heap.size m c2 c A2 A (dw i).2 r _ T2 zO (HR.below B2)).mono ?_;rintro e w3 ⟨rfl,b3⟩;rw [HJ.out];obtain ⟨b,off,D,d,rfl,hbl,y0,o0⟩:=(W2.below b3).at_ HJW.out;have B3:=zH (aa B2 b3);have O3:=zH o0;have hc4:(cw r).length<=4:=by
  obtain ⟨K,hK,hKW,_⟩:=Ed HOK.out;exact (ij (List.mem_of_getElem? hKW)).1
 have jmI:(j:Int) < (m:Int):=zO;have y1:=(((Below.refl w3 w3).alloc zR (.cells #[] 39)).cell (p:=⟨b,off+j,none⟩) hbl).trans y0;clear o0 b3 X2 B2 T2 W2 x0 x1
 go_wp2_with (at_builtin;refine dN rfl (.tmp 27) (.tmp 31) 24 rfl Tryz.underlying24 ak hz4 (base:=w3.heap.size) rfl (Bx.new' zI) zR rfl ((Rd.own O3.out).alloc _) zO zD ?_;intro A4 c4 w4 o4 b4)
 go_ret2;exact ⟨A4,c4,rfl,ae o4 B3.size,aa (B3.alloc B3.size _) b4⟩
theorem FZ {ra rb:List Pq} {k:Nat} {a:Pq} (hk:k < 2) (h:ra[k]? = some a):(bP ra rb)[k]? = some (nY 1 rb a):=by
 unfold bP;rw [List.getElem?_map,List.getElem?_range hk];simp [List.getD_eq_getElem?_getD,h]
theorem tl (ra rb:List Pq):(bP ra rb).length=2:=rfl
def MB1 (w:World) (O k:Nat) (A0:Option Addr) (c0:Nat) (rs:List Pq) (wx:World):Prop :=
 Bx wx O 73 #[(1:Int),.slice A0 k c0]/\wx.ownsRow (O+1) 151 4 (.slice A0 k c0) k (af (dP 1 rs))/\Below w w wx/\w.heap.size<=O/\O < wx.heap.size
section
variable {w wx w':World} {O k c0:Nat} {A0:Option Addr} {rs:List Pq}
theorem MB1.to (h:MB1 w O k A0 c0 rs wx):MB w 1 O k A0 c0 rs wx:=h
theorem MB1.of (h:MB w 1 O k A0 c0 rs wx):MB1 w O k A0 c0 rs wx:=h
theorem MB1.below (h:MB1 w O k A0 c0 rs wx) (hb:Below wx wx w'):MB1 w O k A0 c0 rs w':=MB1.of (h.to.below hb)
theorem MB1.alloc (h:MB1 w O k A0 c0 rs wx) (o:Obj):MB1 w O k A0 c0 rs (wx.alloc o):=MB1.of (h.to.alloc o)
theorem MB1.drew (h:MB1 w O k A0 c0 rs wx):MB1 w O k A0 c0 rs wx.drew:=MB1.of h.to.drew
end
theorem zu (c d:Nat) (A B:Option Addr) (ra rb:List Pq) (w:World) (hra:RdG w A 2 (dP 1 ra)) (hrb:RdG w B 2 (dP 1 rb)) (hd:2<=d) (ha:ed 1 ra) (hb:ed 1 rb) :
  Calls Tryz.prog 209 #[.agg #[(1:Int),.slice A 2 c],.agg #[(1:Int),.slice B 2 d]] w (RetT2 (bP ra rb) w):=by
 obtain ⟨b,off,rfl⟩:=hra.first zO;have HA:=zH hra;have HB:=zH hrb;have HOA:=zH ha;have HOB:=zH hb;have HL:=zH (show ra.length=2 from ha.1);have T0:=zH (show Bx (((w.alloc (.cells #[(1:Int),.slice (some ⟨b,off,none⟩) 2 c] 73)).alloc (.cells #[(1:Int),.slice B 2 d] 73)).alloc ZO.zT) w.heap.size 73 _ from ((Bx.new w _ _).alloc _).alloc _);have U0:=zH (show Bx (((w.alloc (.cells #[(1:Int),.slice (some ⟨b,off,none⟩) 2 c] 73)).alloc (.cells #[(1:Int),.slice B 2 d] 73)).alloc ZO.zT) (w.heap.size+1) 73 _ from (Bx.new' zI).alloc _);have R0:=zH (show Bx (((w.alloc (.cells #[(1:Int),.slice (some ⟨b,off,none⟩) 2 c] 73)).alloc (.cells #[(1:Int),.slice B 2 d] 73)).alloc ZO.zT) (w.heap.size+1+1) 73 #[(0:Int),.slice none 0 0] from Bx.new' zI)
 have B0:=zH (show Below w w (((w.alloc (.cells #[(1:Int),.slice (some ⟨b,off,none⟩) 2 c] 73)).alloc (.cells #[(1:Int),.slice B 2 d] 73)).alloc ZO.zT) from (((zW).alloc zR _).alloc zI _).alloc zS _);clear hra hrb ha hb;go_enter Tryz.func209,Tryz.ntmps209;go_upto_region 1 with fail
 generalize ((w.alloc (.cells #[(1:Int),.slice (some ⟨b,off,none⟩) 2 c] 73)).alloc (.cells #[(1:Int),.slice B 2 d] 73)).alloc ZO.zT=w1 at T0 U0 R0 B0 ⊢;have T1:=zH (T0.alloc (.cells #[(1:Int),.slice none 0 0] 73));have U1:=zH (U0.alloc (.cells #[(1:Int),.slice none 0 0] 73));have R1:=zH (R0.alloc (.cells #[(1:Int),.slice none 0 0] 73));have hO:w.heap.size+1+1 < w1.heap.size:=R0.lt;have M1:=zH (show MB1 w w1.heap.size 0 none 0 [] (w1.alloc (.cells #[(1:Int),.slice none 0 0] 73)) from ⟨Bx.new _ _ _,World.ownsRow_nil _ _ _ _,B0.alloc B0.size _,zO,zI⟩);clear T0 U0 R0 B0;obtain ⟨O,hO2⟩:∃ O,O=w1.heap.size:=⟨_,rfl⟩;go_wp2_with fail;rw [<- hO2] at M1 hO ⊢;clear hO2
 go_loopg [6] 2 (fun q i wr=>∃ (k:Nat) (A0:Option Addr) (c0:Nat),k+q=2/\i=.int .i64 k/\Bx wr w 73 #[(1:Int),.slice (some ⟨b,off,none⟩) 2 c]/\Bx wr (w.heap.size+1) 73 #[(1:Int),.slice B 2 d]/\Bx wr (w.heap.size+1+1) 73 #[(0:Int),.slice none 0 0]/\MB1 w O k A0 c0 ((bP ra rb).take k) wr)
 case atStart=>exact ⟨0,none,0,zO,rfl,T1.out,U1.out,R1.out,M1.out⟩
 case round =>
  clear T1 U1 R1 M1;obtain ⟨k,A0,c0,hk,rfl,hT,hU,hRr,hM⟩:=hrel;by_cases hlt:k < 2
  ·obtain ⟨a,hak⟩:=aV (l:=ra) (k:=k) (by rw [HL.out];exact hlt);have OK:=zH (io HOA.out hak).1;have HS:=zH (show (bP ra rb).take (k+1)=(bP ra rb).take k++[nY 1 rb a] from db (FZ hlt hak));obtain ⟨v,hv⟩:∃ v,nY 1 rb a=v:=⟨_,rfl⟩;rw [hv] at HS;have HD:=zH hv;have HAK:=zH hak;have k2I:(k:Int) < 2:=zO;have TK:=fun (w5:World) (b5:Below wr wr w5)=>(⟨(hT.below b5).cell 1,⟨(hU.below b5).cell 0,(hU.below b5).cell 1⟩,((HA.below (hM.below b5).2.2.1).cellsAt (aE HAK.out)).2⟩:w5.cell? ⟨w,1,none⟩=some (.slice (some ⟨b,off,none⟩) 2 c)/\(w5.cell? ⟨w.heap.size+1,0,none⟩=some (.int .i64 1)/\w5.cell? ⟨w.heap.size+1,1,none⟩=some (.slice B 2 d))/\(w5.cell? ⟨b,off+k * 4,none⟩=some (.int .i64 1)/\w5.cell? ⟨b,off+k * 4+1,none⟩=some (.int .i64 (a.x:Nat))/\w5.cell? ⟨b,off+k * 4+2,none⟩=some (.int .i64 (a.z:Nat))/\w5.cell? ⟨b,off+k * 4+3,none⟩=some (.int .i64 (a.p:Nat))))
   have BA:=(Below.refl wr wr).alloc zR ZO.zQ;have BR:=fun (w5:World) (b5:Below wr wr w5)=>HB.below (hM.below b5).2.2.1
   have T3:=zH (fun (w5:World) (b5:Below wr wr w5)=>hT.below b5);have U3:=zH (fun (w5:World) (b5:Below wr wr w5)=>hU.below b5);have R3:=zH (fun (w5:World) (b5:Below wr wr w5)=>hRr.below b5);have M3:=zH (fun (w5:World) (b5:Below wr wr w5)=>hM.below b5);clear hv hak hT hU hRr hM;go_upto_region 5 with fail
   go_cut [7] (fun s7 wx=>∃ P,s7=.pointer (some ⟨P,0,none⟩)/\Bx wx P 151 #[(1:Int),v.x,v.z,v.p]/\Below wr wr wx)
   case first =>
    have TK0:=TK _ (Below.refl wr wr).drew
    go_region_held3 (fun w'=>w'.cell? ⟨w,1,none⟩=some (.slice (some ⟨b,off,none⟩) 2 c)/\(w'.cell? ⟨w.heap.size+1,0,none⟩=some (.int .i64 1)/\w'.cell? ⟨w.heap.size+1,1,none⟩=some (.slice B 2 d))/\(w'.cell? ⟨b,off+k * 4,none⟩=some (.int .i64 1)/\w'.cell? ⟨b,off+k * 4+1,none⟩=some (.int .i64 (a.x:Nat))/\w'.cell? ⟨b,off+k * 4+2,none⟩=some (.int .i64 (a.z:Nat))/\w'.cell? ⟨b,off+k * 4+3,none⟩=some (.int .i64 (a.p:Nat))))
     (first
      |with_reducible exact TK0
      |with_reducible exact TK _ BA.drew
      |with_reducible exact TK _ b5
      |with_reducible exact TK _ b5.drew
      |with_reducible exact TK _ (b5.alloc b5.size _)
      |with_reducible exact TK _ (b5.alloc b5.size _).drew
      |with_reducible exact TK _ (cI b5 zR _ _ _ _)
      |with_reducible exact TK _ (cI b5 zR _ _ _ _).drew
      |go_keep)
     (first
      |(go_at_call 215;refine (RM 1 2 d B rb a v _ zO (by first | exact BR _ (Below.refl wr wr).drew | exact BR _ BA.drew | exact BR _ BA) hd HOB.out OK.out HD.out).mono ?_;rintro e w5 ⟨rfl,b50⟩;have b5:Below wr wr w5:=(by first | with_reducible exact aa (Below.refl wr wr).drew b50 | with_reducible exact aa BA.drew b50 | with_reducible exact aa BA b50);(first | (have PB:Bx w5 wr 151 #[(0:Int),(0:Int),(0:Int),(0:Int)]:=(by first | with_reducible exact (Bx.drew (Bx.new wr _ _)).below b50 | with_reducible exact (Bx.new wr _ _).below b50);obtain ⟨q0,q1,q2,q3,q4,q5,q6,q7⟩:=PB.four) | skip))
      |fail)
    all_goals go_wp2_with fail
    all_goals go_meet
    all_goals first
     |exact ⟨_,rfl,by with_reducible exact PB.set4 _ _ _ _,by with_reducible exact cI b5 zR _ _ _ _⟩
     |exact ⟨_,rfl,by with_reducible exact Bx.new _ _ _,by with_reducible exact b5.alloc b5.size _⟩
   case rest =>
    obtain ⟨P,rfl,hP,hB5⟩:=hcut;have TT:=zH ((T3 _ hB5).alloc (.cells #[(1:Int),v.x,v.z,v.p] 151));have UU:=zH ((U3 _ hB5).alloc (.cells #[(1:Int),v.x,v.z,v.p] 151));have RR:=zH ((R3 _ hB5).alloc (.cells #[(1:Int),v.x,v.z,v.p] 151));have MM:=zH ((M3 _ hB5).alloc (.cells #[(1:Int),v.x,v.z,v.p] 151));have OV:=zH MM.out.2.1;have m1:=(M3.out _ hB5).1.cell 1;have hO5:O < wc.heap.size:=(M3.out _ hB5).2.2.2.2;obtain ⟨p0,p1,p2,p3,_⟩:=hP.four;clear TK BA BR T3 U3 R3 M3 hP hB5
    go_wp2_with (at_builtin;refine ah rfl (.tmp 25) (.tmp 27) 71 rfl Tryz.underlying71 fc rfl zD rfl OV.out rfl (Rd.lit _ 151 #[(1:Int),v.x,v.z,v.p] 1 4 rfl) zV zO zD zS ?_;intro A5 c5 w5' o5 g5;have Y5:=(MM.to.grown g5).two;obtain ⟨e0,e1,e2,e3⟩:=Y5)
    go_roundg (gk - 1)
    all_goals first
     |omega
     |exact ⟨k+1,A5,c5,zO,by go_num,MM.to.keeps g5 TT.out zO,MM.to.keeps g5 UU.out zO,MM.to.keeps g5 RR.out zO,by rw [HS.out];exact MB1.of (MM.to.push g5 o5)⟩
  ·obtain rfl:k=2:=zO;obtain ⟨e0,e1,_⟩:=hM.1.two;obtain ⟨r0,r1,r2,r3⟩:=hRr.two;have hrs:(bP ra rb).take 2=bP ra rb:=rfl;rw [hrs] at hM;have MM:=zH hM;have RR:=zH hRr;clear hM hrs hRr;go_wp2_with fail;have RB:=RR.out
   with_reducible refine eD (v:=.agg #[(1:Int),.slice A0 2 c0]) RB ?_ ?_ ⟨A0,c0,rfl,?_,?_⟩
   ·intro wS z0 z1;simp [results,Tryz.results209,go_sem,z0,z1]
   ·rfl
   ·exact ae (yz MM.out.2.1 zO _ _) zO
   ·exact ay MM.out.2.2.1 zO _ _
def dp (s:List Nat):List Int:=s.map fun (k:Nat)=>(k:Int)
theorem jc (s:List Nat):(dp s).length=s.length:=by unfold dp;simp
abbrev jd (s:Nf) (w:World) (e:Ending) (w':World):Prop :=
 ∃ A c D d,e=.returned (.agg #[.slice A s.1.length c,(1:Int),.slice D 2 d])/\w'.ownsRow w 3 1 (.slice A s.1.length c) s.1.length (aB (dp s.1))/\w'.ownsRow w 151 4 (.slice D 2 d) 2 (af (dP 1 s.2))/\Below w w w'
theorem tO {w':World} {g t:Nat} {a b c:Value} (h:Bx w' g t #[a,b,c]):w'.cell? ⟨g,0,none⟩=some a/\w'.cell? ⟨g,1,none⟩=some b/\w'.cell? ⟨g,2,none⟩=some c:=⟨h.cell 0,h.cell 1,h.cell 2⟩
abbrev S3 (wx:World) (r:Nat) (u0 u1 u2:Value):World:=((wx.setCell ⟨r,0,none⟩ u0).setCell ⟨r,1,none⟩ u1).setCell ⟨r,2,none⟩ u2
theorem Bx.far3 {wx:World} {g r t:Nat} {cs:Array Value} (h:Bx wx g t cs) (hr:g ≠ r) (u0 u1 u2:Value):Bx (S3 wx r u0 u1 u2) g t cs:=((h.far hr u0).far hr u1).far hr u2
theorem fG {w':World} {base g1:Nat} {e:TypeId} {sz n:Nat} {v:Value} {xs:List Value} {a b c:Value} (h:w'.ownsRow base e sz v n xs) (hg:g1 < base):(S3 w' g1 a b c).ownsRow base e sz v n xs:=fY (fY (fY h (p:=⟨g1,0,none⟩) hg a) (p:=⟨g1,1,none⟩) hg b) (p:=⟨g1,2,none⟩) hg c
theorem dR {w wx:World} {r B:Nat} (h:Below B w wx) (hr:B<=r) (u0 u1 u2:Value):Below B w (S3 wx r u0 u1 u2):=((h.setCell hr _).setCell hr _).setCell hr _
theorem KN {p:Prop} (h:p:=by
  first
   |exact ae (fG p5 hg1w) hbw
   |exact ae (fG o5 hg1w) hbw
   |exact ae (fG o5 (Nat.lt_of_lt_of_le hg1w z3.size)) (Nat.le_trans hbw z3.size)
   |exact ae (fG p5 zJ) zJ
   |exact ae (fG o5 zJ) zJ):p:=h
theorem KO {p:Prop} (h:p:=by
  first
   |exact dR (aa BZ.out z5) hgg _ _ _
   |exact dR (aa BZ.out z3) hgg _ _ _):p:=h
theorem KP {p:Prop} (h:p:=by
  rw [HL.out]
  first
   |exact ae (fG p3 hg1w) hbw
   |exact ae (fG o3 hg1w) hbw):p:=h
theorem KQ (n c d:Nat) (A D:Option Addr) (s:Nf) (w:World) (hs:RdI w A n (dp s.1)) (hn:n<=1073741824) (ht:RdG w D 2 (dP 1 s.2)) :
  Calls Tryz.prog 178 #[.agg #[.slice A n c,(1:Int),.slice D 2 d]] w (jd s w):=by
 have HS:=zH hs;have HT:=zH ht;have hz1:(Value.int .i64 0).cells.size=1:=rfl;have X0:=zH (show Bx ((w.alloc (.cells #[.slice A n c,(1:Int),.slice D 2 d] 100)).alloc ZO.zN) w.heap.size 100 _ from (Bx.new w _ _).alloc _);have X1:=zH (show Bx ((w.alloc (.cells #[.slice A n c,(1:Int),.slice D 2 d] 100)).alloc ZO.zN) (w.heap.size+1) 100 _ from Bx.new' zI);have RT:=zH ((HS.out.2.alloc (.cells #[.slice A n c,(1:Int),.slice D 2 d] 100)).alloc ZO.zN);have RO:=zH ((HT.alloc (.cells #[.slice A n c,(1:Int),.slice D 2 d] 100)).alloc ZO.zN);have BZ:Hid (Below w w ((w.alloc (.cells #[.slice A n c,(1:Int),.slice D 2 d] 100)).alloc ZO.zN)):=zH (((zW).alloc zR _).alloc zI _);have HL:=zH (show s.1.length=n by rw [<- hs.1,jc]);clear hs ht;go_enter Tryz.func178,Tryz.ntmps178;go_wp2_with fail;generalize (w.alloc (.cells #[.slice A n c,(1:Int),.slice D 2 d] 100)).alloc ZO.zN=wz at X0 X1 RT RO BZ ⊢
 generalize hg1:w.heap.size+1=g1 at X1 ⊢;generalize hg0:w.heap.size=g0 at X0 hg1 ⊢;have hne:g0 ≠ g1:=zO;have hg1w:g1 < wz.heap.size:=X1.lt;have hbw:w.heap.size<=wz.heap.size:=BZ.size;have hgg:w.heap.size<=g1:=zO
 go_region_held3 (fun w'=>w'.cell? ⟨g0,0,none⟩=some (.slice A n c)/\w'.cell? ⟨g0,1,none⟩=some (.int .i64 1)/\w'.cell? ⟨g0,2,none⟩=some (.slice D 2 d))
  (first
   |with_reducible exact tO X0.out.drew
   |with_reducible exact tO (X0.out.alloc _).drew
   |with_reducible exact tO (X0.out.alloc _)
   |with_reducible exact tO (X0.out.below z3)
   |with_reducible exact tO (X0.out.below z5)
   |with_reducible exact tO ((X0.out.below z5).alloc _)
   |with_reducible exact tO ((X0.out.below z5).alloc _).drew
   |with_reducible exact tO ((X0.out.below z3).alloc _)
   |with_reducible exact tO ((X0.out.below z3).far3 hne _ _ _)
   |with_reducible exact tO ((X0.out.below z5).far3 hne _ _ _))
  (first
   |(refine eT zF (.tmp 3) (.tmp 5) 58 zF Tryz.underlying58 gY hz1 (base:=wz.heap.size) (news:=aB (dp s.1)) rfl ?_ ?_ rfl ?_ zO zD ?_;(first | with_reducible exact kA zI | with_reducible exact Bx.new' zI | with_reducible exact mH (Bx.new' zI) | with_reducible exact Bx.below (kA zI) b5 | with_reducible exact Bx.below (Bx.new' zI) b5);(first | exact zR | exact Nat.le_succ _ | exact z5.size);(first | with_reducible exact RT.out.below z5 | with_reducible exact RT.out.below (ce z5) | with_reducible exact Rd.drew (RT.out.alloc _) | with_reducible exact RT.out.alloc _);intro A3 c3 w3 o3 b3;have z3:Below wz wz w3:=(by first | with_reducible exact aa (eH (Below.refl _ wz)) b3 | with_reducible exact aa (ce (Below.refl _ wz)) b3 | with_reducible exact aa (ce z5) b3 | with_reducible exact aa z5 b3);(first | (with_reducible have p5:=ab o5 b3) | (with_reducible have p5:=ab (World.ownsRow.alloc o5 _) b3) | skip);have ⟨q0,q1,q2,f0,f1,f2⟩:=(X1.out.below z3).three)
   |(go_at_call 151;refine (zq 1 2 d D s.2 _ (by first | with_reducible exact RO.out.below z3 | with_reducible exact RO.out.drew | with_reducible exact (RO.out.alloc _).drew | with_reducible exact RO.out.alloc _) zO).mono ?_;intro e w5 hret;obtain ⟨D5,d5,rfl,o5,b5⟩:=(show RetT2 s.2 _ e w5 from hret);clear hret;have z5:Below wz wz w5:=(by first | with_reducible exact aa z3 b5 | with_reducible exact aa (Below.refl _ wz).drew b5 | with_reducible exact aa (eH (Below.refl _ wz)) b5 | with_reducible exact aa (ce (Below.refl _ wz)) b5);(first | (with_reducible have p3:=ab o3 b5) | skip);have ⟨q0,q1,q2,f0,f1,f2⟩:=(X1.out.below z5).three)
   |fail)
 all_goals
  go_wp2_with fail;refine bodyPost_ret (v:=.agg #[.slice A3 n c3,(1:Int),.slice D5 2 d5]) (by simp [results,Tryz.results178,go_sem,q0,q1,q2]) rfl ⟨A3,c3,D5,d5,by rw [HL.out],?_,?_,?_⟩
  ·exact KP
  ·exact KN
  ·exact KO
theorem zv (n c d:Nat) (A D:Option Addr) (s:Nf) (w:World) (hs:RdI w A n (dp s.1)) (hn:n<=1073741824) (ht:RdG w D 2 (dP 1 s.2)) :
  Calls Tryz.prog 161 #[.agg #[.slice A n c,(1:Int),.slice D 2 d]] w (jd s w):=by
 have HS:=zH hs;have HT:=zH ht;have hz4:(Value.agg #[(0:Int),(0:Int),(0:Int),(0:Int)]).cells.size=4:=rfl;have hz1:(Value.int .i64 0).cells.size=1:=rfl;have X0:=zH (show Bx ((w.alloc (.cells #[.slice A n c,(1:Int),.slice D 2 d] 100)).alloc ZO.zN) w.heap.size 100 _ from (Bx.new w _ _).alloc _);have X1:=zH (show Bx ((w.alloc (.cells #[.slice A n c,(1:Int),.slice D 2 d] 100)).alloc ZO.zN) (w.heap.size+1) 100 _ from Bx.new' zI);have RT:=zH ((HS.out.2.alloc (.cells #[.slice A n c,(1:Int),.slice D 2 d] 100)).alloc ZO.zN);have RO:=zH ((HT.alloc (.cells #[.slice A n c,(1:Int),.slice D 2 d] 100)).alloc ZO.zN);have BZ:Hid (Below w w ((w.alloc (.cells #[.slice A n c,(1:Int),.slice D 2 d] 100)).alloc ZO.zN)):=zH (((zW).alloc zR _).alloc zI _);have HL:=zH (show s.1.length=n by rw [<- hs.1,jc]);clear hs ht;go_enter Tryz.func161,Tryz.ntmps161;go_wp2_with fail
 generalize (w.alloc (.cells #[.slice A n c,(1:Int),.slice D 2 d] 100)).alloc ZO.zN=wz at X0 X1 RT RO BZ ⊢;generalize hg1:w.heap.size+1=g1 at X1 ⊢;generalize hg0:w.heap.size=g0 at X0 hg1 ⊢;have hne:g0 ≠ g1:=zO;have hg1w:g1 < wz.heap.size:=X1.lt;have hbw:w.heap.size<=wz.heap.size:=BZ.size;have hgg:w.heap.size<=g1:=zO
 go_region_held3 (fun w'=>w'.cell? ⟨g0,0,none⟩=some (.slice A n c)/\w'.cell? ⟨g0,1,none⟩=some (.int .i64 1)/\w'.cell? ⟨g0,2,none⟩=some (.slice D 2 d))
  (first
   |with_reducible exact tO X0.out.drew
   |with_reducible exact tO (X0.out.alloc _).drew
   |with_reducible exact tO (X0.out.alloc _)
   |with_reducible exact tO ((X0.out.alloc _).alloc _).drew
   |with_reducible exact tO ((X0.out.below z3).alloc _).drew
   |with_reducible exact tO (X0.out.below z3)
   |with_reducible exact tO (X0.out.below z5)
   |with_reducible exact tO ((X0.out.below z5).alloc _)
   |with_reducible exact tO ((X0.out.below z5).alloc _).drew
   |with_reducible exact tO ((X0.out.below z3).alloc _)
   |with_reducible exact tO ((X0.out.below z3).far3 hne _ _ _)
   |with_reducible exact tO ((X0.out.below z5).far3 hne _ _ _))
  (first
   |(refine eT zF (.tmp 3) (.tmp 5) 58 zF Tryz.underlying58 gY hz1 (base:=wz.heap.size) (news:=aB (dp s.1)) rfl ?_ ?_ rfl ?_ zO zD ?_;(first | with_reducible exact kA zI | with_reducible exact Bx.new' zI | with_reducible exact mH (Bx.new' zI) | with_reducible exact Bx.below (kA zI) b5 | with_reducible exact Bx.below (Bx.new' zI) b5 | with_reducible exact Bx.below (mH (Bx.new' zI)) b5);(first | exact zR | exact Nat.le_succ _ | exact z5.size);(first | with_reducible exact RT.out.below z5 | with_reducible exact RT.out.below (ce z5) | with_reducible exact Rd.drew (RT.out.alloc _) | with_reducible exact Rd.drew ((RT.out.alloc _).alloc _) | with_reducible exact RT.out.alloc _);intro A3 c3 w3 o3 b3;have z3:Below wz wz w3:=(by first | with_reducible exact aa (eH (Below.refl _ wz)) b3 | with_reducible exact aa (eH (ce (Below.refl _ wz))) b3 | with_reducible exact aa (ce (Below.refl _ wz)) b3 | with_reducible exact aa (ce z5) b3 | with_reducible exact aa z5 b3);(first | (with_reducible have p5:=ab o5 b3) | (with_reducible have p5:=ab (World.ownsRow.alloc o5 _) b3) | skip);have ⟨q0,q1,q2,f0,f1,f2⟩:=(X1.out.below z3).three)
   |(refine eT zF (.tmp 10) (.tmp 13) 71 zF Tryz.underlying71 fc hz4 (base:=wz.heap.size) (news:=af (dP 1 s.2)) rfl ?_ ?_ rfl ?_ zO zD ?_;(first | with_reducible exact kA zI | with_reducible exact Bx.new' zI | with_reducible exact mH (Bx.new' zI) | with_reducible exact Bx.below (kA zI) b3 | with_reducible exact Bx.below (Bx.new' zI) b3 | with_reducible exact Bx.below (mH (Bx.new' zI)) b3);(first | exact zR | exact Nat.le_succ _ | exact z3.size);(first | with_reducible exact RO.out.2.below z3 | with_reducible exact RO.out.2.below (ce z3) | with_reducible exact Rd.drew (RO.out.2.alloc _) | with_reducible exact Rd.drew ((RO.out.2.alloc _).alloc _) | with_reducible exact RO.out.2.alloc _ | with_reducible exact (RO.out.2.alloc _).alloc _ | with_reducible exact Rd.drew (RO.out.2.below z3) | with_reducible exact Rd.drew (RO.out.2.below (ce z3)) | exact RO.out.2.below z3 | exact RO.out.2.below (ce z3) | exact RO.out.2.alloc _);intro D5 d5 w5 o5 b5;have z5:Below wz wz w5:=(by first | with_reducible exact aa (eH (Below.refl _ wz)) b5 | with_reducible exact aa (eH (ce (Below.refl _ wz))) b5 | with_reducible exact aa (ce (Below.refl _ wz)) b5 | with_reducible exact aa (ce z3) b5 | with_reducible exact aa z3 b5);(first | (with_reducible have p3:=ab o3 b5) | (with_reducible have p3:=ab (World.ownsRow.alloc o3 _) b5) | skip);have ⟨q0,q1,q2,f0,f1,f2⟩:=(X1.out.below z5).three)
   |fail)
 all_goals
  go_wp2_with fail;refine bodyPost_ret (v:=.agg #[.slice A3 n c3,(1:Int),.slice D5 2 d5]) (by simp [results,Tryz.results161,go_sem,q0,q1,q2]) rfl ⟨A3,c3,D5,d5,by rw [HL.out],?_,?_,?_⟩
  ·exact KP
  ·exact KN
  ·exact KO
end Go.Proofs.YtmenmibfkojnoaaGreat
