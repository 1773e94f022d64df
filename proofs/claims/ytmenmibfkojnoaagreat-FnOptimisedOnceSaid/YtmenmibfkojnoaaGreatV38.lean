/- Contract of l30Behind (spec), for valid tables of one qubit. Normal forms as values; contract of l30Copy (spec). Contract of copyNormalForm (impl). -/
import Derived.Test.YtmenmibfkojnoaaGreatV37
import Derived.Test.YtmenmibfkojnoaaGreatV16
set_option maxHeartbeats 16000000
namespace Go.Proofs.YtmenmibfkojnoaaGreat
open Go.RowKit
set_option linter.unusedVariables false
theorem behind_at {ra rb:List Pq} {k:Nat} {a:Pq} (hk:k < 2) (h:ra[k]? = some a):(behind ra rb)[k]? = some (conjT 1 rb a):=by
 unfold behind
 rw [List.getElem?_map,List.getElem?_range hk]
 simp [List.getD_eq_getElem?_getD,h]
theorem behind_len (ra rb:List Pq):(behind ra rb).length=2:=rfl
def MB1 (w:World) (O k:Nat) (A0:Option Addr) (c0:Nat) (rs:List Pq) (wx:World):Prop :=
 Bx wx O 73 #[.int .i64 1,.slice A0 k c0]/\wx.ownsRow (O+1) 151 4 (.slice A0 k c0) k (cellsG (pgs 1 rs))/\Below w.heap.size w wx/\w.heap.size<=O/\O < wx.heap.size
section
variable {w wx w':World} {O k c0:Nat} {A0:Option Addr} {rs:List Pq}
theorem MB1.to (h:MB1 w O k A0 c0 rs wx):MB w 1 O k A0 c0 rs wx:=h
theorem MB1.of (h:MB w 1 O k A0 c0 rs wx):MB1 w O k A0 c0 rs wx:=h
theorem MB1.below (h:MB1 w O k A0 c0 rs wx) (hb:Below wx.heap.size wx w'):MB1 w O k A0 c0 rs w':=MB1.of (h.to.below hb)
theorem MB1.alloc (h:MB1 w O k A0 c0 rs wx) (o:Obj):MB1 w O k A0 c0 rs (wx.alloc o):=MB1.of (h.to.alloc o)
theorem MB1.drew (h:MB1 w O k A0 c0 rs wx):MB1 w O k A0 c0 rs wx.drew:=MB1.of h.to.drew
end
set_option maxRecDepth 100000 in
theorem s_Behind (c d:Nat) (A B:Option Addr) (ra rb:List Pq) (w:World) (hra:RdG w A 2 (pgs 1 ra)) (hrb:RdG w B 2 (pgs 1 rb)) (hd:2<=d) (ha:okT 1 ra) (hb:okT 1 rb) :
  Calls Tryz.prog 209 #[.agg #[.int .i64 1,.slice A 2 c],.agg #[.int .i64 1,.slice B 2 d]] w (RetT2 (behind ra rb) w):=by
 obtain ⟨b,off,rfl⟩:=hra.first (by omega)
 have HA:=zH hra
 have HB:=zH hrb
 have HOA:=zH ha
 have HOB:=zH hb
 have HL:=zH (show ra.length=2 from ha.1)
 have T0:=zH (show Bx (((w.alloc (.cells #[.int .i64 1,.slice (some ⟨b,off,none⟩) 2 c] 73)).alloc (.cells #[.int .i64 1,.slice B 2 d] 73)).alloc (.cells #[.int .i64 0,.slice none 0 0] 73)) w.heap.size 73 _ from ((Bx.new w _ _).alloc _).alloc _)
 have U0:=zH (show Bx (((w.alloc (.cells #[.int .i64 1,.slice (some ⟨b,off,none⟩) 2 c] 73)).alloc (.cells #[.int .i64 1,.slice B 2 d] 73)).alloc (.cells #[.int .i64 0,.slice none 0 0] 73)) (w.heap.size+1) 73 _ from (Bx.new' (by simp)).alloc _)
 have R0:=zH (show Bx (((w.alloc (.cells #[.int .i64 1,.slice (some ⟨b,off,none⟩) 2 c] 73)).alloc (.cells #[.int .i64 1,.slice B 2 d] 73)).alloc (.cells #[.int .i64 0,.slice none 0 0] 73)) (w.heap.size+1+1) 73 #[.int .i64 0,.slice none 0 0] from Bx.new' (by simp))
 have B0:=zH (show Below w.heap.size w (((w.alloc (.cells #[.int .i64 1,.slice (some ⟨b,off,none⟩) 2 c] 73)).alloc (.cells #[.int .i64 1,.slice B 2 d] 73)).alloc (.cells #[.int .i64 0,.slice none 0 0] 73)) from (((zW).alloc zR _).alloc (by simp) _).alloc (by simp<;>omega) _)
 clear hra hrb ha hb
 go_enter Tryz.func209,Tryz.ntmps209
 go_upto_region 1 with fail
 generalize ((w.alloc (.cells #[.int .i64 1,.slice (some ⟨b,off,none⟩) 2 c] 73)).alloc (.cells #[.int .i64 1,.slice B 2 d] 73)).alloc (.cells #[.int .i64 0,.slice none 0 0] 73)=w1 at T0 U0 R0 B0 ⊢
 have T1:=zH (T0.out.alloc (.cells #[.int .i64 1,.slice none 0 0] 73))
 have U1:=zH (U0.out.alloc (.cells #[.int .i64 1,.slice none 0 0] 73))
 have R1:=zH (R0.out.alloc (.cells #[.int .i64 1,.slice none 0 0] 73))
 have hO:w.heap.size+1+1 < w1.heap.size:=R0.out.lt
 have M1:=zH (show MB1 w w1.heap.size 0 none 0 [] (w1.alloc (.cells #[.int .i64 1,.slice none 0 0] 73)) from ⟨Bx.new _ _ _,World.ownsRow_nil _ _ _ _,B0.out.alloc B0.out.size _,by omega,by simp⟩)
 clear T0 U0 R0 B0
 obtain ⟨O,hO2⟩:∃ O,O=w1.heap.size:=⟨_,rfl⟩
 go_wp2_with fail
 rw [<- hO2] at M1 hO ⊢
 clear hO2
 go_loopg [6] 2 (fun q i wr=>∃ (k:Nat) (A0:Option Addr) (c0:Nat),k+q=2/\i=.int .i64 k/\Bx wr w.heap.size 73 #[.int .i64 1,.slice (some ⟨b,off,none⟩) 2 c]/\Bx wr (w.heap.size+1) 73 #[.int .i64 1,.slice B 2 d]/\Bx wr (w.heap.size+1+1) 73 #[.int .i64 0,.slice none 0 0]/\MB1 w O k A0 c0 ((behind ra rb).take k) wr)
 case atStart=>exact ⟨0,none,0,by omega,rfl,T1.out,U1.out,R1.out,M1.out⟩
 case round =>
  clear T1 U1 R1 M1
  obtain ⟨k,A0,c0,hk,rfl,hT,hU,hRr,hM⟩:=hrel
  by_cases hlt:k < 2
  ·obtain ⟨a,hak⟩:=get_lt (l:=ra) (k:=k) (by rw [HL.out];exact hlt)
   have OK:=zH (okT_at HOA.out hak).1
   have HS:=zH (show (behind ra rb).take (k+1)=(behind ra rb).take k++[conjT 1 rb a] from take_snocT (behind_at hlt hak))
   obtain ⟨v,hv⟩:∃ v,conjT 1 rb a=v:=⟨_,rfl⟩
   rw [hv] at HS
   have HD:=zH hv
   have HAK:=zH hak
   have k2I:(k:Int) < 2:=by omega
   have TK:=fun (w5:World) (b5:Below wr.heap.size wr w5)=>(⟨(hT.below b5).cell 1,⟨(hU.below b5).cell 0,(hU.below b5).cell 1⟩,((HA.out.below (hM.below b5).2.2.1).cellsAt (pgs_drop HAK.out)).2⟩:w5.cell? ⟨w.heap.size,1,none⟩=some (.slice (some ⟨b,off,none⟩) 2 c)/\(w5.cell? ⟨w.heap.size+1,0,none⟩=some (.int .i64 1)/\w5.cell? ⟨w.heap.size+1,1,none⟩=some (.slice B 2 d))/\(w5.cell? ⟨b,off+k * 4,none⟩=some (.int .i64 1)/\w5.cell? ⟨b,off+k * 4+1,none⟩=some (.int .i64 (a.x:Nat))/\w5.cell? ⟨b,off+k * 4+2,none⟩=some (.int .i64 (a.z:Nat))/\w5.cell? ⟨b,off+k * 4+3,none⟩=some (.int .i64 (a.p:Nat))))
   have BA:=(Below.refl wr.heap.size wr).alloc zR (.cells #[.int .i64 0,.int .i64 0,.int .i64 0,.int .i64 0] 151)
   have BR:=fun (w5:World) (b5:Below wr.heap.size wr w5)=>HB.out.below (hM.below b5).2.2.1
   have T3:=zH (fun (w5:World) (b5:Below wr.heap.size wr w5)=>hT.below b5)
   have U3:=zH (fun (w5:World) (b5:Below wr.heap.size wr w5)=>hU.below b5)
   have R3:=zH (fun (w5:World) (b5:Below wr.heap.size wr w5)=>hRr.below b5)
   have M3:=zH (fun (w5:World) (b5:Below wr.heap.size wr w5)=>hM.below b5)
   clear hv hak hT hU hRr hM
   go_upto_region 5 with fail
   go_cut [7] (fun s7 wx=>∃ P,s7=.pointer (some ⟨P,0,none⟩)/\Bx wx P 151 #[.int .i64 1,.int .i64 (v.x:Nat),.int .i64 (v.z:Nat),.int .i64 (v.p:Nat)]/\Below wr.heap.size wr wx)
   case first =>
    have TK0:=TK _ (Below.refl wr.heap.size wr).drew
    go_region_held3 (fun w'=>w'.cell? ⟨w.heap.size,1,none⟩=some (.slice (some ⟨b,off,none⟩) 2 c)/\(w'.cell? ⟨w.heap.size+1,0,none⟩=some (.int .i64 1)/\w'.cell? ⟨w.heap.size+1,1,none⟩=some (.slice B 2 d))/\(w'.cell? ⟨b,off+k * 4,none⟩=some (.int .i64 1)/\w'.cell? ⟨b,off+k * 4+1,none⟩=some (.int .i64 (a.x:Nat))/\w'.cell? ⟨b,off+k * 4+2,none⟩=some (.int .i64 (a.z:Nat))/\w'.cell? ⟨b,off+k * 4+3,none⟩=some (.int .i64 (a.p:Nat))))
     (first
      |with_reducible exact TK0
      |with_reducible exact TK _ BA.drew
      |with_reducible exact TK _ b5
      |with_reducible exact TK _ b5.drew
      |with_reducible exact TK _ (b5.alloc b5.size _)
      |with_reducible exact TK _ (b5.alloc b5.size _).drew
      |with_reducible exact TK _ (belowS4 b5 zR _ _ _ _)
      |with_reducible exact TK _ (belowS4 b5 zR _ _ _ _).drew
      |go_keep)
     (first
      |(go_at_call 215;refine (s_ConT 1 2 d B rb a v _ (by omega) (by first | exact BR _ (Below.refl wr.heap.size wr).drew | exact BR _ BA.drew | exact BR _ BA) hd HOB.out OK.out HD.out).mono ?_;rintro e w5 ⟨rfl,b50⟩;have b5:Below wr.heap.size wr w5:=(by first | with_reducible exact below_trans (Below.refl wr.heap.size wr).drew b50 | with_reducible exact below_trans BA.drew b50 | with_reducible exact below_trans BA b50);(first | (have PB:Bx w5 wr.heap.size 151 #[.int .i64 0,.int .i64 0,.int .i64 0,.int .i64 0]:=(by first | with_reducible exact (Bx.drew (Bx.new wr _ _)).below b50 | with_reducible exact (Bx.new wr _ _).below b50);obtain ⟨q0,q1,q2,q3,q4,q5,q6,q7⟩:=PB.four) | skip))
      |fail)
    all_goals go_wp2_with fail
    all_goals go_meet
    all_goals first
     |exact ⟨_,rfl,by with_reducible exact PB.set4 _ _ _ _,by with_reducible exact belowS4 b5 zR _ _ _ _⟩
     |exact ⟨_,rfl,by with_reducible exact Bx.new _ _ _,by with_reducible exact b5.alloc b5.size _⟩
   case rest =>
    obtain ⟨P,rfl,hP,hB5⟩:=hcut
    have TT:=zH ((T3.out _ hB5).alloc (.cells #[.int .i64 1,.int .i64 (v.x:Nat),.int .i64 (v.z:Nat),.int .i64 (v.p:Nat)] 151))
    have UU:=zH ((U3.out _ hB5).alloc (.cells #[.int .i64 1,.int .i64 (v.x:Nat),.int .i64 (v.z:Nat),.int .i64 (v.p:Nat)] 151))
    have RR:=zH ((R3.out _ hB5).alloc (.cells #[.int .i64 1,.int .i64 (v.x:Nat),.int .i64 (v.z:Nat),.int .i64 (v.p:Nat)] 151))
    have MM:=zH ((M3.out _ hB5).alloc (.cells #[.int .i64 1,.int .i64 (v.x:Nat),.int .i64 (v.z:Nat),.int .i64 (v.p:Nat)] 151))
    have OV:=zH MM.out.2.1
    have m1:=(M3.out _ hB5).1.cell 1
    have hO5:O < wc.heap.size:=(M3.out _ hB5).2.2.2.2
    obtain ⟨p0,p1,p2,p3,_⟩:=hP.four
    clear TK BA BR T3 U3 R3 M3 hP hB5
    go_wp2_with (at_builtin;refine wpList_app rfl (.tmp 25) (.tmp 27) 71 rfl Tryz.underlying71 infoPauli rfl (by decide) rfl OV.out rfl (Rd.lit _ 151 #[.int .i64 1,.int .i64 (v.x:Nat),.int .i64 (v.z:Nat),.int .i64 (v.p:Nat)] 1 4 rfl) (by simp [Value.oneCell']) (by omega) (by decide) (by simp<;>omega) ?_;intro A5 c5 w5' o5 g5;have Y5:=(MM.out.to.grown g5).two;obtain ⟨e0,e1,e2,e3⟩:=Y5)
    go_roundg (gk - 1)
    all_goals first
     |omega
     |exact ⟨k+1,A5,c5,by omega,by go_num,MM.out.to.keeps g5 TT.out (by omega),MM.out.to.keeps g5 UU.out (by omega),MM.out.to.keeps g5 RR.out (by omega),by rw [HS.out];exact MB1.of (MM.out.to.push g5 o5)⟩
  ·obtain rfl:k=2:=by omega
   obtain ⟨e0,e1,_⟩:=hM.1.two
   obtain ⟨r0,r1,r2,r3⟩:=hRr.two
   have hrs:(behind ra rb).take 2=behind ra rb:=rfl
   rw [hrs] at hM
   have MM:=zH hM
   have RR:=zH hRr
   clear hM hrs hRr
   go_wp2_with fail
   have RB:=RR.out
   with_reducible refine ret_S2 (v:=.agg #[.int .i64 1,.slice A0 2 c0]) RB ?_ ?_ ⟨A0,c0,rfl,?_,?_⟩
   ·intro wS z0 z1;simp [results,Tryz.results209,go_sem,z0,z1]
   ·rfl
   ·exact ownsRow_base (ownS2 MM.out.2.1 (by omega) _ _) (by omega)
   ·exact belowS2 MM.out.2.2.1 (by omega) _ _
def sylI (s:List Nat):List Int:=s.map fun (k:Nat)=>(k:Int)
theorem sylI_len (s:List Nat):(sylI s).length=s.length:=by unfold sylI;simp
abbrev RetNf (s:Nf) (w:World) (e:Ending) (w':World):Prop :=
 ∃ A c D d,e=.returned (.agg #[.slice A s.1.length c,.int .i64 1,.slice D 2 d])/\w'.ownsRow w.heap.size 3 1 (.slice A s.1.length c) s.1.length (cellsI (sylI s.1))/\w'.ownsRow w.heap.size 151 4 (.slice D 2 d) 2 (cellsG (pgs 1 s.2))/\Below w.heap.size w w'
theorem k3K {w':World} {g t:Nat} {a b c:Value} (h:Bx w' g t #[a,b,c]):w'.cell? ⟨g,0,none⟩=some a/\w'.cell? ⟨g,1,none⟩=some b/\w'.cell? ⟨g,2,none⟩=some c:=⟨h.cell 0,h.cell 1,h.cell 2⟩
abbrev S3 (wx:World) (r:Nat) (u0 u1 u2:Value):World:=((wx.setCell ⟨r,0,none⟩ u0).setCell ⟨r,1,none⟩ u1).setCell ⟨r,2,none⟩ u2
theorem Bx.far3 {wx:World} {g r t:Nat} {cs:Array Value} (h:Bx wx g t cs) (hr:g ≠ r) (u0 u1 u2:Value):Bx (S3 wx r u0 u1 u2) g t cs:=((h.far hr u0).far hr u1).far hr u2
theorem own_S3 {w':World} {base g1:Nat} {e:TypeId} {sz n:Nat} {v:Value} {xs:List Value} {a b c:Value} (h:w'.ownsRow base e sz v n xs) (hg:g1 < base):(S3 w' g1 a b c).ownsRow base e sz v n xs:=own_setT (own_setT (own_setT h (p:=⟨g1,0,none⟩) hg a) (p:=⟨g1,1,none⟩) hg b) (p:=⟨g1,2,none⟩) hg c
theorem belowS3 {w wx:World} {r B:Nat} (h:Below B w wx) (hr:B<=r) (u0 u1 u2:Value):Below B w (S3 wx r u0 u1 u2):=((h.setCell hr _).setCell hr _).setCell hr _
set_option maxRecDepth 100000 in
theorem s_30Copy (n c d:Nat) (A D:Option Addr) (s:Nf) (w:World) (hs:RdI w A n (sylI s.1)) (hn:n<=1073741824) (ht:RdG w D 2 (pgs 1 s.2)) :
  Calls Tryz.prog 178 #[.agg #[.slice A n c,.int .i64 1,.slice D 2 d]] w (RetNf s w):=by
 have HS:=zH hs
 have HT:=zH ht
 have hz1:(Value.int .i64 0).cells.size=1:=rfl
 have X0:=zH (show Bx ((w.alloc (.cells #[.slice A n c,.int .i64 1,.slice D 2 d] 100)).alloc (.cells #[.slice none 0 0,.int .i64 0,.slice none 0 0] 100)) w.heap.size 100 _ from (Bx.new w _ _).alloc _)
 have X1:=zH (show Bx ((w.alloc (.cells #[.slice A n c,.int .i64 1,.slice D 2 d] 100)).alloc (.cells #[.slice none 0 0,.int .i64 0,.slice none 0 0] 100)) (w.heap.size+1) 100 _ from Bx.new' (by simp))
 have RT:=zH ((HS.out.2.alloc (.cells #[.slice A n c,.int .i64 1,.slice D 2 d] 100)).alloc (.cells #[.slice none 0 0,.int .i64 0,.slice none 0 0] 100))
 have RO:=zH ((HT.out.alloc (.cells #[.slice A n c,.int .i64 1,.slice D 2 d] 100)).alloc (.cells #[.slice none 0 0,.int .i64 0,.slice none 0 0] 100))
 have BZ:Hid (Below w.heap.size w ((w.alloc (.cells #[.slice A n c,.int .i64 1,.slice D 2 d] 100)).alloc (.cells #[.slice none 0 0,.int .i64 0,.slice none 0 0] 100))):=zH (((zW).alloc zR _).alloc (by simp) _)
 have HL:=zH (show s.1.length=n by rw [<- hs.1,sylI_len])
 clear hs ht
 go_enter Tryz.func178,Tryz.ntmps178
 go_wp2_with fail
 generalize (w.alloc (.cells #[.slice A n c,.int .i64 1,.slice D 2 d] 100)).alloc (.cells #[.slice none 0 0,.int .i64 0,.slice none 0 0] 100)=wz at X0 X1 RT RO BZ ⊢
 generalize hg1:w.heap.size+1=g1 at X1 ⊢
 generalize hg0:w.heap.size=g0 at X0 hg1 ⊢
 have hne:g0 ≠ g1:=by omega
 have hg1w:g1 < wz.heap.size:=X1.out.lt
 have hbw:w.heap.size<=wz.heap.size:=BZ.out.size
 have hgg:w.heap.size<=g1:=by omega
 go_region_held3 (fun w'=>w'.cell? ⟨g0,0,none⟩=some (.slice A n c)/\w'.cell? ⟨g0,1,none⟩=some (.int .i64 1)/\w'.cell? ⟨g0,2,none⟩=some (.slice D 2 d))
  (first
   |with_reducible exact k3K X0.out.drew
   |with_reducible exact k3K (X0.out.alloc _).drew
   |with_reducible exact k3K (X0.out.alloc _)
   |with_reducible exact k3K (X0.out.below z3)
   |with_reducible exact k3K (X0.out.below z5)
   |with_reducible exact k3K ((X0.out.below z5).alloc _)
   |with_reducible exact k3K ((X0.out.below z5).alloc _).drew
   |with_reducible exact k3K ((X0.out.below z3).alloc _)
   |with_reducible exact k3K ((X0.out.below z3).far3 hne _ _ _)
   |with_reducible exact k3K ((X0.out.below z5).far3 hne _ _ _))
  (first
   |(refine step_mk0 (by rfl) (.tmp 3) (.tmp 5) 58 (by rfl) Tryz.underlying58 infoInt1 hz1 (base:=wz.heap.size) (news:=cellsI (sylI s.1)) rfl ?_ ?_ rfl ?_ (by omega) (by decide) ?_;(first | with_reducible exact bx_n (by simp) | with_reducible exact Bx.new' (by simp) | with_reducible exact bx_o (Bx.new' (by simp)) | with_reducible exact Bx.below (bx_n (by simp)) b5 | with_reducible exact Bx.below (Bx.new' (by simp)) b5);(first | exact zR | exact Nat.le_succ _ | exact z5.size);(first | with_reducible exact RT.out.below z5 | with_reducible exact RT.out.below (keepC z5) | with_reducible exact Rd.drew (RT.out.alloc _) | with_reducible exact RT.out.alloc _);intro A3 c3 w3 o3 b3;have z3:Below wz.heap.size wz w3:=(by first | with_reducible exact below_trans (keepA (Below.refl _ wz)) b3 | with_reducible exact below_trans (keepC (Below.refl _ wz)) b3 | with_reducible exact below_trans (keepC z5) b3 | with_reducible exact below_trans z5 b3);(first | (with_reducible have p5:=ownsRow_below o5 b3) | (with_reducible have p5:=ownsRow_below (World.ownsRow.alloc o5 _) b3) | skip);have ⟨q0,q1,q2,f0,f1,f2⟩:=(X1.out.below z3).three)
   |(go_at_call 151;refine (s_26Copy 1 2 d D s.2 _ (by first | with_reducible exact RO.out.below z3 | with_reducible exact RO.out.drew | with_reducible exact (RO.out.alloc _).drew | with_reducible exact RO.out.alloc _) (by omega)).mono ?_;intro e w5 hret;obtain ⟨D5,d5,rfl,o5,b5⟩:=(show RetT2 s.2 _ e w5 from hret);clear hret;have z5:Below wz.heap.size wz w5:=(by first | with_reducible exact below_trans z3 b5 | with_reducible exact below_trans (Below.refl _ wz).drew b5 | with_reducible exact below_trans (keepA (Below.refl _ wz)) b5 | with_reducible exact below_trans (keepC (Below.refl _ wz)) b5);(first | (with_reducible have p3:=ownsRow_below o3 b5) | skip);have ⟨q0,q1,q2,f0,f1,f2⟩:=(X1.out.below z5).three)
   |fail)
 all_goals
  go_wp2_with fail
  refine bodyPost_ret (v:=.agg #[.slice A3 n c3,.int .i64 1,.slice D5 2 d5]) (by simp [results,Tryz.results178,go_sem,q0,q1,q2]) rfl ⟨A3,c3,D5,d5,by rw [HL.out],?_,?_,?_⟩
  ·rw [HL.out]
   first
    |exact ownsRow_base (own_S3 p3 hg1w) hbw
    |exact ownsRow_base (own_S3 o3 hg1w) hbw
  ·first
    |exact ownsRow_base (own_S3 p5 hg1w) hbw
    |exact ownsRow_base (own_S3 o5 hg1w) hbw
    |exact ownsRow_base (own_S3 o5 (Nat.lt_of_lt_of_le hg1w z3.size)) (Nat.le_trans hbw z3.size)
    |exact ownsRow_base (own_S3 p5 (by simp;omega)) (by simp;omega)
    |exact ownsRow_base (own_S3 o5 (by simp;omega)) (by simp;omega)
  ·first
    |exact belowS3 (below_trans BZ.out z5) hgg _ _ _
    |exact belowS3 (below_trans BZ.out z3) hgg _ _ _
set_option maxRecDepth 100000 in
theorem i_copyNf (n c d:Nat) (A D:Option Addr) (s:Nf) (w:World) (hs:RdI w A n (sylI s.1)) (hn:n<=1073741824) (ht:RdG w D 2 (pgs 1 s.2)) :
  Calls Tryz.prog 161 #[.agg #[.slice A n c,.int .i64 1,.slice D 2 d]] w (RetNf s w):=by
 have HS:=zH hs
 have HT:=zH ht
 have hz4:(Value.agg #[.int .i64 0,.int .i64 0,.int .i64 0,.int .i64 0]).cells.size=4:=rfl
 have hz1:(Value.int .i64 0).cells.size=1:=rfl
 have X0:=zH (show Bx ((w.alloc (.cells #[.slice A n c,.int .i64 1,.slice D 2 d] 100)).alloc (.cells #[.slice none 0 0,.int .i64 0,.slice none 0 0] 100)) w.heap.size 100 _ from (Bx.new w _ _).alloc _)
 have X1:=zH (show Bx ((w.alloc (.cells #[.slice A n c,.int .i64 1,.slice D 2 d] 100)).alloc (.cells #[.slice none 0 0,.int .i64 0,.slice none 0 0] 100)) (w.heap.size+1) 100 _ from Bx.new' (by simp))
 have RT:=zH ((HS.out.2.alloc (.cells #[.slice A n c,.int .i64 1,.slice D 2 d] 100)).alloc (.cells #[.slice none 0 0,.int .i64 0,.slice none 0 0] 100))
 have RO:=zH ((HT.out.alloc (.cells #[.slice A n c,.int .i64 1,.slice D 2 d] 100)).alloc (.cells #[.slice none 0 0,.int .i64 0,.slice none 0 0] 100))
 have BZ:Hid (Below w.heap.size w ((w.alloc (.cells #[.slice A n c,.int .i64 1,.slice D 2 d] 100)).alloc (.cells #[.slice none 0 0,.int .i64 0,.slice none 0 0] 100))):=zH (((zW).alloc zR _).alloc (by simp) _)
 have HL:=zH (show s.1.length=n by rw [<- hs.1,sylI_len])
 clear hs ht
 go_enter Tryz.func161,Tryz.ntmps161
 go_wp2_with fail
 generalize (w.alloc (.cells #[.slice A n c,.int .i64 1,.slice D 2 d] 100)).alloc (.cells #[.slice none 0 0,.int .i64 0,.slice none 0 0] 100)=wz at X0 X1 RT RO BZ ⊢
 generalize hg1:w.heap.size+1=g1 at X1 ⊢
 generalize hg0:w.heap.size=g0 at X0 hg1 ⊢
 have hne:g0 ≠ g1:=by omega
 have hg1w:g1 < wz.heap.size:=X1.out.lt
 have hbw:w.heap.size<=wz.heap.size:=BZ.out.size
 have hgg:w.heap.size<=g1:=by omega
 go_region_held3 (fun w'=>w'.cell? ⟨g0,0,none⟩=some (.slice A n c)/\w'.cell? ⟨g0,1,none⟩=some (.int .i64 1)/\w'.cell? ⟨g0,2,none⟩=some (.slice D 2 d))
  (first
   |with_reducible exact k3K X0.out.drew
   |with_reducible exact k3K (X0.out.alloc _).drew
   |with_reducible exact k3K (X0.out.alloc _)
   |with_reducible exact k3K ((X0.out.alloc _).alloc _).drew
   |with_reducible exact k3K ((X0.out.below z3).alloc _).drew
   |with_reducible exact k3K (X0.out.below z3)
   |with_reducible exact k3K (X0.out.below z5)
   |with_reducible exact k3K ((X0.out.below z5).alloc _)
   |with_reducible exact k3K ((X0.out.below z5).alloc _).drew
   |with_reducible exact k3K ((X0.out.below z3).alloc _)
   |with_reducible exact k3K ((X0.out.below z3).far3 hne _ _ _)
   |with_reducible exact k3K ((X0.out.below z5).far3 hne _ _ _))
  (first
   |(refine step_mk0 (by rfl) (.tmp 3) (.tmp 5) 58 (by rfl) Tryz.underlying58 infoInt1 hz1 (base:=wz.heap.size) (news:=cellsI (sylI s.1)) rfl ?_ ?_ rfl ?_ (by omega) (by decide) ?_;(first | with_reducible exact bx_n (by simp) | with_reducible exact Bx.new' (by simp) | with_reducible exact bx_o (Bx.new' (by simp)) | with_reducible exact Bx.below (bx_n (by simp)) b5 | with_reducible exact Bx.below (Bx.new' (by simp)) b5 | with_reducible exact Bx.below (bx_o (Bx.new' (by simp))) b5);(first | exact zR | exact Nat.le_succ _ | exact z5.size);(first | with_reducible exact RT.out.below z5 | with_reducible exact RT.out.below (keepC z5) | with_reducible exact Rd.drew (RT.out.alloc _) | with_reducible exact Rd.drew ((RT.out.alloc _).alloc _) | with_reducible exact RT.out.alloc _);intro A3 c3 w3 o3 b3;have z3:Below wz.heap.size wz w3:=(by first | with_reducible exact below_trans (keepA (Below.refl _ wz)) b3 | with_reducible exact below_trans (keepA (keepC (Below.refl _ wz))) b3 | with_reducible exact below_trans (keepC (Below.refl _ wz)) b3 | with_reducible exact below_trans (keepC z5) b3 | with_reducible exact below_trans z5 b3);(first | (with_reducible have p5:=ownsRow_below o5 b3) | (with_reducible have p5:=ownsRow_below (World.ownsRow.alloc o5 _) b3) | skip);have ⟨q0,q1,q2,f0,f1,f2⟩:=(X1.out.below z3).three)
   |(refine step_mk0 (by rfl) (.tmp 10) (.tmp 13) 71 (by rfl) Tryz.underlying71 infoPauli hz4 (base:=wz.heap.size) (news:=cellsG (pgs 1 s.2)) rfl ?_ ?_ rfl ?_ (by omega) (by decide) ?_;(first | with_reducible exact bx_n (by simp) | with_reducible exact Bx.new' (by simp) | with_reducible exact bx_o (Bx.new' (by simp)) | with_reducible exact Bx.below (bx_n (by simp)) b3 | with_reducible exact Bx.below (Bx.new' (by simp)) b3 | with_reducible exact Bx.below (bx_o (Bx.new' (by simp))) b3);(first | exact zR | exact Nat.le_succ _ | exact z3.size);(first | with_reducible exact RO.out.2.below z3 | with_reducible exact RO.out.2.below (keepC z3) | with_reducible exact Rd.drew (RO.out.2.alloc _) | with_reducible exact Rd.drew ((RO.out.2.alloc _).alloc _) | with_reducible exact RO.out.2.alloc _ | with_reducible exact (RO.out.2.alloc _).alloc _ | with_reducible exact Rd.drew (RO.out.2.below z3) | with_reducible exact Rd.drew (RO.out.2.below (keepC z3)) | exact RO.out.2.below z3 | exact RO.out.2.below (keepC z3) | exact RO.out.2.alloc _);intro D5 d5 w5 o5 b5;have z5:Below wz.heap.size wz w5:=(by first | with_reducible exact below_trans (keepA (Below.refl _ wz)) b5 | with_reducible exact below_trans (keepA (keepC (Below.refl _ wz))) b5 | with_reducible exact below_trans (keepC (Below.refl _ wz)) b5 | with_reducible exact below_trans (keepC z3) b5 | with_reducible exact below_trans z3 b5);(first | (with_reducible have p3:=ownsRow_below o3 b5) | (with_reducible have p3:=ownsRow_below (World.ownsRow.alloc o3 _) b5) | skip);have ⟨q0,q1,q2,f0,f1,f2⟩:=(X1.out.below z5).three)
   |fail)
 all_goals
  go_wp2_with fail
  refine bodyPost_ret (v:=.agg #[.slice A3 n c3,.int .i64 1,.slice D5 2 d5]) (by simp [results,Tryz.results161,go_sem,q0,q1,q2]) rfl ⟨A3,c3,D5,d5,by rw [HL.out],?_,?_,?_⟩
  ·rw [HL.out]
   first
    |exact ownsRow_base (own_S3 p3 hg1w) hbw
    |exact ownsRow_base (own_S3 o3 hg1w) hbw
  ·first
    |exact ownsRow_base (own_S3 p5 hg1w) hbw
    |exact ownsRow_base (own_S3 o5 hg1w) hbw
    |exact ownsRow_base (own_S3 o5 (Nat.lt_of_lt_of_le hg1w z3.size)) (Nat.le_trans hbw z3.size)
    |exact ownsRow_base (own_S3 p5 (by simp;omega)) (by simp;omega)
    |exact ownsRow_base (own_S3 o5 (by simp;omega)) (by simp;omega)
  ·first
    |exact belowS3 (below_trans BZ.out z5) hgg _ _ _
    |exact belowS3 (below_trans BZ.out z3) hgg _ _ _
end Go.Proofs.YtmenmibfkojnoaaGreat
