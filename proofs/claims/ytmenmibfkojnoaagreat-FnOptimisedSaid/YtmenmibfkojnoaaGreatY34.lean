/- Contracts of l28Do (spec) and emit (impl. -/
import Derived.Test.YtmenmibfkojnoaaGreatY33
set_option maxHeartbeats 16000000
set_option maxRecDepth 100000
namespace Go.Proofs.YtmenmibfkojnoaaGreat
open Go.RowKit
set_option linter.unusedVariables false
theorem br {R:Nat} {w wx w':World} (h:Below R w wx) (hR:R<=wx.heap.size) (hb:Below wx wx w'):Below R w w':=h.trans (hb.mono hR)
theorem oB {R:Nat} {w w6 w7:World} {e sz n:Nat} {v:Value} {xs:List Value} {o:Obj} (hB:Below R w w6) (ho:(w6.drew.alloc o).ownsRow R e sz v n xs) (hR:R<=w6.heap.size) (hg:(w6.drew.alloc o).grownBy w7 v.ownBlock):Below R w w7 :=
 ag (hB.drew.alloc hR o) (Nat.le_trans hR zI) ho zR hg
def Vk (R W:Nat) (t:TypeId) (n:Nat) (r:List Pq) (l:List Gt) (wx:World):Prop:=∃ A0 c0 A1 c1,WS R W t n r l A0 c0 A1 c1 wx
theorem wK {p:Prop} (h:p:=by simpa using b5.size):p:=h
theorem Ws (R W n:Nat) (r:List Pq) (l:List Gt) (g:Gt) (w:World) (hn:1<=n/\n<=4) (hW:Vk R W 159 n r l w) (hok:ed n r) (hg:bF n g=true) (hcl:bh g.k=true) (hlen:l.length<=1000) :
  Calls Tryz.prog 189 #[.pointer (some ⟨W,0,none⟩),.agg #[g.k,g.a,g.b,g.c]] w fun e w'=>e=.returned (.tuple #[])/\Vk R W 159 n (di n g r) (l++[g]) w'/\Below R w w':=by
 obtain ⟨A0,c0,A1,c1,hW⟩:=hW;have G0:=zH (Bx.new w 39 #[g.k,g.a,g.b,g.c]);have W0:=zH (hW.alloc g);have B0:=zH (show Below R w (w.alloc g) from (zW).alloc hW.le _);have HOK:=zH hok;have HG:=zH hg;have HC:=zH hcl;have lR:=hW.le;have lW:=hW.1.lt;have RW:=hW.2.2.2;have hz2:(Value.agg #[(0:Int),(0:Int),(0:Int),(0:Int)]).cells.size=4:=rfl;clear hW hok hg hcl;go_enter Tryz.func189,Tryz.ntmps189;go_wp2_with fail;obtain ⟨wr,hwr⟩:∃ x,w.alloc g=x:=⟨_,rfl⟩;rw [hwr] at G0 W0 B0 ⊢;obtain ⟨gb,hgb⟩:∃ x,w.heap.size=x:=⟨_,rfl⟩;rw [hgb] at G0 ⊢;have lR0:R<=wr.heap.size:=W0.le;clear hwr hgb
 have TK:=fun (w5:World) (b5:Below wr wr w5)=>(⟨⟨(W0.below b5).1.cell 0,(W0.below b5).1.cell 1⟩,(G0.below b5).four4⟩:(w5.cell? ⟨W,0,none⟩=some (.int .i64 (n:Nat))/\w5.cell? ⟨W,1,none⟩=some (.slice A0 (2 * n) c0))/\(w5.cell? ⟨gb,0,none⟩=some (.int .i64 g.k)/\w5.cell? ⟨gb,1,none⟩=some (.int .i64 g.a)/\w5.cell? ⟨gb,2,none⟩=some (.int .i64 g.b)/\w5.cell? ⟨gb,3,none⟩=some (.int .i64 g.c)))
 have TK0:=TK _ (Below.refl wr wr).drew
 go_cut [4,5] (fun s4 s5 wx=>∃ P A5 c5,s4=.pointer (some ⟨P,0,none⟩)/\s5=.bool true/\Bx wx P 73 #[n,.slice A5 (2 * n) c5]/\wx.ownsRow R 151 4 (.slice A5 (2 * n) c5) (2 * n) (af (dP n (di n g r)))/\Bx wx gb 39 #[g.k,g.a,g.b,g.c]/\WS R W 159 n r l A0 c0 A1 c1 wx/\Below R w wx)
 case first =>
  go_region_held3 (fun w'=>(w'.cell? ⟨W,0,none⟩=some (.int .i64 (n:Nat))/\w'.cell? ⟨W,1,none⟩=some (.slice A0 (2 * n) c0))/\(w'.cell? ⟨gb,0,none⟩=some (.int .i64 g.k)/\w'.cell? ⟨gb,1,none⟩=some (.int .i64 g.a)/\w'.cell? ⟨gb,2,none⟩=some (.int .i64 g.b)/\w'.cell? ⟨gb,3,none⟩=some (.int .i64 g.c)))
   (first
    |exact TK _ ((Below.refl wr wr).drew)
    |exact TK _ (((Below.refl wr wr).alloc zR _).drew)
    |exact TK _ (((Below.refl wr wr).drew).alloc zR _)
    |exact TK _ (aC b5)
    |exact TK _ (aa ((Below.refl wr wr).alloc zR _).drew b5)
    |exact TK _ (aa ((Below.refl wr wr).drew.alloc zR _) b5)
    |exact TK _ ((aC b5).alloc wK _)
    |exact TK _ (ay (aa ((Below.refl wr wr).alloc zR _).drew b5) zR _ _)
    |exact TK _ (ay (aa ((Below.refl wr wr).drew.alloc zR _) b5) zR _ _)
    |exact TK _ ((ay (aa ((Below.refl wr wr).alloc zR _).drew b5) zR _ _).drew)
    |exact TK _ ((ay (aa ((Below.refl wr wr).drew.alloc zR _) b5) zR _ _).drew)
    |exact TK _ ((aC b5).drew)
    |exact TK _ ((aa ((Below.refl wr wr).alloc zR _).drew b5).drew)
    |exact TK _ ((aa ((Below.refl wr wr).drew.alloc zR _) b5).drew)
    |go_keep)
   (first
    |(go_at_call 111;(first | refine (fu n (2 * n) c0 A0 r g _ hn W0.drew.rd W0.cap HOK.out HG.out HC.out).mono ?_ | refine (fu n (2 * n) c0 A0 r g _ hn (W0.alloc _).drew.rd W0.cap HOK.out HG.out HC.out).mono ?_ | refine (fu n (2 * n) c0 A0 r g _ hn (W0.drew.alloc _).rd W0.cap HOK.out HG.out HC.out).mono ?_);rintro e w5 ⟨A5,c5,rfl,o5,b5⟩;first | (have PB:Bx w5 wr 73 #[(0:Int),.slice none 0 0]:=(Bx.new wr 73 #[(0:Int),.slice none 0 0]).drew.below b5;obtain ⟨x0,x1,x2,x3⟩:=PB.two) | (have PB:Bx w5 wr 73 #[(0:Int),.slice none 0 0]:=(Bx.new wr.drew 73 #[(0:Int),.slice none 0 0]).below b5;obtain ⟨x0,x1,x2,x3⟩:=PB.two) | skip)
    |fail)
  all_goals go_wp2_with fail
  all_goals go_meet
  all_goals first
   |exact ⟨_,A5,c5,rfl,rfl,Bx.new _ _ _,ae (o5.alloc _) (by simpa using lR0),G0.below ((aC b5).alloc wK _),W0.below ((aC b5).alloc wK _),br B0.out lR0 ((aC b5).alloc wK _)⟩
   |(have PB1:Bx (w5.setCell ⟨wr,0,none⟩ (.int .i64 (n:Nat))) wr 73 #[n,.slice none 0 0]:=(by simpa using PB.set_ 0 (.int .i64 (n:Nat)));exact ⟨_,A5,c5,rfl,rfl,PB.set2 _ _,ae (aM (aM o5 PB zD 0 _) PB1 zD 1 _) (by simpa using Nat.le_succ_of_le lR0),G0.below (ay (aa ((Below.refl wr wr).alloc zR _).drew b5) zR _ _),W0.below (ay (aa ((Below.refl wr wr).alloc zR _).drew b5) zR _ _),br B0.out lR0 (ay (aa ((Below.refl wr wr).alloc zR _).drew b5) zR _ _)⟩)
   |(have PB1:Bx (w5.setCell ⟨wr,0,none⟩ (.int .i64 (n:Nat))) wr 73 #[n,.slice none 0 0]:=(by simpa using PB.set_ 0 (.int .i64 (n:Nat)));exact ⟨_,A5,c5,rfl,rfl,PB.set2 _ _,ae (aM (aM o5 PB zD 0 _) PB1 zD 1 _) (by simpa using Nat.le_succ_of_le lR0),G0.below (ay (aa ((Below.refl wr wr).drew.alloc zR _) b5) zR _ _),W0.below (ay (aa ((Below.refl wr wr).drew.alloc zR _) b5) zR _ _),br B0.out lR0 (ay (aa ((Below.refl wr wr).drew.alloc zR _) b5) zR _ _)⟩)
 case rest =>
  obtain ⟨P,A5,c5,rfl,rfl,hP,hO5,hG5,hW5,hB5⟩:=hcut;clear TK TK0 G0 W0 B0;obtain ⟨y0',y1',_⟩:=hP.two;have hgW:gb ≠ W:=hG5.ne hW5.1 zD;have W6:=zH (hW5.put zD zD hO5);have G6:=zH (hG5.far2 hgW (.int .i64 (n:Nat)) (.slice A5 (2 * n) c5));have B6:=zH (ay hB5 RW (.int .i64 (n:Nat)) (.slice A5 (2 * n) c5));obtain ⟨t0,t1,t2,t3,t4,t5⟩:=hW5.1.three;clear hP hO5 hG5 hW5 hB5;go_upto_region 4 with fail
  obtain ⟨w6,hw6⟩:∃ x,(wc.setCell ⟨W,0,none⟩ (.int .i64 (n:Nat))).setCell ⟨W,1,none⟩ (.slice A5 (2 * n) c5)=x:=⟨_,rfl⟩;simp only [S2] at W6 G6 B6;rw [hw6] at W6 G6 B6 ⊢;clear hw6 y0' y1' t0 t1 t2 t3 t4 t5;have hz4:(Value.agg #[(0:Int),(0:Int),(0:Int),(0:Int)]).cells.size=4:=rfl;have OA:=zH (W6.drew.2.2.1.alloc g);have WA:=zH (W6.drew.alloc g);have lR6:R<=w6.heap.size:=W6.le;have WD:=W6.drew;have GD:=G6.drew;obtain ⟨t0,t1,t2,t3,t4,t5⟩:=WD.1.three;obtain ⟨g0,g1,g2,g3⟩:=GD.four4;obtain ⟨_,_,t2a,_,_,t5a⟩:=WA.out.1.three;have T2A:=(W6.alloc g).1.cell 2;simp at T2A;clear WD GD
  go_region_law (first
   |(refine bv zF (.tmp 24) (.tmp 26) 24 zF Tryz.underlying24 ak hz4 zD zA OA.out zA (Rd.lit w6.drew 39 #[g.k,g.a,g.b,g.c] 1 4 rfl) zV zO zD zS ?_;intro A7 c7 w7 o7 g7;have E7:=az OA.out g7 WA.out.1 zD;have ⟨e0,e1,e2,e3,e4,e5⟩:=E7.three)
   |fail)
  all_goals go_wp2_with fail
  all_goals (first | go_ret | go_end0)
  all_goals exact ⟨rfl,⟨A5,c5,A7,c7,WA.push zD zD g7 o7⟩,(oB B6.out OA.out lR6 g7).setCell RW _⟩
theorem Oj (R W n:Nat) (r:List Pq) (l:List Gt) (g:Gt) (w:World) (hn:1<=n/\n<=4) (hW:Vk R W 163 n r l w) (hok:ed n r) (hg:bF n g=true) (hcl:bh g.k=true) (hlen:l.length<=1000) (hgc:g.c=0) :
  Calls Tryz.prog 198 #[.pointer (some ⟨W,0,none⟩),g.k,g.a,g.b] w fun e w'=>e=.returned (.tuple #[])/\Vk R W 163 n (di n g r) (l++[g]) w'/\Below R w w':=by
 obtain ⟨A0,c0,A1,c1,hW⟩:=hW;have G0:=zH (show Bx (w.alloc (.cells #[g.k,g.a,g.b,(0:Int)] 39)) w 39 #[g.k,g.a,g.b,g.c] from by rw [hgc];exact Bx.new w 39 _);have W0:=zH (hW.alloc (.cells #[g.k,g.a,g.b,(0:Int)] 39));have B0:=zH (show Below R w (w.alloc (.cells #[g.k,g.a,g.b,(0:Int)] 39)) from (zW).alloc hW.le _);have HOK:=zH hok;have HG:=zH hg;have HC:=zH hcl;have lR:=hW.le;have lW:=hW.1.lt;have RW:=hW.2.2.2;clear hW hok hg hcl hgc;go_enter Tryz.func198,Tryz.ntmps198;go_wp2_with fail;obtain ⟨wr,hwr⟩:∃ x,w.alloc (.cells #[g.k,g.a,g.b,(0:Int)] 39)=x:=⟨_,rfl⟩;rw [hwr] at G0 W0 B0 ⊢;obtain ⟨gb,hgb⟩:∃ x,w.heap.size=x:=⟨_,rfl⟩;rw [hgb] at G0 ⊢;have lR0:R<=wr.heap.size:=W0.le;clear hwr hgb
 go_cut [22] (fun s22 wx=>∃ A5 c5,Bx wx gb 39 #[g.k,g.a,g.b,g.c]/\WS R W 163 n (di n g r) l A5 c5 A1 c1 wx/\Below R w wx)
 case first =>
  have WD:=W0.drew;have GD:=G0.drew;obtain ⟨t0,t1,t2,t3,t4,t5⟩:=WD.1.three;obtain ⟨g0,g1,g2,g3⟩:=GD.four4
  go_region_with (first
   |(go_at_call 115;refine (j7 n (2 * n) c0 A0 r g _ hn WD.rd WD.cap HOK.out HG.out HC.out).mono ?_;rintro e w5 ⟨A5,c5,rfl,o5,b5⟩;have W5:=WD.below b5;have G5:=GD.below b5;obtain ⟨x0,x1,x2,x3,x4,x5⟩:=W5.1.three)
   |fail)
  all_goals go_wp2_with fail
  all_goals go_meet
  all_goals exact ⟨A5,c5,G5.far2 (G5.ne W5.1 zD) _ _,W5.put zD zD (ae o5 lR0),ay (br B0.out lR0 (aC b5)) RW _ _⟩
 case rest =>
  obtain ⟨A5,c5,hG5,hW5,hB5⟩:=hcut;have W6:=zH hW5;have G6:=zH hG5;have B6:=zH hB5;clear hG5 hW5 hB5 G0 W0 B0;have hz4:(Value.agg #[(0:Int),(0:Int),(0:Int),(0:Int)]).cells.size=4:=rfl;have OA:=zH (W6.drew.2.2.1.alloc g);have WA:=zH (W6.drew.alloc g);have lR6:R<=wc.heap.size:=W6.le;have WD:=W6.drew;have GD:=G6.drew;obtain ⟨t0,t1,t2,t3,t4,t5⟩:=WD.1.three;obtain ⟨g0,g1,g2,g3⟩:=GD.four4;have T2A:=(W6.alloc g).1.cell 2;simp at T2A;clear WD GD;go_upto_region 2 with fail
  go_region_law (first
   |(refine bv zF (.tmp 29) (.tmp 31) 24 zF Tryz.underlying24 ak hz4 zD zA OA.out zA (Rd.lit wc.drew 39 #[g.k,g.a,g.b,g.c] 1 4 rfl) zV zO zD zS ?_;intro A7 c7 w7 o7 g7;have E7:=az OA.out g7 WA.out.1 zD;have ⟨e0,e1,e2,e3,e4,e5⟩:=E7.three)
   |fail)
  all_goals go_wp2_with fail
  all_goals (first | go_ret | go_end0)
  all_goals exact ⟨rfl,⟨A5,c5,A7,c7,WA.push zD zD g7 o7⟩,(oB B6.out OA.out lR6 g7).setCell RW _⟩
def SI (R W:Nat) (t:TypeId) (n B:Nat) (s:df) (w0 wx:World):Prop:=kD n s/\s.2.length<=B/\Vk R W t n s.1 s.2 wx/\Below R w0 wx
section
variable {R W n B B':Nat} {t:TypeId} {s:df} {w0 wx w':World}
theorem SI.le (h:SI R W t n B s w0 wx):R<=wx.heap.size:=by obtain ⟨_,_,⟨A0,c0,A1,c1,hW⟩,_⟩:=h;exact hW.le
theorem SI.below (h:SI R W t n B s w0 wx) (hb:Below wx wx w'):SI R W t n B s w0 w':=by
 have hl:=h.le;obtain ⟨h1,h2,⟨A0,c0,A1,c1,hW⟩,h3⟩:=h;exact ⟨h1,h2,⟨A0,c0,A1,c1,hW.below hb⟩,br h3 hl hb⟩
theorem SI.alloc (h:SI R W t n B s w0 wx) (o:Obj):SI R W t n B s w0 (wx.alloc o):=h.below ((zW).alloc zR _)
theorem SI.mono (h:SI R W t n B s w0 wx) (hB:B<=B'):SI R W t n B' s w0 wx:=⟨h.1,Nat.le_trans h.2.1 hB,h.2.2⟩
theorem SI.row (h:SI R W t n B s w0 wx) {i:Nat} (hi:i < 2 * n):∃ a,s.1[i]? = some a/\ci n a=true/\∃ A0 c0 A1 c1,WS R W t n s.1 s.2 A0 c0 A1 c1 wx:=by
 obtain ⟨h1,h2,⟨A0,c0,A1,c1,hW⟩,h3⟩:=h;obtain ⟨a,ha⟩:=aV (l:=s.1) (k:=i) (by rw [h1.1.1];exact hi);exact ⟨a,ha,(io h1.1 ha).1,A0,c0,A1,c1,hW⟩
end
theorem kU {r:List Pq} {i k:Nat} {a:Pq} (h:r[i]? = some a):xB r i k=aZ a.x k:=by unfold xB fF;rw [List.getD_eq_getElem?_getD,h];rfl
theorem qd {r:List Pq} {i k:Nat} {a:Pq} (h:r[i]? = some a):zB r i k=aZ a.z k:=by unfold zB fF;rw [List.getD_eq_getElem?_getD,h];rfl
theorem qW {r:List Pq} {i:Nat} {a:Pq} (h:r[i]? = some a):fF r i=a:=by unfold fF;rw [List.getD_eq_getElem?_getD,h];rfl
theorem kh (R W n B:Nat) (s:df) (k:Int) (a b:Nat) (bi:Int) (w0 w:World) (hn:1<=n/\n<=4) (h:SI R W 159 n B s w0 w) (hb:bi=(b:Nat)) (hg:bF n ⟨k,a,(b:Nat),0⟩=true) (hc:bh k=true) (hB:B<=1000) :
  Calls Tryz.prog 189 #[.pointer (some ⟨W,0,none⟩),.agg #[k,a,bi,(0:Int)]] w fun e w'=>e=.returned (.tuple #[])/\SI R W 159 n (B+1) (iK n s k a b) w0 w':=by
 subst hb;obtain ⟨h1,h2,h3,h4⟩:=h;refine (Ws R W n s.1 s.2 ⟨k,a,b,0⟩ w hn h3 h1.1 hg hc zO).mono ?_;rintro e w' ⟨rfl,hW,hb⟩;exact ⟨rfl,pi h1 hg hc,by rw [gS];omega,hW,h4.trans hb⟩
theorem gP (R W n B:Nat) (s:df) (k:Int) (a b:Nat) (bi:Int) (w0 w:World) (hn:1<=n/\n<=4) (h:SI R W 163 n B s w0 w) (hb:bi=(b:Nat)) (hg:bF n ⟨k,a,(b:Nat),0⟩=true) (hc:bh k=true) (hB:B<=1000) :
  Calls Tryz.prog 198 #[.pointer (some ⟨W,0,none⟩),k,a,bi] w fun e w'=>e=.returned (.tuple #[])/\SI R W 163 n (B+1) (iK n s k a b) w0 w':=by
 subst hb;obtain ⟨h1,h2,h3,h4⟩:=h;refine (Oj R W n s.1 s.2 ⟨k,a,b,0⟩ w hn h3 h1.1 hg hc zO rfl).mono ?_;rintro e w' ⟨rfl,hW,hb⟩;exact ⟨rfl,pi h1 hg hc,by rw [gS];omega,hW,h4.trans hb⟩
theorem Ki {p:Prop} (h:p:=by
  skip;go_wp2_with fail;have HP:=zH (Bx.new wr 151 #[n,a.x,a.z,a.p]);have HS:=zH (HS.alloc (.cells #[n,a.x,a.z,a.p] 151));clear y0 y1 y2 y3 t0 t1 t2 hbl;refine (jB n k a _ hx16 zO).mono ?_;rintro e wq ⟨rfl,bq⟩;have HP:=zH (HP.below bq);obtain ⟨p0,p1,p2,p3,_⟩:=HP.four;have HS:=zH (HS.below bq);clear bq;go_wp2_with fail;refine (jB n k a _ hx16 zO).mono ?_;rintro e wq ⟨rfl,bq⟩;have HP:=zH (HP.below bq);obtain ⟨p0,p1,p2,p3,_⟩:=HP.four;have HS:=zH (HS.below bq);clear bq;go_wp2_with fail;go_roundg (gk - 1)
  all_goals first
   |omega
   |exact ⟨k+1,_,zO,by go_num,zO,by have:=NX.out;rwa [show f3 n q k s=s by unfold f3;(try rw [EX.out]);(try rw [EZ.out]);(try rw [hx]);(try rw [hz]);rfl] at this,HS.mono zO⟩):p:=h
theorem wL {p:Prop} (h:p:=by
  go_wp2_with fail;go_meet;exact HE.out ▸ HS.mono zO):p:=h
theorem Kj {p:Prop} (h:p:=by
  go_wp2_with fail
  (first | go_ret | go_end0)
  exact ⟨rfl,by rw [HE8.out,<- HE.out];exact HS.mono zO⟩):p:=h
theorem Kk (R W n B0 q:Nat) (S3:df) (w0 w:World) (hn:1<=n/\n<=4) (hq:q < n) (h:SI R W 159 n B0 S3 w0 w) (hB:B0<=500) :
  Calls Tryz.prog 153 #[.pointer (some ⟨W,0,none⟩),q] w fun e w'=>e=.returned (.tuple #[])/\SI R W 159 n (B0+17) (fe n q S3) w0 w':=by
 obtain ⟨S4,eS4⟩:∃ S,cm (f3 n q) (q+1) (n - (q+1)) S3=S:=⟨_,rfl⟩;obtain ⟨S5,eS5⟩:∃ S,cm (f4 n q) (q+1) (n - (q+1)) S4=S:=⟨_,rfl⟩;obtain ⟨S6,eS6⟩:∃ S,hH n q S5=S:=⟨_,rfl⟩;obtain ⟨S7,eS7⟩:∃ S,pZ n q S6=S:=⟨_,rfl⟩;obtain ⟨S8,eS8⟩:∃ S,pX n q S7=S:=⟨_,rfl⟩;have HE8:=zH (show fe n q S3=S8 by rw [<- eS8,<- eS7,<- eS6,<- eS5,<- eS4];rfl);have HS4:=zH eS4;clear eS4;have HS5:=zH eS5;clear eS5;have HS6:=zH eS6;clear eS6;have HS7:=zH eS7;clear eS7;have HS8:=zH eS8;clear eS8;have n1:(1:Int)<=(n:Int):=zO;have n4:(n:Int)<=4:=zO;have q0:(0:Int)<=(q:Int):=zO;have qn:(q:Int) < (n:Int):=zO;have HS:=zH h;clear h;obtain ⟨A0,c0,A1,c1,hW⟩:=HS.out.2.2.1;obtain ⟨t0,t1,t2,_⟩:=hW.1.three;clear hW;go_enter Tryz.func153,Tryz.ntmps153;go_upto_block 0 with fail
 go_cut [5] from 15 to 52 (fun i wx=>SI R W 159 n (B0+2 * n) S4 w0 wx)
 case first =>
  go_wp2_with fail;go_loopg [5] (n - (q+1)) (fun m i wr=>∃ (k:Nat) (s:df),k+m=n/\i=.int .i64 k/\q+1<=k/\cm (f3 n q) k m s=S4/\SI R W 159 n (B0+2 * k) s w0 wr)
  case atStart=>exact ⟨q+1,_,zO,by go_num,zO,HS4.out,HS.mono zO⟩
  case round =>
   clear HS HS4;obtain ⟨k,s,hk,rfl,hqk,hfin,hS⟩:=hrel;have HS:=zH hS;clear hS;by_cases hlt:k < n
   ·have NX:=zH (eX hlt hk hfin);clear hfin;obtain ⟨a,ha,hoa,A0,c0,A1,c1,hW⟩:=HS.row (i:=n+q) zO;have HW:=zH hW;have HA:=zH ha;have hx16:=(bI hn.2 hoa).1;have hz16:=(bI hn.2 hoa).2.1;obtain ⟨b,off,rfl⟩:=hW.rd.first zO;obtain ⟨hbl,y0,y1,y2,y3⟩:=hW.rd.cellsAt (aE ha);simp only [pg] at y0 y1 y2 y3;obtain ⟨t0,t1,t2,_⟩:=hW.1.three;have HB:=zH (ot HA);have hi1:(n:Int)+(q:Int) < ((2 * n:Nat):Int):=zO;have hi2:(q:Int)+(n:Int) < ((2 * n:Nat):Int):=zO;clear hW ha;have EX:=zH (kU (k:=k) HB);have EZ:=zH (qd (k:=k) HB);cases hx:aZ a.x k
    ·skip;cases hz:aZ a.z k
     ·exact Ki
     ·exact Ki
    ·skip;cases hz:aZ a.z k
     ·skip;go_wp2_with fail;have HP:=zH (Bx.new wr 151 #[n,a.x,a.z,a.p]);have HS:=zH (HS.alloc (.cells #[n,a.x,a.z,a.p] 151));clear y0 y1 y2 y3 t0 t1 t2 hbl;refine (jB n k a _ hx16 zO).mono ?_;rintro e wq ⟨rfl,bq⟩;have HP:=zH (HP.below bq);obtain ⟨p0,p1,p2,p3,_⟩:=HP.four;have HS:=zH (HS.below bq);clear bq;go_wp2_with fail;refine (p9 n k a _ hz16 zO).mono ?_;rintro e wq ⟨rfl,bq⟩;have HP:=zH (HP.below bq);obtain ⟨p0,p1,p2,p3,_⟩:=HP.four;have HS:=zH (HS.below bq);clear bq;go_wp2_with fail;refine (jB n k a _ hx16 zO).mono ?_;rintro e wq ⟨rfl,bq⟩;have HP:=zH (HP.below bq);obtain ⟨p0,p1,p2,p3,_⟩:=HP.four;have HS:=zH (HS.below bq);clear bq;go_wp2_with fail;refine (eG 4 k _).mono ?_;rintro e wq ⟨rfl,bq⟩;have HS:=zH (HS.below bq);clear bq;go_wp2_with fail
      refine (kh R W n (B0+2 * k) _ 4 k 0 _ w0 _ hn HS.out rfl (aP hn zO (show (4:Int) ∈ oneKs by decide)).1 (aP (q:=k) hn zO (show (4:Int) ∈ oneKs by decide)).2 zO).mono ?_;rintro e wq ⟨rfl,hq0⟩;have HS:=zH hq0;clear hq0;go_wp2_with fail;go_roundg (gk - 1)
      all_goals first
       |omega
       |exact ⟨k+1,_,zO,by go_num,zO,by have:=NX.out;rwa [show f3 n q k s=iK n s 4 k 0 by unfold f3;(try rw [EX.out]);(try rw [EZ.out]);(try rw [hx]);(try rw [hz]);rfl] at this,HS.mono zO⟩
     ·skip;go_wp2_with fail;have HP:=zH (Bx.new wr 151 #[n,a.x,a.z,a.p]);have HS:=zH (HS.alloc (.cells #[n,a.x,a.z,a.p] 151));clear y0 y1 y2 y3 t0 t1 t2 hbl;refine (jB n k a _ hx16 zO).mono ?_;rintro e wq ⟨rfl,bq⟩;have HP:=zH (HP.below bq);obtain ⟨p0,p1,p2,p3,_⟩:=HP.four;have HS:=zH (HS.below bq);clear bq;go_wp2_with fail;refine (p9 n k a _ hz16 zO).mono ?_;rintro e wq ⟨rfl,bq⟩;have HP:=zH (HP.below bq);obtain ⟨p0,p1,p2,p3,_⟩:=HP.four;have HS:=zH (HS.below bq);clear bq;go_wp2_with fail;refine (eG 5 k _).mono ?_;rintro e wq ⟨rfl,bq⟩;have HS:=zH (HS.below bq);clear bq;go_wp2_with fail;refine (kh R W n (B0+2 * k) _ 5 k 0 _ w0 _ hn HS.out rfl (aP hn zO (show (5:Int) ∈ oneKs by decide)).1 (aP (q:=k) hn zO (show (5:Int) ∈ oneKs by decide)).2 zO).mono ?_;rintro e wq ⟨rfl,hq0⟩;have HS:=zH hq0;clear hq0;go_wp2_with fail;refine (eG 4 k _).mono ?_;rintro e wq ⟨rfl,bq⟩
      have HS:=zH (HS.below bq);clear bq;go_wp2_with fail;refine (kh R W n (B0+2 * k+1) _ 4 k 0 _ w0 _ hn HS.out rfl (aP hn zO (show (4:Int) ∈ oneKs by decide)).1 (aP (q:=k) hn zO (show (4:Int) ∈ oneKs by decide)).2 zO).mono ?_;rintro e wq ⟨rfl,hq0⟩;have HS:=zH hq0;clear hq0;go_wp2_with fail;go_roundg (gk - 1)
      all_goals first
       |omega
       |exact ⟨k+1,_,zO,by go_num,zO,by have:=NX.out;rwa [show f3 n q k s=iK n (iK n s 5 k 0) 4 k 0 by unfold f3;(try rw [EX.out]);(try rw [EZ.out]);(try rw [hx]);(try rw [hz]);rfl] at this,HS.mono zO⟩
   ·obtain rfl:n=k:=zO;obtain rfl:gk=0:=zO;obtain rfl:s=S4:=hfin;go_wp2_with fail;go_meet;exact HS.out
 case rest =>
  have HS:=zH hcut;clear hcut;obtain ⟨wn,rfl⟩:∃ wn,wn=wc:=⟨_,rfl⟩;go_upto_block 2 with fail
  go_cut [7] from 55 to 76 (fun i wx=>SI R W 159 n (B0+2 * n+1 * n) S5 w0 wx)
  case first =>
   go_wp2_with fail;go_loopg [7] (n - (q+1)) (fun m i wr=>∃ (k:Nat) (s:df),k+m=n/\i=.int .i64 k/\q+1<=k/\cm (f4 n q) k m s=S5/\SI R W 159 n (B0+2 * n+1 * k) s w0 wr)
   case atStart=>exact ⟨q+1,_,zO,by go_num,zO,HS5.out,HS.mono zO⟩
   case round =>
    clear HS HS5;obtain ⟨k,s,hk,rfl,hqk,hfin,hS⟩:=hrel;have HS:=zH hS;clear hS;by_cases hlt:k < n
    ·have NX:=zH (eX hlt hk hfin);clear hfin;obtain ⟨a,ha,hoa,A0,c0,A1,c1,hW⟩:=HS.row (i:=n+q) zO;have HW:=zH hW;have HA:=zH ha;have hx16:=(bI hn.2 hoa).1;have hz16:=(bI hn.2 hoa).2.1;obtain ⟨b,off,rfl⟩:=hW.rd.first zO;obtain ⟨hbl,y0,y1,y2,y3⟩:=hW.rd.cellsAt (aE ha);simp only [pg] at y0 y1 y2 y3;obtain ⟨t0,t1,t2,_⟩:=hW.1.three;have HB:=zH (ot HA);have hi1:(n:Int)+(q:Int) < ((2 * n:Nat):Int):=zO;have hi2:(q:Int)+(n:Int) < ((2 * n:Nat):Int):=zO;clear hW ha;have EX:=zH (kU (k:=k) HB);have EZ:=zH (qd (k:=k) HB);cases hz:aZ a.z k
     ·skip;go_wp2_with fail;refine (p9 n k a _ hz16 zO).mono ?_;rintro e wq ⟨rfl,bq⟩;have HS:=zH (HS.below bq);clear bq;go_wp2_with fail;go_roundg (gk - 1)
      all_goals first
       |omega
       |exact ⟨k+1,_,zO,by go_num,zO,by have:=NX.out;rwa [show f4 n q k s=s by unfold f4;(try rw [EX.out]);(try rw [EZ.out]);(try rw [hx]);(try rw [hz]);rfl] at this,HS.mono zO⟩
     ·skip;go_wp2_with fail;refine (p9 n k a _ hz16 zO).mono ?_;rintro e wq ⟨rfl,bq⟩;have HS:=zH (HS.below bq);clear bq;go_wp2_with fail;refine (Uj k q _).mono ?_;rintro e wq ⟨rfl,bq⟩;have HS:=zH (HS.below bq);clear bq;go_wp2_with fail;refine (kh R W n (B0+2 * n+1 * k) _ 9 k q _ w0 _ hn HS.out rfl (iC hn (show k < n by omega) (show q < n by omega) zO).1 zD zO).mono ?_;rintro e wq ⟨rfl,hq0⟩;have HS:=zH hq0;clear hq0;go_wp2_with fail;go_roundg (gk - 1)
      all_goals first
       |omega
       |exact ⟨k+1,_,zO,by go_num,zO,by have:=NX.out;rwa [show f4 n q k s=iK n s 9 k q by unfold f4;(try rw [EX.out]);(try rw [EZ.out]);(try rw [hx]);(try rw [hz]);rfl] at this,HS.mono zO⟩
    ·obtain rfl:n=k:=zO;obtain rfl:gk=0:=zO;obtain rfl:s=S5:=hfin;go_wp2_with fail;go_meet;exact HS.out
  case rest =>
   have HS:=zH hcut;clear hcut;obtain ⟨wn,rfl⟩:∃ wn,wn=wc:=⟨_,rfl⟩;obtain ⟨a,ha,hoa,A0,c0,A1,c1,hW⟩:=HS.row (i:=n+q) zO;have HW:=zH hW;have HA:=zH ha;have hx16:=(bI hn.2 hoa).1;have hz16:=(bI hn.2 hoa).2.1;obtain ⟨b,off,rfl⟩:=hW.rd.first zO;obtain ⟨hbl,y0,y1,y2,y3⟩:=hW.rd.cellsAt (aE ha);simp only [pg] at y0 y1 y2 y3;obtain ⟨t0,t1,t2,_⟩:=hW.1.three;have HB:=zH (ot HA);have hi1:(n:Int)+(q:Int) < ((2 * n:Nat):Int):=zO;have hi2:(q:Int)+(n:Int) < ((2 * n:Nat):Int):=zO;clear hW ha;have EX:=zH (kU (k:=q) HB);go_wp2_with fail;refine (jB n q a _ hx16 zO).mono ?_;rintro e wq ⟨rfl,bq⟩;have HS:=zH (HS.below bq);clear bq;go_upto_if 88 with fail
   go_cut [89] from 88 to 100 (fun i wx=>SI R W 159 n (B0+2 * n+1 * n+3) S6 w0 wx)
   case first =>
    cases hx:aZ a.x q
    ·skip;have HE:=zH (show S5=S6 by have:=HS6.out;unfold hH at this;rwa [EX.out,if_neg (by first | (rw [hx];decide) | assumption)] at this);exact wL
    ·skip;have HE:=zH (show iK n (iK n (iK n S5 4 q 0) 5 q 0) 4 q 0=S6 by have:=HS6.out;unfold hH at this;rwa [EX.out,if_pos (by first | exact hx | decide | assumption)] at this);go_wp2_with fail;refine (eG 4 q _).mono ?_;rintro e wq ⟨rfl,bq⟩;have HS:=zH (HS.below bq);clear bq;go_wp2_with fail;refine (kh R W n (B0+2 * n+1 * n) _ 4 q 0 _ w0 _ hn HS.out rfl (aP hn zO (show (4:Int) ∈ oneKs by decide)).1 (aP (q:=q) hn zO (show (4:Int) ∈ oneKs by decide)).2 zO).mono ?_;rintro e wq ⟨rfl,hq0⟩;have HS:=zH hq0;clear hq0;go_wp2_with fail;refine (eG 5 q _).mono ?_;rintro e wq ⟨rfl,bq⟩;have HS:=zH (HS.below bq);clear bq;go_wp2_with fail;refine (kh R W n (B0+2 * n+1 * n+1) _ 5 q 0 _ w0 _ hn HS.out rfl (aP hn zO (show (5:Int) ∈ oneKs by decide)).1 (aP (q:=q) hn zO (show (5:Int) ∈ oneKs by decide)).2 zO).mono ?_;rintro e wq ⟨rfl,hq0⟩;have HS:=zH hq0;clear hq0
     go_wp2_with fail;refine (eG 4 q _).mono ?_;rintro e wq ⟨rfl,bq⟩;have HS:=zH (HS.below bq);clear bq;go_wp2_with fail;refine (kh R W n (B0+2 * n+1 * n+1+1) _ 4 q 0 _ w0 _ hn HS.out rfl (aP hn zO (show (4:Int) ∈ oneKs by decide)).1 (aP (q:=q) hn zO (show (4:Int) ∈ oneKs by decide)).2 zO).mono ?_;rintro e wq ⟨rfl,hq0⟩;have HS:=zH hq0;clear hq0;exact wL
   case rest =>
    have HS:=zH hcut;clear hcut;obtain ⟨wn,rfl⟩:∃ wn,wn=wc:=⟨_,rfl⟩;clear HW HA HB EX hx16 hz16 hoa
    try clear hi1 hi2
    try clear hi1
    obtain ⟨a,ha,hoa,A0,c0,A1,c1,hW⟩:=HS.row (i:=q) zO;have HW:=zH hW;have HA:=zH ha;have hx16:=(bI hn.2 hoa).1;have hz16:=(bI hn.2 hoa).2.1;obtain ⟨b,off,rfl⟩:=hW.rd.first zO;obtain ⟨hbl,y0,y1,y2,y3⟩:=hW.rd.cellsAt (aE ha);simp only [pg] at y0 y1 y2 y3;obtain ⟨t0,t1,t2,_⟩:=hW.1.three;have HB:=HA;have hi1:(q:Int) < ((2 * n:Nat):Int):=zO;clear hW ha;have EX:=zH (qW HB);go_upto_if 110 with fail
    go_cut [111] from 109 to 114 (fun i wx=>SI R W 159 n (B0+2 * n+1 * n+3+1) S7 w0 wx)
    case first =>
     by_cases hx:a.p=2
     ·have hpb:(((a.p:Nat):Int) == 2)=true:=zJ;have HE:=zH (show iK n S6 3 q 0=S7 by have:=HS7.out;unfold pZ at this;rwa [EX.out,if_pos (by first | exact hx | decide | assumption)] at this);go_wp2_with fail;refine (eG 3 q _).mono ?_;rintro e wq ⟨rfl,bq⟩;have HS:=zH (HS.below bq);clear bq;go_wp2_with fail;refine (kh R W n (B0+2 * n+1 * n+3) _ 3 q 0 _ w0 _ hn HS.out rfl (aP hn zO (show (3:Int) ∈ oneKs by decide)).1 (aP (q:=q) hn zO (show (3:Int) ∈ oneKs by decide)).2 zO).mono ?_;rintro e wq ⟨rfl,hq0⟩;have HS:=zH hq0;clear hq0;exact wL
     ·have hpb:(((a.p:Nat):Int) == 2)=false:=zJ;have HE:=zH (show S6=S7 by have:=HS7.out;unfold pZ at this;rwa [EX.out,if_neg (by first | (rw [hx];decide) | assumption)] at this);exact wL
    case rest =>
     have HS:=zH hcut;clear hcut;obtain ⟨wn,rfl⟩:∃ wn,wn=wc:=⟨_,rfl⟩;clear HW HA HB EX hx16 hz16 hoa
     try clear hi1 hi2
     try clear hi1
     obtain ⟨a,ha,hoa,A0,c0,A1,c1,hW⟩:=HS.row (i:=n+q) zO;have HW:=zH hW;have HA:=zH ha;have hx16:=(bI hn.2 hoa).1;have hz16:=(bI hn.2 hoa).2.1;obtain ⟨b,off,rfl⟩:=hW.rd.first zO;obtain ⟨hbl,y0,y1,y2,y3⟩:=hW.rd.cellsAt (aE ha);simp only [pg] at y0 y1 y2 y3;obtain ⟨t0,t1,t2,_⟩:=hW.1.three;have HB:=zH (ot HA);have hi1:(n:Int)+(q:Int) < ((2 * n:Nat):Int):=zO;have hi2:(q:Int)+(n:Int) < ((2 * n:Nat):Int):=zO;clear hW ha;have EX:=zH (qW HB);by_cases hx:a.p=2
     ·have hpb:(((a.p:Nat):Int) == 2)=true:=zJ;have HE:=zH (show iK n S7 1 q 0=S8 by have:=HS8.out;unfold pX at this;rwa [EX.out,if_pos hx] at this);go_wp2_with fail;refine (eG 1 q _).mono ?_;rintro e wq ⟨rfl,bq⟩;have HS:=zH (HS.below bq);clear bq;go_wp2_with fail;refine (kh R W n (B0+2 * n+1 * n+3+1) _ 1 q 0 _ w0 _ hn HS.out rfl (aP hn zO (show (1:Int) ∈ oneKs by decide)).1 (aP (q:=q) hn zO (show (1:Int) ∈ oneKs by decide)).2 zO).mono ?_;rintro e wq ⟨rfl,hq0⟩;have HS:=zH hq0;clear hq0;exact Kj
     ·have hpb:(((a.p:Nat):Int) == 2)=false:=zJ;have HE:=zH (show S7=S8 by have:=HS8.out;unfold pX at this;rwa [EX.out,if_neg hx] at this);exact Kj
end Go.Proofs.YtmenmibfkojnoaaGreat
