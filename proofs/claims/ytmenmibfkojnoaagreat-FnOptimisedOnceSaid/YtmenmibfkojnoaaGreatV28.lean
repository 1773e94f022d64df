/- Contracts of l28Do (spec) and emit (impl). Contract of FoldPhases (impl). At most 2^20 gates. -/
import Derived.Test.YtmenmibfkojnoaaGreatV27
import Derived.Test.YtmenmibfkojnoaaGreatV22
import Derived.Test.YtmenmibfkojnoaaGreatV16
import Derived.Test.YtmenmibfkojnoaaGreatV26
import Derived.Test.YtmenmibfkojnoaaGreatV25
import Derived.Outline
import Derived.WideMake
set_option maxHeartbeats 16000000
namespace Go.Proofs.YtmenmibfkojnoaaGreat
open Go.RowKit
set_option linter.unusedVariables false
theorem below_trans' {R:Nat} {w wx w':World} (h:Below R w wx) (hR:R<=wx.heap.size) (hb:Below wx.heap.size wx w'):Below R w w':=h.trans (hb.mono hR)
theorem below_grown' {R:Nat} {w w6 w7:World} {e sz n:Nat} {v:Value} {xs:List Value} {o:Obj} (hB:Below R w w6) (ho:(w6.drew.alloc o).ownsRow R e sz v n xs) (hR:R<=w6.heap.size) (hg:(w6.drew.alloc o).grownBy w7 v.ownBlock):Below R w w7 :=
 below_grown (hB.drew.alloc hR o) (Nat.le_trans hR (by simp)) ho zR hg
def WSE (R W:Nat) (t:TypeId) (n:Nat) (r:List Pq) (l:List Gt) (wx:World):Prop:=∃ A0 c0 A1 c1,WS R W t n r l A0 c0 A1 c1 wx
set_option maxRecDepth 100000 in
theorem s_Do (R W n:Nat) (r:List Pq) (l:List Gt) (g:Gt) (w:World) (hn:1<=n/\n<=4) (hW:WSE R W 159 n r l w) (hok:okT n r) (hg:okN n g=true) (hcl:cliff g.k=true) (hlen:l.length<=1000) :
  Calls Tryz.prog 189 #[.pointer (some ⟨W,0,none⟩),.agg #[.int .i64 g.k,.int .i64 g.a,.int .i64 g.b,.int .i64 g.c]] w fun e w'=>e=.returned (.tuple #[])/\WSE R W 159 n (appT n g r) (l++[g]) w'/\Below R w w':=by
 obtain ⟨A0,c0,A1,c1,hW⟩:=hW
 have G0:=zH (Bx.new w 39 #[.int .i64 g.k,.int .i64 g.a,.int .i64 g.b,.int .i64 g.c])
 have W0:=zH (hW.alloc (.cells #[.int .i64 g.k,.int .i64 g.a,.int .i64 g.b,.int .i64 g.c] 39))
 have B0:=zH (show Below R w (w.alloc (.cells #[.int .i64 g.k,.int .i64 g.a,.int .i64 g.b,.int .i64 g.c] 39)) from (zW).alloc hW.le _)
 have HOK:=zH hok
 have HG:=zH hg
 have HC:=zH hcl
 have lR:=hW.le
 have lW:=hW.1.lt
 have RW:=hW.2.2.2
 have hz2:(Value.agg #[.int .i64 0,.int .i64 0,.int .i64 0,.int .i64 0]).cells.size=4:=rfl
 clear hW hok hg hcl
 go_enter Tryz.func189,Tryz.ntmps189
 go_wp2_with fail
 obtain ⟨wr,hwr⟩:∃ x,w.alloc (.cells #[.int .i64 g.k,.int .i64 g.a,.int .i64 g.b,.int .i64 g.c] 39)=x:=⟨_,rfl⟩
 rw [hwr] at G0 W0 B0 ⊢
 obtain ⟨gb,hgb⟩:∃ x,w.heap.size=x:=⟨_,rfl⟩
 rw [hgb] at G0 ⊢
 have lR0:R<=wr.heap.size:=W0.out.le
 clear hwr hgb
 have TK:=fun (w5:World) (b5:Below wr.heap.size wr w5)=>(⟨⟨(W0.out.below b5).1.cell 0,(W0.out.below b5).1.cell 1⟩,(G0.out.below b5).four4⟩:(w5.cell? ⟨W,0,none⟩=some (.int .i64 (n:Nat))/\w5.cell? ⟨W,1,none⟩=some (.slice A0 (2 * n) c0))/\(w5.cell? ⟨gb,0,none⟩=some (.int .i64 g.k)/\w5.cell? ⟨gb,1,none⟩=some (.int .i64 g.a)/\w5.cell? ⟨gb,2,none⟩=some (.int .i64 g.b)/\w5.cell? ⟨gb,3,none⟩=some (.int .i64 g.c)))
 have TK0:=TK _ (Below.refl wr.heap.size wr).drew
 go_cut [4,5] (fun s4 s5 wx=>∃ P A5 c5,s4=.pointer (some ⟨P,0,none⟩)/\s5=.bool true/\Bx wx P 73 #[.int .i64 (n:Nat),.slice A5 (2 * n) c5]/\wx.ownsRow R 151 4 (.slice A5 (2 * n) c5) (2 * n) (cellsG (pgs n (appT n g r)))/\Bx wx gb 39 #[.int .i64 g.k,.int .i64 g.a,.int .i64 g.b,.int .i64 g.c]/\WS R W 159 n r l A0 c0 A1 c1 wx/\Below R w wx)
 case first =>
  go_region_held3 (fun w'=>(w'.cell? ⟨W,0,none⟩=some (.int .i64 (n:Nat))/\w'.cell? ⟨W,1,none⟩=some (.slice A0 (2 * n) c0))/\(w'.cell? ⟨gb,0,none⟩=some (.int .i64 g.k)/\w'.cell? ⟨gb,1,none⟩=some (.int .i64 g.a)/\w'.cell? ⟨gb,2,none⟩=some (.int .i64 g.b)/\w'.cell? ⟨gb,3,none⟩=some (.int .i64 g.c)))
   (first
    |exact TK _ ((Below.refl wr.heap.size wr).drew)
    |exact TK _ (((Below.refl wr.heap.size wr).alloc zR _).drew)
    |exact TK _ (((Below.refl wr.heap.size wr).drew).alloc zR _)
    |exact TK _ (below_drew b5)
    |exact TK _ (below_trans ((Below.refl wr.heap.size wr).alloc zR _).drew b5)
    |exact TK _ (below_trans ((Below.refl wr.heap.size wr).drew.alloc zR _) b5)
    |exact TK _ ((below_drew b5).alloc (by simpa using b5.size) _)
    |exact TK _ (belowS2 (below_trans ((Below.refl wr.heap.size wr).alloc zR _).drew b5) zR _ _)
    |exact TK _ (belowS2 (below_trans ((Below.refl wr.heap.size wr).drew.alloc zR _) b5) zR _ _)
    |exact TK _ ((belowS2 (below_trans ((Below.refl wr.heap.size wr).alloc zR _).drew b5) zR _ _).drew)
    |exact TK _ ((belowS2 (below_trans ((Below.refl wr.heap.size wr).drew.alloc zR _) b5) zR _ _).drew)
    |exact TK _ ((below_drew b5).drew)
    |exact TK _ ((below_trans ((Below.refl wr.heap.size wr).alloc zR _).drew b5).drew)
    |exact TK _ ((below_trans ((Below.refl wr.heap.size wr).drew.alloc zR _) b5).drew)
    |go_keep)
   (first
    |(go_at_call 111;(first | refine (s_TabApp n (2 * n) c0 A0 r g _ hn W0.out.drew.rd W0.out.cap HOK.out HG.out HC.out).mono ?_ | refine (s_TabApp n (2 * n) c0 A0 r g _ hn (W0.out.alloc _).drew.rd W0.out.cap HOK.out HG.out HC.out).mono ?_ | refine (s_TabApp n (2 * n) c0 A0 r g _ hn (W0.out.drew.alloc _).rd W0.out.cap HOK.out HG.out HC.out).mono ?_);rintro e w5 ⟨A5,c5,rfl,o5,b5⟩;first | (have PB:Bx w5 wr.heap.size 73 #[.int .i64 0,.slice none 0 0]:=(Bx.new wr 73 #[.int .i64 0,.slice none 0 0]).drew.below b5;obtain ⟨x0,x1,x2,x3⟩:=PB.two) | (have PB:Bx w5 wr.heap.size 73 #[.int .i64 0,.slice none 0 0]:=(Bx.new wr.drew 73 #[.int .i64 0,.slice none 0 0]).below b5;obtain ⟨x0,x1,x2,x3⟩:=PB.two) | skip)
    |fail)
  all_goals go_wp2_with fail
  all_goals go_meet
  all_goals first
   |exact ⟨_,A5,c5,rfl,rfl,Bx.new _ _ _,ownsRow_base (o5.alloc _) (by simpa using lR0),G0.out.below ((below_drew b5).alloc (by simpa using b5.size) _),W0.out.below ((below_drew b5).alloc (by simpa using b5.size) _),below_trans' B0.out lR0 ((below_drew b5).alloc (by simpa using b5.size) _)⟩
   |(have PB1:Bx (w5.setCell ⟨wr.heap.size,0,none⟩ (.int .i64 (n:Nat))) wr.heap.size 73 #[.int .i64 (n:Nat),.slice none 0 0]:=(by simpa using PB.set_ 0 (.int .i64 (n:Nat)));exact ⟨_,A5,c5,rfl,rfl,PB.set2 _ _,ownsRow_base (own_farT (own_farT o5 PB (by decide) 0 _) PB1 (by decide) 1 _) (by simpa using Nat.le_succ_of_le lR0),G0.out.below (belowS2 (below_trans ((Below.refl wr.heap.size wr).alloc zR _).drew b5) zR _ _),W0.out.below (belowS2 (below_trans ((Below.refl wr.heap.size wr).alloc zR _).drew b5) zR _ _),below_trans' B0.out lR0 (belowS2 (below_trans ((Below.refl wr.heap.size wr).alloc zR _).drew b5) zR _ _)⟩)
   |(have PB1:Bx (w5.setCell ⟨wr.heap.size,0,none⟩ (.int .i64 (n:Nat))) wr.heap.size 73 #[.int .i64 (n:Nat),.slice none 0 0]:=(by simpa using PB.set_ 0 (.int .i64 (n:Nat)));exact ⟨_,A5,c5,rfl,rfl,PB.set2 _ _,ownsRow_base (own_farT (own_farT o5 PB (by decide) 0 _) PB1 (by decide) 1 _) (by simpa using Nat.le_succ_of_le lR0),G0.out.below (belowS2 (below_trans ((Below.refl wr.heap.size wr).drew.alloc zR _) b5) zR _ _),W0.out.below (belowS2 (below_trans ((Below.refl wr.heap.size wr).drew.alloc zR _) b5) zR _ _),below_trans' B0.out lR0 (belowS2 (below_trans ((Below.refl wr.heap.size wr).drew.alloc zR _) b5) zR _ _)⟩)
 case rest =>
  obtain ⟨P,A5,c5,rfl,rfl,hP,hO5,hG5,hW5,hB5⟩:=hcut
  clear TK TK0 G0 W0 B0
  obtain ⟨y0',y1',_⟩:=hP.two
  have hgW:gb ≠ W:=hG5.ne hW5.1 (by decide)
  have W6:=zH (hW5.put (by decide) (by decide) hO5)
  have G6:=zH (hG5.far2 hgW (.int .i64 (n:Nat)) (.slice A5 (2 * n) c5))
  have B6:=zH (belowS2 hB5 RW (.int .i64 (n:Nat)) (.slice A5 (2 * n) c5))
  obtain ⟨t0,t1,t2,t3,t4,t5⟩:=hW5.1.three
  clear hP hO5 hG5 hW5 hB5
  go_upto_region 4 with fail
  obtain ⟨w6,hw6⟩:∃ x,(wc.setCell ⟨W,0,none⟩ (.int .i64 (n:Nat))).setCell ⟨W,1,none⟩ (.slice A5 (2 * n) c5)=x:=⟨_,rfl⟩
  simp only [S2] at W6 G6 B6
  rw [hw6] at W6 G6 B6 ⊢
  clear hw6 y0' y1' t0 t1 t2 t3 t4 t5
  have hz4:(Value.agg #[.int .i64 0,.int .i64 0,.int .i64 0,.int .i64 0]).cells.size=4:=rfl
  have OA:=zH (W6.out.drew.2.2.1.alloc (.cells #[.int .i64 g.k,.int .i64 g.a,.int .i64 g.b,.int .i64 g.c] 39))
  have WA:=zH (W6.out.drew.alloc (.cells #[.int .i64 g.k,.int .i64 g.a,.int .i64 g.b,.int .i64 g.c] 39))
  have lR6:R<=w6.heap.size:=W6.out.le
  have WD:=W6.out.drew
  have GD:=G6.out.drew
  obtain ⟨t0,t1,t2,t3,t4,t5⟩:=WD.1.three
  obtain ⟨g0,g1,g2,g3⟩:=GD.four4
  obtain ⟨_,_,t2a,_,_,t5a⟩:=WA.out.1.three
  have T2A:=(W6.out.alloc (.cells #[.int .i64 g.k,.int .i64 g.a,.int .i64 g.b,.int .i64 g.c] 39)).1.cell 2
  simp at T2A
  clear WD GD
  go_region_law (first
   |(refine step_app (by rfl) (.tmp 24) (.tmp 26) 24 (by rfl) Tryz.underlying24 infoGate hz4 (by decide) (by simp [Act.eval]<;>rfl) OA.out (by simp [Act.eval]<;>rfl) (Rd.lit w6.drew 39 #[.int .i64 g.k,.int .i64 g.a,.int .i64 g.b,.int .i64 g.c] 1 4 rfl) (by simp [Value.oneCell']) (by omega) (by decide) (by simp<;>omega) ?_;intro A7 c7 w7 o7 g7;have E7:=kept_app OA.out g7 WA.out.1 (by decide);have ⟨e0,e1,e2,e3,e4,e5⟩:=E7.three)
   |fail)
  all_goals go_wp2_with fail
  all_goals (first | go_ret | go_end0)
  all_goals exact ⟨rfl,⟨A5,c5,A7,c7,WA.out.push (by decide) (by decide) g7 o7⟩,(below_grown' B6.out OA.out lR6 g7).setCell RW _⟩
set_option maxRecDepth 100000 in
theorem i_Emit0 (R W n:Nat) (r:List Pq) (l:List Gt) (g:Gt) (w:World) (hn:1<=n/\n<=4) (hW:WSE R W 163 n r l w) (hok:okT n r) (hg:okN n g=true) (hcl:cliff g.k=true) (hlen:l.length<=1000) (hgc:g.c=0) :
  Calls Tryz.prog 198 #[.pointer (some ⟨W,0,none⟩),.int .i64 g.k,.int .i64 g.a,.int .i64 g.b] w fun e w'=>e=.returned (.tuple #[])/\WSE R W 163 n (appT n g r) (l++[g]) w'/\Below R w w':=by
 obtain ⟨A0,c0,A1,c1,hW⟩:=hW
 have G0:=zH (show Bx (w.alloc (.cells #[.int .i64 g.k,.int .i64 g.a,.int .i64 g.b,.int .i64 0] 39)) w.heap.size 39 #[.int .i64 g.k,.int .i64 g.a,.int .i64 g.b,.int .i64 g.c] from by rw [hgc];exact Bx.new w 39 _)
 have W0:=zH (hW.alloc (.cells #[.int .i64 g.k,.int .i64 g.a,.int .i64 g.b,.int .i64 0] 39))
 have B0:=zH (show Below R w (w.alloc (.cells #[.int .i64 g.k,.int .i64 g.a,.int .i64 g.b,.int .i64 0] 39)) from (zW).alloc hW.le _)
 have HOK:=zH hok
 have HG:=zH hg
 have HC:=zH hcl
 have lR:=hW.le
 have lW:=hW.1.lt
 have RW:=hW.2.2.2
 clear hW hok hg hcl hgc
 go_enter Tryz.func198,Tryz.ntmps198
 go_wp2_with fail
 obtain ⟨wr,hwr⟩:∃ x,w.alloc (.cells #[.int .i64 g.k,.int .i64 g.a,.int .i64 g.b,.int .i64 0] 39)=x:=⟨_,rfl⟩
 rw [hwr] at G0 W0 B0 ⊢
 obtain ⟨gb,hgb⟩:∃ x,w.heap.size=x:=⟨_,rfl⟩
 rw [hgb] at G0 ⊢
 have lR0:R<=wr.heap.size:=W0.out.le
 clear hwr hgb
 go_cut [22] (fun s22 wx=>∃ A5 c5,Bx wx gb 39 #[.int .i64 g.k,.int .i64 g.a,.int .i64 g.b,.int .i64 g.c]/\WS R W 163 n (appT n g r) l A5 c5 A1 c1 wx/\Below R w wx)
 case first =>
  have WD:=W0.out.drew
  have GD:=G0.out.drew
  obtain ⟨t0,t1,t2,t3,t4,t5⟩:=WD.1.three
  obtain ⟨g0,g1,g2,g3⟩:=GD.four4
  go_region_with (first
   |(go_at_call 115;refine (i_TabApp n (2 * n) c0 A0 r g _ hn WD.rd WD.cap HOK.out HG.out HC.out).mono ?_;rintro e w5 ⟨A5,c5,rfl,o5,b5⟩;have W5:=WD.below b5;have G5:=GD.below b5;obtain ⟨x0,x1,x2,x3,x4,x5⟩:=W5.1.three)
   |fail)
  all_goals go_wp2_with fail
  all_goals go_meet
  all_goals exact ⟨A5,c5,G5.far2 (G5.ne W5.1 (by decide)) _ _,W5.put (by decide) (by decide) (ownsRow_base o5 lR0),belowS2 (below_trans' B0.out lR0 (below_drew b5)) RW _ _⟩
 case rest =>
  obtain ⟨A5,c5,hG5,hW5,hB5⟩:=hcut
  have W6:=zH hW5
  have G6:=zH hG5
  have B6:=zH hB5
  clear hG5 hW5 hB5 G0 W0 B0
  have hz4:(Value.agg #[.int .i64 0,.int .i64 0,.int .i64 0,.int .i64 0]).cells.size=4:=rfl
  have OA:=zH (W6.out.drew.2.2.1.alloc (.cells #[.int .i64 g.k,.int .i64 g.a,.int .i64 g.b,.int .i64 g.c] 39))
  have WA:=zH (W6.out.drew.alloc (.cells #[.int .i64 g.k,.int .i64 g.a,.int .i64 g.b,.int .i64 g.c] 39))
  have lR6:R<=wc.heap.size:=W6.out.le
  have WD:=W6.out.drew
  have GD:=G6.out.drew
  obtain ⟨t0,t1,t2,t3,t4,t5⟩:=WD.1.three
  obtain ⟨g0,g1,g2,g3⟩:=GD.four4
  have T2A:=(W6.out.alloc (.cells #[.int .i64 g.k,.int .i64 g.a,.int .i64 g.b,.int .i64 g.c] 39)).1.cell 2
  simp at T2A
  clear WD GD
  go_upto_region 2 with fail
  go_region_law (first
   |(refine step_app (by rfl) (.tmp 29) (.tmp 31) 24 (by rfl) Tryz.underlying24 infoGate hz4 (by decide) (by simp [Act.eval]<;>rfl) OA.out (by simp [Act.eval]<;>rfl) (Rd.lit wc.drew 39 #[.int .i64 g.k,.int .i64 g.a,.int .i64 g.b,.int .i64 g.c] 1 4 rfl) (by simp [Value.oneCell']) (by omega) (by decide) (by simp<;>omega) ?_;intro A7 c7 w7 o7 g7;have E7:=kept_app OA.out g7 WA.out.1 (by decide);have ⟨e0,e1,e2,e3,e4,e5⟩:=E7.three)
   |fail)
  all_goals go_wp2_with fail
  all_goals (first | go_ret | go_end0)
  all_goals exact ⟨rfl,⟨A5,c5,A7,c7,WA.out.push (by decide) (by decide) g7 o7⟩,(below_grown' B6.out OA.out lR6 g7).setCell RW _⟩
def SI (R W:Nat) (t:TypeId) (n B:Nat) (s:SSt) (w0 wx:World):Prop:=SOk n s/\s.2.length<=B/\WSE R W t n s.1 s.2 wx/\Below R w0 wx
section
variable {R W n B B':Nat} {t:TypeId} {s:SSt} {w0 wx w':World}
theorem SI.le (h:SI R W t n B s w0 wx):R<=wx.heap.size:=by obtain ⟨_,_,⟨A0,c0,A1,c1,hW⟩,_⟩:=h;exact hW.le
theorem SI.below (h:SI R W t n B s w0 wx) (hb:Below wx.heap.size wx w'):SI R W t n B s w0 w':=by
 have hl:=h.le
 obtain ⟨h1,h2,⟨A0,c0,A1,c1,hW⟩,h3⟩:=h
 exact ⟨h1,h2,⟨A0,c0,A1,c1,hW.below hb⟩,below_trans' h3 hl hb⟩
theorem SI.alloc (h:SI R W t n B s w0 wx) (o:Obj):SI R W t n B s w0 (wx.alloc o):=h.below ((zW).alloc zR _)
theorem SI.mono (h:SI R W t n B s w0 wx) (hB:B<=B'):SI R W t n B' s w0 wx:=⟨h.1,Nat.le_trans h.2.1 hB,h.2.2⟩
theorem SI.row (h:SI R W t n B s w0 wx) {i:Nat} (hi:i < 2 * n):∃ a,s.1[i]? = some a/\okQn n a=true/\∃ A0 c0 A1 c1,WS R W t n s.1 s.2 A0 c0 A1 c1 wx:=by
 obtain ⟨h1,h2,⟨A0,c0,A1,c1,hW⟩,h3⟩:=h
 obtain ⟨a,ha⟩:=get_lt (l:=s.1) (k:=i) (by rw [h1.1.1];exact hi)
 exact ⟨a,ha,(okT_at h1.1 ha).1,A0,c0,A1,c1,hW⟩
end
theorem xB_at {r:List Pq} {i k:Nat} {a:Pq} (h:r[i]? = some a):xB r i k=bitB a.x k:=by unfold xB rowP;rw [List.getD_eq_getElem?_getD,h];rfl
theorem zB_at {r:List Pq} {i k:Nat} {a:Pq} (h:r[i]? = some a):zB r i k=bitB a.z k:=by unfold zB rowP;rw [List.getD_eq_getElem?_getD,h];rfl
theorem rowP_at {r:List Pq} {i:Nat} {a:Pq} (h:r[i]? = some a):rowP r i=a:=by unfold rowP;rw [List.getD_eq_getElem?_getD,h];rfl
theorem s_Do2 (R W n B:Nat) (s:SSt) (k:Int) (a b:Nat) (bi:Int) (w0 w:World) (hn:1<=n/\n<=4) (h:SI R W 159 n B s w0 w) (hb:bi=(b:Nat)) (hg:okN n ⟨k,a,(b:Nat),0⟩=true) (hc:cliff k=true) (hB:B<=1000) :
  Calls Tryz.prog 189 #[.pointer (some ⟨W,0,none⟩),.agg #[.int .i64 k,.int .i64 (a:Nat),.int .i64 bi,.int .i64 0]] w fun e w'=>e=.returned (.tuple #[])/\SI R W 159 n (B+1) (doS n s k a b) w0 w':=by
 subst hb
 obtain ⟨h1,h2,h3,h4⟩:=h
 refine (s_Do R W n s.1 s.2 ⟨k,a,b,0⟩ w hn h3 h1.1 hg hc (by omega)).mono ?_
 rintro e w' ⟨rfl,hW,hb⟩
 exact ⟨rfl,doS_ok h1 hg hc,by rw [doS_len];omega,hW,h4.trans hb⟩
theorem i_Emit (R W n B:Nat) (s:SSt) (k:Int) (a b:Nat) (bi:Int) (w0 w:World) (hn:1<=n/\n<=4) (h:SI R W 163 n B s w0 w) (hb:bi=(b:Nat)) (hg:okN n ⟨k,a,(b:Nat),0⟩=true) (hc:cliff k=true) (hB:B<=1000) :
  Calls Tryz.prog 198 #[.pointer (some ⟨W,0,none⟩),.int .i64 k,.int .i64 (a:Nat),.int .i64 bi] w fun e w'=>e=.returned (.tuple #[])/\SI R W 163 n (B+1) (doS n s k a b) w0 w':=by
 subst hb
 obtain ⟨h1,h2,h3,h4⟩:=h
 refine (i_Emit0 R W n s.1 s.2 ⟨k,a,b,0⟩ w hn h3 h1.1 hg hc (by omega) rfl).mono ?_
 rintro e w' ⟨rfl,hW,hb⟩
 exact ⟨rfl,doS_ok h1 hg hc,by rw [doS_len];omega,hW,h4.trans hb⟩
set_option maxRecDepth 100000 in
theorem i_FoldP (A:Option Addr) (n cap:Nat) (gs:List Gt) (N:Int) (w:World) (h:RdG w A n gs) (hn:n<=1073741824) :
  Calls Tryz.prog 42 #[.slice A n cap,.int .i64 N] w (RetGI (foldP gs N) w):=by
 have H:=zH h
 have HL:=zH h.1
 clear h
 obtain ⟨⟨M,mb⟩,hM⟩:∃ R,compP gs N=R:=⟨_,rfl⟩
 have HM:=zH hM
 have hbd:=compP_bd gs N
 rw [hM,HL.out] at hbd
 obtain ⟨hb1,hb2⟩:M.t.length<=n/\M.o.length<=4:=hbd
 cases mb
 ·have HF:=zH (foldP_no (gs:=gs) (n:=N) (by rw [hM]))
  clear hM
  rw [HF.out]
  go_enter Tryz.func42,Tryz.ntmps42
  go_wp2_with fail
  refine (i_CompP _ _ _ gs N _ H.out (by omega)).mono ?_
  rintro e w1 ⟨v,rfl,⟨A1,c1,B1,d1,rfl,t1,o1⟩,b1⟩
  rw [HM.out] at t1 o1 ⊢
  dsimp only at t1 o1 ⊢
  have BX:=zH (b1.alloc b1.size (.cells #[.int .i64 M.N,.int .i64 M.H,.slice A1 M.t.length c1,.slice B1 M.o.length d1] 88))
  go_wp2_with fail
  refine (i_copyGates _ _ _ _ _ (H.out.below BX.out) (by omega)).mono ?_
  rintro e w2 ⟨A2,c2,rfl,o2,b2⟩
  go_wp2_with fail
  go_ret2
  have hl:=HL.out
  subst hl
  exact ⟨A2,c2,rfl,ownsRow_base o2 BX.out.size,below_trans BX.out b2⟩
 ·have HF:=zH (foldP_yes (gs:=gs) (n:=N) (by rw [hM]))
  obtain ⟨hin,hcl⟩:=compP_in hM
  obtain ⟨i1,i2⟩:=idP_len hin
  have I1:=zH i1
  clear i1
  have HC:=zH hcl
  clear hM hin hcl
  rw [HF.out,HM.out]
  dsimp only
  have hOl:=foldL_len M.t gs (idP N) [] []
  rw [HL.out,List.length_nil,Nat.zero_add] at hOl
  obtain ⟨OUT,hO⟩:∃ O,foldL M.t (idP N) [] [] gs=O:=⟨_,rfl⟩
  rw [hO] at hOl ⊢
  have HO:=zH hO
  clear hO
  obtain ⟨Q,hQ⟩:∃ Q,compP OUT N=Q:=⟨_,rfl⟩
  rw [hQ]
  have HQ:=zH hQ
  clear hQ
  go_enter Tryz.func42,Tryz.ntmps42
  go_wp2_with fail
  refine (i_CompP _ _ _ gs N _ H.out (by omega)).mono ?_
  rintro e w1 ⟨v,rfl,⟨A1,c1,B1,d1,rfl,t1,o1⟩,b1⟩
  rw [HM.out] at t1 o1 ⊢
  dsimp only at t1 o1 ⊢
  have hs1:=b1.size
  have hmk:=run_makeMap_plain (P:=Tryz.prog) (w:=(w1.alloc (.cells #[.int .i64 M.N,.int .i64 M.H,.slice A1 M.t.length c1,.slice B1 M.o.length d1] 88)).alloc (.cells #[] 39)) 78
  obtain ⟨w3,hw3⟩:∃ w3,w3=((w1.alloc (.cells #[.int .i64 M.N,.int .i64 M.H,.slice A1 M.t.length c1,.slice B1 M.o.length d1] 88)).alloc (.cells #[] 39)).alloc (.map #[] 0):=⟨_,rfl⟩
  have X6:=zH (show Bx w3 w1.heap.size 88 #[.int .i64 M.N,.int .i64 M.H,.slice A1 M.t.length c1,.slice B1 M.o.length d1] from hw3 ▸ ((Bx.new w1 _ _).alloc _).alloc _)
  have T1:=zH (show w3.ownsRow w.heap.size 128 2 (.slice A1 M.t.length c1) M.t.length (cellsP M.t) from hw3 ▸ ((t1.alloc _).alloc _).alloc _)
  have B3:=zH (show Below w.heap.size w w3 from hw3 ▸ ((b1.alloc (by omega) _).alloc (by simp<;>omega) _).alloc (by simp<;>omega) _)
  have OG:=zH (show w3.ownsRow w.heap.size 39 4 (.slice (some ⟨w1.heap.size+1,0,none⟩) 0 0) 0 (cellsG []) from hw3 ▸ (own0_bx (by omega) (Bx.new' (by simp))).alloc _)
  have MP:=zH (show w3.heap[w1.heap.size+1+1]? = some (.map #[] 0) from by rw [hw3];have:=heap_alloc_new ((w1.alloc (.cells #[.int .i64 M.N,.int .i64 M.H,.slice A1 M.t.length c1,.slice B1 M.o.length d1] 88)).alloc (.cells #[] 39)) (.map #[] 0);simpa using this)
  go_wp2_with fail
  rw [<- hw3]
  clear hw3 t1 o1 b1 hmk
  refine (i_IdP _ _).mono ?_
  rintro e w4 ⟨v,rfl,⟨A4,c4,B4,d4,rfl,t4,o4⟩,b4⟩
  have hs3:=B3.out.size
  have l6:=(X6.out.below b4).lt
  have hw1:w.heap.size<=w4.heap.size:=(below_trans B3.out b4).size
  have ST:=zH (show FI w1.heap.size w4.heap.size M A1 c1 B1 d1 w (idP N) A4 c4 B4 d4 (w1.heap.size+1+1) #[] 0 [] (some ⟨w1.heap.size+1,0,none⟩) 0 [] (w4.alloc (.cells #[.int .i64 (idP N).N,.int .i64 (idP N).H,.slice A4 (idP N).t.length c4,.slice B4 (idP N).o.length d4] 88)) from ⟨(X6.out.below b4).alloc _,Bx.new _ _ _,(ownsRow_below T1.out b4).alloc _,(ownsRow_base t4 hs3).alloc _,(ownsRow_base o4 hs3).alloc _,(ownsRow_below OG.out b4).alloc _,⟨map_allocI (map_belowI MP.out b4),by simp [EntsI],by omega⟩,(below_trans B3.out b4).alloc hw1 _,hw1,by omega⟩)
  clear t4 o4 b4 X6 T1 B3 OG MP
  go_wp2_with fail
  generalize idP N=p0 at HC HO I1 i2 ST ⊢
  generalize hg6:w1.heap.size=g6 at ST l6 ⊢
  generalize hg10:w4.heap.size=g10 at ST l6 hw1 ⊢
  clear hs1 hs3 hg6 hg10
  obtain ⟨w5,hw5⟩:∃ w5,w5=w4.alloc (.cells #[.int .i64 p0.N,.int .i64 p0.H,.slice A4 p0.t.length c4,.slice B4 p0.o.length d4] 88):=⟨_,rfl⟩
  rw [<- hw5] at ST ⊢
  clear hw5
  go_loopg [8,33] n (fun r s i wr=>∃ (k:Nat) (p:Po) (A2:Option Addr) (c2:Nat) (B2:Option Addr) (d2:Nat) (es:Array MapEntry) (ck:Nat) (met:List Int) (A3:Option Addr) (c3:Nat) (acc:List Gt),k+r=n/\i=.int .i64 k/\s=.slice A3 acc.length c3/\foldL M.t p met acc (gs.drop k)=OUT/\(compL p (gs.drop k)).2=true/\p.t.length<=k/\p.o.length<=4/\acc.length<=2 * k/\met.length<=k/\FI g6 g10 M A1 c1 B1 d1 w p A2 c2 B2 d2 (g6+1+1) es ck met A3 c3 acc wr)
  case atStart=>exact ⟨0,p0,A4,c4,B4,d4,#[],0,[],_,0,[],by omega,rfl,rfl,HO.out,by rw [List.drop_zero,HC.out],by have:=I1.out;omega,i2,by simp,by simp,ST.out⟩
  case round =>
   clear ST HC HO I1 i2 l6
   obtain ⟨k,p,A2,c2,B2,d2,es,ck,met,A3,c3,acc,hk,rfl,rfl,hf,hcl,htl,hol,hal,hml,hst⟩:=hrel
   have HFL:=zH hf
   have HCL:=zH hcl
   have ST:=zH hst
   clear hf hcl hst
   by_cases hlt:k < n
   ·have HB:=zH ST.out.2.2.2.2.2.2.2.1
    have hbs:=HB.out.size
    have h10:=ST.out.2.2.2.2.2.2.2.2.1
    obtain ⟨bb,off,g,rfl,hBb,hd,c0,c1',c2',c3'⟩:=(H.out.below HB.out).at_ hlt
    have HD:=zH hd
    clear hd
    have hkI:(k:Int) < (n:Int):=by omega
    have hk0:(0:Int)<=(k:Int):=by omega
    have hfit:=compL_fit (p:=p) (g:=g) (r:=gs.drop (k+1)) (by rw [<- HD.out];exact HCL.out)
    have hap:=(compL_ok (p:=p) (g:=g) (r:=gs.drop (k+1)) (by rw [<- HD.out];exact HCL.out)).1
    obtain ⟨gk',ga',gb',gc'⟩:=g
    dsimp only at c0 c1' c2' c3' hfit
    obtain ⟨a,rfl⟩:∃ a:Nat,ga'=a:=⟨ga'.toNat,by omega⟩
    obtain ⟨q,hq⟩:∃ q,applyP p ⟨gk',a,gb',gc'⟩=(q,true):=⟨_,Prod.ext rfl hap⟩
    have hbd:=applyP_bd p ⟨gk',a,gb',gc'⟩
    rw [hq] at hbd
    have hq1:q.t.length<=p.t.length+1:=hbd.1
    have hq2:q.o.length<=p.o.length:=hbd.2.1
    have HQ1:=zH hq
    have HC1:=zH (compL_next (by rw [<- HD.out];exact HCL.out) hq)
    obtain ⟨ha0,ha1,ha2⟩:=hfit
    have haN:a < p.o.length:=by omega
    have haI:(a:Int) < (p.o.length:Int):=by omega
    have ha0':(0:Int)<=(a:Int):=by omega
    obtain ⟨gB,hB2,hgB1,hgB2,u0,u1,_,_⟩:=own2At ST.out.2.2.2.2.1 haN
    subst hB2
    obtain ⟨⟨x,y⟩,hxy⟩:∃ z,p.o.getD a (0,0)=z:=⟨_,rfl⟩
    rw [hxy] at u0 u1
    dsimp only at u0 u1
    have HXY:Hid (at2 p.o (a:Int)=(x,y)):=zH (by show p.o.getD (Int.toNat a) _=_;rw [Int.toNat_natCast];exact hxy)
    clear hap hq hbd hxy ha0 ha1 ha2
    have lg6:=ST.out.1.lt
    have lg10:=ST.out.2.1.lt
    obtain ⟨s0,s1,s2,s3,t0,t1,t2,t3⟩:=ST.out.2.1.four
    have hz4:(Value.agg #[.int .i64 0,.int .i64 0,.int .i64 0,.int .i64 0]).cells.size=4:=rfl
    cases hu:(units gk' == 0)
    rotate_left
    ·have HU:=zH hu
     go_wp2_with fail
     refine (i_RotationUnits _ _).mono ?_
     rintro e w' ⟨rfl,rfl⟩
     have SA:=zH (FI.alloc (FI.alloc ST.out (.cells #[.int .i64 gk',.int .i64 (a:Int),.int .i64 gb',.int .i64 gc'] 39)) (.cells #[.int .i64 gk',.int .i64 (a:Int),.int .i64 gb',.int .i64 gc'] 39))
     have GX:=zH ((Bx.new wr 39 #[.int .i64 gk',.int .i64 (a:Int),.int .i64 gb',.int .i64 gc']).alloc (.cells #[.int .i64 gk',.int .i64 (a:Int),.int .i64 gb',.int .i64 gc'] 39))
     have RL:=Rd.lit (wr.alloc (.cells #[.int .i64 gk',.int .i64 (a:Int),.int .i64 gb',.int .i64 gc'] 39)) 39 #[.int .i64 gk',.int .i64 (a:Int),.int .i64 gb',.int .i64 gc'] 1 4 rfl
     rw [World.size_alloc] at RL
     have RL2:=zH RL
     clear RL
     go_wp2_with (at_builtin;refine wpList_app rfl (.tmp 41) (.tmp 43) 24 rfl Tryz.underlying24 infoGate hz4 (by decide) rfl SA.out.2.2.2.2.2.1 rfl RL2.out (by simp [Value.oneCell']) (by omega) (by decide) (by simp<;>omega) ?_;intro A7 c7 w7 o7 g7;have G7:=zH (GX.out.grown g7 (own_new_ne ST.out.2.2.2.2.2.1));have S7:=zH (FI.app SA.out (acc':=acc++[⟨gk',a,gb',gc'⟩]) g7 (by rw [cellsG_append];exact o7));have ⟨s0,s1,s2,s3,t0,t1,t2,t3⟩:=S7.out.2.1.four;have ⟨y0,y1,y2,y3,_,_,_,_⟩:=G7.out.four)
     have ST:=S7
     refine (i_ApplyP p.N p.H A2 p.t.length c2 p.t _ p.o.length d2 p.o ⟨gk',a,gb',gc'⟩ _ (RdP.own ST.out.2.2.2.1) (RdP.own ST.out.2.2.2.2.1) (by omega) (by omega) (ownsRow_cap ST.out.2.2.2.1)).mono ?_
     rintro e w8 ⟨v,rfl,⟨A8,c8,B8,d8,rfl,t8,o8⟩,b8⟩
     rw [show applyP ⟨p.N,p.H,p.t,p.o⟩ ⟨gk',a,gb',gc'⟩=(q,true) from HQ1.out] at t8 o8 ⊢
     dsimp only at t8 o8 ⊢
     have hs8:=ST.out.2.2.2.2.2.2.2.1.size
     have S8:=zH (FI.below ST.out b8)
     obtain ⟨s0,s1,s2,s3,t0,t1,t2,t3⟩:=S8.out.2.1.four
     have l8:=S8.out.2.1.lt
     have S9:=zH (FI.poly S8.out t8 o8 hs8)
     clear t8 o8
     go_wp2_with fail
     go_roundg (gk - 1)
     case measure=>omega
     case rel=>exact ⟨k+1,q,A8,c8,B8,d8,_,_,met,_,_,acc++[⟨gk',a,gb',gc'⟩],by omega,by go_num,(by first | rfl | (rw [HTC.out];simp [rotG]) | simp),by rw [<- HFL.out,HD.out,foldL_0 HU.out HQ1.out],HC1.out,by omega,by omega,by have:=hal;simp;omega,by omega,S9.out⟩
    ·have HU:=zH hu
     have S2:=zH (FI.alloc (FI.alloc ST.out (.cells #[.int .i64 gk',.int .i64 (a:Int),.int .i64 gb',.int .i64 gc'] 39)) (.cells #[.int .i64 x,.int .i64 y] 93))
     have G2:=zH ((Bx.new wr 39 #[.int .i64 gk',.int .i64 (a:Int),.int .i64 gb',.int .i64 gc']).alloc (.cells #[.int .i64 x,.int .i64 y] 93))
     have V2:=zH (Bx.new (wr.alloc (.cells #[.int .i64 gk',.int .i64 (a:Int),.int .i64 gb',.int .i64 gc'] 39)) 93 #[.int .i64 x,.int .i64 y])
     obtain ⟨W2,hW2⟩:∃ W2,W2=(wr.alloc (.cells #[.int .i64 gk',.int .i64 (a:Int),.int .i64 gb',.int .i64 gc'] 39)).alloc (.cells #[.int .i64 x,.int .i64 y] 93):=⟨_,rfl⟩
     rw [<- hW2] at S2 G2 V2
     have HW2:=zH hW2
     clear hW2
     have hgs:(wr.alloc (.cells #[.int .i64 gk',.int .i64 (a:Int),.int .i64 gb',.int .i64 gc'] 39)).heap.size=wr.heap.size+1:=by simp
     rw [hgs] at V2
     clear hgs
     cases hm:met.any (· == x)
     ·have HMT:=zH hm
      have hl:=run_lookup_i (g6+1+1) ck x es met W2 S2.out.2.2.2.2.2.2.1.1 S2.out.2.2.2.2.2.2.1.2.1
      rw [hm] at hl
      obtain ⟨W3,hW3⟩:∃ W3,W3=({ W2 with heap:=W2.heap.setIfInBounds (g6+1+1) (.map (es.push { key:=.int .i64 x,val:=.bool true,born:=ck }) (ck+1)) }:World):=⟨_,rfl⟩
      have hu2:=run_update_i (g6+1+1) ck x es met W2 S2.out.2.2.2.2.2.2.1.1 S2.out.2.2.2.2.2.2.1.2.1 hm
      rw [<- hW3] at hu2
      have S3:=zH (FI.upd S2.out x)
      have G3:=zH (G2.out.setObjI (r:=g6+1+1) (bx_map_ne G2.out S2.out.2.2.2.2.2.2.1.1) (.map (es.push { key:=.int .i64 x,val:=.bool true,born:=ck }) (ck+1)))
      have V3:=zH (V2.out.setObjI (r:=g6+1+1) (bx_map_ne V2.out S2.out.2.2.2.2.2.2.1.1) (.map (es.push { key:=.int .i64 x,val:=.bool true,born:=ck }) (ck+1)))
      rw [<- hW3] at S3 G3 V3
      clear hW3
      clear hm
      go_upto_region 12 with (go_at_call 79;refine (i_RotationUnits _ _).mono ?_;rintro e w' ⟨rfl,rfl⟩)
      go_upto_region 13 with fail
      rw [<- HW2.out]
      obtain ⟨z0,z1,_,_⟩:=V2.out.two
      obtain ⟨y0,y1,y2,y3,_,_,_,_⟩:=G2.out.four
      obtain ⟨r0,r1,r2,r3,_,_,_,_⟩:=S3.out.1.four
      obtain ⟨z0',z1',_,_⟩:=V3.out.two
      obtain ⟨y0',y1',y2',y3',_,_,_,_⟩:=G3.out.four
      obtain ⟨cv,hcv⟩:∃ c,coefT M.t x=c:=⟨_,rfl⟩
      have HCV:=zH hcv
      have HNE:=zH (own_new_ne ST.out.2.2.2.2.2.1)
      go_wp2_with fail
      refine (i_coef _ _ _ _ _ _ _ _ M.t x _ (RdP.own S3.out.2.2.1) (by omega)).mono ?_
      rintro e w4 ⟨rfl,bk⟩
      rw [hcv]
      clear hcv z0 z1 y0 y1 y2 y3 z0' z1' y0' y1' y2' y3' r0 r1 r2 r3 hl hu2
      have S4:=zH (FI.below S3.out bk)
      have G4:=zH (G3.out.below bk)
      have V4:=zH (V3.out.below bk)
      obtain ⟨z0,z1,_,_⟩:=V4.out.two
      obtain ⟨y0,y1,y2,y3,_,_,_,_⟩:=G4.out.four
      clear bk S2 G2 V2 S3 G3 V3
      cases hy1:(y == 1)
      ·have HY1:=zH hy1
       have HTC:Hid (turnC (coefT M.t x) y=cv):=zH (by rw [HCV.out];exact turnC_0 hy1)
       obtain ⟨cc,hcc⟩:∃ c,cv=c:=⟨_,rfl⟩
       subst hcc
       have hrk:=rotK_len cv
       go_wp2_with fail
       refine (i_RotationGates _ _ _).mono ?_
       rintro e w5 ⟨A5,c5,rfl,o5,b5⟩
       have O5:=zH o5
       have S5:=zH (FI.below S4.out b5)
       have G5:=zH (G4.out.below b5)
       have hs5:=S5.out.2.2.2.2.2.2.2.1.size
       clear o5 b5 z0 z1 y0 y1 y2 y3 hy1
       go_wp2_with (at_builtin;refine wpList_app rfl (.tmp 69) (.tmp 73) 24 rfl Tryz.underlying24 infoGate hz4 (by decide) rfl S5.out.2.2.2.2.2.1 rfl (Rd.own O5.out) one_cellsG (by omega) (by decide) (by omega) ?_;intro A7 c7 w7 o7 g7;have G7:=zH (G5.out.grown g7 HNE.out);have S7:=zH (FI.app S5.out (acc':=acc++rotG (turnC (coefT M.t x) y) (a:Int)) g7 (by rw [HTC.out,cellsG_append];exact o7));have ⟨s0,s1,s2,s3,t0,t1,t2,t3⟩:=S7.out.2.1.four;have ⟨y0,y1,y2,y3,_,_,_,_⟩:=G7.out.four)
       have ST:=S7
       refine (i_ApplyP p.N p.H A2 p.t.length c2 p.t _ p.o.length d2 p.o ⟨gk',a,gb',gc'⟩ _ (RdP.own ST.out.2.2.2.1) (RdP.own ST.out.2.2.2.2.1) (by omega) (by omega) (ownsRow_cap ST.out.2.2.2.1)).mono ?_
       rintro e w8 ⟨v,rfl,⟨A8,c8,B8,d8,rfl,t8,o8⟩,b8⟩
       rw [show applyP ⟨p.N,p.H,p.t,p.o⟩ ⟨gk',a,gb',gc'⟩=(q,true) from HQ1.out] at t8 o8 ⊢
       dsimp only at t8 o8 ⊢
       have hs8:=ST.out.2.2.2.2.2.2.2.1.size
       have S8:=zH (FI.below ST.out b8)
       obtain ⟨s0,s1,s2,s3,t0,t1,t2,t3⟩:=S8.out.2.1.four
       have l8:=S8.out.2.1.lt
       have S9:=zH (FI.poly S8.out t8 o8 hs8)
       clear t8 o8
       go_wp2_with fail
       go_roundg (gk - 1)
       case measure=>omega
       case rel=>exact ⟨k+1,q,A8,c8,B8,d8,_,_,met++[x],_,_,acc++rotG (turnC (coefT M.t x) y) (a:Int),by omega,by go_num,(by first | rfl | (rw [HTC.out];simp [rotG]) | simp),by rw [<- HFL.out,HD.out,foldL_new HU.out HXY.out HMT.out HQ1.out],HC1.out,by omega,by omega,by have h1:=rotG_len (turnC (coefT M.t x) y) (a:Int);have h2:=rotK_len (turnC (coefT M.t x) y);rw [List.length_append];omega,by rw [List.length_append,List.length_singleton];omega,S9.out⟩
      ·have HY1:=zH hy1
       have HTC:Hid (turnC (coefT M.t x) y=((-cv) % 8)):=zH (by rw [HCV.out];exact turnC_1 hy1)
       go_wp2_with fail
       refine (i_mod8 _ _).mono ?_
       rintro e w' ⟨rfl,rfl⟩
       rw [wrap_mod8]
       obtain ⟨cc,hcc⟩:∃ c,((-cv) % 8)=c:=⟨_,rfl⟩
       rw [hcc] at HTC ⊢
       clear hcc
       have hrk:=rotK_len cc
       go_wp2_with fail
       refine (i_RotationGates _ _ _).mono ?_
       rintro e w5 ⟨A5,c5,rfl,o5,b5⟩
       have O5:=zH o5
       have S5:=zH (FI.below S4.out b5)
       have G5:=zH (G4.out.below b5)
       have hs5:=S5.out.2.2.2.2.2.2.2.1.size
       clear o5 b5 z0 z1 y0 y1 y2 y3 hy1
       go_wp2_with (at_builtin;refine wpList_app rfl (.tmp 69) (.tmp 73) 24 rfl Tryz.underlying24 infoGate hz4 (by decide) rfl S5.out.2.2.2.2.2.1 rfl (Rd.own O5.out) one_cellsG (by omega) (by decide) (by omega) ?_;intro A7 c7 w7 o7 g7;have G7:=zH (G5.out.grown g7 HNE.out);have S7:=zH (FI.app S5.out (acc':=acc++rotG (turnC (coefT M.t x) y) (a:Int)) g7 (by rw [HTC.out,cellsG_append];exact o7));have ⟨s0,s1,s2,s3,t0,t1,t2,t3⟩:=S7.out.2.1.four;have ⟨y0,y1,y2,y3,_,_,_,_⟩:=G7.out.four)
       have ST:=S7
       refine (i_ApplyP p.N p.H A2 p.t.length c2 p.t _ p.o.length d2 p.o ⟨gk',a,gb',gc'⟩ _ (RdP.own ST.out.2.2.2.1) (RdP.own ST.out.2.2.2.2.1) (by omega) (by omega) (ownsRow_cap ST.out.2.2.2.1)).mono ?_
       rintro e w8 ⟨v,rfl,⟨A8,c8,B8,d8,rfl,t8,o8⟩,b8⟩
       rw [show applyP ⟨p.N,p.H,p.t,p.o⟩ ⟨gk',a,gb',gc'⟩=(q,true) from HQ1.out] at t8 o8 ⊢
       dsimp only at t8 o8 ⊢
       have hs8:=ST.out.2.2.2.2.2.2.2.1.size
       have S8:=zH (FI.below ST.out b8)
       obtain ⟨s0,s1,s2,s3,t0,t1,t2,t3⟩:=S8.out.2.1.four
       have l8:=S8.out.2.1.lt
       have S9:=zH (FI.poly S8.out t8 o8 hs8)
       clear t8 o8
       go_wp2_with fail
       go_roundg (gk - 1)
       case measure=>omega
       case rel=>exact ⟨k+1,q,A8,c8,B8,d8,_,_,met++[x],_,_,acc++rotG (turnC (coefT M.t x) y) (a:Int),by omega,by go_num,(by first | rfl | (rw [HTC.out];simp [rotG]) | simp),by rw [<- HFL.out,HD.out,foldL_new HU.out HXY.out HMT.out HQ1.out],HC1.out,by omega,by omega,by have h1:=rotG_len (turnC (coefT M.t x) y) (a:Int);have h2:=rotK_len (turnC (coefT M.t x) y);rw [List.length_append];omega,by rw [List.length_append,List.length_singleton];omega,S9.out⟩
     ·have HMT:=zH hm
      have hl:=run_lookup_i (g6+1+1) ck x es met W2 S2.out.2.2.2.2.2.2.1.1 S2.out.2.2.2.2.2.2.1.2.1
      rw [hm] at hl
      clear hm
      go_upto_region 12 with (go_at_call 79;refine (i_RotationUnits _ _).mono ?_;rintro e w' ⟨rfl,rfl⟩)
      go_upto_region 13 with fail
      rw [<- HW2.out]
      obtain ⟨z0,z1,_,_⟩:=V2.out.two
      obtain ⟨y0,y1,y2,y3,_,_,_,_⟩:=G2.out.four
      obtain ⟨r0,r1,r2,r3,_,_,_,_⟩:=S2.out.2.1.four
      go_wp2_with fail
      have ST:=S2
      refine (i_ApplyP p.N p.H A2 p.t.length c2 p.t _ p.o.length d2 p.o ⟨gk',a,gb',gc'⟩ _ (RdP.own ST.out.2.2.2.1) (RdP.own ST.out.2.2.2.2.1) (by omega) (by omega) (ownsRow_cap ST.out.2.2.2.1)).mono ?_
      rintro e w8 ⟨v,rfl,⟨A8,c8,B8,d8,rfl,t8,o8⟩,b8⟩
      rw [show applyP ⟨p.N,p.H,p.t,p.o⟩ ⟨gk',a,gb',gc'⟩=(q,true) from HQ1.out] at t8 o8 ⊢
      dsimp only at t8 o8 ⊢
      have hs8:=ST.out.2.2.2.2.2.2.2.1.size
      have S8:=zH (FI.below ST.out b8)
      obtain ⟨s0,s1,s2,s3,t0,t1,t2,t3⟩:=S8.out.2.1.four
      have l8:=S8.out.2.1.lt
      have S9:=zH (FI.poly S8.out t8 o8 hs8)
      clear t8 o8
      go_wp2_with fail
      go_roundg (gk - 1)
      case measure=>omega
      case rel=>exact ⟨k+1,q,A8,c8,B8,d8,_,_,met,_,_,acc,by omega,by go_num,(by first | rfl | (rw [HTC.out];simp [rotG]) | simp),by rw [<- HFL.out,HD.out,foldL_old HU.out HXY.out HMT.out HQ1.out],HC1.out,by omega,by omega,by omega,by omega,S9.out⟩
   ·have hkn:k=n:=by omega
    have hE:acc=OUT:=by have e:=HFL.out;rw [List.drop_eq_nil_of_le (by have:=HL.out;omega)] at e;exact e
    subst hE
    clear HFL HCL hkn
    have GA:=zH ST.out.2.2.2.2.2.1
    go_wp2_with fail
    refine (i_CompP _ _ _ acc N _ (RdG.own GA.out) (by omega)).mono ?_
    rintro e w8 ⟨v,rfl,⟨A8,c8,B8,d8,rfl,t8,o8⟩,b8⟩
    rw [HQ.out] at t8 o8 ⊢
    have S8:=zH (FI.below ST.out b8)
    obtain ⟨r0,r1,r2,r3,_,_,_,_⟩:=S8.out.1.four
    have l8:=S8.out.1.lt
    have hb8:=S8.out.2.2.2.2.2.2.2.1.size
    clear t8 o8 b8
    go_wp2_with fail
    refine (i_mod8 _ _).mono ?_
    rintro e w' ⟨rfl,rfl⟩
    rw [wrap_mod8]
    go_wp2_with fail
    go_ret2
    exact ⟨A3,c3,rfl,S8.out.2.2.2.2.2.1.alloc _,S8.out.2.2.2.2.2.2.2.1.alloc hb8 _⟩
end Go.Proofs.YtmenmibfkojnoaaGreat
