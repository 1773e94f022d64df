/- Contract of CircuitTableau (spec): Cliff. -/
import Derived.Test.YtmenmibfkojnoaaGreatY32
import Derived.Test.YtmenmibfkojnoaaGreatY21
import Derived.ProofKit
import Derived.OpenShut
import Derived.Lib.SmallJoins
import Derived.Deep.Slices
import Derived.Deep.Fields
set_option maxHeartbeats 16000000
set_option maxRecDepth 100000
namespace Go.Proofs.YtmenmibfkojnoaaGreat
open Go.RowKit
set_option linter.unusedVariables false
theorem wJ {p:Prop} (h:p:=by simpa using b5.size):p:=h
theorem zh (n m c:Nat) (A:Option Addr) (l:List Gt) (w:World) (hn:1<=n/\n<=4) (hr:RdG w A m l) (hm:m<=60) (hl:∀ g ∈ l,bF n g=true/\bh g.k=true) (hi:ed n (ch n)) :
  Calls Tryz.prog 63 #[.agg #[n,.slice A m c]] w (rZ n (2 * n) (bH n l (ch n)) w):=by
 have X0:=zH (show Bx ((w.alloc (.cells #[n,.slice A m c] 45)).alloc ZO.zT) w.heap.size 45 _ from (Bx.new w _ _).alloc _);have R0:=zH (show Bx ((w.alloc (.cells #[n,.slice A m c] 45)).alloc ZO.zT) (w.heap.size+1) 73 #[(0:Int),.slice none 0 0] from Bx.new' zI);have B0:=zH (show Below w w ((w.alloc (.cells #[n,.slice A m c] 45)).alloc ZO.zT) from ((zW).alloc zR _).alloc zI _);have HW:=zH hr;have HL:=zH hl;have HT:=zH hi;have HV:=zH (Qf hn (by rw [hr.1];exact hm) fun g hg=>(hl g hg).1);have x0:=X0.cell 0;have x1:=X0.cell 1;clear hr hl hi;go_enter Tryz.func63,Tryz.ntmps63;go_wp2_with fail;refine (AV A m c n l _ (HW.below B0) zO).mono ?_;rintro e w1 ⟨rfl,b1⟩;rw [HV.out];have X1:=zH (X0.below b1);have R1:=zH (R0.below b1);have B1:=zH (aa B0 b1);clear b1 X0 R0 B0 x0 x1;have x0:=X1.cell 0;have x1:=X1.cell 1;go_wp2_with fail;refine (wi n _ hn).mono ?_
 rintro e w2 ⟨A0,c0,rfl,o2,b2⟩;have X2:=zH ((X1.below b2).alloc (.cells #[n,.slice A0 (2 * n) c0] 73));have R2:=zH ((R1.below b2).alloc (.cells #[n,.slice A0 (2 * n) c0] 73));have K2:=zH (show KB w n w2.heap.size A0 c0 (ch n) (w2.alloc (.cells #[n,.slice A0 (2 * n) c0] 73)) from ⟨Bx.new _ _ _,ae (o2.alloc _) B1.size,(aa B1.out b2).alloc (Nat.le_trans B1.size b2.size) _,Nat.le_trans B1.size b2.size⟩);have lt2:w.heap.size+1 < w2.heap.size:=(R1.below b2).lt;clear o2 b2 X1 R1 B1 x0 x1;have x1:=X2.cell 1;obtain ⟨O,hO⟩:∃ O,O=w2.heap.size:=⟨_,rfl⟩;rw [<- hO] at K2 lt2;go_wp2_with fail;rw [<- hO];clear hO;go_loopg [5] m (fun q i wr=>∃ (k:Nat) (A0:Option Addr) (c0:Nat) (r:List Pq),k+q=m/\i=.int .i64 k/\ed n r/\bH n (l.drop k) r=bH n l (ch n)/\Bx wr w 45 #[n,.slice A m c]/\Bx wr (w.heap.size+1) 73 #[(0:Int),.slice none 0 0]/\KB w n O A0 c0 r wr)
 case atStart=>exact ⟨0,A0,c0,ch n,zO,rfl,HT.out,rfl,X2.out,R2.out,K2.out⟩
 case round =>
  clear X2 R2 K2 x1;obtain ⟨k,A0,c0,r,hk,rfl,hok,hrun,hX,hR,hK⟩:=hrel;by_cases hlt:k < m
  ·obtain ⟨b,off,g,rfl,hB,hd,y0,y1,y2,y3⟩:=(HW.below hK.2.2.1).at_ hlt;have HG:=zH (HL.out g (List.mem_of_mem_drop (i:=k) (by rw [hd];simp)));have HRUN:=zH (show bH n (l.drop (k+1)) (di n g r)=bH n l (ch n) by rw [<- hrun,hd];rfl);have HO2:=zH (iB HG.out.1 HG.out.2 hok);have HB:=zH hB;have TK:=fun (w5:World) (b5:Below wr wr w5)=>(⟨⟨(hK.below b5).1.cell 0,(hK.below b5).1.cell 1⟩,⟨(hX.below b5).cell 0,(hX.below b5).cell 1⟩,((HW.below (hK.below b5).2.2.1).cellsAt hd).2⟩:(w5.cell? ⟨O,0,none⟩=some (.int .i64 (n:Nat))/\w5.cell? ⟨O,1,none⟩=some (.slice A0 (2 * n) c0))/\((w5.cell? ⟨w,0,none⟩=some (.int .i64 (n:Nat))/\w5.cell? ⟨w,1,none⟩=some (.slice (some ⟨b,off,none⟩) m c))/\(w5.cell? ⟨b,off+k * 4,none⟩=some (.int .i64 g.k)/\w5.cell? ⟨b,off+k * 4+1,none⟩=some (.int .i64 g.a)/\w5.cell? ⟨b,off+k * 4+2,none⟩=some (.int .i64 g.b)/\w5.cell? ⟨b,off+k * 4+3,none⟩=some (.int .i64 g.c))))
   have TK0:=TK _ (Below.refl wr wr).drew;obtain ⟨⟨t0,t1⟩,⟨x0,x1⟩,_⟩:=TK _ (Below.refl wr wr);have hS0:=hK.2.2.1.size;have hi0:(0:Int)<=(k:Int):=zO;have hi1:(k:Int) < (m:Int):=zO;have HOK:=zH hok;have HD:=zH hd;clear hd hrun hok;go_wp2_with fail
   go_cut [6,7] (fun s6 s7 wx=>∃ P A5 c5,s6=.pointer (some ⟨P,0,none⟩)/\s7=.bool true/\Bx wx P 73 #[n,.slice A5 (2 * n) c5]/\wx.ownsRow w 151 4 (.slice A5 (2 * n) c5) (2 * n) (af (dP n (di n g r)))/\Bx wx w 45 #[n,.slice (some ⟨b,off,none⟩) m c]/\Bx wx (w.heap.size+1) 73 #[(0:Int),.slice none 0 0]/\KB w n O A0 c0 r wx)
   case first =>
    go_region_held3 (fun w'=>(w'.cell? ⟨O,0,none⟩=some (.int .i64 (n:Nat))/\w'.cell? ⟨O,1,none⟩=some (.slice A0 (2 * n) c0))/\((w'.cell? ⟨w,0,none⟩=some (.int .i64 (n:Nat))/\w'.cell? ⟨w,1,none⟩=some (.slice (some ⟨b,off,none⟩) m c))/\(w'.cell? ⟨b,off+k * 4,none⟩=some (.int .i64 g.k)/\w'.cell? ⟨b,off+k * 4+1,none⟩=some (.int .i64 g.a)/\w'.cell? ⟨b,off+k * 4+2,none⟩=some (.int .i64 g.b)/\w'.cell? ⟨b,off+k * 4+3,none⟩=some (.int .i64 g.c))))
     (first
      |exact TK _ ((Below.refl wr wr).drew)
      |exact TK _ (((Below.refl wr wr).alloc zR _).drew)
      |exact TK _ (((Below.refl wr wr).drew).alloc zR _)
      |exact TK _ (aC b5)
      |exact TK _ (aa ((Below.refl wr wr).alloc zR _).drew b5)
      |exact TK _ (aa ((Below.refl wr wr).drew.alloc zR _) b5)
      |exact TK _ ((aC b5).alloc wJ _)
      |exact TK _ (ay (aa ((Below.refl wr wr).alloc zR _).drew b5) zR _ _)
      |exact TK _ (ay (aa ((Below.refl wr wr).drew.alloc zR _) b5) zR _ _)
      |exact TK _ ((ay (aa ((Below.refl wr wr).alloc zR _).drew b5) zR _ _).drew)
      |exact TK _ ((ay (aa ((Below.refl wr wr).drew.alloc zR _) b5) zR _ _).drew)
      |exact TK _ ((aC b5).drew)
      |exact TK _ ((aa ((Below.refl wr wr).alloc zR _).drew b5).drew)
      |exact TK _ ((aa ((Below.refl wr wr).drew.alloc zR _) b5).drew)
      |go_keep)
     (first
      |(go_at_call 111;(first | refine (fu n (2 * n) c0 A0 r g _ hn hK.drew.rd hK.cap HOK.out HG.out.1 HG.out.2).mono ?_ | refine (fu n (2 * n) c0 A0 r g _ hn (hK.alloc _).drew.rd hK.cap HOK.out HG.out.1 HG.out.2).mono ?_ | refine (fu n (2 * n) c0 A0 r g _ hn (hK.drew.alloc _).rd hK.cap HOK.out HG.out.1 HG.out.2).mono ?_);rintro e w5 ⟨A5,c5,rfl,o5,b5⟩;first | (have PB:Bx w5 wr 73 #[(0:Int),.slice none 0 0]:=(Bx.new wr 73 #[(0:Int),.slice none 0 0]).drew.below b5;obtain ⟨x0,x1,x2,x3⟩:=PB.two) | (have PB:Bx w5 wr 73 #[(0:Int),.slice none 0 0]:=(Bx.new wr.drew 73 #[(0:Int),.slice none 0 0]).below b5;obtain ⟨x0,x1,x2,x3⟩:=PB.two) | skip)
      |fail)
    all_goals go_wp2_with fail
    all_goals go_meet
    all_goals first
     |exact ⟨_,A5,c5,rfl,rfl,Bx.new _ _ _,ae (o5.alloc _) (by simpa using hS0),hX.below ((aC b5).alloc wJ _),hR.below ((aC b5).alloc wJ _),hK.below ((aC b5).alloc wJ _)⟩
     |(have PB1:Bx (w5.setCell ⟨wr,0,none⟩ (.int .i64 (n:Nat))) wr 73 #[n,.slice none 0 0]:=(by simpa using PB.set_ 0 (.int .i64 (n:Nat)));exact ⟨_,A5,c5,rfl,rfl,PB.set2 _ _,ae (aM (aM o5 PB zD 0 _) PB1 zD 1 _) (by simpa using Nat.le_succ_of_le hS0),hX.below (ay (aa ((Below.refl wr wr).alloc zR _).drew b5) zR _ _),hR.below (ay (aa ((Below.refl wr wr).alloc zR _).drew b5) zR _ _),hK.below (ay (aa ((Below.refl wr wr).alloc zR _).drew b5) zR _ _)⟩)
     |(have PB1:Bx (w5.setCell ⟨wr,0,none⟩ (.int .i64 (n:Nat))) wr 73 #[n,.slice none 0 0]:=(by simpa using PB.set_ 0 (.int .i64 (n:Nat)));exact ⟨_,A5,c5,rfl,rfl,PB.set2 _ _,ae (aM (aM o5 PB zD 0 _) PB1 zD 1 _) (by simpa using Nat.le_succ_of_le hS0),hX.below (ay (aa ((Below.refl wr wr).drew.alloc zR _) b5) zR _ _),hR.below (ay (aa ((Below.refl wr wr).drew.alloc zR _) b5) zR _ _),hK.below (ay (aa ((Below.refl wr wr).drew.alloc zR _) b5) zR _ _)⟩)
   case rest =>
    obtain ⟨P,A5,c5,rfl,rfl,hP,hO5,hX5,hR5,hK5⟩:=hcut;clear TK TK0 hX hR hK t0 t1 x0 x1;have X5:=zH hX5;have R5:=zH hR5;have K5:=zH hK5;have O5:=zH hO5;obtain ⟨y0',y1',_⟩:=hP.two;obtain ⟨t0,t1,t2,t3⟩:=K5.cells;clear hP hO5 hX5 hR5 hK5;go_wp2_with fail;go_roundg (gk - 1)
    all_goals first
     |omega
     |exact ⟨k+1,A5,c5,di n g r,zO,by go_num,HO2.out,HRUN.out,X5.far2 zO _ _,R5.far2 zO _ _,K5.put O5.out⟩
  ·obtain rfl:k=m:=zO;have xe:=hX.cell 1;have hfin:r=bH n l (ch n):=by rw [<- hrun,List.drop_eq_nil_of_le (by rw [HW.out.1];exact zR)];rfl
   rw [hfin] at hK;have K5:=zH hK;have R5:=zH hR;obtain ⟨t0,t1,_⟩:=K5.cells;obtain ⟨r0,r1,r2,r3⟩:=R5.two;clear hX hR hK hrun hfin hok;go_wp2_with fail;have RB:=R5.out;have hne:w.heap.size+1 ≠ O:=zO;have h1:Bx (wr.setCell ⟨w.heap.size+1,0,none⟩ (.int .i64 (n:Nat))) (w.heap.size+1) 73 #[n,.slice none 0 0]:=by simpa using RB.set_ 0 (.int .i64 (n:Nat))
   with_reducible refine eD RB ?_ ?_ ⟨A0,c0,rfl,?_,?_⟩
   ·intro wS z0 z1;simp [results,Tryz.results63,go_sem,z0,z1]
   ·rfl
   ·exact aM (aM K5.out.2.1 RB zD 0 _) h1 zD 1 _
   ·exact ay K5.out.2.2.1 zO _ _
theorem lT {w:World} {b b':Nat} {e e':TypeId} {sz sz' n n':Nat} {v v':Value} {xs xs':List Value} (h:w.ownsRow b e sz v n xs) (h':w.ownsRow b' e' sz' v' n' xs') (hne:e ≠ e'):v.ownBlock=none\/v.ownBlock ≠ v'.ownBlock:=by
 rcases h.2 with ⟨rfl,_⟩ | ⟨g,cap,cur,rfl,_,hh,_⟩
 ·exact .inl rfl
 ·right
  intro he;rcases h'.2 with ⟨rfl,_⟩ | ⟨g',cap',cur',rfl,_,hh',_⟩
  ·cases he
  ·simp only [Value.ownBlock,Option.some.injEq] at he;subst he;rw [hh] at hh';injection hh' with hh'
   injection hh' with _ h2
   exact hne h2
theorem Bx.three {wx:World} {g t:Nat} {x y z:Value} (h:Bx wx g t #[x,y,z]):wx.cell? ⟨g,0,none⟩=some x/\wx.cell? ⟨g,1,none⟩=some y/\wx.cell? ⟨g,2,none⟩=some z/\wx.frozen? ⟨g,0,none⟩=false/\wx.frozen? ⟨g,1,none⟩=false/\wx.frozen? ⟨g,2,none⟩=false:=⟨h.cell 0,h.cell 1,h.cell 2,h.free 0,h.free 1,h.free 2⟩
def WS (R W:Nat) (t:TypeId) (n:Nat) (r:List Pq) (l:List Gt) (A0:Option Addr) (c0:Nat) (A1:Option Addr) (c1:Nat) (wx:World):Prop :=
 Bx wx W t #[n,.slice A0 (2 * n) c0,.slice A1 l.length c1]/\wx.ownsRow R 151 4 (.slice A0 (2 * n) c0) (2 * n) (af (dP n r))/\wx.ownsRow R 39 4 (.slice A1 l.length c1) l.length (af l)/\R<=W
section
variable {R W n c0 c1 c5:Nat} {t:TypeId} {r r5:List Pq} {l:List Gt} {A0 A1 A5:Option Addr} {w wx w':World}
theorem WS.below (h:WS R W t n r l A0 c0 A1 c1 wx) (hb:Below wx wx w'):WS R W t n r l A0 c0 A1 c1 w':=⟨h.1.below hb,ab h.2.1 hb,ab h.2.2.1 hb,h.2.2.2⟩
theorem WS.alloc (h:WS R W t n r l A0 c0 A1 c1 wx) (o:Obj):WS R W t n r l A0 c0 A1 c1 (wx.alloc o):=h.below ((zW).alloc zR _)
theorem WS.drew (h:WS R W t n r l A0 c0 A1 c1 wx):WS R W t n r l A0 c0 A1 c1 wx.drew:=h.below (zW).drew
theorem WS.rd (h:WS R W t n r l A0 c0 A1 c1 wx):RdG wx A0 (2 * n) (dP n r):=RdG.own h.2.1
theorem WS.cap (h:WS R W t n r l A0 c0 A1 c1 wx):2 * n<=c0:=ao h.2.1
theorem WS.le (h:WS R W t n r l A0 c0 A1 c1 wx):R<=wx.heap.size:=by have:=h.1.lt;have:=h.2.2.2;omega
theorem WS.put (h:WS R W t n r l A0 c0 A1 c1 wx) (hp:t ≠ 151) (hg:t ≠ 39) (ho:wx.ownsRow R 151 4 (.slice A5 (2 * n) c5) (2 * n) (af (dP n r5))):WS R W t n r5 l A5 c5 A1 c1 (S2 wx W (.int .i64 (n:Nat)) (.slice A5 (2 * n) c5)):=by
 have h0:Bx (wx.setCell ⟨W,0,none⟩ (.int .i64 (n:Nat))) W t #[n,.slice A0 (2 * n) c0,.slice A1 l.length c1]:=by simpa using h.1.set_ 0 (.int .i64 (n:Nat))
 have h1:Bx (S2 wx W (.int .i64 (n:Nat)) (.slice A5 (2 * n) c5)) W t #[n,.slice A5 (2 * n) c5,.slice A1 l.length c1]:=by simpa using h0.set_ 1 (.slice A5 (2 * n) c5)
 exact ⟨h1,aM (aM ho h.1 (fun e=>hp e.symm) 0 _) h0 (fun e=>hp e.symm) 1 _,aM (aM h.2.2.1 h.1 (fun e=>hg e.symm) 0 _) h0 (fun e=>hg e.symm) 1 _,h.2.2.2⟩
theorem WS.push {w5:World} {g:Gt} (h:WS R W t n r l A0 c0 A1 c1 wx) (hp:t ≠ 151) (hg:t ≠ 39) (hgr:wx.grownBy w5 (Value.slice A1 l.length c1).ownBlock) (ho:w5.ownsRow R 39 4 (.slice A5 (l.length+1) c5) (l.length+1) (af l++[.int .i64 g.k,.int .i64 g.a,.int .i64 g.b,.int .i64 g.c])) :
  WS R W t n r (l++[g]) A0 c0 A5 c5 (w5.setCell ⟨W,2,none⟩ (.slice A5 (l.length+1) c5)):=by
 have hB:Bx w5 W t #[n,.slice A0 (2 * n) c0,.slice A1 l.length c1]:=az h.2.2.1 hgr h.1 (fun e=>hg e.symm);have hl:(l++[g]).length=l.length+1:=zI;have hrow:w5.ownsRow R 151 4 (.slice A0 (2 * n) c0) (2 * n) (af (dP n r)):=by
  refine h.2.1.kept hgr ?_;exact lT h.2.1 h.2.2.1 zD
 have e:af (l++[g])=af l++[.int .i64 g.k,.int .i64 g.a,.int .i64 g.b,.int .i64 g.c]:=by rw [av];rfl
 unfold WS;rw [hl,e];exact ⟨by simpa using hB.set_ 2 (.slice A5 (l.length+1) c5),aM hrow hB (fun e=>hp e.symm) 2 _,aM ho hB (fun e=>hg e.symm) 2 _,h.2.2.2⟩
end
theorem jB (n k:Nat) (a:Pq) (w:World) (hx:a.x < 16) (hk:k < 4):Calls Tryz.prog 187 #[.agg #[n,a.x,a.z,a.p],k] w fun e w'=>e=.returned (.bool (aZ a.x k))/\Below w w w':=by
 have BX:=qp hx hk;go_enter Tryz.func187,Tryz.ntmps187;go_wp2_with fail;go_ret;exact ⟨rfl,(zW).alloc zR _⟩
theorem p9 (n k:Nat) (a:Pq) (w:World) (hx:a.z < 16) (hk:k < 4):Calls Tryz.prog 188 #[.agg #[n,a.x,a.z,a.p],k] w fun e w'=>e=.returned (.bool (aZ a.z k))/\Below w w w':=by
 have BX:=qp hx hk;go_enter Tryz.func188,Tryz.ntmps188;go_wp2_with fail;go_ret;exact ⟨rfl,(zW).alloc zR _⟩
theorem oo (R W n i k c0 c1:Nat) (ii:Int) (A0 A1:Option Addr) (r:List Pq) (l:List Gt) (a:Pq) (w:World) (h:WS R W 163 n r l A0 c0 A1 c1 w) (ha:r[i]? = some a) (hii:ii=(i:Nat)) (hi:i < 2 * n) (hn:n<=4) (hx:a.x < 16) (hk:k < 4):Calls Tryz.prog 196 #[.pointer (some ⟨W,0,none⟩),ii,k] w fun e w'=>e=.returned (.bool (aZ a.x k))/\w=w':=by
 subst hii;have BX:=qp hx hk;obtain ⟨b,off,rfl⟩:=h.rd.first zO;obtain ⟨_,c0',c1',c2',c3'⟩:=h.rd.cellsAt (aE ha);simp only [pg] at c0' c1' c2' c3';obtain ⟨t0,t1,t2,_⟩:=h.1.three;have km:(i:Int) < ((2 * n:Nat):Int):=zO;clear ha h;go_enter Tryz.func196,Tryz.ntmps196;go_wp2_with fail;go_ret;exact ⟨rfl,rfl⟩
theorem zi (R W n i k c0 c1:Nat) (ii:Int) (A0 A1:Option Addr) (r:List Pq) (l:List Gt) (a:Pq) (w:World) (h:WS R W 163 n r l A0 c0 A1 c1 w) (ha:r[i]? = some a) (hii:ii=(i:Nat)) (hi:i < 2 * n) (hn:n<=4) (hx:a.z < 16) (hk:k < 4):Calls Tryz.prog 197 #[.pointer (some ⟨W,0,none⟩),ii,k] w fun e w'=>e=.returned (.bool (aZ a.z k))/\w=w':=by
 subst hii;have BX:=qp hx hk;obtain ⟨b,off,rfl⟩:=h.rd.first zO;obtain ⟨_,c0',c1',c2',c3'⟩:=h.rd.cellsAt (aE ha);simp only [pg] at c0' c1' c2' c3';obtain ⟨t0,t1,t2,_⟩:=h.1.three;have km:(i:Int) < ((2 * n:Nat):Int):=zO;clear ha h;go_enter Tryz.func197,Tryz.ntmps197;go_wp2_with fail;go_ret;exact ⟨rfl,rfl⟩
theorem ot {r:List Pq} {n q:Nat} {a:Pq} (h:r[n+q]? = some a):r[q+n]? = some a:=by rw [Nat.add_comm];exact h
def GrB (w:World) (A0:Option Addr) (c0:Nat) (l:List Gt) (wx:World):Prop :=
 wx.ownsRow w 39 4 (.slice A0 l.length c0) l.length (af l)/\Below w w wx
section
variable {w wx w':World} {A0:Option Addr} {c0:Nat} {l:List Gt}
theorem GrB.below (h:GrB w A0 c0 l wx) (hb:Below wx wx w'):GrB w A0 c0 l w':=⟨ab h.1 hb,aa h.2 hb⟩
theorem GrB.alloc (h:GrB w A0 c0 l wx) (o:Obj):GrB w A0 c0 l (wx.alloc o):=h.below ((zW).alloc zR _)
theorem GrB.drew (h:GrB w A0 c0 l wx):GrB w A0 c0 l wx.drew:=h.below (zW).drew
theorem GrB.new (w:World):GrB w (some ⟨w,0,none⟩) 0 [] (w.alloc (.cells #[] 39)):=⟨World.ownsRow_lit w #[] 0 zR zM rfl,(zW).alloc zR _⟩
theorem GrB.new' (h:Below w w wx):GrB w (some ⟨wx,0,none⟩) 0 [] (wx.alloc (.cells #[] 39)):=⟨World.ownsRow_lit wx #[] 0 h.size zM rfl,h.alloc h.size _⟩
theorem GrB.push {A5:Option Addr} {c5 m:Nat} {ms:List Gt} {w5:World} (h:GrB w A0 c0 l wx) (hg:wx.grownBy w5 (Value.slice A0 l.length c0).ownBlock) (hm:ms.length=m) (ho:w5.ownsRow w 39 4 (.slice A5 (l.length+m) c5) (l.length+m) (af l++af ms)):GrB w A5 c5 (l++ms) w5:=by
 subst hm;refine ⟨by rw [av,List.length_append];exact ho,ag h.2 h.2.size h.1 zR hg⟩
end
theorem gi (l:List Gt):(dk l).length=l.length:=by unfold dk;simp
theorem uK {l:List Gt} {k j:Nat} {g:Gt} (hk:k+(j+1)=l.length) (hg:l[j]? = some g):(dk l).take (k+1)=(dk l).take k++[⟨ji g.k,g.a,g.b,g.c⟩]:=by
 refine db ?_;unfold dk;rw [List.getElem?_map,List.getElem?_reverse zO,show l.length - 1 - k=j by omega,hg];rfl
theorem Kf {p:Prop} (h:p:=by
  subst hlt;obtain rfl:m=k:=zO;have hd:((0:Nat):Int) - 1 = -1:=zO;rw [hd];go_wp2_with fail;go_ret;have hf:(dk l).take m=dk l:=List.take_of_length_le (by rw [gi,HL.out];exact zR);have H:=HG.out;unfold GrB at H;rw [HK.out,hf] at H;exact ⟨_,_,rfl,H.1,H.2⟩):p:=h
theorem Kg {p:Prop} (h:p:=by
  go_roundg j
  all_goals first
   |omega
   |exact ⟨k+1,A7,c7,zO,rfl,by first | rfl | (congr 1;omega),G7.out⟩):p:=h
theorem Kh (m c:Nat) (A:Option Addr) (l:List Gt) (w:World) (hr:RdG w A m l) (hm:m<=1000) :
  Calls Tryz.prog 113 #[.slice A m c] w (jl 39 4 (af (dk l)) m w):=by
 have HW:=zH hr;have HL:=zH hr.1;have G0:=zH (GrB.new w);have m0:(0:Int)<=(m:Int):=zO;clear hr;go_enter Tryz.func113,Tryz.ntmps113;go_wp2_with fail;go_loopg [3,4] m (fun q v i wr=>∃ (k:Nat) (A0:Option Addr) (c0:Nat),k+q=m/\v=.slice A0 k c0/\i=.int .i64 ((q:Int) - 1)/\GrB w A0 c0 ((dk l).take k) wr)
 case atStart=>exact ⟨0,_,_,zO,rfl,rfl,G0.out⟩
 case round =>
  clear G0;obtain ⟨k,A0,c0,hk,rfl,rfl,hG⟩:=hrel;have HG:=zH hG;have HK:=zH (show ((dk l).take k).length=k by rw [List.length_take,gi,HL.out];omega);clear hG;by_cases hlt:gk=0
  ·exact Kf
  ·obtain ⟨j,rfl⟩:∃ j,gk=j+1:=⟨gk - 1,zO⟩;have hd:((j+1:Nat):Int) - 1=(j:Int):=zO;rw [hd];obtain ⟨b,off,g,rfl,hB,hdr,y0,y1,y2,y3⟩:=(HW.below HG.out.2).at_ (k:=j) zO;have hgj:l[j]? = some g:=by have:=congrArg List.head? hdr;rw [List.head?_drop] at this;exact this
   have HS:=zH (uK (k:=k) (by rw [HL.out];exact hk) hgj);have hj0:(0:Int)<=(j:Int):=zO;have hj1:(j:Int) < (m:Int):=zO;have hjm:(j:Int)<=1000:=zO;clear hdr hgj
   go_wp2_with (first
    |(go_at_call 154;refine (jK _ _ _ _ _).mono ?_;rintro e w5 ⟨rfl,b5⟩;have G5:=zH ((HG.below b5).alloc (.cells #[.int .i64 (ji g.k),g.a,g.b,g.c] 39));have O5:=G5.out.1;rw [HK.out] at O5;have O5:=zH O5)
    |(at_builtin;refine ah rfl (.tmp 13) (.tmp 19) 24 rfl Tryz.underlying24 ak rfl zD rfl O5.out rfl (Rd.lit w5 39 #[.int .i64 (ji g.k),g.a,g.b,g.c] 1 4 rfl) zV zO zD (by have:=b5.size;have:=HG.out.2.size;simp<;>omega) ?_;intro A7 c7 w7 o7 g7;have G7:=zH (show GrB w A7 c7 ((dk l).take (k+1)) w7 from by rw [HS.out];exact G5.push (ms:=[⟨ji g.k,g.a,g.b,g.c⟩]) (m:=1) (by rw [HK.out];exact g7) rfl (by rw [HK.out];exact o7))))
   exact Kg
theorem Qi (m c:Nat) (A:Option Addr) (l:List Gt) (w:World) (hr:RdG w A m l) (hm:m<=1000) :
  Calls Tryz.prog 117 #[.slice A m c] w (jl 39 4 (af (dk l)) m w):=by
 have HW:=zH hr;have HL:=zH hr.1;have G0:=zH (GrB.new w);have m0:(0:Int)<=(m:Int):=zO;clear hr;go_enter Tryz.func117,Tryz.ntmps117;go_wp2_with fail;go_loopg [3,4] m (fun q v i wr=>∃ (k:Nat) (A0:Option Addr) (c0:Nat),k+q=m/\v=.slice A0 k c0/\i=.int .i64 ((q:Int) - 1)/\GrB w A0 c0 ((dk l).take k) wr)
 case atStart=>exact ⟨0,_,_,zO,rfl,rfl,G0.out⟩
 case round =>
  clear G0;obtain ⟨k,A0,c0,hk,rfl,rfl,hG⟩:=hrel;have HG:=zH hG;have HK:=zH (show ((dk l).take k).length=k by rw [List.length_take,gi,HL.out];omega);clear hG;by_cases hlt:gk=0
  ·exact Kf
  ·obtain ⟨j,rfl⟩:∃ j,gk=j+1:=⟨gk - 1,zO⟩;have hd:((j+1:Nat):Int) - 1=(j:Int):=zO;rw [hd];obtain ⟨b,off,g,rfl,hB,hdr,y0,y1,y2,y3⟩:=(HW.below HG.out.2).at_ (k:=j) zO;have hgj:l[j]? = some g:=by have:=congrArg List.head? hdr;rw [List.head?_drop] at this;exact this
   have HS:=zH (uK (k:=k) (by rw [HL.out];exact hk) hgj);have hj0:(0:Int)<=(j:Int):=zO;have hj1:(j:Int) < (m:Int):=zO;have hjm:(j:Int)<=1000:=zO;clear hdr hgj
   go_wp2_with (first
    |(go_at_call 126;refine (mN _ _ _ _ _).mono ?_;rintro e w5 ⟨rfl,b5⟩;have G5:=zH ((HG.below b5).alloc (.cells #[.int .i64 (ji g.k),g.a,g.b,g.c] 39));have O5:=G5.out.1;rw [HK.out] at O5;have O5:=zH O5)
    |(at_builtin;refine ah rfl (.tmp 13) (.tmp 19) 24 rfl Tryz.underlying24 ak rfl zD rfl O5.out rfl (Rd.lit w5 39 #[.int .i64 (ji g.k),g.a,g.b,g.c] 1 4 rfl) zV zO zD (by have:=b5.size;have:=HG.out.2.size;simp<;>omega) ?_;intro A7 c7 w7 o7 g7;have G7:=zH (show GrB w A7 c7 ((dk l).take (k+1)) w7 from by rw [HS.out];exact G5.push (ms:=[⟨ji g.k,g.a,g.b,g.c⟩]) (m:=1) (by rw [HK.out];exact g7) rfl (by rw [HK.out];exact o7))))
   exact Kg
theorem ou {a b:Nat} (h:a % 8=b % 8):fw a=fw b:=by
 unfold fw;rw [h]
theorem FK {n:Nat} {s:List Gt} (hs:∀ g ∈ s,bF n g=true) :
  (∀ g ∈ (dh s (n:Int)).1,bF n g=true)/\cP (dh s (n:Int)).1=cP s/\dK (dh s (n:Int)).1<=dK s/\∃ j:Nat,(dh s (n:Int)).2=(j:Int)/\j < 8/\∀ V,V.length=2 ^ n->aX s V=cB (fw j) (aX (dh s (n:Int)).1 V):=by
 cases hc:cE s (n:Int) with
 |mk M ok =>
  cases ok
  ·rw [sy (by rw [hc])];exact ⟨hs,rfl,Int.le_refl _,0,rfl,zO,fun V _=>(nQ _).symm⟩
  ·obtain ⟨Q,q1,q2,q3,q4,q5,q6,q7,q8,q9,q10,q11,_⟩:=Ke hc;obtain ⟨hn,m1,m2,m3,m4,_⟩:=uF hc;obtain ⟨_,k1,k2,k3,k4,_⟩:=uF q1;refine ⟨fun g hg=>(k1 g hg).1,?_,zO,(dh s (n:Int)).2.toNat,zO,zO,fun V hV=>?_⟩
   ·rw [sM fun g hg=>(k1 g hg).2,sM fun g hg=>(m1 g hg).2]
   ·refine fX (aI s hs) ((aI _ fun g hg=>(k1 g hg).1).comp (It _ (Iu _))) (fun b hb=>?_) hV;have e1:=(m4 b hb).1;have e2:=(k4 b hb).1;have eb:da b Q=da b M:=by unfold da;rw [q4]
    rw [e1];show _=cB _ (aX _ _);rw [e2,rP,eb];congr 1;refine ou ?_;unfold Ob;rw [<- q5,q3];omega
theorem ov {n:Nat}:∀ (l:List (List Gt)) (acc:List Gt) (k:Int),(∀ s ∈ l,∀ g ∈ s,bF n g=true)->0<=k->k < 8 →
  ∃ f p,dn (n:Int) l acc k=(acc++f,p)/\(∀ g ∈ f,bF n g=true)/\cP f=cP l.flatten/\dK f<=dK l.flatten/\∃ j:Nat,p=(k+j) % 8/\∀ V,V.length=2 ^ n->aX l.flatten V=cB (fw j) (aX f V)
 |[],acc,k,_,h0,h8=>⟨[],k,by rw [dn,List.append_nil],zI,rfl,Int.le_refl _,0,zO,fun V _=>(nQ _).symm⟩
 |s :: r,acc,k,h,h0,h8=>by
  obtain ⟨a1,a2,a3,j,a4,a5,a6⟩:=FK (h s zI);obtain ⟨f,p,b1,b2,b3,b4,j2,b5,b6⟩:=ov r (acc++(dh s (n:Int)).1) ((k+(dh s (n:Int)).2) % 8) (fun x hx=>h x (by simp [hx])) zO zO;refine ⟨(dh s (n:Int)).1++f,p,?_,fun g hg=>?_,?_,?_,j+j2,?_,fun V hV=>?_⟩
  ·rw [dn,b1,List.append_assoc]
  ·rcases List.mem_append.1 hg with hg | hg
   ·exact a1 g hg
   ·exact b2 g hg
  ·rw [dE,a2,b3,List.flatten_cons,dE]
  ·rw [kg,List.flatten_cons,kg];omega
  ·rw [b5,a4];omega
  ·have l1:=(aI _ a1).2.2 V hV;rw [List.flatten_cons,cK,cK,a6 V hV,b6 _ (by rw [aK,l1]),(aI f b2).2.1 _ _ l1,rP]
theorem zj {n:Nat} {gs:List Gt} (h:∀ g ∈ gs,bF n g=true) :
  (∀ g ∈ (cf gs (n:Int)).1,bF n g=true)/\cP (cf gs (n:Int)).1=cP gs/\dK (cf gs (n:Int)).1<=dK gs/\∃ j:Nat,(cf gs (n:Int)).2=(j:Int)/\j < 8/\∀ V,V.length=2 ^ n->aX gs V=cB (fw j) (aX (cf gs (n:Int)).1 V):=by
 have hm:∀ s ∈ np gs,∀ g ∈ s,bF n g=true:=fun s hs g hg=>h g (by rw [<- iO gs];exact List.mem_flatten.2 ⟨s,hs,hg⟩)
 obtain ⟨f,p,b1,b2,b3,b4,j,b5,b6⟩:=ov (np gs) [] 0 hm zO zO;have e:cf gs (n:Int)=(f,p):=by unfold cf;rw [b1,List.nil_append]
 rw [iO] at b3 b4 b6;rw [e];refine ⟨b2,b3,b4,j % 8,?_,zO,fun V hV=>?_⟩
 ·simp only;rw [b5];omega
 ·rw [b6 V hV,ou (show j % 8 % 8=j % 8 by omega)]
theorem qa {g:Gt}:∀ {r:List Gt} {j k:Nat},dF g r j=some k->∃ mid h post,r=mid++h :: post/\k=j+mid.length/\(∀ m ∈ mid,jI g m=true)/\bK g h=true
 |[],j,k,h=>by simp [dF] at h
 |a :: r,j,k,h=>by
  simp only [dF] at h;split at h
  ·rename_i hm;injection h with h;subst h
   exact ⟨[],a,r,rfl,zI,zI,hm⟩
  ·split at h
   ·rename_i hc;obtain ⟨mid,h',post,e,hk,hall,hm⟩:=qa h;subst e;refine ⟨a :: mid,h',post,rfl,by rw [List.length_cons];omega,fun x hx=>?_,hm⟩;rcases List.mem_cons.1 hx with rfl | hx
    ·exact hc
    ·exact hall x hx
   ·cases h
theorem lU:∀ {r:List Gt} {j i k:Nat},bf r j=some (i,k)->∃ pre g mid h post,r=pre++g :: (mid++h :: post)/\i=j+pre.length/\k=i+1+mid.length/\(∀ m ∈ mid,jI g m=true)/\bK g h=true
 |[],j,i,k,h=>by simp [bf] at h
 |a :: r,j,i,k,h=>by
  simp only [bf] at h;split at h
  ·rename_i k' hk;injection h with h;injection h with h1 h2;subst h1 h2
   obtain ⟨mid,h',post,e,hk',hall,hm⟩:=qa hk;exact ⟨[],a,mid,h',post,by rw [e];rfl,zI,hk',hall,hm⟩
  ·obtain ⟨pre,g,mid,h',post,e,hi,hk,hall,hm⟩:=lU h;exact ⟨a :: pre,g,mid,h',post,by rw [e];rfl,by rw [List.length_cons];omega,hk,hall,hm⟩
theorem zk (pre mid post:List Gt) (g h:Gt):jZ (pre++g :: (mid++h :: post)) pre.length (pre.length+1+mid.length)=pre++(mid++(aU g h++post)):=by
 have d1:(pre++g :: (mid++h :: post)).drop pre.length=g :: (mid++h :: post):=by rw [List.drop_left]
 have d2:(pre++g :: (mid++h :: post)).drop (pre.length+1)=mid++h :: post:=by
  rw [<- List.drop_drop,d1];rfl
 have d3:(pre++g :: (mid++h :: post)).drop (pre.length+1+mid.length)=h :: post:=by
  rw [<- List.drop_drop,d2,List.drop_left]
 have d4:(pre++g :: (mid++h :: post)).drop (pre.length+1+mid.length+1)=post:=by
  rw [<- List.drop_drop,d3];rfl
 unfold jZ;rw [iH d1,iH d3,d2,d4,List.take_left,show pre.length+1+mid.length - (pre.length+1)=mid.length by omega,List.take_left]
end Go.Proofs.YtmenmibfkojnoaaGreat
namespace Go.Proofs.YtmenmibfkojnoaaGreat
open Go.ChangeShapes Go.WideShapes Go.ChangeAt Go.RowKit Go.Deep
def VX (n:Int):Prop:=-9223372036854775808<=n/\n<=9223372036854775807
def Gt.ok (g:Gt):Prop:=VX g.k/\VX g.a/\VX g.b/\VX g.c
theorem Cb {w:World} {a:Addr} {v:Value} (h:w.cell? (a.add 0)=some v):∃ b off,a=⟨b,off,none⟩/\b < w.heap.size:=by
 obtain ⟨b,off,spot⟩:=a;have e:spot=none:=by simpa [Addr.add] using World.cell?_spot h
 subst e;exact ⟨b,off,rfl,by simpa [Addr.add] using World.block_lt_of_cell? w _ h⟩
theorem Oh (b off j:Nat):(⟨b,off,none⟩:Addr).add j=⟨b,off+j,none⟩:=by
 unfold Addr.add;split
 ·subst j;rfl
 ·rfl
section
variable {H:Type} {enc:TypeId × Value->H} {P:Program} {w:World} {base:Nat} {spare:Nat->Bool} {held:Bool}
theorem zl {α:Type} (n:Nat) (p:Nat->α->Prop) (h:∀ i,i < n->∃ x,p i x):∃ l:List α,l.length=n/\∀ i x,l[i]? = some x->p i x:=by
 induction n with
 |zero=>exact ⟨[],rfl,fun i x hx=>by simp at hx⟩
 |succ n ih =>
  obtain ⟨l,hl,hp⟩:=ih fun i hi=>h i zO
  obtain ⟨x,hx⟩:=h n zO;refine ⟨l++[x],by simp [hl],fun i y hy=>?_⟩;rw [List.getElem?_append] at hy;split at hy
  ·exact hp i y hy
  ·rename_i hge;have:i - l.length=0:=by
    rcases Nat.eq_zero_or_pos (i - l.length) with h0 | h0
    ·exact h0
    ·rw [List.getElem?_eq_none zJ] at hy;cases hy
   rw [this] at hy;simp at hy;subst hy;obtain rfl:i=n:=zO;exact hx
theorem FL {t e:TypeId} {fuel sz:Nat} {v:Value} {x:DataW H × List MemPlace} (hC:P.cellsOf e=sz) (hsz:0 < sz) (ht:P.underlying t=some (.slice e)) (h:DataW.trod enc P w base spare held fuel t [v]=some x) :
  ∃ A n cap,v=.slice A n cap/\n<=cap/\cap<=maxLen/\(A=none->n=0/\cap=0) ∧
   ∃ l:List (List Value),l.length=n/\(∀ c ∈ l,c.length=sz/\∃ m y,DataW.trod enc P w base spare held m e c=some y) ∧
    (0 < n->∃ b off,A=some ⟨b,off,none⟩/\b < w.heap.size/\∀ i c j u,l[i]? = some c->c[j]? = some u->w.cell? ⟨b,off+(i * sz+j),none⟩=some u):=by
 rcases open_slice ht h with ⟨h0,_⟩ | ⟨a,len,cap,m,n,D,Pl,cP,hb,hl,hm,hmm,hx,hi⟩
 ·simp at h0;subst h0;exact ⟨none,0,0,rfl,zO,zM,fun _=>⟨rfl,rfl⟩,[],rfl,fun c hc=>by simp at hc,fun h=>absurd h zO⟩
 ·simp at cP;subst cP;refine ⟨some a,len,cap,rfl,hl,hm,(fun h=>by simp at h),?_⟩;have hle:len<=m:=by rw [hmm];split<;>omega
  obtain ⟨l,hll,hp⟩:=zl len (fun i c=>c.length=sz/\(∃ m y,DataW.trod enc P w base spare held m e c=some y)/\∀ j u,c[j]? = some u->w.cell? (a.add (i * sz+j))=some u) (fun i hi'=>by
   obtain ⟨cs',hc,ht'⟩:=hi i zO;rw [hC] at hc;obtain ⟨_,hcl,hat⟩:=World.cells?_some hc;refine ⟨cs',hcl,⟨_,_,ht'⟩,fun j u hu=>?_⟩;have hjl:j < sz:=by
    rcases Nat.lt_or_ge j cs'.length with h | h
    ·omega
    ·rw [List.getElem?_eq_none h] at hu;cases hu
   have:=hat j hjl;rw [hu] at this;rw [<- Go.Deep.add_add];exact this)
  refine ⟨l,hll,fun c hc=>?_,fun hn=>?_⟩
  ·obtain ⟨i,hi1,rfl⟩:=List.getElem_of_mem hc;obtain ⟨h1,h2,_⟩:=hp i l[i] (List.getElem?_eq_getElem hi1);exact ⟨h1,h2⟩
  ·have h0:l[0]? = some (l[0]'zO):=List.getElem?_eq_getElem zO;obtain ⟨g1,_,g3⟩:=hp 0 _ h0;have h00:(l[0]'zO)[0]? = some ((l[0]'zO)[0]'zO):=List.getElem?_eq_getElem zO;have hc0:=g3 0 _ h00;simp only [Nat.zero_mul,Nat.add_zero] at hc0;obtain ⟨b,off,rfl,hlt⟩:=Cb hc0;refine ⟨b,off,rfl,hlt,fun i c j u hc hu=>?_⟩;obtain ⟨_,_,k3⟩:=hp i c hc;rw [<- Oh];exact k3 j u hu
theorem DW (sz:Nat):∀ (l:List (List Value)) (j:Nat) (u:Value),(∀ c ∈ l,c.length=sz)->l.flatten[j]? = some u->∃ i c k,l[i]? = some c/\c[k]? = some u/\j=i * sz+k
 |[],j,u,_,h=>by simp at h
 |c :: r,j,u,hl,h=>by
  have hc:=hl c zI;rw [List.flatten_cons,List.getElem?_append] at h;split at h
  ·exact ⟨0,c,j,zI,h,zO⟩
  ·obtain ⟨i,c',k,h1,h2,h3⟩:=DW sz r (j - c.length) u (fun c hc=>hl c (by simp [hc])) h;refine ⟨i+1,c',k,by simpa using h1,h2,?_⟩;rw [Nat.add_mul];omega
theorem Oi {A:Option Addr} {n sz:Nat} {l:List (List Value)} (hl:l.length=n) (hc:∀ c ∈ l,c.length=sz)
  (h:0 < n->∃ b off,A=some ⟨b,off,none⟩/\b < w.heap.size/\∀ i c j u,l[i]? = some c->c[j]? = some u->w.cell? ⟨b,off+(i * sz+j),none⟩=some u):Rd w sz A n l.flatten:=by
 refine ⟨?_,fun hn=>?_⟩
 ·subst hl;clear h
  induction l with
  |nil=>simp
  |cons c r ih =>
   rw [List.flatten_cons,List.length_append,ih fun c hc'=>hc c (by simp [hc']),hc c zI,List.length_cons,Nat.add_mul];omega
 ·obtain ⟨b,off,e,hb,hh⟩:=h hn;refine ⟨b,off,e,hb,fun j u hu=>?_⟩;obtain ⟨i,c,k,h1,h2,rfl⟩:=DW sz l j u hc hu;exact hh i c k u h1 h2
theorem SN {α:Type} (f:α->List Value) (ok:α->Prop) (l:List (List Value)) (h:∀ c ∈ l,∃ g,c=f g/\ok g):∃ gs:List α,l=gs.map f/\∀ g ∈ gs,ok g:=by
 induction l with
 |nil=>exact ⟨[],rfl,fun g hg=>by simp at hg⟩
 |cons c r ih =>
  obtain ⟨gs,e,hk⟩:=ih fun c hc=>h c (by simp [hc])
  obtain ⟨g,rfl,hg⟩:=h c zI;exact ⟨g :: gs,by simp [e],fun x hx=>by
   rcases List.mem_cons.1 hx with rfl | hx
   ·exact hg
   ·exact hk x hx⟩
theorem FM (k:IntKind) (gs:List Int):gs.map (Value.int k)=(gs.map fun z:Int=>[Value.int k z]).flatten:=by
 induction gs with
 |nil=>rfl
 |cons a r ih=>simp only [List.map_cons,List.flatten_cons,ih,List.singleton_append]
theorem Cc {t e:TypeId} {fuel:Nat} {v:Value} {x:DataW H × List MemPlace} (ht:P.underlying t=some (.slice e)) (he:P.underlying e=some (.int .u8)) (hC:P.cellsOf e=1)
  (h:DataW.trod enc P w base spare held fuel t [v]=some x) :
  ∃ (A:Option Addr) (n cap:Nat) (zs:List Int),v=.slice A n cap/\(zs.length=n/\Rd w 1 A n (zs.map (Value.int .u8)))/\n<=cap/\cap<=maxLen/\∀ z ∈ zs,0<=z/\z<=255:=by
 obtain ⟨A,n,cap,rfl,h4,h5,_,l,hl,hc,hr⟩:=FL hC zO ht h;obtain ⟨gs,rfl,hok⟩:=SN (fun z:Int=>[Value.int .u8 z]) (fun z=>0<=z/\z<=255) l (fun c hcm=>by
  obtain ⟨hlen,m,y,hy⟩:=hc c hcm;obtain ⟨z,hz,_,hw⟩:=DataW.trod_int he hy;exact ⟨z,hz,by simpa [Lit.wf,IntKind.min,IntKind.max,IntKind.signed,IntKind.bits] using hw⟩)
 refine ⟨A,n,cap,gs,rfl,⟨by simpa using hl,?_⟩,h4,h5,hok⟩;have:=Oi hl (fun c hcm=>(hc c hcm).1) hr;rwa [<- FM] at this
end
end Go.Proofs.YtmenmibfkojnoaaGreat
