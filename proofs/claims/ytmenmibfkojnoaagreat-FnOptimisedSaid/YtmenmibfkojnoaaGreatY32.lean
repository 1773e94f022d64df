/- Contract of CircuitTableau (impl): Cliff. -/
import Derived.Test.YtmenmibfkojnoaaGreatY31
import Derived.Test.YtmenmibfkojnoaaGreatY29
set_option maxHeartbeats 16000000
set_option maxRecDepth 100000
namespace Go.Proofs.YtmenmibfkojnoaaGreat
open Go.RowKit
set_option linter.unusedVariables false
theorem aM {w:World} {base:Nat} {e t:TypeId} {sz n g:Nat} {v:Value} {xs:List Value} {cs:Array Value} (h:w.ownsRow base e sz v n xs) (hg:Bx w g t cs) (hne:e ≠ t) (i:Nat) (u:Value):(w.setCell ⟨g,i,none⟩ u).ownsRow base e sz v n xs:=by
 have hb:w.grownBy (w.setCell ⟨g,i,none⟩ u) (some g):=⟨rfl,rfl,rfl,by simp [World.setCell],fun k hk hne=>Below.heap_setCell w _ _ k (fun e=>hne (by rw [e]))⟩;refine h.kept hb ?_;exact .inr fun e=>am h hg hne e.symm
def KB (w:World) (n O:Nat) (A0:Option Addr) (c0:Nat) (r:List Pq) (wx:World):Prop :=
 Bx wx O 73 #[n,.slice A0 (2 * n) c0]/\wx.ownsRow w 151 4 (.slice A0 (2 * n) c0) (2 * n) (af (dP n r))/\Below w w wx/\w.heap.size<=O
section
variable {w wx w':World} {n O c0 c1:Nat} {A0 A1:Option Addr} {r r1:List Pq}
theorem KB.below (h:KB w n O A0 c0 r wx) (hb:Below wx wx w'):KB w n O A0 c0 r w':=⟨h.1.below hb,ab h.2.1 hb,aa h.2.2.1 hb,h.2.2.2⟩
theorem KB.alloc (h:KB w n O A0 c0 r wx) (o:Obj):KB w n O A0 c0 r (wx.alloc o):=h.below ((zW).alloc zR _)
theorem KB.drew (h:KB w n O A0 c0 r wx):KB w n O A0 c0 r wx.drew:=h.below (zW).drew
theorem KB.rd (h:KB w n O A0 c0 r wx):RdG wx A0 (2 * n) (dP n r):=RdG.own h.2.1
theorem KB.cap (h:KB w n O A0 c0 r wx):2 * n<=c0:=ao h.2.1
theorem KB.put (h:KB w n O A0 c0 r wx) (ho:wx.ownsRow w 151 4 (.slice A1 (2 * n) c1) (2 * n) (af (dP n r1))):KB w n O A1 c1 r1 (S2 wx O (.int .i64 (n:Nat)) (.slice A1 (2 * n) c1)):=by
 have h0:Bx (wx.setCell ⟨O,0,none⟩ (.int .i64 (n:Nat))) O 73 #[n,.slice A0 (2 * n) c0]:=by simpa using h.1.set_ 0 (.int .i64 (n:Nat))
 exact ⟨h.1.set2 _ _,aM (aM ho h.1 zD 0 _) h0 zD 1 _,ay h.2.2.1 h.2.2.2 _ _,h.2.2.2⟩
theorem KB.cells (h:KB w n O A0 c0 r wx):wx.cell? ⟨O,0,none⟩=some (.int .i64 (n:Nat))/\wx.cell? ⟨O,1,none⟩=some (.slice A0 (2 * n) c0)/\wx.frozen? ⟨O,0,none⟩=false/\wx.frozen? ⟨O,1,none⟩=false:=h.1.two
end
theorem Qf {n:Nat} {l:List Gt} (hn:1<=n/\n<=4) (h:l.length<=60) (hl:∀ g ∈ l,bF n g=true):qG l n=true:=by
 unfold qG Ak;rw [bG zO zO,decide_eq_true h,Bool.true_and,Bool.true_and];exact List.all_eq_true.2 fun g hg=>hl g hg
theorem y8 (n m c:Nat) (A:Option Addr) (l:List Gt) (w:World) (hn:1<=n/\n<=4) (hr:RdG w A m l) (hm:m<=60) (hl:∀ g ∈ l,bF n g=true/\bh g.k=true) (hi:ed n (ch n)) :
  Calls Tryz.prog 67 #[.agg #[n,.slice A m c]] w (rZ n (2 * n) (bH n l (ch n)) w):=by
 have X0:=zH (show Bx ((w.alloc (.cells #[n,.slice A m c] 45)).alloc ZO.zT) w.heap.size 45 _ from (Bx.new w _ _).alloc _);have R0:=zH (show Bx ((w.alloc (.cells #[n,.slice A m c] 45)).alloc ZO.zT) (w.heap.size+1) 73 #[(0:Int),.slice none 0 0] from Bx.new' zI);have B0:=zH (show Below w w ((w.alloc (.cells #[n,.slice A m c] 45)).alloc ZO.zT) from ((zW).alloc zR _).alloc zI _);have HW:=zH hr;have HL:=zH hl;have HT:=zH hi;have HV:=zH (Qf hn (by rw [hr.1];exact hm) fun g hg=>(hl g hg).1);have x0:=X0.cell 0;have x1:=X0.cell 1;clear hr hl hi;go_enter Tryz.func67,Tryz.ntmps67;go_wp2_with fail;refine (AX A m c n l _ (HW.below B0) zO).mono ?_;rintro e w1 ⟨rfl,b1⟩;rw [HV.out];have X1:=zH (X0.below b1);have R1:=zH (R0.below b1);have B1:=zH (aa B0 b1);clear b1 X0 R0 B0 x0 x1;have x0:=X1.cell 0;have x1:=X1.cell 1;go_wp2_with fail;refine (wh n _ hn).mono ?_
 rintro e w2 ⟨A0,c0,rfl,o2,b2⟩;have X2:=zH ((X1.below b2).alloc (.cells #[n,.slice A0 (2 * n) c0] 73));have R2:=zH ((R1.below b2).alloc (.cells #[n,.slice A0 (2 * n) c0] 73));have K2:=zH (show KB w n w2.heap.size A0 c0 (ch n) (w2.alloc (.cells #[n,.slice A0 (2 * n) c0] 73)) from ⟨Bx.new _ _ _,ae (o2.alloc _) B1.size,(aa B1.out b2).alloc (Nat.le_trans B1.size b2.size) _,Nat.le_trans B1.size b2.size⟩);have lt2:w.heap.size+1 < w2.heap.size:=(R1.below b2).lt;clear o2 b2 X1 R1 B1 x0 x1;have x1:=X2.cell 1;obtain ⟨O,hO⟩:∃ O,O=w2.heap.size:=⟨_,rfl⟩;rw [<- hO] at K2 lt2;go_wp2_with fail;rw [<- hO];clear hO;go_loopg [19] m (fun q i wr=>∃ (k:Nat) (A0:Option Addr) (c0:Nat) (r:List Pq),k+q=m/\i=.int .i64 k/\ed n r/\bH n (l.drop k) r=bH n l (ch n)/\Bx wr w 45 #[n,.slice A m c]/\Bx wr (w.heap.size+1) 73 #[(0:Int),.slice none 0 0]/\KB w n O A0 c0 r wr)
 case atStart=>exact ⟨0,A0,c0,ch n,zO,rfl,HT.out,rfl,X2.out,R2.out,K2.out⟩
 case round =>
  clear X2 R2 K2 x1;obtain ⟨k,A0,c0,r,hk,rfl,hok,hrun,hX,hR,hK⟩:=hrel;by_cases hlt:k < m
  ·obtain ⟨b,off,g,rfl,hB,hd,y0,y1,y2,y3⟩:=(HW.below hK.2.2.1).at_ hlt;have HG:=zH (HL.out g (List.mem_of_mem_drop (i:=k) (by rw [hd];simp)));have HRUN:=zH (show bH n (l.drop (k+1)) (di n g r)=bH n l (ch n) by rw [<- hrun,hd];rfl);have HO2:=zH (iB HG.out.1 HG.out.2 hok);have HOK:=zH hok;have X3:=zH (hX.alloc g);have R3:=zH (hR.alloc g);have K3:=zH (hK.alloc g);obtain ⟨t0,t1,_⟩:=K3.cells;clear hX hR hK hd hrun hok;have hi0:(0:Int)<=(k:Int):=zO;have hi1:(k:Int) < (m:Int):=zO;go_wp2_with fail;refine (j7 n (2 * n) c0 A0 r g _ hn K3.rd K3.cap HOK HG.out.1 HG.out.2).mono ?_;rintro e w5 ⟨A5,c5,rfl,o5,b5⟩;have X5:=zH ((X3.below b5).alloc (.cells #[n,.slice A5 (2 * n) c5] 73));have R5:=zH ((R3.below b5).alloc (.cells #[n,.slice A5 (2 * n) c5] 73));have K5:=zH ((K3.below b5).alloc (.cells #[n,.slice A5 (2 * n) c5] 73))
   have O5:=zH (ae (base':=w.heap.size) (o5.alloc (.cells #[n,.slice A5 (2 * n) c5] 73)) K3.out.2.2.1.size);clear t0 t1 o5 b5 X3 R3 K3;obtain ⟨t0,t1,t2,t3⟩:=K5.cells;go_wp2_with fail;go_roundg (gk - 1)
   all_goals first
    |omega
    |exact ⟨k+1,A5,c5,di n g r,zO,by go_num,HO2.out,HRUN.out,X5.far2 zO _ _,R5.far2 zO _ _,K5.put O5.out⟩
  ·obtain rfl:k=m:=zO;have hfin:r=bH n l (ch n):=by rw [<- hrun,List.drop_eq_nil_of_le (by rw [HW.out.1];exact zR)];rfl
   rw [hfin] at hK;have K5:=zH hK;have R5:=zH hR;obtain ⟨t0,t1,_⟩:=K5.cells;obtain ⟨r0,r1,r2,r3⟩:=R5.two;clear hX hR hK hrun hfin hok;go_wp2_with fail;have RB:=R5.out;have hne:w.heap.size+1 ≠ O:=zO;have h1:Bx (wr.setCell ⟨w.heap.size+1,0,none⟩ (.int .i64 (n:Nat))) (w.heap.size+1) 73 #[n,.slice none 0 0]:=by simpa using RB.set_ 0 (.int .i64 (n:Nat))
   with_reducible refine eD RB ?_ ?_ ⟨A0,c0,rfl,?_,?_⟩
   ·intro wS z0 z1;simp [results,Tryz.results67,go_sem,z0,z1]
   ·rfl
   ·exact aM (aM K5.out.2.1 RB zD 0 _) h1 zD 1 _
   ·exact ay K5.out.2.2.1 zO _ _
theorem J2 {p:Prop} (h:p:=by
  refine (sP _ _ _ _ _).mono ?_;rintro e w6 ⟨rfl,b6⟩;clear y0 y1 y2 y3;go_wp2_with fail;go_roundg (gk - 1)
  case measure=>omega
  case rel=>exact ⟨k+1,ph g.k,l',A0',q+1,c0',zO,by go_num,rfl,rfl,f1,f2,f3,f4,f5,f6,f7,f8.below b6,aa f9 b6⟩):p:=h
theorem qx (A:Option Addr) (n cap:Nat) (gs:List Gt) (w:World) (h:RdG w A n gs) (hn:n<=1073741824):Calls Tryz.prog 56 #[.slice A n cap] w (Qe (np gs) w):=by
 have H:=zH h;clear h;obtain ⟨R,hR⟩:∃ R,np gs=R:=⟨_,rfl⟩;have HR:Hid (it false [] gs=R):=zH hR;rw [hR];clear hR;go_enter Tryz.func56,Tryz.ntmps56;go_wp2_with fail;go_loopg [3,4,5] n (fun r v ob i wr=>∃ (k:Nat) (o:Bool) (l:List (List Gt)) (A0:Option Addr) (q c0:Nat),k+r=n/\i=.int .i64 k/\v=.slice A0 q c0/\ob=.bool o/\l.length=q/\q<=k/\(0 < k->0 < q)/\(o=true->0 < k)/\(0 < k->∀ g',gs[k - 1]? = some g'->o=ph g'.k)/\(∀ x ∈ l,x.length<=k)/\it o l (gs.drop k)=R/\OwnSS af wr w.heap.size 24 39 4 (.slice A0 q c0) l/\Below w w wr)
 case atStart=>exact ⟨0,false,[],_,0,0,zO,rfl,rfl,rfl,rfl,zO,(fun h=>absurd h zO),(fun h=>by cases h),(fun h=>absurd h zO),(fun x hx=>by simp at hx),HR.out,OwnSS.lit0 w zR _ _ _ _,(zW).alloc zR _⟩
 case round =>
  clear HR;obtain ⟨k,o,l,A0,q,c0,hk,rfl,rfl,rfl,hl,hqk,hq0,ho0,hop,hrow,hq,ow,hb⟩:=hrel;have HL:=zH hl;have HO0:=zH ho0;have HOP:=zH hop;have HROW:=zH hrow;have HQ:=zH hq;have OW:=zH ow;have HQ0:=zH hq0;clear hl ho0 hop hrow hq ow hq0;have hs0:=hb.size;by_cases hlt:k < n
  ·obtain ⟨bg,fg,g,hA,hBg,hd,q0,q1,q2,q3⟩:=(H.below hb).at_ hlt;subst hA;have HD:=zH hd;clear hd;have HGK:Hid (gs[k]? = some g):=zH (by have:=congrArg (fun r=>r[0]?) HD.out;simpa using this);have B0:=zH (show Below w w (wr.alloc g) from hb.alloc hs0 _);have X0:=zH (Bx.new wr 39 #[g.k,g.a,g.b,g.c]);have O0:=zH (OW.alloc g);have hkI:(k:Int) < (n:Int):=zO
   have NEW:Hid (∀ (wx w5:World) (A5:Option Addr) (c5:Nat) (vs0:List Value),OwnSS af wx w.heap.size 24 39 4 (.slice A0 q c0) l->wx.ownsRow w 24 1 (.slice A0 q c0) q vs0->Below w w wx->w5.ownsRow w 24 1 (.slice A5 (q+1) c5) (q+1) (vs0++[.slice (some ⟨wx,0,none⟩) 1 1])->((wx.alloc g).alloc (.cells #[.slice (some ⟨wx,0,none⟩) 1 1] 24)).grownBy w5 (Value.slice A0 q c0).ownBlock->(o=false\/ph g.k=false)->(∃ (k':Nat) (o':Bool) (l':List (List Gt)) (A0':Option Addr) (q' c0':Nat),k'=k+1/\o'=ph g.k/\q'=q+1/\A0'=A5/\c0'=c5/\l'.length=q'/\q'<=k'/\(0 < k'->0 < q')/\(o'=true->0 < k')/\(0 < k'->∀ g',gs[k' - 1]? = some g'->o'=ph g'.k)/\(∀ x ∈ l',x.length<=k')/\it o' l' (gs.drop k')=R/\OwnSS af w5 w.heap.size 24 39 4 (.slice A0' q' c0') l'/\Below w w w5)):=zH (by
    intro wx w5 A5 c5 vs0 hO hD hB h5 g5 hcnd;have hsx:=hB.size;have hne:(24:Nat) ≠ 39:=zD;have b1:Below wx wx ((wx.alloc g).alloc (.cells #[.slice (some ⟨wx,0,none⟩) 1 1] 24)):=((zW).alloc zR _).alloc zI _;refine ⟨k+1,ph g.k,l++[[g]],A5,q+1,c5,rfl,rfl,rfl,rfl,rfl,by rw [List.length_append,HL.out];rfl,zO,fun _=>by omega,fun _=>by omega,fun _ g' hg'=>?_,fun x hx=>?_,?_,?_,?_⟩
    ·rw [show k+1 - 1=k from by omega,HGK.out] at hg';injection hg' with hg'
     rw [hg']
    ·rcases List.mem_append.1 hx with hx | hx
     ·have:=HROW.out x hx;omega
     ·simp at hx;subst hx;simp
    ·rw [<- HQ.out,HD.out,y6 hcnd]
    ·have hap:=OwnSS.app (cs:=af) (B:=wx.heap.size) (w0:=wx) (w1:=(wx.alloc g).alloc (.cells #[.slice (some ⟨wx,0,none⟩) 1 1] 24)) (w2:=w5) (l:=l) (l':=[[g]]) (vs':=[.slice (some ⟨wx,0,none⟩) 1 1]) (v'':=.slice A5 (q+1) c5) hne hO zR hsx b1
      (fun j x hj=>by
       have h0:j=0:=by have:=(List.getElem?_eq_some_iff.1 hj).1;simp at this;omega
       subst h0;simp at hj;subst hj;exact ⟨_,1,rfl,(World.ownsRow_lit (e:=39) (size:=4) wx #[g.k,g.a,g.b,g.c] 1 zR zM rfl).alloc _⟩)
      (fun i j u u' hij hu hu'=>by
       have h1:=(List.getElem?_eq_some_iff.1 hu).1;have h2:=(List.getElem?_eq_some_iff.1 hu').1;simp at h1 h2;omega)
      rfl g5 (fun vs hv=>by rw [HL.out] at hv ⊢;rw [uG hv ((hD.alloc _).alloc _)];exact h5)
     exact hap
    ·exact ag ((hB.alloc hsx _).alloc zS _) zS ((hD.alloc _).alloc _) zR g5)
   have EXT:Hid (∀ (wx w5:World) (go:Nat) (x:List Gt) (D D':Option Addr) (c c':Nat),A0=some ⟨go,0,none⟩->OwnSS af wx w.heap.size 24 39 4 (.slice A0 q c0) l->l[q - 1]? = some x->wx.cell? ⟨go,q - 1,none⟩=some (.slice D x.length c)->wx.ownsRow w 39 4 (.slice D x.length c) x.length (af x)->Below w w wx->w5.ownsRow w 39 4 (.slice D' (x.length+1) c') (x.length+1) (af x++g.cells)->wx.grownBy w5 (Value.slice D x.length c).ownBlock->((Value.slice D' (x.length+1) c').ownBlock=(Value.slice D x.length c).ownBlock\/∀ b,(Value.slice D' (x.length+1) c').ownBlock=some b->wx.heap.size<=b)->o=true->ph g.k=true->(∃ (k':Nat) (o':Bool) (l':List (List Gt)),k'=k+1/\o'=true/\l'.length=q/\q<=k'/\(0 < k'->0 < q)/\(o'=true->0 < k')/\(0 < k'->∀ g',gs[k' - 1]? = some g'->o'=ph g'.k)/\(∀ x ∈ l',x.length<=k')/\it o' l' (gs.drop k')=R/\OwnSS af (w5.setCell ⟨go,q - 1,none⟩ (.slice D' (x.length+1) c')) w.heap.size 24 39 4 (.slice A0 q c0) l'/\Below w w (w5.setCell ⟨go,q - 1,none⟩ (.slice D' (x.length+1) c')))):=zH (by
    intro wx w5 go x D D' c c' hA0 hO hx hcell hown hB h5 g5 hbb ho hph;subst hA0;have hq0:0 < q:=HQ0.out (HO0.out ho);have hadd:dJ l g=l.set (q - 1) (x++[g]):=by unfold dJ;rw [HL.out,List.getD_eq_getElem?_getD,hx,Option.getD_some]
    obtain ⟨t1,t2⟩:=y7 (acc:=l) g (by rw [HL.out];exact hq0);have hxl:(x++[g]).length=x.length+1:=zI;have hext:=OwnSS.ext (cs:=af) (w1:=w5) (c':=c') (D':=D') (y:=x++[g]) zD hO hx hcell g5 (by rw [hxl,av];exact h5) (by rw [hxl];exact hbb);rw [hxl,<- hadd] at hext;obtain ⟨vs,a1,_⟩:=hO;refine ⟨k+1,true,dJ l g,rfl,rfl,by rw [t1,HL.out],zO,fun _=>hq0,fun _=>by omega,fun _ g' hg'=>?_,fun y hy=>?_,?_,hext,?_⟩
    ·rw [show k+1 - 1=k from by omega,HGK.out] at hg';injection hg' with hg'
     rw [<- hg',hph]
    ·have:=t2 k HROW.out y hy;omega
    ·rw [<- HQ.out,HD.out,yZ ho hph]
    ·exact (ag hB hB.size hown zR g5).setCell (a1.lt go rfl).1 _)
   cases ho:o
   ·have HO:=zH ho;clear ho;obtain ⟨x0,x1,x2,x3,_,_,_,_⟩:=X0.four;obtain ⟨vs0,d1,d2,d3⟩:=O0.out;rw [HL.out] at d1;have D1:=zH d1;clear d1 d2 d3;have hsx:=B0.size;have DA:=zH ((D1.alloc g).alloc (.cells #[.slice (some ⟨wr.heap.size+1,0,none⟩) 1 1] 24));have RA:=zH (show Rd (((wr.alloc g).alloc g).alloc (.cells #[.slice (some ⟨wr.heap.size+1,0,none⟩) 1 1] 24)) 1 (some ⟨wr.heap.size+1+1,0,none⟩) 1 [.slice (some ⟨wr.heap.size+1,0,none⟩) 1 1] from by have:=Rd.lit ((wr.alloc g).alloc g) 24 #[.slice (some ⟨wr.heap.size+1,0,none⟩) 1 1] 1 1 rfl;rw [World.size_alloc,World.size_alloc] at this;exact this)
    go_wp2_with (at_builtin;refine ah rfl (.tmp 37) (.tmp 40) 42 rfl Tryz.underlying42 kf rfl zD rfl DA.out rfl RA.out zV zO zD zS ?_;intro A5 c5 w5 o5 g5;have X5:=az DA.out g5 ((X0.alloc _).alloc _) zD;have ⟨y0,y1,y2,y3,_,_,_,_⟩:=X5.four)
    have NW:=NEW.out (wr.alloc g) w5 A5 c5 vs0 O0.out D1.out B0.out;simp only [World.size_alloc] at NW;obtain ⟨k',o',l',A0',q',c0',rfl,rfl,rfl,rfl,rfl,f1,f2,f3,f4,f5,f6,f7,f8,f9⟩:=NW o5 g5 (.inl HO.out);exact J2
   ·have HO:=zH ho;clear ho;go_wp2_with fail;refine (sP _ _ _ _ _).mono ?_;rintro e w1 ⟨rfl,b1⟩;have X1:=zH (X0.below b1);have O1:=zH (O0.below b1);have B1:=zH (aa B0 b1);clear b1 q0 q1 q2 q3;cases hph:ph g.k
    ·have HPH:=zH hph;clear hph;obtain ⟨x0,x1,x2,x3,_,_,_,_⟩:=X1.four;obtain ⟨vs0,d1,d2,d3⟩:=O1.out;rw [HL.out] at d1;have D1:=zH d1;clear d1 d2 d3;have hsx:=B1.size;have DA:=zH ((D1.alloc g).alloc (.cells #[.slice (some ⟨w1,0,none⟩) 1 1] 24));have RA:=zH (show Rd (((w1).alloc g).alloc (.cells #[.slice (some ⟨w1,0,none⟩) 1 1] 24)) 1 (some ⟨w1.heap.size+1,0,none⟩) 1 [.slice (some ⟨w1,0,none⟩) 1 1] from by have:=Rd.lit ((w1).alloc g) 24 #[.slice (some ⟨w1,0,none⟩) 1 1] 1 1 rfl;rw [World.size_alloc] at this;exact this)
     go_wp2_with (at_builtin;refine ah rfl (.tmp 37) (.tmp 40) 42 rfl Tryz.underlying42 kf rfl zD rfl DA.out rfl RA.out zV zO zD zS ?_;intro A5 c5 w5 o5 g5;have X5:=az DA.out g5 ((X1.alloc _).alloc _) zD;have ⟨y0,y1,y2,y3,_,_,_,_⟩:=X5.four)
     have NW:=NEW.out (w1) w5 A5 c5 vs0 O1.out D1.out B1.out;obtain ⟨k',o',l',A0',q',c0',rfl,rfl,rfl,rfl,rfl,f1,f2,f3,f4,f5,f6,f7,f8,f9⟩:=NW o5 g5 (.inr HPH.out);exact J2
    ·have HPH:=zH hph;clear hph;have hq0:0 < q:=HQ0.out (HO0.out HO.out);obtain ⟨L,hL⟩:∃ L,q=L+1:=⟨q - 1,zO⟩;obtain ⟨go,cap1,x,D,dc,hv,hdx,cc,ff,ox,_⟩:=OwnSS.at_ zD O1.out (k:=L) (by rw [HL.out];omega);rw [HL.out] at hv;injection hv with hv1 _ hv3;subst hv1 hv3
     have hxk:=HROW.out x (List.mem_of_mem_drop (i:=L) (by rw [hdx];simp));have HXL:Hid (l[L]? = some x):=zH (by have:=congrArg (fun r=>r[0]?) hdx;simpa using this);have hqL:q - 1=L:=zO;obtain ⟨vs0,d1,d2,d3⟩:=O1.out;rw [HL.out] at d1;have HVL:Hid (vs0[L]? = some (.slice D x.length dc)):=zH (by rw [<- d1.cellAt L zO];exact cc);have EX0:=EXT.out ((w1).alloc g).drew;rw [hqL] at EX0;have EX:=zH EX0;have CA:=zH (show ((w1).alloc g).drew.cell? ⟨go,L,none⟩=some (.slice D x.length dc) from (((Below.refl (w1).heap.size (w1)).alloc zR g).cell (p:=⟨go,L,none⟩) (World.block_lt_of_cell? _ _ cc)).trans cc);have OSA:=zH (show OwnSS af ((w1).alloc g).drew w.heap.size 24 39 4 (.slice (some ⟨go,0,none⟩) q c0) l from O1.alloc _);have BA:=zH (show Below w w ((w1).alloc g).drew from (B1.alloc B1.size _).drew)
     have OXA:=zH (show ((w1).alloc g).drew.ownsRow w 39 4 (.slice D x.length dc) x.length (af x) from ox.alloc _);have DA1:=zH (show ((w1).alloc g).drew.ownsRow w 24 1 (.slice (some ⟨go,0,none⟩) q c0) q vs0 from d1.alloc _);have RA:=zH (show Rd ((w1).alloc g).drew 4 (some ⟨(w1).heap.size,0,none⟩) 1 g.cells from Rd.lit (w1) 39 #[g.k,g.a,g.b,g.c] 1 4 rfl);have hz4:(Value.agg #[(0:Int),(0:Int),(0:Int),(0:Int)]).cells.size=4:=rfl;obtain ⟨nx,hnx⟩:∃ nx,x.length=nx:=⟨_,rfl⟩;have HNX:=zH hnx;rw [hnx] at cc hxk HVL CA OXA;have CA':=CA.out;have hsx:=B1.size;have one4:∀ u ∈ g.cells,u.oneCell'=true:=by simp [Gt.cells,Value.oneCell']
     have ONE4:=zH one4;have hLq:L < q * 1:=zO;have hLi:(L:Int) < (q:Int):=zO;have hLj:L < q:=zO;have hLz:(0:Int)<=(L:Int):=zO;have HLE:=zH hL;have hgo:=World.block_lt_of_cell? _ _ cc;obtain ⟨x0,x1,x2,x3,_,_,_,_⟩:=X1.four;have nn:=World.new_ne (w1) _ cc;have hw1:IntKind.i64.wrap ((q:Int) - 1)=(L:Int):=by rw [IntKind.wrap_i64];omega
     have hw3:IntKind.i64.wrap (L:Int)=(L:Int):=by rw [IntKind.wrap_i64];omega
     have hw2:(q:Int) - 1=(L:Int):=zO;clear d1 d2 d3 hdx ox hL hnx hqL EX0 one4;go_wp2_with fail
     go_region_law
      (first | (refine uu zF (.tmp 32) (.tmp 34) 24 zF Tryz.underlying24 ak hz4 zD zA OXA.out zA RA.out ONE4.out zO zD zS ?_;intro A5 c5 w5 o5 g5 hb5;have D5:=DA1.kept g5 (aN DA1.out OXA.out zD);have cl5:=(D5.cellAt L hLq).trans HVL.out;have fl5:=D5.frozenAt L) | fail)
     all_goals clear hw1 hw2 hw3
     all_goals go_wp2_with fail
     all_goals have h5:=EX.out w5 go x D A5 dc c5 rfl OSA.out HXL.out (by rw [HNX.out];exact CA.out) (by rw [HNX.out];exact OXA.out) BA.out (by rw [HNX.out];exact o5) (by rw [HNX.out];exact g5) (by rw [HNX.out];exact hb5) HO.out HPH.out
     all_goals rw [HNX.out] at h5
     all_goals obtain ⟨k',o',l',rfl,rfl,f1,f2,f3,f4,f5,f6,f7,f8,f9⟩:=h5
     all_goals go_roundg (gk - 1)
     all_goals first
      |omega
      |exact ⟨k+1,true,l',some ⟨go,0,none⟩,q,c0,zO,by go_num,rfl,rfl,f1,f2,f3,f4,f5,f6,f7,f8,f9⟩
  ·go_wp2_with fail;go_ret;have hend:l=R:=by rw [<- HQ.out,List.drop_eq_nil_of_le (by have:=H.out.1;omega),it]
   have e1:=HL.out;subst hend;subst e1;exact ⟨A0,c0,rfl,OW,hb⟩
section
variable {P:Program} {w:World}
theorem pV {ops:Array Oper} {rest:List Oper} {o:Oper} {a:Act} {Q:Exit->Act->World->Prop} (hgd:o.guard=none) (s x:Operand) (t:TypeId)
  (ho:o.op=.call { callee:=.builtin .append,args:=#[s,x],argTypes:=#[t,t] })
  {base e:Nat} {z:Value} {size bytes:Nat} (ht:P.underlying t=some (.slice e)) (hinfo:(P.info? e).map (fun i=>(i.zero,i.size,i.bytes))=some (some z,size,bytes))
  (hzs:z.cells.size=size) (hsz:0 < size) {A:Option Addr} {n c:Nat} {xs:List Value} (hs:a.eval s=.slice A n c) (hown:w.ownsRow base e size (.slice A n c) n xs)
  {A':Option Addr} {m c':Nat} {news:List Value} (hx:a.eval x=.slice A' m c') (hr:Rd w size A' m news) (h1:∀ u ∈ news,u.oneCell'=true)
  (hbytes:(n+m) * bytes<=140737488355328) (hby:0 < bytes) (hbase:base<=w.heap.size)
  (h:∀ A'' c'' w',w'.ownsRow base e size (.slice A'' (n+m) c'') (n+m) (xs++news)->w.grownBy w' (Value.slice A n c).ownBlock->((Value.slice A'' (n+m) c'').ownBlock=(Value.slice A n c).ownBlock\/∀ b,(Value.slice A'' (n+m) c'').ownBlock=some b->w.heap.size<=b)->wpList P ops Q rest (a.put o.dst (.slice A'' (n+m) c'')) w'):wpList P ops Q (o :: rest) a w :=
 wpList_plain hgd fun K hK=>by
  obtain ⟨A'',c'',w',hrun,h2,h3,h4⟩:=yJ (P:=P) base t o.type e ht hinfo hzs hsz A n c xs hown A' m c' news hr h1 hbytes hby hbase;unfold Oper.wp execOp;simp only [ho,resolve,invoke,builtin,Sem.run_bind,Sem.run_pure,Result.andThen_ok,List.map_toArray,List.map_cons,List.map_nil,hs,hx,hrun];exact hK _ _ (h A'' c'' w' h2 h3 h4)
end
theorem pw:∀ (gs:List Gt) (o:Bool) (acc:List (List Gt)),(o=true->acc ≠ [])->(it o acc gs).flatten=acc.flatten++gs
 |[],o,acc,_=>by rw [it];simp
 |g :: r,o,acc,h=>by
  rw [it];split
  ·rename_i hh;have ho:o=true:=by rw [Bool.and_eq_true] at hh;exact hh.1
   have hne:=h ho;have hl:0 < acc.length:=List.length_pos_iff.2 hne;have hne2:dJ acc g ≠ []:=by intro e;have:=congrArg List.length e;simp [dJ] at this;exact hne this
   rw [pw r _ _ (fun _=>hne2)];obtain ⟨ini,last,rfl⟩:∃ ini last,acc=ini++[last]:=⟨acc.dropLast,acc.getLast hne,(List.dropLast_concat_getLast hne).symm⟩;simp [dJ]
  ·rw [pw r _ _ (fun _=>by simp)];simp
theorem iO (gs:List Gt):(np gs).flatten=gs:=by unfold np;rw [pw _ _ _ zI];rfl
theorem sR:∀ (gs:List Gt) (o:Bool) (acc:List (List Gt)),(it o acc gs).length<=acc.length+gs.length
 |[],o,acc=>by rw [it];simp
 |g :: r,o,acc=>by
  rw [it];split
  ·have:=sR r (ph g.k) (dJ acc g);simp only [dJ,List.length_set,List.length_cons] at this ⊢;omega
  ·have:=sR r (ph g.k) (acc++[[g]]);simp only [List.length_append,List.length_cons,List.length_nil] at this ⊢;omega
theorem y9 (gs:List Gt):(np gs).length<=gs.length:=by have:=sR gs false [];simpa [np] using this
def dn (n:Int):List (List Gt)->List Gt->Int->List Gt × Int
 |[],acc,k=>(acc,k)
 |s :: r,acc,k=>dn n r (acc++(dh s n).1) ((k+(dh s n).2) % 8)
def cf (gs:List Gt) (n:Int):List Gt × Int:=dn n (np gs) [] 0
theorem od (n:Int):∀ (l:List (List Gt)) (acc:List Gt) (k:Int),(dn n l acc k).1.length<=acc.length+2 * l.flatten.length
 |[],acc,k=>by rw [dn];simp
 |s :: r,acc,k=>by
  rw [dn];have h1:=od n r (acc++(dh s n).1) ((k+(dh s n).2) % 8);have h2:=pr s n;rw [List.length_append] at h1;rw [List.flatten_cons,List.length_append];omega
theorem kH (gs:List Gt) (n:Int):(cf gs n).1.length<=2 * gs.length:=by
 have:=od n (np gs) [] 0;rw [iO] at this;simpa [cf] using this
section
variable {α:Type} {cs:List α->List Value} {w w':World} {sz:Nat}
theorem OwnSS.grownLow {base eo ei g:Nat} {v:Value} {l:List (List α)} (h:OwnSS cs w base eo ei sz v l) (hg:w.grownBy w' (some g)) (hlt:g < base):OwnSS cs w' base eo ei sz v l:=by
 obtain ⟨vs,h1,h2,h3⟩:=h;have ne:∀ {e n s:Nat} {u:Value} {xs:List Value},w.ownsRow base e s u n xs->u.ownBlock=none\/u.ownBlock ≠ some g:=fun ho=>by
  cases hk:Value.ownBlock _ with
  |none=>exact .inl rfl
  |some k=>exact .inr fun e=>by injection e with e;have:=(ho.lt k hk).1;omega
 refine ⟨vs,h1.kept hg (ne h1),fun j x hx=>?_,h3⟩;obtain ⟨B,c,a1,a2⟩:=h2 j x hx;exact ⟨B,c,a1,a2.kept hg (ne a2)⟩
end
theorem Oe {a b c:World} {g:Nat} {row:Option Nat} (h:a.grownBy b (some g)) (k:b.grownBy c row) (hr:∀ i,row=some i->a.heap.size<=i\/i=g):a.grownBy c (some g):=by
 refine ⟨k.os.trans h.os,k.tape.trans h.tape,k.output.trans h.output,Nat.le_trans h.size k.size,fun i hi hne=>(k.block i (Nat.lt_of_lt_of_le hi h.size) ?_).trans (h.block i hi hne)⟩;intro e;rcases hr i e.symm with q | q
 ·omega
 ·exact hne (by rw [q])
theorem zb {a b c:World} {g:Nat} (h:a.grownBy b (some g)) (k:Below b.heap.size b c):a.grownBy c (some g) :=
 ⟨k.os.trans h.os,k.tape.trans h.tape,k.output.trans h.output,Nat.le_trans h.size k.size,fun i hi hne=>(k.block i (Nat.lt_of_lt_of_le hi h.size)).trans (h.block i hi hne)⟩
theorem J3 {p:Prop} (h:p:=by
  rintro e w' ⟨rfl,rfl⟩;rw [fd];go_wp2_with fail;go_roundg (gk - 1)
  case measure=>omega
  case rel =>
   have hlen:(acc++F).length=acc.length+F.length:=List.length_append;refine ⟨k+1,A7,c7,acc++F,(kk+fk) % 8,zO,by go_num,by rw [hlen],rfl,by rw [<- HF.out,HD.out,dn,HFP.out],zO,by rw [hlen,av];exact O7.out,Oe HG5.out G7.out HBK.out,?_,ag HB5.out HB5.size HO5.out zR G7.out⟩;intro b hb;rw [hlen] at hb;rcases Q7.out with h1 | h1
   ·exact HBK.out b (by rw [<- h1];exact hb)
   ·exact .inl (by have:=h1 b hb;omega)):p:=h
theorem J4 {p:Prop} (h:p:=by
  have hE:(acc,kk)=R:=by
   have e:=HF.out;rw [List.drop_eq_nil_of_le (by have:=HLm.out;omega)] at e;exact e
  have HE:=zH hE;clear hE;go_wp2_with fail;go_ret2;rw [<- HE.out];exact ⟨A3,c3,rfl,HO,HB⟩):p:=h
theorem BN (A:Option Addr) (n cap:Nat) (gs:List Gt) (N:Int) (w:World) (h:RdG w A n gs) (hn:n<=1073741824) :
  Calls Tryz.prog 20 #[.slice A n cap,N] w (DI (cf gs N) w):=by
 have hz4:(Value.agg #[(0:Int),(0:Int),(0:Int),(0:Int)]).cells.size=4:=rfl;have B0:=zH ((Below.refl w w).alloc zR (.cells #[] 39));have H:=zH (h.below B0);have hfl:=iO gs;have hgl:=h.1;clear h;obtain ⟨L,hL⟩:∃ L,np gs=L:=⟨_,rfl⟩;have hft:2 * L.flatten.length<=2147483648:=by rw [<- hL,hfl];omega
 have hcnt:L.length<=1073741824:=by rw [<- hL];have:=y9 gs;omega
 obtain ⟨R,hR⟩:∃ R,cf gs N=R:=⟨_,rfl⟩;rw [hR];have HR:Hid (dn N L [] 0=R):=zH (by rw [<- hR,<- hL];rfl);have HLL:=zH hL;clear hR hL hfl hgl;have OG:=zH (show (w.alloc (.cells #[] 39)).ownsRow w 39 4 (.slice (some ⟨w,0,none⟩) 0 0) 0 (af []) from kz zR (Bx.new w _ _));go_enter Tryz.func20,Tryz.ntmps20;go_wp2_with fail;refine (qw _ _ _ _ _ H hn).mono ?_;rintro e wS ⟨A1,c1,rfl,oS,bS⟩;rw [HLL.out] at oS ⊢;obtain ⟨m,hm⟩:∃ m,L.length=m:=⟨_,rfl⟩;rw [hm] at oS hcnt ⊢;have HLm:=zH hm;have SS:=zH (oS.base_ (base':=w.heap.size+1) zI);have O1:=zH (ab OG bS);have hwS:w.heap.size+1<=wS.heap.size:=by have:=bS.size;simpa using this
 have BW:=zH (aa B0 bS);clear oS bS OG hm;go_wp2_with fail;go_loopg [6,7,16] m (fun r s q i wr=>∃ (k:Nat) (A3:Option Addr) (c3:Nat) (acc:List Gt) (kk:Int),k+r=m/\i=.int .i64 k/\s=.slice A3 acc.length c3/\q=.int .i64 kk/\dn N (L.drop k) acc kk=R/\acc.length+2 * (L.drop k).flatten.length<=2147483648/\wr.ownsRow w 39 4 (.slice A3 acc.length c3) acc.length (af acc)/\wS.grownBy wr (some w.heap.size)/\(∀ b,(Value.slice A3 acc.length c3).ownBlock=some b->wS.heap.size<=b\/b=w.heap.size)/\Below w w wr)
 case atStart=>exact ⟨0,_,0,[],0,zO,rfl,rfl,rfl,HR.out,by simpa using hft,O1.out,World.grownBy.refl _ _,fun b hb=>by simp [Value.ownBlock] at hb;omega,BW.out⟩
 case round =>
  clear O1 BW HR hft;obtain ⟨k,A3,c3,acc,kk,hk,rfl,rfl,rfl,hf,hal,ho,hg,hbk,hb⟩:=hrel;have HF:=zH hf;have HO:=zH ho;have HG:=zH hg;have HBK:=zH hbk;have HB:=zH hb;have hbs:=hb.size;have hgs:=hg.size;clear hf ho hg hbk hb;by_cases hlt:k < m
  ·have RS:=zH ((SS.grownLow HG zO).rd HLm);obtain ⟨b,off,x,B,c,rfl,hbb,hd,c0,hxc,hx⟩:=RS.at_ hlt;have HX:=zH (show RdG wr B x.length x from ⟨rfl,hx⟩);have HD:=zH hd;have hxl:(L.drop k).flatten.length=x.length+(L.drop (k+1)).flatten.length:=by rw [hd,List.flatten_cons,List.length_append]
   have hfl:=pr x N;have hkI:(k:Int) < (m:Int):=zO;clear hd hx;obtain ⟨⟨F,fk⟩,hfp⟩:∃ r,dh x N=r:=⟨_,rfl⟩;rw [hfp] at hfl;have HFP:=zH hfp;have hfl2:F.length<=2 * x.length:=hfl;clear hfp hfl;go_wp2_with fail;refine (Od _ _ _ x N _ HX zO).mono ?_;rintro e w5 ⟨A5,c5,rfl,o5,b5⟩;rw [HFP.out] at o5 ⊢
   dsimp only at o5 ⊢
   have O5:=zH o5;have HO5:=zH (ab HO b5);have hs5:=b5.size;have HG5:=zH (zb HG b5);have HB5:=zH (aa HB b5);clear o5 b5
   go_wp2_with (at_builtin;refine pV rfl (.tmp 26) (.tmp 27) 24 rfl Tryz.underlying24 ak hz4 zD rfl HO5.out rfl (Rd.own O5.out) aQ zO zD zO ?_;intro A7 c7 w7 o7 g7 q7;have O7:=zH o7;have G7:=zH g7;have Q7:=zH q7;clear o7 g7 q7)
   refine (m6 _ _).mono ?_;exact J3
  ·exact J4
theorem BO (A:Option Addr) (n cap:Nat) (gs:List Gt) (N:Int) (w:World) (h:RdG w A n gs) (hn:n<=1073741824) :
  Calls Tryz.prog 28 #[.slice A n cap,N] w (DI (cf gs N) w):=by
 have hz4:(Value.agg #[(0:Int),(0:Int),(0:Int),(0:Int)]).cells.size=4:=rfl;have B0:=zH ((Below.refl w w).alloc zR (.cells #[] 39));have H:=zH (h.below B0);have hfl:=iO gs;have hgl:=h.1;clear h;obtain ⟨L,hL⟩:∃ L,np gs=L:=⟨_,rfl⟩;have hft:2 * L.flatten.length<=2147483648:=by rw [<- hL,hfl];omega
 have hcnt:L.length<=1073741824:=by rw [<- hL];have:=y9 gs;omega
 obtain ⟨R,hR⟩:∃ R,cf gs N=R:=⟨_,rfl⟩;rw [hR];have HR:Hid (dn N L [] 0=R):=zH (by rw [<- hR,<- hL];rfl);have HLL:=zH hL;clear hR hL hfl hgl;have OG:=zH (show (w.alloc (.cells #[] 39)).ownsRow w 39 4 (.slice (some ⟨w,0,none⟩) 0 0) 0 (af []) from kz zR (Bx.new w _ _));go_enter Tryz.func28,Tryz.ntmps28;go_wp2_with fail;refine (qx _ _ _ _ _ H hn).mono ?_;rintro e wS ⟨A1,c1,rfl,oS,bS⟩;rw [HLL.out] at oS ⊢;obtain ⟨m,hm⟩:∃ m,L.length=m:=⟨_,rfl⟩;rw [hm] at oS hcnt ⊢;have HLm:=zH hm;have SS:=zH (oS.base_ (base':=w.heap.size+1) zI);have O1:=zH (ab OG bS);have hwS:w.heap.size+1<=wS.heap.size:=by have:=bS.size;simpa using this
 have BW:=zH (aa B0 bS);clear oS bS OG hm;go_wp2_with fail;go_loopg [6,7,9] m (fun r s q i wr=>∃ (k:Nat) (A3:Option Addr) (c3:Nat) (acc:List Gt) (kk:Int),k+r=m/\i=.int .i64 k/\s=.slice A3 acc.length c3/\q=.int .i64 kk/\dn N (L.drop k) acc kk=R/\acc.length+2 * (L.drop k).flatten.length<=2147483648/\wr.ownsRow w 39 4 (.slice A3 acc.length c3) acc.length (af acc)/\wS.grownBy wr (some w.heap.size)/\(∀ b,(Value.slice A3 acc.length c3).ownBlock=some b->wS.heap.size<=b\/b=w.heap.size)/\Below w w wr)
 case atStart=>exact ⟨0,_,0,[],0,zO,rfl,rfl,rfl,HR.out,by simpa using hft,O1.out,World.grownBy.refl _ _,fun b hb=>by simp [Value.ownBlock] at hb;omega,BW.out⟩
 case round =>
  clear O1 BW HR hft;obtain ⟨k,A3,c3,acc,kk,hk,rfl,rfl,rfl,hf,hal,ho,hg,hbk,hb⟩:=hrel;have HF:=zH hf;have HO:=zH ho;have HG:=zH hg;have HBK:=zH hbk;have HB:=zH hb;have hbs:=hb.size;have hgs:=hg.size;clear hf ho hg hbk hb;by_cases hlt:k < m
  ·have RS:=zH ((SS.grownLow HG zO).rd HLm);obtain ⟨b,off,x,B,c,rfl,hbb,hd,c0,hxc,hx⟩:=RS.at_ hlt;have HX:=zH (show RdG wr B x.length x from ⟨rfl,hx⟩);have HD:=zH hd;have hxl:(L.drop k).flatten.length=x.length+(L.drop (k+1)).flatten.length:=by rw [hd,List.flatten_cons,List.length_append]
   have hfl:=pr x N;have hkI:(k:Int) < (m:Int):=zO;clear hd hx;obtain ⟨⟨F,fk⟩,hfp⟩:∃ r,dh x N=r:=⟨_,rfl⟩;rw [hfp] at hfl;have HFP:=zH hfp;have hfl2:F.length<=2 * x.length:=hfl;clear hfp hfl;go_wp2_with fail;refine (NQ _ _ _ x N _ HX zO).mono ?_;rintro e w5 ⟨A5,c5,rfl,o5,b5⟩;rw [HFP.out] at o5 ⊢
   dsimp only at o5 ⊢
   have O5:=zH o5;have HO5:=zH (ab HO b5);have hs5:=b5.size;have HG5:=zH (zb HG b5);have HB5:=zH (aa HB b5);clear o5 b5
   go_wp2_with (at_builtin;refine pV rfl (.tmp 30) (.tmp 31) 24 rfl Tryz.underlying24 ak hz4 zD rfl HO5.out rfl (Rd.own O5.out) aQ zO zD zO ?_;intro A7 c7 w7 o7 g7 q7;have O7:=zH o7;have G7:=zH g7;have Q7:=zH q7;clear o7 g7 q7)
   refine (fI _ _).mono ?_;exact J3
  ·exact J4
def pW (l:List Gt) (n:Int):Bool:=l.all fun g=>fJ g.k g.a g.b g.c n
def wv (l:List Gt) (n:Int):List (List Gt) :=
 if gA l && (pW l n && (ee n 1 4 && (decide (l.length<=60) && decide ((ir l n.toNat).length<=60)))) then [aG (ir l n.toNat)] else []
def gv (l:List Gt) (n:Int):List (List Gt):=[aG l,aG (cf l n).1,aG (aO l n)]++wv l n
def dy:List (List Gt)->List Gt->List Gt
 |[],b=>b
 |w :: r,b=>dy r (if aR w < aR b then w else b)
def iE (l:List Gt) (n:Int):List Gt:=dy (gv l n) l
theorem uH:∀ (ws:List (List Gt)) (b:List Gt),aR (dy ws b)<=aR b/\∀ w ∈ ws,aR (dy ws b)<=aR w
 |[],b=>⟨Int.le_refl _,zI⟩
 |w :: r,b=>by
  obtain ⟨i1,i2⟩:=uH r (if aR w < aR b then w else b);rw [dy];have hm:aR (if aR w < aR b then w else b)<=aR b/\aR (if aR w < aR b then w else b)<=aR w:=by
   split
   ·exact ⟨zO,Int.le_refl _⟩
   ·exact ⟨Int.le_refl _,zO⟩
  refine ⟨zO,fun v hv=>?_⟩;rcases List.mem_cons.1 hv with rfl | hv
  ·omega
  ·exact i2 v hv
def jk (n:Int):Nat->List Gt->List Gt
 |0,l=>l
 |m+1,l=>if aR l<=aR (iE l n) then l else jk n m (iE l n)
def qU (l:List Gt) (n:Int):List Gt:=if pW l n=true then jk n ((aR l).toNat+1) l else l
theorem FJ {n:Int} {l:List Gt} (h:aR l<=aR (iE l n)) (m:Nat):jk n m l=l:=by
 cases m with
 |zero=>rfl
 |succ m=>rw [jk,if_pos h]
def ww (N:Nat) (f:List Zw->Zw):Prop:=(∀ V W,V.length=N->W.length=N->f (bl V W)=bV (f V) (f W))/\∀ c V,V.length=N->f (cB c V)=ai (f V) c
theorem uI {N:Nat} {f:List Zw->Zw} (hf:ww N f):LinN N (fun V=>List.replicate N (f V)):=by
 refine ⟨fun V W h1 h2=>?_,fun c V h1=>?_,fun V _=>List.length_replicate⟩
 ·simp only [hf.1 V W h1 h2];unfold bl;rw [List.zipWith_replicate,Nat.min_self]
 ·simp only [hf.2 c V h1];unfold cB;rw [List.map_replicate]
theorem wF {N:Nat} (h0:0 < N) {f h:List Zw->Zw} (hf:ww N f) (hh:ww N h) (he:∀ i,i < N->f (eN N i)=h (eN N i)) {V:List Zw} (hV:V.length=N):f V=h V:=by
 have:=fX (uI hf) (uI hh) (fun i hi=>by simp only [he i hi]) hV;have h2:=congrArg (fun l=>l.getD 0 Zw.zero) this;simp only [rep_getD',h0] at h2;exact h2
where
 rep_getD' {N:Nat} {x:Zw} (h0:0 < N):(List.replicate N x).getD 0 Zw.zero=x:=by
  rw [List.getD_eq_getElem?_getD,List.getElem?_replicate,if_pos h0];rfl
theorem oe {N:Nat} {f:List Zw->Zw} {g:List Zw->List Zw} (hf:ww N f) (hg:LinN N g):ww N (fun V=>f (g V)) :=
 ⟨fun V W h1 h2=>by simp only;rw [hg.1 V W h1 h2,hf.1 _ _ (hg.2.2 V h1) (hg.2.2 W h2)],fun c V h1=>by simp only;rw [hg.2.1 c V h1,hf.2 c _ (hg.2.2 V h1)]⟩
theorem BP (N i:Nat):ww N (fun V=>V.getD i Zw.zero):=⟨fun V W h1 h2=>aS (h1.trans h2.symm) i,fun c V _=>bj i⟩
def cj (z:Zw):Zw:=⟨z.a, -z.d, -z.c, -z.b⟩
theorem DR (z:Zw):cj (cj z)=z:=by apply du<;>simp [cj]
theorem SJ (x y:Zw):cj (bV x y)=bV (cj x) (cj y):=by apply du<;>simp only [cj,bV]<;>omega
theorem zc (x y:Zw):cj (ai x y)=ai (cj x) (cj y):=by apply du<;>simp only [cj,ai]<;>grind
theorem cN (x y:Zw):ai x y=ai y x:=by apply du<;>simp only [ai]<;>grind
theorem jz (x y z:Zw):ai (ai x y) z=ai x (ai y z):=by apply du<;>simp only [ai]<;>grind
def ip:List Zw->List Zw->Zw
 |z :: r,w :: s=>bV (ai z (cj w)) (ip r s)
 |_,_=>Zw.zero
theorem J5:∀ (V W U:List Zw),V.length=W.length->ip (bl V W) U=bV (ip V U) (ip W U)
 |[],[],U,_=>rfl
 |[],_ :: _,_,h=>by cases h
 |_ :: _,[],_,h=>by cases h
 |z :: r,w :: s,[],_=>rfl
 |z :: r,w :: s,u :: t,h=>by
  show bV (ai (bV z w) (cj u)) (ip (bl r s) t)=_;rw [J5 r s t (by simpa using h),iG,rJ];rfl
theorem sS (c:Zw):∀ (V U:List Zw),ip (cB c V) U=ai (ip V U) c
 |[],U=>(a8 c).symm
 |z :: r,[]=>(a8 c).symm
 |z :: r,u :: t=>by
  show bV (ai (ai z c) (cj u)) (ip (cB c r) t)=ai (bV (ai z (cj u)) (ip r t)) c;rw [sS c r t,iG,pQ]
theorem BQ (N:Nat) (U:List Zw):ww N (fun V=>ip V U):=⟨fun V W h1 h2=>J5 V W U (h1.trans h2.symm),fun c V _=>sS c V U⟩
theorem zd:∀ (V U:List Zw),V.length=U.length->cj (ip V U)=ip U V
 |[],[],_=>by apply du<;>simp [ip,cj,Zw.zero]
 |[],_ :: _,h=>by cases h
 |_ :: _,[],h=>by cases h
 |z :: r,u :: t,h=>by
  show cj (bV (ai z (cj u)) (ip r t))=bV (ai u (cj z)) (ip t r);rw [SJ,zc,DR,cN,zd r t (by simpa using h)]
theorem DS:∀ (N:Nat) (U:List Zw),ip (List.replicate N Zw.zero) U=Zw.zero
 |0,_=>rfl
 |N+1,[]=>rfl
 |N+1,u :: t=>by
  rw [List.replicate_succ,ip,DS N t,a8,add_zero]
theorem uJ {N:Nat} {U:List Zw} (hU:U.length=N):∀ i,ip (eN N i) U=cj (U.getD i Zw.zero):=by
 subst hU
 induction U with
 |nil=>intro i;apply du<;>simp [eN,ip,cj,Zw.zero]
 |cons u t ih =>
  intro i;cases i with
  |zero =>
   show ip (⟨1,0,0,0⟩ :: List.replicate t.length Zw.zero) (u :: t)=_;rw [ip,DS,cZ,add_zero];rfl
  |succ i =>
   show ip (Zw.zero :: (List.replicate t.length Zw.zero).set i ⟨1,0,0,0⟩) (u :: t)=_;have:=ih i;unfold eN at this;rw [ip,this,a8,gJ];rfl
def co:List (Nat × Dw)->Nat->Zw
 |[],_=>Zw.zero
 |t :: r,j=>bV (if t.1=j then t.2.n else Zw.zero) (co r j)
theorem sT (x y z:Zw):bV (bV x y) z=bV x (bV y z):=by apply du<;>simp only [bV]<;>omega
theorem DT {N e:Nat} (j:Nat):∀ (l:List (Nat × Dw)) (O:List Zw),tS N e l->O.length=N->(dD ⟨1,0,0,0⟩ l O).getD j Zw.zero=bV (O.getD j Zw.zero) (co l j)
 |[],O,_,_=>(add_zero _).symm
 |t :: r,O,hg,hO=>by
  have h3:=(hg t zI).2.2;rw [dD,DT j r _ (fun x hx=>hg x (by simp [hx])) (by unfold iz;rw [List.length_set];exact hO),co,<- sT];congr 1;unfold iz;rw [iW zO,cZ];by_cases h:j=t.1
  ·rw [if_pos h,if_pos h.symm,h]
  ·rw [if_neg h,if_neg (fun e=>h e.symm),add_zero]
theorem BS {n:Nat} {g:Gt} {i:Nat} (hg:bF n g=true) (hi:i < 2 ^ n) (j:Nat):(dL g (eN (2 ^ n) i)).getD j Zw.zero=co (bU g i) j:=by
 rw [AN hi,DT j _ _ ((rN hg).2 i hi) List.length_replicate,eQ,gJ]
def J6 (n:Nat) (g:Gt):Bool:=(List.range (2 ^ n)).all fun i=>(List.range (2 ^ n)).all fun j=>decide (cj (co (bU (iD g) j) i)=co (bU g i) j)
def Of (n:Nat):Bool:=(bC n).all (J6 n)
theorem Vd:Of 1=true:=by decide +kernel
theorem Ve:Of 2=true:=by decide +kernel
theorem Vf:Of 3=true:=by decide +kernel
theorem SK:((bC 4).take 48).all (J6 4)=true:=by decide +kernel
theorem SL:((bC 4).drop 48).all (J6 4)=true:=by decide +kernel
theorem J7 {n:Nat} (h:1<=n/\n<=4):Of n=true:=by
 obtain rfl | rfl | rfl | rfl:n=1\/n=2\/n=3\/n=4:=zO
 ·exact Vd
 ·exact Ve
 ·exact Vf
 ·exact de SK SL
theorem BT {n:Nat} {g:Gt} (hg:bF n g=true):bF n (iD g)=true:=by
 have h:=List.all_eq_true.1 (sC (dm hg)) g (cS hg);unfold mT at h;simp only [Bool.and_eq_true] at h;exact h.1
theorem J8 {n:Nat} {g:Gt} (hg:bF n g=true) {V W:List Zw} (hV:V.length=2 ^ n) (hW:W.length=2 ^ n):ip (dL g V) W=ip V (dL (iD g) W):=by
 have h0:0 < 2 ^ n:=Nat.pow_pos zO;have hi:=BT hg;have l:=(aL hg).2.2;have l':=(aL hi).2.2;refine wF (f:=fun V=>ip (dL g V) W) (h:=fun V=>ip V (dL (iD g) W)) h0 (oe (BQ _ W) (aL hg)) (BQ _ _) (fun i hi'=>?_) hV;rw [uJ (l' W hW),<- zd W _ (by rw [l _ (be _ _),hW])];congr 1;refine wF (f:=fun W=>ip W (dL g (eN (2 ^ n) i))) (h:=fun W=>(dL (iD g) W).getD i Zw.zero) h0 (BQ _ _) (oe (BP _ i) (aL hi)) (fun j hj=>?_) hW;rw [uJ (l _ (be _ _)),BS hg hi',BS hi hj];have h:=List.all_eq_true.1 (J7 (dm hg)) g (cS hg);have h2:=of_decide_eq_true (List.all_eq_true.1 (List.all_eq_true.1 h i (List.mem_range.2 hi')) j (List.mem_range.2 hj));rw [<- h2,DR]
theorem jA (x:Zw):∀ j:Nat,dl j x=ai x (dl j ⟨1,0,0,0⟩)
 |0=>by
  show x=ai x ⟨1,0,0,0⟩
  apply du<;>simp [ai]
 |j+1=>by
  show rt (dl j x)=ai x (rt (dl j ⟨1,0,0,0⟩));rw [jA x j]
  apply du<;>simp only [ai,rt,Int.mul_sub,Int.mul_add]<;>omega
theorem Vg (z:Zw):cj (rt z)=rt (cj z):=by apply du<;>simp only [cj,rt]<;>omega
theorem J9:∀ (k:Nat) (z:Zw),cj (dl k z)=dl k (cj z)
 |0,z=>rfl
 |k+1,z=>by rw [dl,Vg,J9 k z];rfl
def up (k:Nat) (V:List Zw):List Zw:=V.map (dl k)
theorem gf (k:Nat) (V:List Zw):(up k V).length=V.length:=List.length_map ..
theorem BU (V:List Zw):up 0 V=V:=List.map_id' V
theorem gh (j k:Nat) (V:List Zw):up j (up k V)=up (j+k) V:=by
 unfold up;rw [List.map_map];congr 1
 funext z
 exact (iy j k z).symm
theorem wG:∀ (k:Nat) {x y:Zw},dl k x=dl k y->x=y
 |0,_,_,h=>h
 |k+1,_,_,h=>wG k (Ij h)
theorem BV (k:Nat) {V W:List Zw} (h:up k V=up k W):V=W:=by
 refine List.ext_getElem (by rw [<- gf k V,h,gf]) fun s s1 s2=>?_
 have:=congrArg (fun l=>l[s]?) h;simp only [up,List.getElem?_map,List.getElem?_eq_getElem s1,List.getElem?_eq_getElem s2,Option.map_some,Option.some.injEq] at this;exact wG k this
theorem i9 (k:Nat) (c:Zw) (V:List Zw):up k (cB c V)=cB c (up k V):=by
 unfold up cB;rw [List.map_map,List.map_map];congr 1
 funext z
 exact (mq c k z).symm
theorem sU (k:Nat) (V:List Zw):up k V=cB (dl k ⟨1,0,0,0⟩) V:=by
 unfold up cB;congr 1
 funext x
 exact jA x k
theorem lQ {N:Nat} {f:List Zw->List Zw} (hf:LinN N f) (k:Nat) {V:List Zw} (hV:V.length=N):f (up k V)=up k (f V):=by rw [sU,sU,hf.2.1 _ _ hV]
theorem Qg (k:Nat) {V W:List Zw} (h:V.length=W.length):ip V (up k W)=dl k (ip V W):=by
 rw [<- zd _ _ (by rw [gf,h]),sU,sS,zc,zd _ _ h.symm,J9];exact (jA _ k).symm
theorem SM (k:Nat) {V:List Zw}:ip (up k V) (up k V)=dl (k+k) (ip V V):=by
 rw [Qg k (gf k V),sU,sS,<- jA,<- iy]
theorem wH {n:Nat}:∀ (gs:List Gt) (V:List Zw),(∀ g ∈ gs,bF n g=true)->V.length=2 ^ n->ip (aX gs V) (aX gs V)=dl (cP gs+cP gs) (ip V V)
 |[],V,_,_=>rfl
 |g :: r,V,h,hV=>by
  have hg:=h g zI;have l:=(aL hg).2.2 V hV;have e1:cP (g :: r)+cP (g :: r)=(cP r+cP r)+2 * hc g:=by show hc g+cP r+(hc g+cP r)=_;omega
  show ip (aX r (dL g V)) (aX r (dL g V))=_;have e2:=Qg (2 * hc g) (V:=V) (W:=V) rfl;unfold up at e2;rw [wH r _ (fun x hx=>h x (by simp [hx])) l,J8 hg hV l,qR hg hV,e1,e2,iy (cP r+cP r)]
theorem qV:∀ (k:Nat) (z:Zw),dl (k+k) z=⟨2 ^ k * z.a,2 ^ k * z.b,2 ^ k * z.c,2 ^ k * z.d⟩
 |0,z=>by apply du<;>simp [dl]
 |k+1,z=>by
  have e:∀ x,dl 2 x=rt (rt x):=fun _=>rfl
  rw [show k+1+(k+1)=2+(k+k) by omega,iy,qV k z,e,Dc]
  apply du<;>simp only [Int.pow_succ]<;>grind
def n1 (z:Zw):Int:=z.a * z.a+z.b * z.b+z.c * z.c+z.d * z.d
def n2 (z:Zw):Int:=z.a * z.b+z.b * z.c+z.c * z.d - z.d * z.a
theorem sV (z:Zw):ai z (cj z)=⟨n1 z,n2 z,0, -n2 z⟩:=by apply du<;>simp only [ai,cj,n1,n2]<;>grind
theorem kT (x:Int):0<=x * x:=by
 rcases Int.le_total 0 x with h | h
 ·exact Int.mul_nonneg h h
 ·exact Int.mul_nonneg_of_nonpos_of_nonpos h h
theorem Vh (z:Zw):0<=n1 z:=by
 have:=kT z.a;have:=kT z.b;have:=kT z.c;have:=kT z.d;unfold n1;omega
theorem DU:∀ (V:List Zw),0<=(ip V V).a/\∀ z ∈ V,n1 z<=(ip V V).a
 |[]=>⟨Int.le_refl _,zI⟩
 |z :: r=>by
  obtain ⟨h1,h2⟩:=DU r;have e:(ip (z :: r) (z :: r)).a=n1 z+(ip r r).a:=by rw [ip,sV];rfl
  have:=Vh z;rw [e];refine ⟨zO,fun y hy=>?_⟩;rcases List.mem_cons.1 hy with rfl | hy
  ·omega
  ·have:=h2 y hy;omega
theorem ze {x M:Int} (hM:0<=M) (h:x * x<=M * M) : -M<=x/\x<=M:=by
 constructor
 ·rcases Int.lt_or_le x (-M) with h1 | h1
  ·have:=Int.mul_le_mul (a:=M+1) (b:=M+1) (c:=-x) (d:=-x) zO zO zO zO;rw [Int.neg_mul_neg] at this;have e:(M+1) * (M+1)=M * M+2 * M+1:=by grind
   omega
  ·exact h1
 ·rcases Int.lt_or_le M x with h1 | h1
  ·have:=Int.mul_le_mul (a:=M+1) (b:=M+1) (c:=x) (d:=x) zO zO zO zO;have e:(M+1) * (M+1)=M * M+2 * M+1:=by grind
   omega
  ·exact h1
theorem Vi {z:Zw} {M:Int} (hM:0<=M) (h:n1 z<=M * M):gX M z:=by
 have:=kT z.a;have:=kT z.b;have:=kT z.c;have:=kT z.d;unfold n1 at h;exact ⟨ze hM zO,ze hM zO,ze hM zO,ze hM zO⟩
theorem sW {N i:Nat} (hi:i < N):ip (eN N i) (eN N i)=⟨1,0,0,0⟩:=by
 rw [uJ (be N i),ko hi,if_pos rfl];rfl
def Lv (n B:Nat) (p:List Gt):Prop:=∀ i,i < 2 ^ n->∃ W k E,aX p (eN (2 ^ n) i)=up k W/\cP p=k+E/\E<=B/\W.length=2 ^ n
theorem Qh {n:Nat} {p:List Gt} {W:List Zw} {k E i:Nat} (hp:∀ g ∈ p,bF n g=true) (hi:i < 2 ^ n) (h1:aX p (eN (2 ^ n) i)=up k W) (h2:cP p=k+E) (h3:E<=52):∀ z ∈ W,gX 67108864 z:=by
 have e:=wH p _ hp (be _ i);rw [h1,SM,sW hi,h2,show k+E+(k+E)=(k+k)+(E+E) by omega,iy (k+k)] at e;have e2:=wG _ e;rw [qV] at e2;intro z hz;have:=(DU W).2 z hz;rw [e2] at this;have hp:(2:Int) ^ E<=2 ^ 52:=by
  have h:(2 ^ E:Nat)<=2 ^ 52:=Nat.pow_le_pow_right zO h3;have:=Int.ofNat_le.2 h;simpa using this
 refine Vi zO ?_;simp only at this;omega
theorem pY (k E:Nat) (W:List Zw):NV (up k W) (k+E)=NV W E:=by
 unfold NV up;rw [List.map_map];congr 1
 funext z
 exact AI k z E
theorem zf {n i:Nat} (hi:i < 2 ^ n):∀ (gs p:List Gt),(∀ g ∈ p++gs,bF n g=true)->(∀ q r,q++r=p++gs->Lv n 52 q)->nF gs (NV (aX p (eN (2 ^ n) i)) (cP p))=some (NV (aX (p++gs) (eN (2 ^ n) i)) (cP (p++gs)))
 |[],p,_,_=>by rw [List.append_nil];rfl
 |g :: r,p,hg,hl=>by
  obtain ⟨W,k,E,h1,h2,h3,h4⟩:=hl p (g :: r) rfl i hi;have hgg:=hg g zI;have hb:=Qh (fun x hx=>hg x (by simp [hx])) hi h1 h2 h3;have hc1:hc g<=1:=by unfold hc;split<;>omega
  obtain ⟨p1,_,_⟩:=Ir (E:=E) (B:=67108864) hgg zO zO zO h4 hb;have e1:NV (aX p (eN (2 ^ n) i)) (cP p)=NV W E:=by rw [h1,h2,pY]
  have e2:NV (dL g W) (E+hc g)=NV (aX (p++[g]) (eN (2 ^ n) i)) (cP (p++[g])):=by
   rw [cK,dE,h1];show _=NV (dL g (up k W)) (cP p+(hc g+0));rw [lQ (aL hgg) k h4,h2,show k+E+(hc g+0)=k+(E+hc g) by omega,pY]
  rw [nF,e1,p1];simp only;rw [e2,zf hi r (p++[g]) (by simpa using hg) (by simpa using hl)];simp
theorem oh {n:Nat} {gs:List Gt} (hn:1<=n/\n<=4) (hg:∀ g ∈ gs,bF n g=true) (hl:∀ q r,q++r=gs->Lv n 52 q) {i:Nat} (hi:i < 2 ^ n) :
  t7 gs (iS n i)=some (NV (aX gs (eN (2 ^ n) i)) (cP gs))/\∃ W k E,aX gs (eN (2 ^ n) i)=up k W/\cP gs=k+E/\E<=52/\W.length=2 ^ n/\(∀ z ∈ W,gX 1073741824 z)/\NV (aX gs (eN (2 ^ n) i)) (cP gs)=NV W E:=by
 obtain ⟨W,k,E,h1,h2,h3,h4⟩:=hl gs [] zI i hi;refine ⟨?_,W,k,E,h1,h2,h3,h4,fun z hz=>kl (Qh hg hi h1 h2 h3 z hz) zO,by rw [h1,h2,pY]⟩;have ok0:PF (NV (eN (2 ^ n) i) 0)=true:=by
  unfold PF;rw [nh,be,nM hn.1 hn.2];simp only [Bool.and_eq_true,List.all_eq_true,decide_eq_true_eq];refine ⟨fun x hx=>?_,zO⟩;obtain ⟨z,hz,rfl⟩:=List.mem_map.1 hx;exact rF (UA _ i z hz) zO zO
 unfold t7;rw [Fg,ok0,if_pos rfl];exact zf hi gs [] hg hl
def Vj (n k:Nat) (a b:List Gt):Prop:=∀ V,V.length=2 ^ n->up (cP b) (aX a V)=cB (fw k) (up (cP a) (aX b V))
theorem Ka {n:Nat} {a b:List Gt} {k0:Nat} (hn:1<=n/\n<=4) (ha:∀ g ∈ a,bF n g=true) (hb:∀ g ∈ b,bF n g=true) (la:∀ q r,q++r=a->Lv n 52 q) (lb:∀ q r,q++r=b->Lv n 52 q) (hk:k0 < 8) (h:Vj n k0 a b) :
  nk a b n k0 (fun i=>NV (aX a (eN (2 ^ n) i)) (cP a)) (fun i=>NV (aX b (eN (2 ^ n) i)) (cP b)):=by
 have hsc:∀ i,i < 2 ^ n->∀ j,sc j (NV (aX b (eN (2 ^ n) i)) (cP b))=NV (cB (fw j) (aX b (eN (2 ^ n) i))) (cP b):=by
  intro i hi j;obtain ⟨_,W,k,E,h1,h2,h3,h4,h5,h6⟩:=oh hn hb lb hi;rw [h6,U8 zO h5,h1,<- i9,h2,pY]
 refine ⟨fun i hi=>?_,hk,fun j _ i hi v hv=>?_,fun i hi=>?_,fun j hj=>?_⟩
 ·obtain ⟨p1,W,k,E,h1,h2,h3,h4,h5,h6⟩:=oh hn ha la hi;obtain ⟨q1,W',k',E',h1',h2',h3',h4',h5',h6'⟩:=oh hn hb lb hi;simp only;refine ⟨p1,q1,by rw [h6,nh,h4],by rw [h6',nh,h4'],fun v hv=>?_,fun v hv=>?_⟩
  ·rw [h6] at hv;obtain ⟨z,hz,rfl⟩:=List.mem_map.1 hv;exact rF (h5 z hz) zO zO
  ·rw [h6'] at hv;obtain ⟨z,hz,rfl⟩:=List.mem_map.1 hv;exact rF (h5' z hz) zO zO
 ·obtain ⟨_,W,k,E,h1,h2,h3,h4,h5,h6⟩:=oh hn hb lb hi;simp only at hv;rw [h6] at hv;obtain ⟨z,hz,rfl⟩:=List.mem_map.1 hv;rw [JL zO (h5 z hz)];rfl
 ·show NV _ _=sc k0 (NV _ _);rw [hsc i hi,<- pY (cP b) (cP a),h _ (be _ _),<- i9,Nat.add_comm,pY]
 ·have h0:0 < 2 ^ n:=Nat.pow_pos zO;refine ⟨0,h0,fun e=>?_⟩;have e':NV (aX a (eN (2 ^ n) 0)) (cP a)=sc j (NV (aX b (eN (2 ^ n) 0)) (cP b)):=e;rw [hsc 0 h0,<- pY (cP b) (cP a),h _ (be _ _),<- i9,Nat.add_comm,pY] at e';have e2:=Sy e';have hz:Uf (aX b (eN (2 ^ n) 0)):=by
   intro z hz;unfold cB at e2;exact JK zO hk zO (List.map_inj_left.1 e2 z hz).symm
  have:=yT b _ hb (be _ _) hz ⟨1,0,0,0⟩ (by
   unfold eN;refine List.mem_iff_getElem.2 ⟨0,by rw [List.length_set,List.length_replicate];exact h0,?_⟩;rw [List.getElem_set_self])
  exact absurd this zD
def tM (kd:Int):List Gt->Int
 |[]=>0
 |g :: r=>(if g.k == kd then 1 else 0)+tM kd r
theorem wI (kd:Int) (l:List Gt):0<=tM kd l/\tM kd l<=l.length:=by
 induction l with
 |nil=>simp [tM]
 |cons g r ih=>simp only [tM,List.length_cons];split<;>omega
theorem Og (kd:Int) {l:List Gt} {k:Nat} (h:l.length<=k):tM kd (l.drop k)=0:=by rw [List.drop_eq_nil_of_le h];rfl
theorem oj (N:Int) (A:Option Addr) (n cap:Nat) (kd:Int) (gs:List Gt) (w:World) (h:RdG w A n gs) (hn:n<=1099511627776) :
  Calls Tryz.prog 97 #[.agg #[N,.slice A n cap],kd] w fun e w'=>e=.returned (.int .i64 (tM kd gs))/\Below w w w':=by
 have H:=zH h;clear h;go_enter Tryz.func97,Tryz.ntmps97;go_wp2;go_loopg [5,6] n (fun m s i wr=>∃ (k:Nat) (x:Int),k+m=n/\i=.int .i64 k/\s=.int .i64 x/\0<=x/\x<=k/\x+tM kd (gs.drop k)=tM kd gs/\wr=w.alloc (.cells #[N,.slice A n cap] 45))
 case atStart=>exact ⟨0,0,zO,rfl,rfl,zO,zO,zI,rfl⟩
 case round =>
  obtain ⟨k,x,hk,rfl,rfl,h0,h1,hx,rfl⟩:=hrel;have HX:=zH hx;clear hx;by_cases hlt:k < n
  ·obtain ⟨b,off,g,rfl,hB,hd,c0,c1,c2,c3⟩:=H.at_ hlt;have HD:=zH hd;clear hd;have hne:b ≠ w.heap.size:=zO;go_wp2
   all_goals
    go_roundg (gk - 1)
    case measure=>omega
    case rel =>
     have:=HX.out;rw [HD.out,tM] at this
     first
     |exact ⟨k+1,x+1,zO,by go_num,rfl,zO,zO,by rw [if_pos ‹_›] at this;omega,rfl⟩
     |exact ⟨k+1,x,zO,by go_num,rfl,zO,zO,by rw [if_neg (by simpa using ‹(g.k == kd)=false›)] at this;omega,rfl⟩
  ·go_wp2;go_ret;have:=HX.out;rw [Og kd (by have:=H.out.1;omega)] at this;exact ⟨cR zO,(zW).alloc zR _⟩
def dK (gs:List Gt):Int:=tM 7 gs+tM 8 gs
theorem DV (gs:List Gt):0<=dK gs/\dK gs<=gs.length+gs.length:=by
 have h1:=wI 7 gs;have h2:=wI 8 gs;unfold dK;omega
theorem Kb (N:Int) (A:Option Addr) (n cap:Nat) (gs:List Gt) (w:World) (h:RdG w A n gs) (hn:n<=1099511627776) :
  Calls Tryz.prog 55 #[.agg #[N,.slice A n cap]] w fun e w'=>e=.returned (.int .i64 (dK gs))/\Below w w w':=by
 have HTA:RdG (w.alloc (.cells #[N,.slice A n cap] 45)).drew A n gs:=(h.alloc _).drew;have hl:=h.1;have h7:=wI 7 gs;have h8:=wI 8 gs;rw [hl] at h7 h8;have HTC:Hid (dK gs=tM 7 gs+tM 8 gs):=rfl;clear h hl;go_enter Tryz.func55,Tryz.ntmps55;go_wp2_with fail
 go_region_held3 (fun w'=>w'.cell? ⟨w,0,none⟩=some (.int .i64 N)/\w'.cell? ⟨w,1,none⟩=some (.slice A n cap))
  (first | go_keep)
  (first
   |(go_at_call 97;(with_reducible refine (oj _ _ _ _ _ gs _ HTA hn).mono ?_);rintro e w1 ⟨rfl,b1⟩;have HTB:=HTA.below b1;have k0:=b1.cell (p:=⟨w,0,none⟩) zI;have k1:=b1.cell (p:=⟨w,1,none⟩) zI)
   |(go_at_call 97;(with_reducible refine (oj _ _ _ _ _ gs _ HTB hn).mono ?_);rintro e w2 ⟨rfl,b2⟩;have m0:=b2.cell (p:=⟨w,0,none⟩) (by have:=b1.size;simp at this ⊢;omega);have m1:=b2.cell (p:=⟨w,1,none⟩) (by have:=b1.size;simp at this ⊢;omega)))
 all_goals go_wp2_with fail
 all_goals go_ret
 all_goals exact ⟨cR (by rw [HTC.out,IntKind.wrap_i64];omega),aa (aD (aC b1)) b2⟩
theorem zg (A:Option Addr) (n cap:Nat) (gs:List Gt) (w:World) (h:RdG w A n gs) (hn:n<=1099511627776) :
  Calls Tryz.prog 27 #[.slice A n cap] w fun e w'=>e=.returned (.int .i64 (dK gs))/\Below w w w':=by
 have H:=zH h;clear h;go_enter Tryz.func27,Tryz.ntmps27;go_wp2_with fail;refine (Kb _ _ _ _ _ _ H hn).mono ?_;rintro e w1 ⟨rfl,b1⟩;go_wp2_with fail;go_ret;exact ⟨rfl,b1⟩
theorem kg (a b:List Gt):dK (a++b)=dK a+dK b:=by
 have h:∀ (k:Int) (a b:List Gt),tM k (a++b)=tM k a+tM k b:=by
  intro k a b
  induction a with
  |nil=>simp [tM]
  |cons g r ih=>rw [List.cons_append,tM,tM,ih];omega
 unfold dK;rw [h,h];omega
theorem sX (g:Gt):dK [g]=if g.k=7\/g.k=8 then 1 else 0:=by
 unfold dK;simp only [tM];by_cases h7:g.k=7
 ·simp [h7]
 ·by_cases h8:g.k=8
  ·simp [h8]
  ·simp [h7,h8]
theorem Kc (c q:Int) (h0:0<=c) (h7:c<=7):dK (cG c q)=c % 2:=by
 obtain h | h | h | h | h | h | h | h:c=0\/c=1\/c=2\/c=3\/c=4\/c=5\/c=6\/c=7:=zO
 all_goals subst h;rfl
theorem Kd {g:Gt} (hu:(al g.k == 0)=true):dK [g]=0:=by
 rw [sX,if_neg];simp at hu;rcases dA g.k with h | h | h | h | h | h<;>omega
theorem Ca {p:Prop} (h:p:=by
  exact ⟨qe,mete,k1,k2,k3,k4,k5,k6,k7,k8,zO⟩):p:=h
theorem lS (T:List (Int × Int)) (hT:fv T) (q0:Po):∀ (r:List Gt) (p:Po) (met:List Int) (acc:List Gt) (q pe:Po),cp p r=(pe,true)->cp q0 acc=(q,true)->Mb p->Mb q->q.N=p.N->q.o=p.o →
  (∀ m,au q.t m=if met.any (· == m)=true then au T m else 0)->(∀ m,au p.t m ≠ 0->met.any (· == m)=true)->dK acc=fo q.t →
  ∃ (qe:Po) (mete:List Int),cp q0 (dI T p met acc r)=(qe,true)/\Mb pe/\Mb qe/\qe.N=pe.N/\qe.o=pe.o/\(∀ m,au qe.t m=if mete.any (· == m)=true then au T m else 0)/\(∀ m,au pe.t m ≠ 0->mete.any (· == m)=true)/\dK (dI T p met acc r)=fo qe.t/\fo pe.t<=fo p.t+dK r
 |[],p,met,acc,q,pe,hp,hq,ip,iq,hN,ho,hm,hpm,ht=>by
  injection hp with hp _;subst hp
  refine ⟨q,met,hq,ip,iq,hN,ho,hm,hpm,ht,?_⟩;show fo p.t<=fo p.t+dK [];have:dK []=0:=rfl;omega
 |g :: r,p,met,acc,q,pe,hp,hq,ip,iq,hN,ho,hm,hpm,ht=>by
  obtain ⟨h1,_⟩:=i7 (p:=p) (g:=g) (r:=r) (by rw [hp]);obtain ⟨p1,hp1⟩:∃ p1,aJ p g=(p1,true):=⟨_,Prod.ext rfl h1⟩;have hp2:cp p1 r=(pe,true):=by rw [ew (by rw [hp1]),hp1] at hp;exact hp
  obtain ⟨ip1,n1,l1,o1⟩:=Bw ip hp1;have hlen:(p.o.length:Int)=p.N:=(cL (gN h1)).2;have htc:dK (g :: r)=dK [g]+dK r:=by rw [<- List.singleton_append,kg]
  rw [<- sX g] at o1;cases hu:(al g.k == 0)
  ·obtain ⟨e1,e2,e3,e4,e5,e6,e7⟩:=Bz hu hp1 ip.1;obtain ⟨⟨x,y⟩,hxy⟩:∃ z,dg p.o g.a=z:=⟨_,rfl⟩;rw [hxy] at e3;have hy:y=0\/y=1:=by have:=ie ip.2.1 g.a;rw [hxy] at this;exact this
   have hcb:=n9 x hT;cases hmt:met.any (· == x)
   ·rw [pu hu hxy hmt hp1];have hc0:0<=cF (au T x) y/\cF (au T x) y<=7:=by unfold cF;split<;>omega
    obtain ⟨H',b1,b2,b3⟩:=NR (q:=q) (c:=cF (au T x) y) (a:=g.a) (x:=x) (y:=y) hc0.1 hc0.2 zO zO e4 zO (by rw [ho,hN];exact hlen) (by rw [ho];exact hxy) iq.1 iq.2.2;obtain ⟨a1,a2,a3⟩:=gd iq.1 x (sg y (cF (au T x) y));have hqx:au q.t x=0:=by rw [hm,hmt];rfl
    have hval:(0+sg y (cF (au T x) y)) % 8=au T x:=by
     unfold sg cF;rcases hy with rfl | rfl
     ·simp;omega
     ·simp;omega
    have hodd:fo (cD q.t x (sg y (cF (au T x) y)))=fo q.t+cF (au T x) y % 2:=by
     have:=sI x (sg y (cF (au T x) y)) q.t iq.1;rw [<- sG x _ q.t iq.1,hqx,hval] at this;have h3:cF (au T x) y % 2=au T x % 2:=by unfold cF;split<;>omega
     omega
    have hacc:cp q0 (acc++cG (cF (au T x) y) g.a)=(⟨q.N,H',cD q.t x (sg y (cF (au T x) y)),q.o⟩,true):=by
     rw [pv _ _ _ (by rw [hq]),hq];exact b3
    have ⟨qe,mete,k1,k2,k3,k4,k5,k6,k7,k8,k9⟩:=lS T hT q0 r p1 (met++[x]) (acc++cG (cF (au T x) y) g.a) ⟨q.N,H',cD q.t x (sg y (cF (au T x) y)),q.o⟩ pe hp2 hacc ip1 ⟨a2,iq.2.1,b1,b2⟩ (by rw [n1];exact hN) (by rw [e1];exact ho)
     (by
      intro m;show au (cD _ _ _) m=_;rw [a3,List.any_append];by_cases hmx:m=x
      ·subst hmx;rw [if_pos rfl,hqx,hval];simp
      ·rw [if_neg hmx,hm];have:[x].any (· == m)=false:=zJ;rw [this,Bool.or_false])
     (by
      intro m h;rw [List.any_append];by_cases hmx:m=x
      ·subst hmx;simp
      ·rw [e3 m hmx] at h;rw [hpm m h];rfl)
     (by rw [kg,ht,Kc _ _ hc0.1 hc0.2];exact hodd.symm)
    exact Ca
   ·rw [pt hu hxy hmt hp1];have ⟨qe,mete,k1,k2,k3,k4,k5,k6,k7,k8,k9⟩:=lS T hT q0 r p1 met acc q pe hp2 hq ip1 iq (by rw [n1];exact hN) (by rw [e1];exact ho) hm
     (by
      intro m h;by_cases hmx:m=x
      ·subst hmx;exact hmt
      ·rw [e3 m hmx] at h;exact hpm m h) ht
    exact Ca
  ·rw [vZ hu hp1];obtain ⟨e1,e2,e3⟩:=NU hu hp1 hN ho;have hacc:cp q0 (acc++[g])=(⟨q.N,q.H,q.t,p1.o⟩,true):=by
    rw [pv _ _ _ (by rw [hq]),hq];show cp q [g]=_;rw [ew (by rw [e3]),e3];rfl
   have ⟨qe,mete,k1,k2,k3,k4,k5,k6,k7,k8,k9⟩:=lS T hT q0 r p1 met (acc++[g]) ⟨q.N,q.H,q.t,p1.o⟩ pe hp2 hacc ip1 ⟨iq.1,ip1.2.1,iq.2.2⟩ (by rw [n1];exact hN) rfl hm (by intro m h;rw [e1] at h;exact hpm m h)
    (by rw [kg,Kd hu,ht];show fo q.t+0=fo q.t;omega)
   exact Ca
theorem Ke {gs:List Gt} {n:Int} {M:Po} (h:cE gs n=(M,true)) :
  ∃ Q:Po,cE (dh gs n).1 n=(Q,true)/\Q.N=M.N/\Q.t=M.t/\Q.o=M.o/\(Q.H+(dh gs n).2) % 8=M.H/\0<=Q.H/\Q.H<=7/\0<=(dh gs n).2/\(dh gs n).2<=7/\dK (dh gs n).1=fo M.t/\fo M.t<=dK gs/\fv M.t:=by
 obtain ⟨hin,hc⟩:=n7 h;obtain ⟨i1,i2,i3,i4⟩:=NT hin;have hMi:Mb M:=by
  obtain ⟨_,_,_,k2,_⟩:=lS [] trivial (cg n) gs (cg n) [] [] (cg n) M hc rfl i1 i1 rfl rfl (by
   intro m;have e:cg n=⟨n,0,[],mw n.toNat⟩:=by unfold cg;rw [if_pos hin]
   rw [e];rfl) (by
   intro m hm;have e:cg n=⟨n,0,[],mw n.toNat⟩:=by unfold cg;rw [if_pos hin]
   rw [e] at hm;exact absurd rfl hm) (by rw [i4];rfl)
  exact k2
 have e0:cg n=⟨n,0,[],mw n.toNat⟩:=by unfold cg;rw [if_pos hin]
 obtain ⟨qe,mete,k1,k2,k3,k4,k5,k6,k7,k8,k9⟩:=lS M.t hMi.1 (cg n) gs (cg n) [] [] (cg n) M hc rfl i1 i1 rfl rfl (by intro m;rw [e0];rfl) (by intro m hm;rw [e0] at hm;exact absurd rfl hm) (by rw [i4];rfl);have hf:=pq (gs:=gs) (n:=n) (by rw [h]);rw [h] at hf;have hco:cE (dI M.t (cg n) [] [] gs) n=(qe,true):=by unfold cE;rw [if_pos hin];exact k1
 have hte:qe.t=M.t:=mC k3.1 hMi.1 fun m=>by
  rw [k6];split
  ·rfl
  ·rename_i hno;cases hd:decide (au M.t m=0)
   ·exact absurd (k7 m (by simpa using hd)) hno
   ·have:au M.t m=0:=by simpa using hd
    exact this.symm
 rw [hf];have h1:=hMi.2.2;have h2:=k3.2.2;refine ⟨qe,hco,k4,hte,k5,?_,h2.1,h2.2,?_,?_,by rw [k8,hte],by rw [i4] at k9;omega,hMi.1⟩
 ·show (qe.H+(M.H - (cE (dI M.t (cg n) [] [] gs) n).1.H) % 8) % 8=M.H;rw [hco];show (qe.H+(M.H - qe.H) % 8) % 8=M.H;omega
 ·show 0<=(M.H - _) % 8;omega
 ·show (M.H - _) % 8<=7;omega
end Go.Proofs.YtmenmibfkojnoaaGreat
