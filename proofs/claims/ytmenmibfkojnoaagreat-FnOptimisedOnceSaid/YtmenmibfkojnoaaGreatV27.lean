/- Contract of CircuitTableau (spec): Clifford circuits of at most 60 gates. The reducer's box; contracts of l28Do (spec) and emit (impl). Contracts of l28X, l28Z (spec) and the reducer's x, z (impl): a bit of an operator. Contracts of EqualTableau (spec and impl), for tableaus on as many qubits with as many rows. Contract of PeepholeStep (spec). Contracts of isPhased, l33Moves and PhaseSections ... -/
import Derived.Test.YtmenmibfkojnoaaGreatV25
import Derived.Test.YtmenmibfkojnoaaGreatV17
import Derived.Test.YtmenmibfkojnoaaGreatV26
import Derived.Test.YtmenmibfkojnoaaGreatV02
import Derived.Test.YtmenmibfkojnoaaGreatV16
import Derived.Deep.RegionHeld3
import Derived.BigQuiet
import Derived.Deep.RegionLaw
import Derived.Deep.DeepCutAuto
set_option maxHeartbeats 16000000
namespace Go.Proofs.YtmenmibfkojnoaaGreat
open Go.RowKit
set_option linter.unusedVariables false
set_option maxRecDepth 100000 in
theorem s_CirTab (n m c:Nat) (A:Option Addr) (l:List Gt) (w:World) (hn:1<=n/\n<=4) (hr:RdG w A m l) (hm:m<=60) (hl:∀ g ∈ l,okN n g=true/\cliff g.k=true) (hi:okT n (idT n)) :
  Calls Tryz.prog 63 #[.agg #[.int .i64 (n:Nat),.slice A m c]] w (RetTab n (2 * n) (runT n l (idT n)) w):=by
 have X0:=zH (show Bx ((w.alloc (.cells #[.int .i64 (n:Nat),.slice A m c] 45)).alloc (.cells #[.int .i64 0,.slice none 0 0] 73)) w.heap.size 45 _ from (Bx.new w _ _).alloc _)
 have R0:=zH (show Bx ((w.alloc (.cells #[.int .i64 (n:Nat),.slice A m c] 45)).alloc (.cells #[.int .i64 0,.slice none 0 0] 73)) (w.heap.size+1) 73 #[.int .i64 0,.slice none 0 0] from Bx.new' (by simp))
 have B0:=zH (show Below w.heap.size w ((w.alloc (.cells #[.int .i64 (n:Nat),.slice A m c] 45)).alloc (.cells #[.int .i64 0,.slice none 0 0] 73)) from ((zW).alloc zR _).alloc (by simp) _)
 have HW:=zH hr
 have HL:=zH hl
 have HT:=zH hi
 have HV:=zH (okC_t hn (by rw [hr.1];exact hm) fun g hg=>(hl g hg).1)
 have x0:=X0.out.cell 0
 have x1:=X0.out.cell 1
 clear hr hl hi
 go_enter Tryz.func63,Tryz.ntmps63
 go_wp2_with fail
 refine (s_ValC A m c n l _ (HW.out.below B0.out) (by omega)).mono ?_
 rintro e w1 ⟨rfl,b1⟩
 rw [HV.out]
 have X1:=zH (X0.out.below b1)
 have R1:=zH (R0.out.below b1)
 have B1:=zH (below_trans B0.out b1)
 clear b1 X0 R0 B0 x0 x1
 have x0:=X1.out.cell 0
 have x1:=X1.out.cell 1
 go_wp2_with fail
 refine (s_IdTab n _ hn).mono ?_
 rintro e w2 ⟨A0,c0,rfl,o2,b2⟩
 have X2:=zH ((X1.out.below b2).alloc (.cells #[.int .i64 (n:Nat),.slice A0 (2 * n) c0] 73))
 have R2:=zH ((R1.out.below b2).alloc (.cells #[.int .i64 (n:Nat),.slice A0 (2 * n) c0] 73))
 have K2:=zH (show KB w n w2.heap.size A0 c0 (idT n) (w2.alloc (.cells #[.int .i64 (n:Nat),.slice A0 (2 * n) c0] 73)) from ⟨Bx.new _ _ _,ownsRow_base (o2.alloc _) B1.out.size,(below_trans B1.out b2).alloc (Nat.le_trans B1.out.size b2.size) _,Nat.le_trans B1.out.size b2.size⟩)
 have lt2:w.heap.size+1 < w2.heap.size:=(R1.out.below b2).lt
 clear o2 b2 X1 R1 B1 x0 x1
 have x1:=X2.out.cell 1
 obtain ⟨O,hO⟩:∃ O,O=w2.heap.size:=⟨_,rfl⟩
 rw [<- hO] at K2 lt2
 go_wp2_with fail
 rw [<- hO]
 clear hO
 go_loopg [5] m (fun q i wr=>∃ (k:Nat) (A0:Option Addr) (c0:Nat) (r:List Pq),k+q=m/\i=.int .i64 k/\okT n r/\runT n (l.drop k) r=runT n l (idT n)/\Bx wr w.heap.size 45 #[.int .i64 (n:Nat),.slice A m c]/\Bx wr (w.heap.size+1) 73 #[.int .i64 0,.slice none 0 0]/\KB w n O A0 c0 r wr)
 case atStart=>exact ⟨0,A0,c0,idT n,by omega,rfl,HT.out,rfl,X2.out,R2.out,K2.out⟩
 case round =>
  clear X2 R2 K2 x1
  obtain ⟨k,A0,c0,r,hk,rfl,hok,hrun,hX,hR,hK⟩:=hrel
  by_cases hlt:k < m
  ·obtain ⟨b,off,g,rfl,hB,hd,y0,y1,y2,y3⟩:=(HW.out.below hK.2.2.1).at_ hlt
   have HG:=zH (HL.out g (List.mem_of_mem_drop (i:=k) (by rw [hd];simp)))
   have HRUN:=zH (show runT n (l.drop (k+1)) (appT n g r)=runT n l (idT n) by rw [<- hrun,hd];rfl)
   have HO2:=zH (appT_ok HG.out.1 HG.out.2 hok)
   have HB:=zH hB
   have TK:=fun (w5:World) (b5:Below wr.heap.size wr w5)=>(⟨⟨(hK.below b5).1.cell 0,(hK.below b5).1.cell 1⟩,⟨(hX.below b5).cell 0,(hX.below b5).cell 1⟩,((HW.out.below (hK.below b5).2.2.1).cellsAt hd).2⟩:(w5.cell? ⟨O,0,none⟩=some (.int .i64 (n:Nat))/\w5.cell? ⟨O,1,none⟩=some (.slice A0 (2 * n) c0))/\((w5.cell? ⟨w.heap.size,0,none⟩=some (.int .i64 (n:Nat))/\w5.cell? ⟨w.heap.size,1,none⟩=some (.slice (some ⟨b,off,none⟩) m c))/\(w5.cell? ⟨b,off+k * 4,none⟩=some (.int .i64 g.k)/\w5.cell? ⟨b,off+k * 4+1,none⟩=some (.int .i64 g.a)/\w5.cell? ⟨b,off+k * 4+2,none⟩=some (.int .i64 g.b)/\w5.cell? ⟨b,off+k * 4+3,none⟩=some (.int .i64 g.c))))
   have TK0:=TK _ (Below.refl wr.heap.size wr).drew
   obtain ⟨⟨t0,t1⟩,⟨x0,x1⟩,_⟩:=TK _ (Below.refl wr.heap.size wr)
   have hS0:=hK.2.2.1.size
   have hi0:(0:Int)<=(k:Int):=by omega
   have hi1:(k:Int) < (m:Int):=by omega
   have HOK:=zH hok
   have HD:=zH hd
   clear hd hrun hok
   go_wp2_with fail
   go_cut [6,7] (fun s6 s7 wx=>∃ P A5 c5,s6=.pointer (some ⟨P,0,none⟩)/\s7=.bool true/\Bx wx P 73 #[.int .i64 (n:Nat),.slice A5 (2 * n) c5]/\wx.ownsRow w.heap.size 151 4 (.slice A5 (2 * n) c5) (2 * n) (cellsG (pgs n (appT n g r)))/\Bx wx w.heap.size 45 #[.int .i64 (n:Nat),.slice (some ⟨b,off,none⟩) m c]/\Bx wx (w.heap.size+1) 73 #[.int .i64 0,.slice none 0 0]/\KB w n O A0 c0 r wx)
   case first =>
    go_region_held3 (fun w'=>(w'.cell? ⟨O,0,none⟩=some (.int .i64 (n:Nat))/\w'.cell? ⟨O,1,none⟩=some (.slice A0 (2 * n) c0))/\((w'.cell? ⟨w.heap.size,0,none⟩=some (.int .i64 (n:Nat))/\w'.cell? ⟨w.heap.size,1,none⟩=some (.slice (some ⟨b,off,none⟩) m c))/\(w'.cell? ⟨b,off+k * 4,none⟩=some (.int .i64 g.k)/\w'.cell? ⟨b,off+k * 4+1,none⟩=some (.int .i64 g.a)/\w'.cell? ⟨b,off+k * 4+2,none⟩=some (.int .i64 g.b)/\w'.cell? ⟨b,off+k * 4+3,none⟩=some (.int .i64 g.c))))
     (first
      |exact TK _ ((Below.refl wr.heap.size wr).drew)
      |exact TK _ (((Below.refl wr.heap.size wr).alloc zR _).drew)
      |exact TK _ (((Below.refl wr.heap.size wr).drew).alloc zR _)
      |exact TK _ (below_drew b5)
      |exact TK _ (below_trans ((Below.refl wr.heap.size wr).alloc zR _).drew b5)
      |exact TK _ (below_trans ((Below.refl wr.heap.size wr).drew.alloc zR _) b5)
      |exact TK _ ((below_drew b5).alloc (by simpa using b5.size) _)
      |exact TK _ (belowS2 (below_trans ((Below.refl wr.heap.size wr).alloc zR _).drew b5) zR _ _)
      |exact TK _ (belowS2 (below_trans ((Below.refl wr.heap.size wr).drew.alloc zR _) b5) zR _ _)
      |exact TK _ ((belowS2 (below_trans ((Below.refl wr.heap.size wr).alloc zR _).drew b5) zR _ _).drew)
      |exact TK _ ((belowS2 (below_trans ((Below.refl wr.heap.size wr).drew.alloc zR _) b5) zR _ _).drew)
      |exact TK _ ((below_drew b5).drew)
      |exact TK _ ((below_trans ((Below.refl wr.heap.size wr).alloc zR _).drew b5).drew)
      |exact TK _ ((below_trans ((Below.refl wr.heap.size wr).drew.alloc zR _) b5).drew)
      |go_keep)
     (first
      |(go_at_call 111;(first | refine (s_TabApp n (2 * n) c0 A0 r g _ hn hK.drew.rd hK.cap HOK.out HG.out.1 HG.out.2).mono ?_ | refine (s_TabApp n (2 * n) c0 A0 r g _ hn (hK.alloc _).drew.rd hK.cap HOK.out HG.out.1 HG.out.2).mono ?_ | refine (s_TabApp n (2 * n) c0 A0 r g _ hn (hK.drew.alloc _).rd hK.cap HOK.out HG.out.1 HG.out.2).mono ?_);rintro e w5 ⟨A5,c5,rfl,o5,b5⟩;first | (have PB:Bx w5 wr.heap.size 73 #[.int .i64 0,.slice none 0 0]:=(Bx.new wr 73 #[.int .i64 0,.slice none 0 0]).drew.below b5;obtain ⟨x0,x1,x2,x3⟩:=PB.two) | (have PB:Bx w5 wr.heap.size 73 #[.int .i64 0,.slice none 0 0]:=(Bx.new wr.drew 73 #[.int .i64 0,.slice none 0 0]).below b5;obtain ⟨x0,x1,x2,x3⟩:=PB.two) | skip)
      |fail)
    all_goals go_wp2_with fail
    all_goals go_meet
    all_goals first
     |exact ⟨_,A5,c5,rfl,rfl,Bx.new _ _ _,ownsRow_base (o5.alloc _) (by simpa using hS0),hX.below ((below_drew b5).alloc (by simpa using b5.size) _),hR.below ((below_drew b5).alloc (by simpa using b5.size) _),hK.below ((below_drew b5).alloc (by simpa using b5.size) _)⟩
     |(have PB1:Bx (w5.setCell ⟨wr.heap.size,0,none⟩ (.int .i64 (n:Nat))) wr.heap.size 73 #[.int .i64 (n:Nat),.slice none 0 0]:=(by simpa using PB.set_ 0 (.int .i64 (n:Nat)));exact ⟨_,A5,c5,rfl,rfl,PB.set2 _ _,ownsRow_base (own_farT (own_farT o5 PB (by decide) 0 _) PB1 (by decide) 1 _) (by simpa using Nat.le_succ_of_le hS0),hX.below (belowS2 (below_trans ((Below.refl wr.heap.size wr).alloc zR _).drew b5) zR _ _),hR.below (belowS2 (below_trans ((Below.refl wr.heap.size wr).alloc zR _).drew b5) zR _ _),hK.below (belowS2 (below_trans ((Below.refl wr.heap.size wr).alloc zR _).drew b5) zR _ _)⟩)
     |(have PB1:Bx (w5.setCell ⟨wr.heap.size,0,none⟩ (.int .i64 (n:Nat))) wr.heap.size 73 #[.int .i64 (n:Nat),.slice none 0 0]:=(by simpa using PB.set_ 0 (.int .i64 (n:Nat)));exact ⟨_,A5,c5,rfl,rfl,PB.set2 _ _,ownsRow_base (own_farT (own_farT o5 PB (by decide) 0 _) PB1 (by decide) 1 _) (by simpa using Nat.le_succ_of_le hS0),hX.below (belowS2 (below_trans ((Below.refl wr.heap.size wr).drew.alloc zR _) b5) zR _ _),hR.below (belowS2 (below_trans ((Below.refl wr.heap.size wr).drew.alloc zR _) b5) zR _ _),hK.below (belowS2 (below_trans ((Below.refl wr.heap.size wr).drew.alloc zR _) b5) zR _ _)⟩)
   case rest =>
    obtain ⟨P,A5,c5,rfl,rfl,hP,hO5,hX5,hR5,hK5⟩:=hcut
    clear TK TK0 hX hR hK t0 t1 x0 x1
    have X5:=zH hX5
    have R5:=zH hR5
    have K5:=zH hK5
    have O5:=zH hO5
    obtain ⟨y0',y1',_⟩:=hP.two
    obtain ⟨t0,t1,t2,t3⟩:=K5.out.cells
    clear hP hO5 hX5 hR5 hK5
    go_wp2_with fail
    go_roundg (gk - 1)
    all_goals first
     |omega
     |exact ⟨k+1,A5,c5,appT n g r,by omega,by go_num,HO2.out,HRUN.out,X5.out.far2 (by omega) _ _,R5.out.far2 (by omega) _ _,K5.out.put O5.out⟩
  ·obtain rfl:k=m:=by omega
   have xe:=hX.cell 1
   have hfin:r=runT n l (idT n):=by rw [<- hrun,List.drop_eq_nil_of_le (by rw [HW.out.1];exact zR)];rfl
   rw [hfin] at hK
   have K5:=zH hK
   have R5:=zH hR
   obtain ⟨t0,t1,_⟩:=K5.out.cells
   obtain ⟨r0,r1,r2,r3⟩:=R5.out.two
   clear hX hR hK hrun hfin hok
   go_wp2_with fail
   have RB:=R5.out
   have hne:w.heap.size+1 ≠ O:=by omega
   have h1:Bx (wr.setCell ⟨w.heap.size+1,0,none⟩ (.int .i64 (n:Nat))) (w.heap.size+1) 73 #[.int .i64 (n:Nat),.slice none 0 0]:=by simpa using RB.set_ 0 (.int .i64 (n:Nat))
   with_reducible refine ret_S2 RB ?_ ?_ ⟨A0,c0,rfl,?_,?_⟩
   ·intro wS z0 z1;simp [results,Tryz.results63,go_sem,z0,z1]
   ·rfl
   ·exact own_farT (own_farT K5.out.2.1 RB (by decide) 0 _) h1 (by decide) 1 _
   ·exact belowS2 K5.out.2.2.1 (by omega) _ _
theorem own_own_neT {w:World} {b b':Nat} {e e':TypeId} {sz sz' n n':Nat} {v v':Value} {xs xs':List Value} (h:w.ownsRow b e sz v n xs) (h':w.ownsRow b' e' sz' v' n' xs') (hne:e ≠ e'):v.ownBlock=none ∨ v.ownBlock ≠ v'.ownBlock:=by
 rcases h.2 with ⟨rfl,_⟩ | ⟨g,cap,cur,rfl,_,hh,_⟩
 ·exact .inl rfl
 ·right
  intro he
  rcases h'.2 with ⟨rfl,_⟩ | ⟨g',cap',cur',rfl,_,hh',_⟩
  ·cases he
  ·simp only [Value.ownBlock,Option.some.injEq] at he
   subst he
   rw [hh] at hh'
   injection hh' with hh'
   injection hh' with _ h2
   exact hne h2
theorem Bx.three {wx:World} {g t:Nat} {x y z:Value} (h:Bx wx g t #[x,y,z]):wx.cell? ⟨g,0,none⟩=some x/\wx.cell? ⟨g,1,none⟩=some y/\wx.cell? ⟨g,2,none⟩=some z/\wx.frozen? ⟨g,0,none⟩=false/\wx.frozen? ⟨g,1,none⟩=false/\wx.frozen? ⟨g,2,none⟩=false:=⟨h.cell 0,h.cell 1,h.cell 2,h.free 0,h.free 1,h.free 2⟩
def WS (R W:Nat) (t:TypeId) (n:Nat) (r:List Pq) (l:List Gt) (A0:Option Addr) (c0:Nat) (A1:Option Addr) (c1:Nat) (wx:World):Prop :=
 Bx wx W t #[.int .i64 (n:Nat),.slice A0 (2 * n) c0,.slice A1 l.length c1]/\wx.ownsRow R 151 4 (.slice A0 (2 * n) c0) (2 * n) (cellsG (pgs n r))/\wx.ownsRow R 39 4 (.slice A1 l.length c1) l.length (cellsG l)/\R<=W
section
variable {R W n c0 c1 c5:Nat} {t:TypeId} {r r5:List Pq} {l:List Gt} {A0 A1 A5:Option Addr} {w wx w':World}
theorem WS.below (h:WS R W t n r l A0 c0 A1 c1 wx) (hb:Below wx.heap.size wx w'):WS R W t n r l A0 c0 A1 c1 w':=⟨h.1.below hb,ownsRow_below h.2.1 hb,ownsRow_below h.2.2.1 hb,h.2.2.2⟩
theorem WS.alloc (h:WS R W t n r l A0 c0 A1 c1 wx) (o:Obj):WS R W t n r l A0 c0 A1 c1 (wx.alloc o):=h.below ((zW).alloc zR _)
theorem WS.drew (h:WS R W t n r l A0 c0 A1 c1 wx):WS R W t n r l A0 c0 A1 c1 wx.drew:=h.below (zW).drew
theorem WS.rd (h:WS R W t n r l A0 c0 A1 c1 wx):RdG wx A0 (2 * n) (pgs n r):=RdG.own h.2.1
theorem WS.cap (h:WS R W t n r l A0 c0 A1 c1 wx):2 * n<=c0:=ownsRow_cap h.2.1
theorem WS.le (h:WS R W t n r l A0 c0 A1 c1 wx):R<=wx.heap.size:=by have:=h.1.lt;have:=h.2.2.2;omega
theorem WS.put (h:WS R W t n r l A0 c0 A1 c1 wx) (hp:t ≠ 151) (hg:t ≠ 39) (ho:wx.ownsRow R 151 4 (.slice A5 (2 * n) c5) (2 * n) (cellsG (pgs n r5))):WS R W t n r5 l A5 c5 A1 c1 (S2 wx W (.int .i64 (n:Nat)) (.slice A5 (2 * n) c5)):=by
 have h0:Bx (wx.setCell ⟨W,0,none⟩ (.int .i64 (n:Nat))) W t #[.int .i64 (n:Nat),.slice A0 (2 * n) c0,.slice A1 l.length c1]:=by simpa using h.1.set_ 0 (.int .i64 (n:Nat))
 have h1:Bx (S2 wx W (.int .i64 (n:Nat)) (.slice A5 (2 * n) c5)) W t #[.int .i64 (n:Nat),.slice A5 (2 * n) c5,.slice A1 l.length c1]:=by simpa using h0.set_ 1 (.slice A5 (2 * n) c5)
 exact ⟨h1,own_farT (own_farT ho h.1 (fun e=>hp e.symm) 0 _) h0 (fun e=>hp e.symm) 1 _,own_farT (own_farT h.2.2.1 h.1 (fun e=>hg e.symm) 0 _) h0 (fun e=>hg e.symm) 1 _,h.2.2.2⟩
theorem WS.push {w5:World} {g:Gt} (h:WS R W t n r l A0 c0 A1 c1 wx) (hp:t ≠ 151) (hg:t ≠ 39) (hgr:wx.grownBy w5 (Value.slice A1 l.length c1).ownBlock) (ho:w5.ownsRow R 39 4 (.slice A5 (l.length+1) c5) (l.length+1) (cellsG l++[.int .i64 g.k,.int .i64 g.a,.int .i64 g.b,.int .i64 g.c])) :
  WS R W t n r (l++[g]) A0 c0 A5 c5 (w5.setCell ⟨W,2,none⟩ (.slice A5 (l.length+1) c5)):=by
 have hB:Bx w5 W t #[.int .i64 (n:Nat),.slice A0 (2 * n) c0,.slice A1 l.length c1]:=kept_app h.2.2.1 hgr h.1 (fun e=>hg e.symm)
 have hl:(l++[g]).length=l.length+1:=by simp
 have hrow:w5.ownsRow R 151 4 (.slice A0 (2 * n) c0) (2 * n) (cellsG (pgs n r)):=by
  refine h.2.1.kept hgr ?_
  exact own_own_neT h.2.1 h.2.2.1 (by decide)
 have e:cellsG (l++[g])=cellsG l++[.int .i64 g.k,.int .i64 g.a,.int .i64 g.b,.int .i64 g.c]:=by rw [cellsG_append];rfl
 unfold WS
 rw [hl,e]
 exact ⟨by simpa using hB.set_ 2 (.slice A5 (l.length+1) c5),own_farT hrow hB (fun e=>hp e.symm) 2 _,own_farT ho hB (fun e=>hg e.symm) 2 _,h.2.2.2⟩
end
set_option maxRecDepth 100000 in
theorem s_28X (n k:Nat) (a:Pq) (w:World) (hx:a.x < 16) (hk:k < 4):Calls Tryz.prog 187 #[.agg #[.int .i64 (n:Nat),.int .i64 (a.x:Nat),.int .i64 (a.z:Nat),.int .i64 (a.p:Nat)],.int .i64 (k:Nat)] w fun e w'=>e=.returned (.bool (bitB a.x k))/\Below w.heap.size w w':=by
 have BX:=bitT hx hk
 go_enter Tryz.func187,Tryz.ntmps187
 go_wp2_with fail
 go_ret
 exact ⟨rfl,(zW).alloc zR _⟩
set_option maxRecDepth 100000 in
theorem s_28Z (n k:Nat) (a:Pq) (w:World) (hx:a.z < 16) (hk:k < 4):Calls Tryz.prog 188 #[.agg #[.int .i64 (n:Nat),.int .i64 (a.x:Nat),.int .i64 (a.z:Nat),.int .i64 (a.p:Nat)],.int .i64 (k:Nat)] w fun e w'=>e=.returned (.bool (bitB a.z k))/\Below w.heap.size w w':=by
 have BX:=bitT hx hk
 go_enter Tryz.func188,Tryz.ntmps188
 go_wp2_with fail
 go_ret
 exact ⟨rfl,(zW).alloc zR _⟩
set_option maxRecDepth 100000 in
theorem i_rX (R W n i k c0 c1:Nat) (ii:Int) (A0 A1:Option Addr) (r:List Pq) (l:List Gt) (a:Pq) (w:World) (h:WS R W 163 n r l A0 c0 A1 c1 w) (ha:r[i]? = some a) (hii:ii=(i:Nat)) (hi:i < 2 * n) (hn:n<=4) (hx:a.x < 16) (hk:k < 4):Calls Tryz.prog 196 #[.pointer (some ⟨W,0,none⟩),.int .i64 ii,.int .i64 (k:Nat)] w fun e w'=>e=.returned (.bool (bitB a.x k))/\w=w':=by
 subst hii
 have BX:=bitT hx hk
 obtain ⟨b,off,rfl⟩:=h.rd.first (by omega)
 obtain ⟨_,c0',c1',c2',c3'⟩:=h.rd.cellsAt (pgs_drop ha)
 simp only [pg] at c0' c1' c2' c3'
 obtain ⟨t0,t1,t2,_⟩:=h.1.three
 have km:(i:Int) < ((2 * n:Nat):Int):=by omega
 clear ha h
 go_enter Tryz.func196,Tryz.ntmps196
 go_wp2_with fail
 go_ret
 exact ⟨rfl,rfl⟩
set_option maxRecDepth 100000 in
theorem i_rZ (R W n i k c0 c1:Nat) (ii:Int) (A0 A1:Option Addr) (r:List Pq) (l:List Gt) (a:Pq) (w:World) (h:WS R W 163 n r l A0 c0 A1 c1 w) (ha:r[i]? = some a) (hii:ii=(i:Nat)) (hi:i < 2 * n) (hn:n<=4) (hx:a.z < 16) (hk:k < 4):Calls Tryz.prog 197 #[.pointer (some ⟨W,0,none⟩),.int .i64 ii,.int .i64 (k:Nat)] w fun e w'=>e=.returned (.bool (bitB a.z k))/\w=w':=by
 subst hii
 have BX:=bitT hx hk
 obtain ⟨b,off,rfl⟩:=h.rd.first (by omega)
 obtain ⟨_,c0',c1',c2',c3'⟩:=h.rd.cellsAt (pgs_drop ha)
 simp only [pg] at c0' c1' c2' c3'
 obtain ⟨t0,t1,t2,_⟩:=h.1.three
 have km:(i:Int) < ((2 * n:Nat):Int):=by omega
 clear ha h
 go_enter Tryz.func197,Tryz.ntmps197
 go_wp2_with fail
 go_ret
 exact ⟨rfl,rfl⟩
theorem row_comm {r:List Pq} {n q:Nat} {a:Pq} (h:r[n+q]? = some a):r[q+n]? = some a:=by rw [Nat.add_comm];exact h
theorem take_snocQ {α:Type} {l:List α} {k:Nat} {a:α} (h:l[k]? = some a):l.take (k+1)=l.take k++[a]:=by
 rw [List.take_add_one,h];rfl
theorem eqPauliV (k a b c k' a' b' c':Int) (w:World):(Op.equalIn 10000 151 (.agg #[.int .i64 k,.int .i64 a,.int .i64 b,.int .i64 c]) (.agg #[.int .i64 k',.int .i64 a',.int .i64 b',.int .i64 c'])).run Tryz.prog w=.ok (k == k' && (a == a' && (b == b' && c == c'))) w:=by
 have u3:=Tryz.underlying3
 have a3:=Tryz.isAgg3
 have z3:=Tryz.sizeOf3
 have hS:Tryz.prog.underlying 151=some (.struct (Tryz.prog.fieldsOf 151)):=by kernel_rfl
 rw [show (10000:Nat)=9999+1 from rfl,run_equalIn_agg w 9999 151 _ _ hS (by kernel_rfl)]
 simp only [Program.fieldsOf,Tryz.underlying151]
 go_simp
 by_cases h1:k=k'<;>by_cases h2:a=a'<;>by_cases h3:b=b'<;>by_cases h4:c=c'<;>simp [h1,h2,h3,h4]
theorem eqPq (n:Nat) (a b:Pq) (w:World):(Op.equalIn 10000 151 (.agg #[.int .i64 (n:Nat),.int .i64 (a.x:Nat),.int .i64 (a.z:Nat),.int .i64 (a.p:Nat)]) (.agg #[.int .i64 (n:Nat),.int .i64 (b.x:Nat),.int .i64 (b.z:Nat),.int .i64 (b.p:Nat)])).run Tryz.prog w=.ok (decide (a=b)) w:=by
 rw [eqPauliV]
 congr 1
 obtain ⟨x,z,p⟩:=a
 obtain ⟨x',z',p'⟩:=b
 by_cases h1:x=x'<;>by_cases h2:z=z'<;>by_cases h3:p=p'<;>simp [h1,h2,h3]<;>omega
theorem list_ne {α:Type} {l l':List α} {k:Nat} {a b:α} (ha:l[k]? = some a) (hb:l'[k]? = some b) (h:a ≠ b):l ≠ l':=fun e=>h (by rw [e,hb] at ha;injection ha with ha;exact ha.symm)
set_option maxRecDepth 100000 in
theorem i_sameP (n m c c':Nat) (A A':Option Addr) (r r':List Pq) (w:World) (h:RdG w A m (pgs n r)) (h':RdG w A' m (pgs n r')) (hm:m<=1024) :
  Calls Tryz.prog 202 #[.slice A m c,.slice A' m c'] w fun e w'=>e=.returned (.bool (decide (r=r')))/\Below w.heap.size w w':=by
 have HL:=zH (show r.length=m by rw [<- h.1,pgs_len])
 have HL':=zH (show r'.length=m by rw [<- h'.1,pgs_len])
 have H:=zH h
 have H':=zH h'
 clear h h'
 go_enter Tryz.func202,Tryz.ntmps202
 go_wp2_with fail
 go_loopg [13] m (fun q i wr=>∃ k:Nat,k+q=m/\i=.int .i64 k/\r.take k=r'.take k/\Below w.heap.size w wr)
 case atStart=>exact ⟨0,by omega,rfl,rfl,zW⟩
 case round =>
  obtain ⟨k,hk,rfl,he,hb⟩:=hrel
  have HE:=zH he
  clear he
  by_cases hlt:k < m
  ·obtain ⟨a,ha⟩:=get_lt (l:=r) (k:=k) (by rw [HL.out];exact hlt)
   obtain ⟨d,hd⟩:=get_lt (l:=r') (k:=k) (by rw [HL'.out];exact hlt)
   obtain ⟨b1,o1,rfl⟩:=H.out.first (by omega)
   obtain ⟨b2,o2,rfl⟩:=H'.out.first (by omega)
   obtain ⟨_,c0,c1,c2,c3⟩:=(H.out.below hb).cellsAt (pgs_drop ha)
   obtain ⟨_,d0,d1,d2,d3⟩:=(H'.out.below hb).cellsAt (pgs_drop hd)
   simp only [pg] at c0 c1 c2 c3 d0 d1 d2 d3
   have hi0:(0:Int)<=(k:Int):=by omega
   have hi1:(k:Int) < (m:Int):=by omega
   have hM:Tryz.prog.eqGuardType Tryz.prog.depth 151=false:=by kernel_rfl
   have HT:=zH (take_snocQ ha)
   have HT':=zH (take_snocQ hd)
   have HN:=zH (fun h:a ≠ d=>list_ne ha hd h)
   clear ha hd
   by_cases hq:a=d
   ·subst hq
    have hE:∀ w,(Op.equalIn 10000 151 (.agg #[.int .i64 (n:Nat),.int .i64 (a.x:Nat),.int .i64 (a.z:Nat),.int .i64 (a.p:Nat)]) (.agg #[.int .i64 (n:Nat),.int .i64 (a.x:Nat),.int .i64 (a.z:Nat),.int .i64 (a.p:Nat)])).run Tryz.prog w=.ok true w:=fun w=>by rw [eqPq];simp
    go_wp2_with fail
    go_quiet (fail)
    go_wp2_with fail
    go_roundg (gk - 1)
    all_goals first
     |omega
     |exact ⟨k+1,by omega,by go_num,by rw [HT.out,HT'.out,HE.out],below_drewN hb _⟩
   ·have hE:∀ w,(Op.equalIn 10000 151 (.agg #[.int .i64 (n:Nat),.int .i64 (a.x:Nat),.int .i64 (a.z:Nat),.int .i64 (a.p:Nat)]) (.agg #[.int .i64 (n:Nat),.int .i64 (d.x:Nat),.int .i64 (d.z:Nat),.int .i64 (d.p:Nat)])).run Tryz.prog w=.ok false w:=fun w=>by rw [eqPq,decide_eq_false hq]
    go_wp2_with fail
    go_quiet (fail)
    go_wp2_with fail
    go_ret
    exact ⟨ret_bool (decide_eq_false (HN.out hq)).symm,below_drewN hb _⟩
  ·obtain rfl:k=m:=by omega
   go_wp2_with fail
   go_ret
   exact ⟨ret_bool (decide_eq_true (by have:=HE.out;rwa [List.take_of_length_le (by rw [HL.out];exact zR),List.take_of_length_le (by rw [HL'.out];exact zR)] at this)).symm,hb⟩
set_option maxRecDepth 100000 in
theorem i_EqTab (n m c c':Nat) (A A':Option Addr) (r r':List Pq) (w:World) (h:RdG w A m (pgs n r)) (h':RdG w A' m (pgs n r')) (hm:m<=1024) :
  Calls Tryz.prog 165 #[.agg #[.int .i64 (n:Nat),.slice A m c],.agg #[.int .i64 (n:Nat),.slice A' m c']] w fun e w'=>e=.returned (.bool (decide (r=r')))/\Below w.heap.size w w':=by
 have B0:=zH (show Below w.heap.size w ((w.alloc (.cells #[.int .i64 (n:Nat),.slice A m c] 73)).alloc (.cells #[.int .i64 (n:Nat),.slice A' m c'] 73)) from ((zW).alloc zR _).alloc (by simp) _)
 have H:=zH h
 have H':=zH h'
 clear h h'
 go_enter Tryz.func165,Tryz.ntmps165
 go_wp2_with fail
 refine (i_sameP n m c c' A A' r r' _ (H.out.below B0.out) (H'.out.below B0.out) hm).mono ?_
 rintro e w1 ⟨rfl,b1⟩
 go_wp2_with fail
 go_ret
 exact ⟨rfl,below_trans B0.out b1⟩
set_option maxRecDepth 100000 in
theorem s_EqTab (n m c c':Nat) (A A':Option Addr) (r r':List Pq) (w:World) (h:RdG w A m (pgs n r)) (h':RdG w A' m (pgs n r')) (hm:m<=1024) :
  Calls Tryz.prog 210 #[.agg #[.int .i64 (n:Nat),.slice A m c],.agg #[.int .i64 (n:Nat),.slice A' m c']] w fun e w'=>e=.returned (.bool (decide (r=r')))/\Below w.heap.size w w':=by
 have HL:=zH (show r.length=m by rw [<- h.1,pgs_len])
 have HL':=zH (show r'.length=m by rw [<- h'.1,pgs_len])
 have B0:=zH (show Below w.heap.size w ((w.alloc (.cells #[.int .i64 (n:Nat),.slice A m c] 73)).alloc (.cells #[.int .i64 (n:Nat),.slice A' m c'] 73)) from ((zW).alloc zR _).alloc (by simp) _)
 have X0:=zH (show Bx ((w.alloc (.cells #[.int .i64 (n:Nat),.slice A m c] 73)).alloc (.cells #[.int .i64 (n:Nat),.slice A' m c'] 73)) w.heap.size 73 _ from (Bx.new w _ _).alloc _)
 have Y0:=zH (show Bx ((w.alloc (.cells #[.int .i64 (n:Nat),.slice A m c] 73)).alloc (.cells #[.int .i64 (n:Nat),.slice A' m c'] 73)) (w.heap.size+1) 73 #[.int .i64 (n:Nat),.slice A' m c'] from Bx.new' (by simp))
 have H:=zH h
 have H':=zH h'
 clear h h'
 go_enter Tryz.func210,Tryz.ntmps210
 go_wp2_with fail
 go_loopg [5] m (fun q i wr=>∃ k:Nat,k+q=m/\i=.int .i64 k/\r.take k=r'.take k/\Bx wr w.heap.size 73 #[.int .i64 (n:Nat),.slice A m c]/\Bx wr (w.heap.size+1) 73 #[.int .i64 (n:Nat),.slice A' m c']/\Below w.heap.size w wr)
 case atStart=>exact ⟨0,by omega,rfl,rfl,X0.out,Y0.out,B0.out⟩
 case round =>
  clear X0 Y0 B0
  obtain ⟨k,hk,rfl,he,hX,hY,hb⟩:=hrel
  have HE:=zH he
  have x1:=hX.cell 1
  have y1:=hY.cell 1
  clear he
  by_cases hlt:k < m
  ·obtain ⟨a,ha⟩:=get_lt (l:=r) (k:=k) (by rw [HL.out];exact hlt)
   obtain ⟨d,hd⟩:=get_lt (l:=r') (k:=k) (by rw [HL'.out];exact hlt)
   obtain ⟨b1,o1,rfl⟩:=H.out.first (by omega)
   obtain ⟨b2,o2,rfl⟩:=H'.out.first (by omega)
   obtain ⟨_,c0,c1,c2,c3⟩:=(H.out.below hb).cellsAt (pgs_drop ha)
   obtain ⟨_,d0,d1,d2,d3⟩:=(H'.out.below hb).cellsAt (pgs_drop hd)
   simp only [pg] at c0 c1 c2 c3 d0 d1 d2 d3
   have HX:=zH hX
   have HY:=zH hY
   have hi0:(0:Int)<=(k:Int):=by omega
   have hi1:(k:Int) < (m:Int):=by omega
   have hM:Tryz.prog.eqGuardType Tryz.prog.depth 151=false:=by kernel_rfl
   have HT:=zH (take_snocQ ha)
   have HT':=zH (take_snocQ hd)
   have HN:=zH (fun h:a ≠ d=>list_ne ha hd h)
   clear ha hd hX hY
   by_cases hq:a=d
   ·subst hq
    have hE:∀ w,(Op.equalIn 10000 151 (.agg #[.int .i64 (n:Nat),.int .i64 (a.x:Nat),.int .i64 (a.z:Nat),.int .i64 (a.p:Nat)]) (.agg #[.int .i64 (n:Nat),.int .i64 (a.x:Nat),.int .i64 (a.z:Nat),.int .i64 (a.p:Nat)])).run Tryz.prog w=.ok true w:=fun w=>by rw [eqPq];simp
    go_wp2_with fail
    go_quiet (fail)
    go_wp2_with fail
    go_roundg (gk - 1)
    all_goals first
     |omega
     |exact ⟨k+1,by omega,by go_num,by rw [HT.out,HT'.out,HE.out],HX.out,HY.out,below_drewN hb _⟩
   ·have hE:∀ w,(Op.equalIn 10000 151 (.agg #[.int .i64 (n:Nat),.int .i64 (a.x:Nat),.int .i64 (a.z:Nat),.int .i64 (a.p:Nat)]) (.agg #[.int .i64 (n:Nat),.int .i64 (d.x:Nat),.int .i64 (d.z:Nat),.int .i64 (d.p:Nat)])).run Tryz.prog w=.ok false w:=fun w=>by rw [eqPq,decide_eq_false hq]
    go_wp2_with fail
    go_quiet (fail)
    go_wp2_with fail
    go_ret
    exact ⟨ret_bool (decide_eq_false (HN.out hq)).symm,below_drewN hb _⟩
  ·obtain rfl:k=m:=by omega
   go_wp2_with fail
   go_ret
   exact ⟨ret_bool (decide_eq_true (by have:=HE.out;rwa [List.take_of_length_le (by rw [HL.out];exact zR),List.take_of_length_le (by rw [HL'.out];exact zR)] at this)).symm,hb⟩
def Own7 (gs:List Gt) (m:Nat) (wd:World) (v:Value) (wx:World):Prop:=∃ A c,v=.slice A m c/\wx.ownsRow wd.heap.size 39 4 (.slice A m c) m (cellsG gs)/\Below wd.heap.size wd wx
set_option maxRecDepth 100000 in
theorem s_PeepholeStep (A:Option Addr) (n c:Nat) (l:List Gt) (w:World) (h:RdG w A n l) (hnc:n<=c) (hn:n<=1099511627776) :
  Calls Tryz.prog 59 #[.slice A n c] w (RetGB (stepL l) (stepOk l) w):=by
 have H:=zH h
 clear h
 go_enter Tryz.func59,Tryz.ntmps59
 go_wp2_with fail
 go_loopg [4] n (fun m j wr=>∃ i:Nat,i+m=n/\j=.int .i64 i/\findStep (l.drop i) i=findStep l 0/\Below w.heap.size w wr)
 case atStart=>exact ⟨0,by omega,rfl,rfl,zW⟩
 case round =>
  obtain ⟨i,hi,rfl,hs,hb⟩:=hrel
  have HS:=zH hs
  clear hs
  by_cases hlt:i < n
  ·have hd:=drop_cons (l:=l) (k:=i) (by have:=H.out.1;omega)
   obtain ⟨g,hg⟩:∃ g,l[i]'(by have:=H.out.1;omega)=g:=⟨_,rfl⟩
   rw [hg] at hd
   have HD:=zH hd
   clear hd hg
   go_wp2_with fail
   refine (s_l34At _ _ _ i l g _ (H.out.below hb) hlt hn HD.out).mono ?_
   intro e w1 hret
   cases hsc:scanB g (l.drop (i+1)) (i+1) with
   |none =>
    rw [hsc] at hret
    obtain ⟨rfl,b1⟩:=hret
    have b01:=hb.trans (b1.mono hb.size)
    have FIN:=zH (show findStep (l.drop (i+1)) (i+1)=findStep l 0 by
     rw [<- HS.out,HD.out,findStep,hsc])
    clear hsc
    go_wp2_with fail
    go_roundg (gk - 1)
    case measure=>omega
    case rel=>exact ⟨i+1,by omega,by go_num,FIN.out,b01⟩
   |some k =>
    rw [hsc] at hret
    obtain ⟨A1,c1,h,hdk,rfl,o1,b1⟩:=hret
    have b01:=hb.trans (b1.mono hb.size)
    have hk:=scanB_range hsc
    rw [List.length_drop,H.out.1] at hk
    obtain ⟨hk1,hk2⟩:=hk
    have hk3:k < n:=by omega
    have hik:i+1<=k:=hk1
    have FIN:=zH (show stepL l=outOf l i k/\stepOk l=true by
     have e:findStep l 0=some (i,k):=by rw [<- HS.out,HD.out,findStep,hsc]
     simp [stepL,stepOk,e])
    have HDK:=zH hdk
    have hml:=mergeL_short g h
    have HG:=zH (show outOf l i k=l.take i++((l.drop (i+1)).take (k - (i+1))++(mergeL g h++l.drop (k+1))) by
     unfold outOf;rw [getD_drop HD.out,getD_drop hdk])
    clear hsc hk1 hk2 hdk
    have hkp:(0:Int) < (k:Int):=by omega
    have hi0:(0:Int)<=(i:Int):=by omega
    have hic:(i:Int)<=(c:Int):=by omega
    have hik0:(i:Int)+1<=(k:Int):=by omega
    have hkc:(k:Int)<=(c:Int):=by omega
    have hwi:IntKind.i64.wrap ((i:Int)+1)=(i:Int)+1:=by rw [IntKind.wrap_i64];omega
    have hsl1:=sl_h A n c i (by omega)
    have hsl2:=sl_lh A n c (i+1) k (by omega) (by omega)
    rw [Int.natCast_succ] at hsl2
    obtain ⟨A2,hA2⟩:∃ A2,(if c=i+1 then A else A.map (·.add ((i+1) * 4)))=A2:=⟨_,rfl⟩
    rw [hA2] at hsl2
    have R1:=zH ((H.out.below b01).pre (k:=i) (by omega))
    have R2:=(H.out.below b01).mid (lo:=i+1) (hi:=k) (cap:=c) (by omega) (by omega) hnc
    rw [hA2] at R2
    have R2:=zH R2
    obtain ⟨m2,hm2⟩:∃ m2,k - (i+1)=m2:=⟨_,rfl⟩
    rw [hm2] at hsl2
    clear hA2
    go_upto_region 6 with fail
    go_cut [7] (fun v wx=>Own7 (l.take i++(l.drop (i+1)).take (k - (i+1))) (i+m2) w1 v wx)
    case first =>
     have hz4:(Value.agg #[.int .i64 0,.int .i64 0,.int .i64 0,.int .i64 0]).cells.size=4:=rfl
     have OWN0:(w1.alloc (.cells #[] 39)).drew.ownsRow w1.heap.size 39 4 (.slice (some ⟨w1.heap.size,0,none⟩) 0 0) 0 []:=ownsRow_drew (World.ownsRow_lit w1 #[] 0 (size:=4) (e:=39) zR (by simp [maxLen]) rfl)
     have SRC0:Rd (w1.alloc (.cells #[] 39)).drew 4 A i (cellsG (l.take i)):=(R1.out.2.alloc _).drew
     have BW0:Below w1.heap.size w1 (w1.alloc (.cells #[] 39)).drew:=((zW).alloc zR _).drew
     have R2':Hid (Rd w1 4 A2 m2 (cellsG ((l.drop (i+1)).take (k - (i+1))))):=by
      have h2:=R2.out.2;rw [hm2] at h2;rw [hm2];exact h2
     have GLUE:=zH (cellsG_append (l.take i) ((l.drop (i+1)).take (k - (i+1))))
     have hm2b:i+m2<=n:=by omega
     clear hm2 HG FIN R2
     go_region_held3 (fun w'=>True) (first | trivial | skip)
      (first
       |(refine step_app0 (by rfl) (.tmp 22) (.tmp 25) 24 (by rfl) Tryz.underlying24 infoGate hz4 (by decide) (by simp [Act.eval]<;>rfl) OWN0 (by simp [Act.eval]<;>rfl) SRC0 one_cellsG (by omega) (by decide) BW0.size ?_;intro A3 c3 w3 o3 g3;have BW3:Below w1.heap.size w1 w3:=below_grown BW0 BW0.size OWN0 zR g3;have SRC1:=R2'.out.below BW3)
       |(refine step_app (by rfl) (.tmp 26) (.tmp 31) 24 (by rfl) Tryz.underlying24 infoGate hz4 (by decide) (by simp [Act.eval]<;>rfl) o3 (by simp [Act.eval]<;>rfl) SRC1 one_cellsG (by omega) (by decide) BW3.size ?_;intro A4 c4 w4 o4 g4))
     all_goals go_wp2_with fail
     all_goals go_meet
     all_goals exact ⟨A4,c4,rfl,by rw [GLUE.out];exact o4,below_grown BW3 BW3.size o3 zR g4⟩
    case rest =>
     obtain ⟨A3,c3,rfl,o3,b3⟩:=hcut
     obtain ⟨wd,rfl⟩:∃ wd,wd=wc:=⟨_,rfl⟩
     have b03:=b01.trans (b3.mono b01.size)
     have O1:=ownsRow_below o1 b3
     have AP:=own_apart o1 o3 zR
     have hsl3:=sl_l A n c (k+1) (by omega)
     rw [Int.natCast_succ] at hsl3
     obtain ⟨A4,hA4⟩:∃ A4,(if c=k+1 then A else A.map (·.add ((k+1) * 4)))=A4:=⟨_,rfl⟩
     rw [hA4] at hsl3
     obtain ⟨m4,hm4⟩:∃ m4,n - (k+1)=m4:=⟨_,rfl⟩
     have R4:=zH (show ∀ wx,Below w.heap.size w wx->Rd wx 4 A4 m4 (cellsG (l.drop (k+1))) from fun wx bx=>by
      have h4:=(H.out.below bx).cut (k:=k+1) (cap:=c) (by omega) hnc
      rw [hA4,hm4] at h4
      exact h4.2)
     rw [hm4] at hsl3
     have hwk:IntKind.i64.wrap ((k:Int)+1)=(k:Int)+1:=by rw [IntKind.wrap_i64];omega
     have hkn:(k:Int)+1<=(n:Int):=by omega
     obtain ⟨m1,hm1⟩:∃ m1,(mergeL g h).length=m1:=⟨_,rfl⟩
     have HM1:=zH hm1
     rw [hm1] at hml
     have LEN:=zH (show (stepL l).length=i+m2+m1+m4 by
      rw [FIN.out.1,HG.out]
      have:=H.out.1
      simp only [List.length_append,List.length_take,List.length_drop,hm1];omega)
     have hbd:i+m2+m1+m4<=1099511627777:=by omega
     have GLUE:=zH (show cellsG (stepL l)=(cellsG (l.take i++(l.drop (i+1)).take (k - (i+1)))++cellsG (mergeL g h))++cellsG (l.drop (k+1)) by
      rw [FIN.out.1,HG.out];simp [cellsG_append])
     have SB:=zH FIN.out.2
     rw [hm1] at O1 AP
     have O1:=zH O1
     have AP:=zH AP
     have O3:=zH o3
     rw [hm1]
     clear hm1 hm2 hm4 hA4 FIN HG o1 o3 hsl1 hsl2 R1 R2
     have hz4:(Value.agg #[.int .i64 0,.int .i64 0,.int .i64 0,.int .i64 0]).cells.size=4:=rfl
     have SRC1:Rd wd.drew 4 A1 m1 (cellsG (mergeL g h)):=(Rd.own O1.out).drew
     have OWN1:wd.drew.ownsRow w1.heap.size 39 4 (.slice A3 (i+m2) c3) (i+m2) (cellsG (l.take i++(l.drop (i+1)).take (k - (i+1)))):=ownsRow_drew O3.out
     have hbs1:w1.heap.size<=wd.drew.heap.size:=b3.size
     have B3:Below w1.heap.size w1 wd.drew:=b3.drew
     go_wp2_with fail
     go_region_held3 (fun w'=>True) (first | trivial | skip)
      (first
       |(refine step_app (by rfl) (.tmp 33) (.tmp 34) 24 (by rfl) Tryz.underlying24 infoGate hz4 (by decide) (by simp [Act.eval]<;>rfl) OWN1 (by simp [Act.eval]<;>rfl) SRC1 one_cellsG (by omega) (by decide) hbs1 ?_;intro A5 c5 w5 o5 g5;have BW5:Below w1.heap.size w1 w5:=below_grown B3 hbs1 OWN1 zR g5;have SRC2:=R4.out w5 (b01.trans (BW5.mono b01.size)))
       |(refine step_app (by rfl) (.tmp 35) (.tmp 39) 24 (by rfl) Tryz.underlying24 infoGate hz4 (by decide) (by simp [Act.eval]<;>rfl) o5 (by simp [Act.eval]<;>rfl) SRC2 one_cellsG (by omega) (by decide) BW5.size ?_;intro A6 c6 w6 o6 g6))
     all_goals go_wp2_with fail
     all_goals go_ret2
     all_goals
      rw [SB.out]
      exact ⟨A6,c6,by rw [LEN.out];rfl,by rw [LEN.out,GLUE.out];exact ownsRow_base o6 b01.size,b01.trans ((below_grown BW5 BW5.size o5 zR g6).mono b01.size)⟩
  ·have HO:=zH (show stepL l=l/\stepOk l=false by
    have e:findStep l 0=none:=by rw [<- HS.out,List.drop_eq_nil_of_le (by have:=H.out.1;omega)];rfl
    simp [stepL,stepOk,e])
   have OWN0:=zH (World.ownsRow_lit wr #[] 0 (size:=4) (e:=39) zR (by simp [maxLen]) rfl)
   have hbs:=hb.size
   go_wp2_with (at_builtin;refine wpList_app0 rfl (.tmp 41) (.tmp 42) 24 rfl Tryz.underlying24 infoGate rfl (by decide) rfl OWN0.out rfl ((H.out.below hb).2.alloc _) one_cellsG (by omega) (by decide) (by simp) ?_;intro A2 c2 w2 o2 g2)
   go_ret2
   have hl:=H.out.1
   have b2:Below wr.heap.size wr w2:=below_grown ((zW).alloc zR _) (by simp) OWN0.out zR g2
   rw [HO.out.1,HO.out.2]
   exact ⟨A2,c2,by rw [hl];rfl,by rw [hl];exact ownsRow_base o2 hb.size,hb.trans (b2.mono hb.size)⟩
def ph (k:Int):Bool:=k == 1 || (k == 9 || (k == 11 || (units k != 0)))
def addLast (acc:List (List Gt)) (g:Gt):List (List Gt):=acc.set (acc.length - 1) (acc.getD (acc.length - 1) []++[g])
def secL:Bool->List (List Gt)->List Gt->List (List Gt)
 |_,acc,[]=>acc
 |o,acc,g :: r=>if (o && ph g.k)=true then secL (ph g.k) (addLast acc g) r else secL (ph g.k) (acc++[[g]]) r
def secs (gs:List Gt):List (List Gt):=secL false [] gs
theorem secL_add {o:Bool} {acc:List (List Gt)} {g:Gt} {r:List Gt} (h1:o=true) (h2:ph g.k=true):secL o acc (g :: r)=secL true (addLast acc g) r:=by rw [secL,h1,h2];rfl
theorem secL_new {o:Bool} {acc:List (List Gt)} {g:Gt} {r:List Gt} (h:o=false ∨ ph g.k=false):secL o acc (g :: r)=secL (ph g.k) (acc++[[g]]) r:=by
 rw [secL,if_neg]
 rcases h with h | h<;>rw [h]<;>simp
def RetGG (l:List (List Gt)) (w:World) (e:Ending) (w':World):Prop :=
 ∃ A c,e=.returned (.slice A l.length c)/\OwnSS cellsG w' w.heap.size 24 39 4 (.slice A l.length c) l/\Below w.heap.size w w'
theorem infoGateS:(Tryz.prog.info? 24).map (fun i=>(i.zero,i.size,i.bytes))=some (some (.slice none 0 0),1,24):=by kernel_rfl
theorem unitsZ (k:Int):(units k != 0)=decide (0 < units k):=by
 have:=units_bd k
 by_cases h:units k=0
 ·rw [h];rfl
 ·have:0 < units k:=by omega
  simp [h,this]
theorem totG_add {acc:List (List Gt)} (g:Gt) (h:0 < acc.length):(addLast acc g).length=acc.length/\∀ b,(∀ x ∈ acc,x.length<=b)->∀ x ∈ addLast acc g,x.length<=b+1:=by
 refine ⟨by simp [addLast],fun b hb x hx=>?_⟩
 unfold addLast at hx
 rcases List.mem_or_eq_of_mem_set hx with h1 | h1
 ·have:=hb x h1;omega
 ·rw [h1,List.length_append,List.length_singleton]
  rw [List.getD_eq_getElem?_getD,List.getElem?_eq_getElem (by omega),Option.getD_some]
  have:=hb _ (List.getElem_mem (by omega:acc.length - 1 < acc.length))
  omega
theorem own_uniqG {w:World} {b1 b2:Nat} {e:TypeId} {sz n:Nat} {v:Value} {xs ys:List Value} (h1:w.ownsRow b1 e sz v n xs) (h2:w.ownsRow b2 e sz v n ys):xs=ys:=by
 have l1:=h1.1
 have l2:=h2.1
 rcases h1.2 with ⟨rfl,rfl⟩ | ⟨g,cap,cur,rfl,_,hh,_,_,_,ht⟩
 ·rw [List.eq_nil_of_length_eq_zero (by omega:xs.length=0),List.eq_nil_of_length_eq_zero (by omega:ys.length=0)]
 ·rcases h2.2 with ⟨h3,_⟩ | ⟨g',cap',cur',h3,_,hh',_,_,_,ht'⟩
  ·simp at h3
  ·simp only [Value.slice.injEq,Option.some.injEq,Addr.mk.injEq,and_true,true_and] at h3
   obtain ⟨rfl,rfl⟩:=h3
   rw [hh] at hh'
   injection hh' with hh'
   injection hh' with hc _
   subst hc
   rw [<- ht,<- ht']
theorem i_isPhased (k a b c:Int) (w:World):Calls Tryz.prog 76 #[.agg #[.int .i64 k,.int .i64 a,.int .i64 b,.int .i64 c]] w fun e w'=>e=.returned (.bool (ph k))/\Below w.heap.size w w':=by
 by_cases h1:k=1
 ·subst h1
  go_enter Tryz.func76,Tryz.ntmps76
  go_wp2_with fail
  go_ret
  exact ⟨rfl,(zW).alloc zR _⟩
 ·have e1:(k == 1)=false:=by simpa using h1
  by_cases h2:k=9
  ·subst h2
   go_enter Tryz.func76,Tryz.ntmps76
   go_wp2_with fail
   go_ret
   exact ⟨rfl,(zW).alloc zR _⟩
  ·have e2:(k == 9)=false:=by simpa using h2
   by_cases h3:k=11
   ·subst h3
    go_enter Tryz.func76,Tryz.ntmps76
    go_wp2_with fail
    go_ret
    exact ⟨rfl,(zW).alloc zR _⟩
   ·have e3:(k == 11)=false:=by simpa using h3
    have HP:Hid (ph k=(units k != 0)):=zH (by unfold ph;rw [e1,e2,e3];rfl)
    clear h1 h2 h3
    go_enter Tryz.func76,Tryz.ntmps76
    go_wp2_with fail
    refine (i_RotationUnits _ _).mono ?_
    rintro e w1 ⟨rfl,rfl⟩
    go_wp2_with fail
    go_ret
    exact ⟨ret_bool (by rw [HP.out]),(zW).alloc zR _⟩
theorem s_l33Moves (k a b c:Int) (w:World):Calls Tryz.prog 98 #[.agg #[.int .i64 k,.int .i64 a,.int .i64 b,.int .i64 c]] w fun e w'=>e=.returned (.bool (ph k))/\Below w.heap.size w w':=by
 by_cases h1:k=1
 ·subst h1
  go_enter Tryz.func98,Tryz.ntmps98
  go_wp2_with fail
  go_ret
  exact ⟨rfl,(zW).alloc zR _⟩
 ·have e1:(k == 1)=false:=by simpa using h1
  by_cases h2:k=9
  ·subst h2
   go_enter Tryz.func98,Tryz.ntmps98
   go_wp2_with fail
   go_ret
   exact ⟨rfl,(zW).alloc zR _⟩
  ·have e2:(k == 9)=false:=by simpa using h2
   by_cases h3:k=11
   ·subst h3
    go_enter Tryz.func98,Tryz.ntmps98
    go_wp2_with fail
    go_ret
    exact ⟨rfl,(zW).alloc zR _⟩
   ·have e3:(k == 11)=false:=by simpa using h3
    have HP:Hid (ph k=(units k != 0)):=zH (by unfold ph;rw [e1,e2,e3];rfl)
    clear h1 h2 h3
    go_enter Tryz.func98,Tryz.ntmps98
    go_wp2_with fail
    refine (s_RotationUnits _ _).mono ?_
    rintro e w1 ⟨rfl,rfl⟩
    go_wp2_with fail
    go_ret
    exact ⟨ret_bool (by rw [HP.out];first | exact (unitsZ k).symm | simp [unitsZ]),(zW).alloc zR _⟩
set_option maxRecDepth 100000 in
theorem i_PhaseSections (A:Option Addr) (n cap:Nat) (gs:List Gt) (w:World) (h:RdG w A n gs) (hn:n<=1073741824):Calls Tryz.prog 41 #[.slice A n cap] w (RetGG (secs gs) w):=by
 have H:=zH h
 clear h
 obtain ⟨R,hR⟩:∃ R,secs gs=R:=⟨_,rfl⟩
 have HR:Hid (secL false [] gs=R):=zH hR
 rw [hR]
 clear hR
 go_enter Tryz.func41,Tryz.ntmps41
 go_wp2_with fail
 go_loopg [3,9] n (fun r v i wr=>∃ (k:Nat) (o:Bool) (l:List (List Gt)) (A0:Option Addr) (q c0:Nat),k+r=n/\i=.int .i64 k/\v=.slice A0 q c0/\l.length=q/\q<=k/\(0 < k->0 < q)/\(o=true->0 < k)/\(0 < k->∀ g',gs[k - 1]? = some g'->o=ph g'.k)/\(∀ x ∈ l,x.length<=k)/\secL o l (gs.drop k)=R/\OwnSS cellsG wr w.heap.size 24 39 4 (.slice A0 q c0) l/\Below w.heap.size w wr)
 case atStart=>exact ⟨0,false,[],_,0,0,by omega,rfl,rfl,rfl,by omega,(fun h=>absurd h (by omega)),(fun h=>by cases h),(fun h=>absurd h (by omega)),(fun x hx=>by simp at hx),HR.out,OwnSS.lit0 w zR _ _ _ _,(zW).alloc zR _⟩
 case round =>
  clear HR
  obtain ⟨k,o,l,A0,q,c0,hk,rfl,rfl,hl,hqk,hq0,ho0,hop,hrow,hq,ow,hb⟩:=hrel
  have HL:=zH hl
  have HO0:=zH ho0
  have HOP:=zH hop
  have HROW:=zH hrow
  have HQ:=zH hq
  have OW:=zH ow
  have HQ0:=zH hq0
  clear hl ho0 hop hrow hq ow hq0
  have hs0:=hb.size
  by_cases hlt:k < n
  ·obtain ⟨bg,fg,g,hA,hBg,hd,q0,q1,q2,q3⟩:=(H.out.below hb).at_ hlt
   subst hA
   have HD:=zH hd
   clear hd
   have HGK:Hid (gs[k]? = some g):=zH (by have:=congrArg (fun r=>r[0]?) HD.out;simpa using this)
   have B0:=zH (show Below w.heap.size w (wr.alloc (.cells #[.int .i64 g.k,.int .i64 g.a,.int .i64 g.b,.int .i64 g.c] 39)) from hb.alloc hs0 _)
   have X0:=zH (Bx.new wr 39 #[.int .i64 g.k,.int .i64 g.a,.int .i64 g.b,.int .i64 g.c])
   have O0:=zH (OW.out.alloc (.cells #[.int .i64 g.k,.int .i64 g.a,.int .i64 g.b,.int .i64 g.c] 39))
   have hkI:(k:Int) < (n:Int):=by omega
   have NEW:Hid (∀ (wx w5:World) (A5:Option Addr) (c5:Nat) (vs0:List Value),OwnSS cellsG wx w.heap.size 24 39 4 (.slice A0 q c0) l->wx.ownsRow w.heap.size 24 1 (.slice A0 q c0) q vs0->Below w.heap.size w wx->w5.ownsRow w.heap.size 24 1 (.slice A5 (q+1) c5) (q+1) (vs0++[.slice (some ⟨wx.heap.size,0,none⟩) 1 1])->((wx.alloc (.cells #[.int .i64 g.k,.int .i64 g.a,.int .i64 g.b,.int .i64 g.c] 39)).alloc (.cells #[.slice (some ⟨wx.heap.size,0,none⟩) 1 1] 24)).grownBy w5 (Value.slice A0 q c0).ownBlock->(o=false ∨ ph g.k=false)->(∃ (k':Nat) (o':Bool) (l':List (List Gt)) (A0':Option Addr) (q' c0':Nat),k'=k+1/\o'=ph g.k/\q'=q+1/\A0'=A5/\c0'=c5/\l'.length=q'/\q'<=k'/\(0 < k'->0 < q')/\(o'=true->0 < k')/\(0 < k'->∀ g',gs[k' - 1]? = some g'->o'=ph g'.k)/\(∀ x ∈ l',x.length<=k')/\secL o' l' (gs.drop k')=R/\OwnSS cellsG w5 w.heap.size 24 39 4 (.slice A0' q' c0') l'/\Below w.heap.size w w5)):=zH (by
    intro wx w5 A5 c5 vs0 hO hD hB h5 g5 hcnd
    have hsx:=hB.size
    have hne:(24:Nat) ≠ 39:=by decide
    have b1:Below wx.heap.size wx ((wx.alloc (.cells #[.int .i64 g.k,.int .i64 g.a,.int .i64 g.b,.int .i64 g.c] 39)).alloc (.cells #[.slice (some ⟨wx.heap.size,0,none⟩) 1 1] 24)):=((zW).alloc zR _).alloc (by simp) _
    refine ⟨k+1,ph g.k,l++[[g]],A5,q+1,c5,rfl,rfl,rfl,rfl,rfl,by rw [List.length_append,HL.out];rfl,by omega,fun _=>by omega,fun _=>by omega,fun _ g' hg'=>?_,fun x hx=>?_,?_,?_,?_⟩
    ·rw [show k+1 - 1=k from by omega,HGK.out] at hg'
     injection hg' with hg'
     rw [hg']
    ·rcases List.mem_append.1 hx with hx | hx
     ·have:=HROW.out x hx;omega
     ·simp at hx;subst hx;simp
    ·rw [<- HQ.out,HD.out,secL_new hcnd]
    ·have hap:=OwnSS.app (cs:=cellsG) (B:=wx.heap.size) (w0:=wx) (w1:=(wx.alloc (.cells #[.int .i64 g.k,.int .i64 g.a,.int .i64 g.b,.int .i64 g.c] 39)).alloc (.cells #[.slice (some ⟨wx.heap.size,0,none⟩) 1 1] 24)) (w2:=w5) (l:=l) (l':=[[g]]) (vs':=[.slice (some ⟨wx.heap.size,0,none⟩) 1 1]) (v'':=.slice A5 (q+1) c5) hne hO zR hsx b1
      (fun j x hj=>by
       have h0:j=0:=by have:=(List.getElem?_eq_some_iff.1 hj).1;simp at this;omega
       subst h0
       simp at hj
       subst hj
       exact ⟨_,1,rfl,(World.ownsRow_lit (e:=39) (size:=4) wx #[.int .i64 g.k,.int .i64 g.a,.int .i64 g.b,.int .i64 g.c] 1 zR (by simp [maxLen]) rfl).alloc _⟩)
      (fun i j u u' hij hu hu'=>by
       have h1:=(List.getElem?_eq_some_iff.1 hu).1
       have h2:=(List.getElem?_eq_some_iff.1 hu').1
       simp at h1 h2
       omega)
      rfl g5 (fun vs hv=>by rw [HL.out] at hv ⊢;rw [own_uniqG hv ((hD.alloc _).alloc _)];exact h5)
     exact hap
    ·exact below_grown ((hB.alloc hsx _).alloc (by simp<;>omega) _) (by simp<;>omega) ((hD.alloc _).alloc _) zR g5)
   have EXT:Hid (∀ (wx w5:World) (go:Nat) (x:List Gt) (D D':Option Addr) (c c':Nat),A0=some ⟨go,0,none⟩->OwnSS cellsG wx w.heap.size 24 39 4 (.slice A0 q c0) l->l[q - 1]? = some x->wx.cell? ⟨go,q - 1,none⟩=some (.slice D x.length c)->wx.ownsRow w.heap.size 39 4 (.slice D x.length c) x.length (cellsG x)->Below w.heap.size w wx->w5.ownsRow w.heap.size 39 4 (.slice D' (x.length+1) c') (x.length+1) (cellsG x++g.cells)->wx.grownBy w5 (Value.slice D x.length c).ownBlock->((Value.slice D' (x.length+1) c').ownBlock=(Value.slice D x.length c).ownBlock ∨ ∀ b,(Value.slice D' (x.length+1) c').ownBlock=some b->wx.heap.size<=b)->o=true->ph g.k=true->(∃ (k':Nat) (o':Bool) (l':List (List Gt)),k'=k+1/\o'=true/\l'.length=q/\q<=k'/\(0 < k'->0 < q)/\(o'=true->0 < k')/\(0 < k'->∀ g',gs[k' - 1]? = some g'->o'=ph g'.k)/\(∀ x ∈ l',x.length<=k')/\secL o' l' (gs.drop k')=R/\OwnSS cellsG (w5.setCell ⟨go,q - 1,none⟩ (.slice D' (x.length+1) c')) w.heap.size 24 39 4 (.slice A0 q c0) l'/\Below w.heap.size w (w5.setCell ⟨go,q - 1,none⟩ (.slice D' (x.length+1) c')))):=zH (by
    intro wx w5 go x D D' c c' hA0 hO hx hcell hown hB h5 g5 hbb ho hph
    subst hA0
    have hq0:0 < q:=HQ0.out (HO0.out ho)
    have hadd:addLast l g=l.set (q - 1) (x++[g]):=by unfold addLast;rw [HL.out,List.getD_eq_getElem?_getD,hx,Option.getD_some]
    obtain ⟨t1,t2⟩:=totG_add (acc:=l) g (by rw [HL.out];exact hq0)
    have hxl:(x++[g]).length=x.length+1:=by simp
    have hext:=OwnSS.ext (cs:=cellsG) (w1:=w5) (c':=c') (D':=D') (y:=x++[g]) (by decide) hO hx hcell g5 (by rw [hxl,cellsG_append];exact h5) (by rw [hxl];exact hbb)
    rw [hxl,<- hadd] at hext
    obtain ⟨vs,a1,_⟩:=hO
    refine ⟨k+1,true,addLast l g,rfl,rfl,by rw [t1,HL.out],by omega,fun _=>hq0,fun _=>by omega,fun _ g' hg'=>?_,fun y hy=>?_,?_,hext,?_⟩
    ·rw [show k+1 - 1=k from by omega,HGK.out] at hg'
     injection hg' with hg'
     rw [<- hg',hph]
    ·have:=t2 k HROW.out y hy
     omega
    ·rw [<- HQ.out,HD.out,secL_add ho hph]
    ·exact (below_grown hB hB.size hown zR g5).setCell (a1.lt go rfl).1 _)
   by_cases hk0:k=0
   ·have ho:o=false:=by cases o with | false=>rfl | true=>exact absurd (HO0.out rfl) (by omega)
    have hkf:¬ (0 < k):=by omega
    have hkg:¬ ((0:Int) < (k:Int)):=by omega
    clear hk0
    obtain ⟨x0,x1,x2,x3,_,_,_,_⟩:=X0.out.four
    obtain ⟨vs0,d1,d2,d3⟩:=O0.out
    rw [HL.out] at d1
    have D1:=zH d1
    clear d1 d2 d3
    have hsx:=B0.out.size
    have DA:=zH ((D1.out.alloc (.cells #[.int .i64 g.k,.int .i64 g.a,.int .i64 g.b,.int .i64 g.c] 39)).alloc (.cells #[.slice (some ⟨wr.heap.size+1,0,none⟩) 1 1] 24))
    have RA:=zH (show Rd (((wr.alloc (.cells #[.int .i64 g.k,.int .i64 g.a,.int .i64 g.b,.int .i64 g.c] 39)).alloc (.cells #[.int .i64 g.k,.int .i64 g.a,.int .i64 g.b,.int .i64 g.c] 39)).alloc (.cells #[.slice (some ⟨wr.heap.size+1,0,none⟩) 1 1] 24)) 1 (some ⟨wr.heap.size+1+1,0,none⟩) 1 [.slice (some ⟨wr.heap.size+1,0,none⟩) 1 1] from by have:=Rd.lit ((wr.alloc (.cells #[.int .i64 g.k,.int .i64 g.a,.int .i64 g.b,.int .i64 g.c] 39)).alloc (.cells #[.int .i64 g.k,.int .i64 g.a,.int .i64 g.b,.int .i64 g.c] 39)) 24 #[.slice (some ⟨wr.heap.size+1,0,none⟩) 1 1] 1 1 rfl;rw [World.size_alloc,World.size_alloc] at this;exact this)
    go_wp2_with (at_builtin;refine wpList_app rfl (.tmp 42) (.tmp 45) 42 rfl Tryz.underlying42 infoGateS rfl (by decide) rfl DA.out rfl RA.out (by simp [Value.oneCell']) (by omega) (by decide) (by simp<;>omega) ?_;intro A5 c5 w5 o5 g5)
    have NW:=NEW.out (wr.alloc (.cells #[.int .i64 g.k,.int .i64 g.a,.int .i64 g.b,.int .i64 g.c] 39)) w5 A5 c5 vs0 O0.out D1.out B0.out
    simp only [World.size_alloc] at NW
    obtain ⟨k',o',l',A0',q',c0',rfl,rfl,rfl,rfl,rfl,f1,f2,f3,f4,f5,f6,f7,f8,f9⟩:=NW o5 g5 (.inl ho)
    go_roundg (gk - 1)
    case measure=>omega
    case rel=>exact ⟨k+1,ph g.k,l',A0',q+1,c0',by omega,by go_num,rfl,f1,f2,f3,f4,f5,f6,f7,f8,f9⟩
   ·have hk1:(0:Int) < (k:Int):=by omega
    have hk2:0 < k:=by omega
    go_wp2_with fail
    refine (i_isPhased _ _ _ _ _).mono ?_
    rintro e w1 ⟨rfl,b1⟩
    have X1:=zH (X0.out.below b1)
    have O1:=zH (O0.out.below b1)
    have B1:=zH (below_trans B0.out b1)
    clear b1 q0 q1 q2 q3
    cases hph:ph g.k
    ·have HPH:=zH hph
     clear hph
     obtain ⟨x0,x1,x2,x3,_,_,_,_⟩:=X1.out.four
     obtain ⟨vs0,d1,d2,d3⟩:=O1.out
     rw [HL.out] at d1
     have D1:=zH d1
     clear d1 d2 d3
     have hsx:=B1.out.size
     have DA:=zH ((D1.out.alloc (.cells #[.int .i64 g.k,.int .i64 g.a,.int .i64 g.b,.int .i64 g.c] 39)).alloc (.cells #[.slice (some ⟨w1.heap.size,0,none⟩) 1 1] 24))
     have RA:=zH (show Rd (((w1).alloc (.cells #[.int .i64 g.k,.int .i64 g.a,.int .i64 g.b,.int .i64 g.c] 39)).alloc (.cells #[.slice (some ⟨w1.heap.size,0,none⟩) 1 1] 24)) 1 (some ⟨w1.heap.size+1,0,none⟩) 1 [.slice (some ⟨w1.heap.size,0,none⟩) 1 1] from by have:=Rd.lit ((w1).alloc (.cells #[.int .i64 g.k,.int .i64 g.a,.int .i64 g.b,.int .i64 g.c] 39)) 24 #[.slice (some ⟨w1.heap.size,0,none⟩) 1 1] 1 1 rfl;rw [World.size_alloc] at this;exact this)
     go_wp2_with (at_builtin;refine wpList_app rfl (.tmp 42) (.tmp 45) 42 rfl Tryz.underlying42 infoGateS rfl (by decide) rfl DA.out rfl RA.out (by simp [Value.oneCell']) (by omega) (by decide) (by simp<;>omega) ?_;intro A5 c5 w5 o5 g5)
     have NW:=NEW.out (w1) w5 A5 c5 vs0 O1.out D1.out B1.out
     obtain ⟨k',o',l',A0',q',c0',rfl,rfl,rfl,rfl,rfl,f1,f2,f3,f4,f5,f6,f7,f8,f9⟩:=NW o5 g5 (.inr HPH.out)
     go_roundg (gk - 1)
     case measure=>omega
     case rel=>exact ⟨k+1,ph g.k,l',A0',q+1,c0',by omega,by go_num,rfl,f1,f2,f3,f4,f5,f6,f7,f8,f9⟩
    ·have HPH:=zH hph
     clear hph
     obtain ⟨kp,hkp⟩:∃ kp,k=kp+1:=⟨k - 1,by omega⟩
     obtain ⟨bp,fp,g',hA',hBp,hd',r0,r1,r2,r3⟩:=(H.out.below B1.out).at_ (show kp < n by omega)
     injection hA' with hA'
     injection hA' with e1 e2 _
     subst e1 e2
     have hoo:=HOP.out hk2 g' (by rw [hkp];have:=congrArg (fun r=>r[0]?) hd';simpa using this)
     have HOO:=zH hoo
     have hkk:(k:Int) - 1=(kp:Int):=by omega
     have hkpn:(kp:Int) < (n:Int):=by omega
     have HKP:=zH hkp
     clear hoo hd' hkp
     go_wp2_with fail
     refine (i_isPhased _ _ _ _ _).mono ?_
     rintro e w2 ⟨rfl,b2⟩
     have X2:=zH (X1.out.below b2)
     have O2:=zH (O1.out.below b2)
     have B2:=zH (below_trans B1.out b2)
     clear b2 r0 r1 r2 r3 X1 O1 B1 hkk
     cases hph2:ph g'.k
     ·have HO:=zH (HOO.out.trans hph2)
      clear hph2
      obtain ⟨x0,x1,x2,x3,_,_,_,_⟩:=X2.out.four
      obtain ⟨vs0,d1,d2,d3⟩:=O2.out
      rw [HL.out] at d1
      have D1:=zH d1
      clear d1 d2 d3
      have hsx:=B2.out.size
      have DA:=zH ((D1.out.alloc (.cells #[.int .i64 g.k,.int .i64 g.a,.int .i64 g.b,.int .i64 g.c] 39)).alloc (.cells #[.slice (some ⟨w2.heap.size,0,none⟩) 1 1] 24))
      have RA:=zH (show Rd (((w2).alloc (.cells #[.int .i64 g.k,.int .i64 g.a,.int .i64 g.b,.int .i64 g.c] 39)).alloc (.cells #[.slice (some ⟨w2.heap.size,0,none⟩) 1 1] 24)) 1 (some ⟨w2.heap.size+1,0,none⟩) 1 [.slice (some ⟨w2.heap.size,0,none⟩) 1 1] from by have:=Rd.lit ((w2).alloc (.cells #[.int .i64 g.k,.int .i64 g.a,.int .i64 g.b,.int .i64 g.c] 39)) 24 #[.slice (some ⟨w2.heap.size,0,none⟩) 1 1] 1 1 rfl;rw [World.size_alloc] at this;exact this)
      go_wp2_with (at_builtin;refine wpList_app rfl (.tmp 42) (.tmp 45) 42 rfl Tryz.underlying42 infoGateS rfl (by decide) rfl DA.out rfl RA.out (by simp [Value.oneCell']) (by omega) (by decide) (by simp<;>omega) ?_;intro A5 c5 w5 o5 g5)
      have NW:=NEW.out (w2) w5 A5 c5 vs0 O2.out D1.out B2.out
      obtain ⟨k',o',l',A0',q',c0',rfl,rfl,rfl,rfl,rfl,f1,f2,f3,f4,f5,f6,f7,f8,f9⟩:=NW o5 g5 (.inl HO.out)
      go_roundg (gk - 1)
      case measure=>omega
      case rel=>exact ⟨k+1,ph g.k,l',A0',q+1,c0',by omega,by go_num,rfl,f1,f2,f3,f4,f5,f6,f7,f8,f9⟩
     ·have HO:=zH (HOO.out.trans hph2)
      clear hph2
      have hq0:0 < q:=HQ0.out (HO0.out HO.out)
      obtain ⟨L,hL⟩:∃ L,q=L+1:=⟨q - 1,by omega⟩
      obtain ⟨go,cap1,x,D,dc,hv,hdx,cc,ff,ox,_⟩:=OwnSS.at_ (by decide) O2.out (k:=L) (by rw [HL.out];omega)
      rw [HL.out] at hv
      injection hv with hv1 _ hv3
      subst hv1 hv3
      have hxk:=HROW.out x (List.mem_of_mem_drop (i:=L) (by rw [hdx];simp))
      have HXL:Hid (l[L]? = some x):=zH (by have:=congrArg (fun r=>r[0]?) hdx;simpa using this)
      have hqL:q - 1=L:=by omega
      obtain ⟨vs0,d1,d2,d3⟩:=O2.out
      rw [HL.out] at d1
      have HVL:Hid (vs0[L]? = some (.slice D x.length dc)):=zH (by rw [<- d1.cellAt L (by omega)];exact cc)
      have EX0:=EXT.out ((w2).alloc (.cells #[.int .i64 g.k,.int .i64 g.a,.int .i64 g.b,.int .i64 g.c] 39)).drew
      rw [hqL] at EX0
      have EX:=zH EX0
      have CA:=zH (show ((w2).alloc (.cells #[.int .i64 g.k,.int .i64 g.a,.int .i64 g.b,.int .i64 g.c] 39)).drew.cell? ⟨go,L,none⟩=some (.slice D x.length dc) from (((Below.refl (w2).heap.size (w2)).alloc zR (.cells #[.int .i64 g.k,.int .i64 g.a,.int .i64 g.b,.int .i64 g.c] 39)).cell (p:=⟨go,L,none⟩) (World.block_lt_of_cell? _ _ cc)).trans cc)
      have OSA:=zH (show OwnSS cellsG ((w2).alloc (.cells #[.int .i64 g.k,.int .i64 g.a,.int .i64 g.b,.int .i64 g.c] 39)).drew w.heap.size 24 39 4 (.slice (some ⟨go,0,none⟩) q c0) l from O2.out.alloc _)
      have BA:=zH (show Below w.heap.size w ((w2).alloc (.cells #[.int .i64 g.k,.int .i64 g.a,.int .i64 g.b,.int .i64 g.c] 39)).drew from (B2.out.alloc B2.out.size _).drew)
      have OXA:=zH (show ((w2).alloc (.cells #[.int .i64 g.k,.int .i64 g.a,.int .i64 g.b,.int .i64 g.c] 39)).drew.ownsRow w.heap.size 39 4 (.slice D x.length dc) x.length (cellsG x) from ox.alloc _)
      have DA1:=zH (show ((w2).alloc (.cells #[.int .i64 g.k,.int .i64 g.a,.int .i64 g.b,.int .i64 g.c] 39)).drew.ownsRow w.heap.size 24 1 (.slice (some ⟨go,0,none⟩) q c0) q vs0 from d1.alloc _)
      have RA:=zH (show Rd ((w2).alloc (.cells #[.int .i64 g.k,.int .i64 g.a,.int .i64 g.b,.int .i64 g.c] 39)).drew 4 (some ⟨(w2).heap.size,0,none⟩) 1 g.cells from Rd.lit (w2) 39 #[.int .i64 g.k,.int .i64 g.a,.int .i64 g.b,.int .i64 g.c] 1 4 rfl)
      have hz4:(Value.agg #[.int .i64 0,.int .i64 0,.int .i64 0,.int .i64 0]).cells.size=4:=rfl
      obtain ⟨nx,hnx⟩:∃ nx,x.length=nx:=⟨_,rfl⟩
      have HNX:=zH hnx
      rw [hnx] at cc hxk HVL CA OXA
      have CA':=CA.out
      have hsx:=B2.out.size
      have one4:∀ u ∈ g.cells,u.oneCell'=true:=by simp [Gt.cells,Value.oneCell']
      have ONE4:=zH one4
      have hLq:L < q * 1:=by omega
      have hLi:(L:Int) < (q:Int):=by omega
      have hLj:L < q:=by omega
      have hLz:(0:Int)<=(L:Int):=by omega
      have HLE:=zH hL
      have hgo:=World.block_lt_of_cell? _ _ cc
      obtain ⟨x0,x1,x2,x3,_,_,_,_⟩:=X2.out.four
      have nn:=World.new_ne (w2) _ cc
      have hw1:IntKind.i64.wrap ((q:Int) - 1)=(L:Int):=by rw [IntKind.wrap_i64];omega
      have hw3:IntKind.i64.wrap (L:Int)=(L:Int):=by rw [IntKind.wrap_i64];omega
      have hw2:(q:Int) - 1=(L:Int):=by omega
      clear d1 d2 d3 hdx ox hL hnx hqL EX0 one4
      go_wp2_with fail
      go_region_law
       (first | (refine step_app2 (by rfl) (.tmp 37) (.tmp 39) 24 (by rfl) Tryz.underlying24 infoGate hz4 (by decide) (by simp [Act.eval]<;>rfl) OXA.out (by simp [Act.eval]<;>rfl) RA.out ONE4.out (by omega) (by decide) (by simp<;>omega) ?_;intro A5 c5 w5 o5 g5 hb5;have D5:=DA1.out.kept g5 (own_types DA1.out OXA.out (by decide));have cl5:=(D5.cellAt L hLq).trans HVL.out;have fl5:=D5.frozenAt L) | fail)
      all_goals clear hw1 hw2 hw3
      all_goals go_wp2_with fail
      all_goals have h5:=EX.out w5 go x D A5 dc c5 rfl OSA.out HXL.out (by rw [HNX.out];exact CA.out) (by rw [HNX.out];exact OXA.out) BA.out (by rw [HNX.out];exact o5) (by rw [HNX.out];exact g5) (by rw [HNX.out];exact hb5) HO.out HPH.out
      all_goals rw [HNX.out] at h5
      all_goals obtain ⟨k',o',l',rfl,rfl,f1,f2,f3,f4,f5,f6,f7,f8,f9⟩:=h5
      all_goals go_roundg (gk - 1)
      all_goals first
       |omega
       |exact ⟨k+1,true,l',some ⟨go,0,none⟩,q,c0,by omega,by go_num,rfl,f1,f2,f3,f4,f5,f6,f7,f8,f9⟩
  ·go_wp2_with fail
   go_ret
   have hend:l=R:=by rw [<- HQ.out,List.drop_eq_nil_of_le (by have:=H.out.1;omega),secL]
   have e1:=HL.out
   subst hend
   subst e1
   exact ⟨A0,c0,rfl,OW.out,hb⟩
end Go.Proofs.YtmenmibfkojnoaaGreat
