/- Contract of CircuitTableau (impl): Clifford circuits of at most 60 gates; the zero tableau for what is no valid circuit. Contract of l34At (spec). Plain facts on ComputePhasePolynomial; its contract (impl). At most 2^36 gates. Plain: what phase folding comes to. Nothing is asked. Contracts of eqPhasePolynomial, markPhasePolynomial, heldPhasePolynomial. At most 2^39 terms and outputs. A box that ... -/
import Derived.Test.YtmenmibfkojnoaaGreatV19
import Derived.Test.YtmenmibfkojnoaaGreatV16
import Derived.Test.YtmenmibfkojnoaaGreatV10
import Derived.Test.YtmenmibfkojnoaaGreatV23
import Derived.Test.YtmenmibfkojnoaaGreatV24
import Derived.Test.YtmenmibfkojnoaaGreatV09
import Derived.Test.YtmenmibfkojnoaaGreatV18
import Derived.Test.YtmenmibfkojnoaaGreatV22
import Derived.StillTailTactics
import Derived.Deep.RegionHeld3
set_option maxHeartbeats 16000000
namespace Go.Proofs.YtmenmibfkojnoaaGreat
open Go.RowKit
set_option linter.unusedVariables false
theorem own_farT {w:World} {base:Nat} {e t:TypeId} {sz n g:Nat} {v:Value} {xs:List Value} {cs:Array Value} (h:w.ownsRow base e sz v n xs) (hg:Bx w g t cs) (hne:e ≠ t) (i:Nat) (u:Value):(w.setCell ⟨g,i,none⟩ u).ownsRow base e sz v n xs:=by
 have hb:w.grownBy (w.setCell ⟨g,i,none⟩ u) (some g):=⟨rfl,rfl,rfl,by simp [World.setCell],fun k hk hne=>Below.heap_setCell w _ _ k (fun e=>hne (by rw [e]))⟩
 refine h.kept hb ?_
 exact .inr fun e=>own_bx_ne h hg hne e.symm
def KB (w:World) (n O:Nat) (A0:Option Addr) (c0:Nat) (r:List Pq) (wx:World):Prop :=
 Bx wx O 73 #[.int .i64 (n:Nat),.slice A0 (2 * n) c0]/\wx.ownsRow w.heap.size 151 4 (.slice A0 (2 * n) c0) (2 * n) (cellsG (pgs n r))/\Below w.heap.size w wx/\w.heap.size<=O
section
variable {w wx w':World} {n O c0 c1:Nat} {A0 A1:Option Addr} {r r1:List Pq}
theorem KB.below (h:KB w n O A0 c0 r wx) (hb:Below wx.heap.size wx w'):KB w n O A0 c0 r w':=⟨h.1.below hb,ownsRow_below h.2.1 hb,below_trans h.2.2.1 hb,h.2.2.2⟩
theorem KB.alloc (h:KB w n O A0 c0 r wx) (o:Obj):KB w n O A0 c0 r (wx.alloc o):=h.below ((zW).alloc zR _)
theorem KB.drew (h:KB w n O A0 c0 r wx):KB w n O A0 c0 r wx.drew:=h.below (zW).drew
theorem KB.rd (h:KB w n O A0 c0 r wx):RdG wx A0 (2 * n) (pgs n r):=RdG.own h.2.1
theorem KB.cap (h:KB w n O A0 c0 r wx):2 * n<=c0:=ownsRow_cap h.2.1
theorem KB.put (h:KB w n O A0 c0 r wx) (ho:wx.ownsRow w.heap.size 151 4 (.slice A1 (2 * n) c1) (2 * n) (cellsG (pgs n r1))):KB w n O A1 c1 r1 (S2 wx O (.int .i64 (n:Nat)) (.slice A1 (2 * n) c1)):=by
 have h0:Bx (wx.setCell ⟨O,0,none⟩ (.int .i64 (n:Nat))) O 73 #[.int .i64 (n:Nat),.slice A0 (2 * n) c0]:=by simpa using h.1.set_ 0 (.int .i64 (n:Nat))
 exact ⟨h.1.set2 _ _,own_farT (own_farT ho h.1 (by decide) 0 _) h0 (by decide) 1 _,belowS2 h.2.2.1 h.2.2.2 _ _,h.2.2.2⟩
theorem KB.cells (h:KB w n O A0 c0 r wx):wx.cell? ⟨O,0,none⟩=some (.int .i64 (n:Nat))/\wx.cell? ⟨O,1,none⟩=some (.slice A0 (2 * n) c0)/\wx.frozen? ⟨O,0,none⟩=false/\wx.frozen? ⟨O,1,none⟩=false:=h.1.two
end
theorem okC_t {n:Nat} {l:List Gt} (hn:1<=n/\n<=4) (h:l.length<=60) (hl:∀ g ∈ l,okN n g=true):okC l n=true:=by
 unfold okC okA
 rw [inB_t (by omega) (by omega),decide_eq_true h,Bool.true_and,Bool.true_and]
 exact List.all_eq_true.2 fun g hg=>hl g hg
set_option maxRecDepth 100000 in
theorem i_CirTab (n m c:Nat) (A:Option Addr) (l:List Gt) (w:World) (hn:1<=n/\n<=4) (hr:RdG w A m l) (hm:m<=60) (hl:∀ g ∈ l,okN n g=true/\cliff g.k=true) (hi:okT n (idT n)) :
  Calls Tryz.prog 67 #[.agg #[.int .i64 (n:Nat),.slice A m c]] w (RetTab n (2 * n) (runT n l (idT n)) w):=by
 have X0:=zH (show Bx ((w.alloc (.cells #[.int .i64 (n:Nat),.slice A m c] 45)).alloc (.cells #[.int .i64 0,.slice none 0 0] 73)) w.heap.size 45 _ from (Bx.new w _ _).alloc _)
 have R0:=zH (show Bx ((w.alloc (.cells #[.int .i64 (n:Nat),.slice A m c] 45)).alloc (.cells #[.int .i64 0,.slice none 0 0] 73)) (w.heap.size+1) 73 #[.int .i64 0,.slice none 0 0] from Bx.new' (by simp))
 have B0:=zH (show Below w.heap.size w ((w.alloc (.cells #[.int .i64 (n:Nat),.slice A m c] 45)).alloc (.cells #[.int .i64 0,.slice none 0 0] 73)) from ((zW).alloc zR _).alloc (by simp) _)
 have HW:=zH hr
 have HL:=zH hl
 have HT:=zH hi
 have HV:=zH (okC_t hn (by rw [hr.1];exact hm) fun g hg=>(hl g hg).1)
 have x0:=X0.out.cell 0
 have x1:=X0.out.cell 1
 clear hr hl hi
 go_enter Tryz.func67,Tryz.ntmps67
 go_wp2_with fail
 refine (i_ValC A m c n l _ (HW.out.below B0.out) (by omega)).mono ?_
 rintro e w1 ⟨rfl,b1⟩
 rw [HV.out]
 have X1:=zH (X0.out.below b1)
 have R1:=zH (R0.out.below b1)
 have B1:=zH (below_trans B0.out b1)
 clear b1 X0 R0 B0 x0 x1
 have x0:=X1.out.cell 0
 have x1:=X1.out.cell 1
 go_wp2_with fail
 refine (i_IdTab n _ hn).mono ?_
 rintro e w2 ⟨A0,c0,rfl,o2,b2⟩
 have X2:=zH ((X1.out.below b2).alloc (.cells #[.int .i64 (n:Nat),.slice A0 (2 * n) c0] 73))
 have R2:=zH ((R1.out.below b2).alloc (.cells #[.int .i64 (n:Nat),.slice A0 (2 * n) c0] 73))
 have K2:=zH (show KB w n w2.heap.size A0 c0 (idT n) (w2.alloc (.cells #[.int .i64 (n:Nat),.slice A0 (2 * n) c0] 73)) from ⟨Bx.new _ _ _,ownsRow_base (o2.alloc _) B1.out.size,(below_trans B1.out b2).alloc (Nat.le_trans B1.out.size b2.size) _,Nat.le_trans B1.out.size b2.size⟩)
 have lt2:w.heap.size+1 < w2.heap.size:=(R1.out.below b2).lt
 clear o2 b2 X1 R1 B1 x0 x1
 have x1:=X2.out.cell 1
 obtain ⟨O,hO⟩:∃ O,O=w2.heap.size:=⟨_,rfl⟩
 rw [<- hO] at K2 lt2
 go_wp2_with fail
 rw [<- hO]
 clear hO
 go_loopg [19] m (fun q i wr=>∃ (k:Nat) (A0:Option Addr) (c0:Nat) (r:List Pq),k+q=m/\i=.int .i64 k/\okT n r/\runT n (l.drop k) r=runT n l (idT n)/\Bx wr w.heap.size 45 #[.int .i64 (n:Nat),.slice A m c]/\Bx wr (w.heap.size+1) 73 #[.int .i64 0,.slice none 0 0]/\KB w n O A0 c0 r wr)
 case atStart=>exact ⟨0,A0,c0,idT n,by omega,rfl,HT.out,rfl,X2.out,R2.out,K2.out⟩
 case round =>
  clear X2 R2 K2 x1
  obtain ⟨k,A0,c0,r,hk,rfl,hok,hrun,hX,hR,hK⟩:=hrel
  by_cases hlt:k < m
  ·obtain ⟨b,off,g,rfl,hB,hd,y0,y1,y2,y3⟩:=(HW.out.below hK.2.2.1).at_ hlt
   have HG:=zH (HL.out g (List.mem_of_mem_drop (i:=k) (by rw [hd];simp)))
   have HRUN:=zH (show runT n (l.drop (k+1)) (appT n g r)=runT n l (idT n) by rw [<- hrun,hd];rfl)
   have HO2:=zH (appT_ok HG.out.1 HG.out.2 hok)
   have HOK:=zH hok
   have X3:=zH (hX.alloc (.cells #[.int .i64 g.k,.int .i64 g.a,.int .i64 g.b,.int .i64 g.c] 39))
   have R3:=zH (hR.alloc (.cells #[.int .i64 g.k,.int .i64 g.a,.int .i64 g.b,.int .i64 g.c] 39))
   have K3:=zH (hK.alloc (.cells #[.int .i64 g.k,.int .i64 g.a,.int .i64 g.b,.int .i64 g.c] 39))
   obtain ⟨t0,t1,_⟩:=K3.out.cells
   clear hX hR hK hd hrun hok
   have hi0:(0:Int)<=(k:Int):=by omega
   have hi1:(k:Int) < (m:Int):=by omega
   go_wp2_with fail
   refine (i_TabApp n (2 * n) c0 A0 r g _ hn K3.out.rd K3.out.cap HOK.out HG.out.1 HG.out.2).mono ?_
   rintro e w5 ⟨A5,c5,rfl,o5,b5⟩
   have X5:=zH ((X3.out.below b5).alloc (.cells #[.int .i64 (n:Nat),.slice A5 (2 * n) c5] 73))
   have R5:=zH ((R3.out.below b5).alloc (.cells #[.int .i64 (n:Nat),.slice A5 (2 * n) c5] 73))
   have K5:=zH ((K3.out.below b5).alloc (.cells #[.int .i64 (n:Nat),.slice A5 (2 * n) c5] 73))
   have O5:=zH (ownsRow_base (base':=w.heap.size) (o5.alloc (.cells #[.int .i64 (n:Nat),.slice A5 (2 * n) c5] 73)) K3.out.2.2.1.size)
   clear t0 t1 o5 b5 X3 R3 K3
   obtain ⟨t0,t1,t2,t3⟩:=K5.out.cells
   go_wp2_with fail
   go_roundg (gk - 1)
   all_goals first
    |omega
    |exact ⟨k+1,A5,c5,appT n g r,by omega,by go_num,HO2.out,HRUN.out,X5.out.far2 (by omega) _ _,R5.out.far2 (by omega) _ _,K5.out.put O5.out⟩
  ·obtain rfl:k=m:=by omega
   have hfin:r=runT n l (idT n):=by rw [<- hrun,List.drop_eq_nil_of_le (by rw [HW.out.1];exact zR)];rfl
   rw [hfin] at hK
   have K5:=zH hK
   have R5:=zH hR
   obtain ⟨t0,t1,_⟩:=K5.out.cells
   obtain ⟨r0,r1,r2,r3⟩:=R5.out.two
   clear hX hR hK hrun hfin hok
   go_wp2_with fail
   have RB:=R5.out
   have hne:w.heap.size+1 ≠ O:=by omega
   have h1:Bx (wr.setCell ⟨w.heap.size+1,0,none⟩ (.int .i64 (n:Nat))) (w.heap.size+1) 73 #[.int .i64 (n:Nat),.slice none 0 0]:=by simpa using RB.set_ 0 (.int .i64 (n:Nat))
   with_reducible refine ret_S2 RB ?_ ?_ ⟨A0,c0,rfl,?_,?_⟩
   ·intro wS z0 z1;simp [results,Tryz.results67,go_sem,z0,z1]
   ·rfl
   ·exact own_farT (own_farT K5.out.2.1 RB (by decide) 0 _) h1 (by decide) 1 _
   ·exact belowS2 K5.out.2.2.1 (by omega) _ _
def RetAtS (g:Gt) (l:List Gt) (o:Option Nat) (w:World) (e:Ending) (w':World):Prop :=
 match o with
 |none=>e=.returned (.tuple #[.int .i64 (-1),.slice none 0 0])/\Below w.heap.size w w'
 |some k=>∃ (A:Option Addr) (c:Nat) (h:Gt),l.drop k=h :: l.drop (k+1)/\e=.returned (.tuple #[.int .i64 k,.slice A (mergeL g h).length c])/\w'.ownsRow w.heap.size 39 4 (.slice A (mergeL g h).length c) (mergeL g h).length (cellsG (mergeL g h))/\Below w.heap.size w w'
set_option maxRecDepth 100000 in
theorem s_l34At (A:Option Addr) (n c i:Nat) (l:List Gt) (g:Gt) (w:World) (h:RdG w A n l) (hi:i < n) (hn:n<=1099511627776) (hd:l.drop i=g :: l.drop (i+1)) :
  Calls Tryz.prog 105 #[.slice A n c,.int .i64 i] w (RetAtS g l (scanB g (l.drop (i+1)) (i+1)) w):=by
 have HD:=zH hd
 obtain ⟨b,off,rfl⟩:=h.first (by omega)
 have H:=zH h
 clear h hd
 go_enter Tryz.func105,Tryz.ntmps105
 go_wp2_with fail
 go_loopg [6] (n - (i+1)) (fun m j wr=>∃ k:Nat,k+m=n/\i+1<=k/\j=.int .i64 k/\scanB g (l.drop k) k=scanB g (l.drop (i+1)) (i+1)/\Below w.heap.size w wr)
 case atStart=>exact ⟨i+1,by omega,by omega,by go_num,rfl,zW⟩
 case round =>
  obtain ⟨k,hk,hik,rfl,hs,hb⟩:=hrel
  have HS:=zH hs
  clear hs
  by_cases hlt:k < n
  ·obtain ⟨_,p0,p1,p2,p3⟩:=(H.out.below hb).cellsAt HD.out
   have hd2:=drop_cons (l:=l) (k:=k) (by have:=H.out.1;omega)
   obtain ⟨h,hh⟩:∃ h,l[k]'(by have:=H.out.1;omega)=h:=⟨_,rfl⟩
   rw [hh] at hd2
   have HD2:=zH hd2
   clear hd2 hh
   obtain ⟨_,q0,q1,q2,q3⟩:=(H.out.below hb).cellsAt HD2.out
   have hi1:(i:Int) < (n:Int):=by omega
   have hk1:(k:Int) < (n:Int):=by omega
   go_wp2_with fail
   go_region_held3 (fun w'=>w'.cell? ⟨b,off+i * 4,none⟩=some (.int .i64 g.k)/\w'.cell? ⟨b,off+i * 4+1,none⟩=some (.int .i64 g.a)/\w'.cell? ⟨b,off+i * 4+2,none⟩=some (.int .i64 g.b)/\w'.cell? ⟨b,off+i * 4+3,none⟩=some (.int .i64 g.c)/\w'.cell? ⟨b,off+k * 4,none⟩=some (.int .i64 h.k)/\w'.cell? ⟨b,off+k * 4+1,none⟩=some (.int .i64 h.a)/\w'.cell? ⟨b,off+k * 4+2,none⟩=some (.int .i64 h.b)/\w'.cell? ⟨b,off+k * 4+3,none⟩=some (.int .i64 h.c))
    (first | go_keep | exact ⟨x0,x1,x2,x3,y0,y1,y2,y3⟩)
    (first | (go_at_call 141;(with_reducible refine (s_MergeGates g h _).mono ?_);rintro e w1 ⟨A1,c1,rfl,o1,b1⟩;have b01:=hb.drew.trans (b1.mono hb.size);have ⟨_,x0,x1,x2,x3⟩:=(H.out.below b01).cellsAt HD.out;have ⟨_,y0,y1,y2,y3⟩:=(H.out.below b01).cellsAt HD2.out))
   clear p0 p1 p2 p3 q0 q1 q2 q3
   cases hm:mergeOk g h
   ·have HM:=zH hm
    clear hm
    go_wp2_with fail
    go_still_tail 8,(by kernel_rfl)
    go_wp2_with fail
    refine (s_GatesCommute g h _).mono ?_
    rintro e w2 ⟨rfl,b2⟩
    have b02:=b01.drew.trans (b2.mono b01.size)
    cases hc:comm g h
    ·have FIN:=zH (show RetAtS g l (scanB g (l.drop (i+1)) (i+1)) w (.returned (.tuple #[.int .i64 (-1),.slice none 0 0])) w2 by
      rw [<- HS.out,HD2.out,scanB_no HM.out hc];exact ⟨rfl,b02⟩)
     clear hc
     go_wp2_with fail
     go_ret2
     exact FIN.out
    ·have FIN:=zH (show scanB g (l.drop (k+1)) (k+1)=scanB g (l.drop (i+1)) (i+1) by
      rw [<- HS.out,HD2.out,scanB_on HM.out hc])
     clear hc
     go_wp2_with fail
     go_roundg (gk - 1)
     case measure=>omega
     case rel=>exact ⟨k+1,by omega,by omega,by go_num,FIN.out,b02⟩
   ·have FIN:=zH (show RetAtS g l (scanB g (l.drop (i+1)) (i+1)) w (.returned (.tuple #[.int .i64 k,.slice A1 (mergeL g h).length c1])) w1 by
     rw [<- HS.out,HD2.out,scanB_yes hm];exact ⟨A1,c1,h,HD2.out,rfl,ownsRow_base o1 hb.size,b01⟩)
    clear hm
    go_wp2_with fail
    go_ret2
    exact FIN.out
  ·have FIN:=zH (show RetAtS g l (scanB g (l.drop (i+1)) (i+1)) w (.returned (.tuple #[.int .i64 (-1),.slice none 0 0])) wr by
    rw [<- HS.out,List.drop_eq_nil_of_le (by have:=H.out.1;omega)];exact ⟨rfl,hb⟩)
   go_wp2_with fail
   go_ret2
   exact FIN.out
theorem applyP_bd (p:Po) (g:Gt):(applyP p g).1.t.length<=p.t.length+1/\(applyP p g).1.o.length<=p.o.length/\((applyP p g).2=true->(applyP p g).1.N=p.N):=by
 cases h:okP p g
 ·rw [applyP_no h];exact ⟨by simp [Po.zero],by simp [Po.zero],fun h=>by cases h⟩
 ·rw [applyP_yes h]
  unfold actP
  split
  ·exact ⟨by simp,by simp,fun _=>rfl⟩
  split
  ·exact ⟨by simp,by simp,fun _=>rfl⟩
  split
  ·exact ⟨by simp,by simp,fun _=>rfl⟩
  split
  ·exact ⟨by simp [Po.zero],by simp [Po.zero],fun h=>by cases h⟩
  split
  ·exact ⟨addT_len _ _ _,zR,fun _=>rfl⟩
  ·exact ⟨addT_len _ _ _,zR,fun _=>rfl⟩
theorem own_set_ne4 {w':World} {base g1:Nat} {e:TypeId} {sz n:Nat} {v:Value} {xs:List Value} {a b c d:Value} (h:w'.ownsRow base e sz v n xs) (hg:some g1 ≠ v.ownBlock):((((w'.setCell ⟨g1,0,none⟩ a).setCell ⟨g1,1,none⟩ b).setCell ⟨g1,2,none⟩ c).setCell ⟨g1,3,none⟩ d).ownsRow base e sz v n xs :=
 own_set_ne (own_set_ne (own_set_ne (own_set_ne h (p:=⟨g1,0,none⟩) hg a) (p:=⟨g1,1,none⟩) hg b) (p:=⟨g1,2,none⟩) hg c) (p:=⟨g1,3,none⟩) hg d
theorem compL_go {p:Po} {g:Gt} {r:List Gt} (h:(applyP p g).2=true):compL p (g :: r)=compL (applyP p g).1 r:=by rw [compL,if_pos h]
theorem compL_no {p:Po} {g:Gt} {r:List Gt} (h:(applyP p g).2=false):compL p (g :: r)=(Po.zero,false):=by rw [compL,if_neg (by rw [h];simp)]
theorem compL_bd:∀ (gs:List Gt) (p:Po),(compL p gs).1.t.length<=p.t.length+gs.length/\(compL p gs).1.o.length<=p.o.length
 |[],p=>⟨by simp [compL],by simp [compL]⟩
 |g :: r,p=>by
  cases h:(applyP p g).2
  ·rw [compL_no h];exact ⟨by simp [Po.zero],by simp [Po.zero]⟩
  ·rw [compL_go h]
   have h1:=compL_bd r (applyP p g).1
   have h2:=applyP_bd p g
   rw [List.length_cons]
   exact ⟨by omega,by omega⟩
theorem compP_bd (gs:List Gt) (n:Int):(compP gs n).1.t.length<=gs.length/\(compP gs n).1.o.length<=4:=by
 unfold compP
 split
 ·have h:=inB_iff.1 ‹_›
  have h1:=compL_bd gs (idP n)
  have e:idP n=⟨n,0,[],idO n.toNat⟩:=by unfold idP;rw [if_pos ‹_›]
  rw [e] at h1 ⊢
  simp only [List.length_nil,idO_len] at h1
  exact ⟨by omega,by omega⟩
 ·exact ⟨by simp [Po.zero],by simp [Po.zero]⟩
set_option maxRecDepth 100000 in
theorem i_CompP (A:Option Addr) (n cap:Nat) (gs:List Gt) (N:Int) (w:World) (h:RdG w A n gs) (hn:n<=68719476736) :
  Calls Tryz.prog 77 #[.slice A n cap,.int .i64 N] w (RetPB (compP gs N) w):=by
 have H:=zH h
 have HL:=zH h.1
 clear h
 have X0:=zH (Bx.new w 88 #[.int .i64 0,.int .i64 0,.slice none 0 0,.slice none 0 0])
 have BZ:Hid (Below w.heap.size w (w.alloc (.cells #[.int .i64 0,.int .i64 0,.slice none 0 0,.slice none 0 0] 88))):=zH ((zW).alloc zR _)
 obtain ⟨R,hR⟩:∃ R,compP gs N=R:=⟨_,rfl⟩
 have HR:=zH hR
 rw [hR]
 clear hR
 cases hin:inB N 1 4
 ·have HI:=zH hin
  have HZ:Hid (R=(Po.zero,false)):=zH (by rw [<- HR.out];unfold compP;rw [hin];rfl)
  rw [HZ.out]
  clear hin
  obtain ⟨r0,r1,r2,r3,_⟩:=X0.out.four
  go_enter Tryz.func77,Tryz.ntmps77
  go_wp2_with fail
  refine (i_in _ _ _ _).mono ?_
  rintro e w' ⟨rfl,rfl⟩
  rw [HI.out]
  go_wp2_with fail
  refine bodyPost_ret (v:=.tuple #[.agg #[.int .i64 0,.int .i64 0,.slice none 0 0,.slice none 0 0],.bool false]) (by simp [results,Tryz.results77,go_sem]) rfl ⟨_,rfl,⟨none,0,none,0,rfl,World.ownsRow_nil _ _ _ _,World.ownsRow_nil _ _ _ _⟩,?_⟩
  exact (by repeat (first | exact zW | assumption | refine Below.drew ?_ | refine Below.alloc ?_ (by simp<;>omega) _))
 ·have HI:=zH hin
  have HC:Hid (compL (idP N) gs=R):=zH (by rw [<- HR.out];unfold compP;rw [hin];rfl)
  obtain ⟨hN1,hN4⟩:=inB_iff.1 hin
  have hid0:(idP N).t.length=0/\(idP N).o.length<=4:=by
   have e:idP N=⟨N,0,[],idO N.toNat⟩:=by unfold idP;rw [if_pos hin]
   rw [e];exact ⟨rfl,by rw [idO_len];omega⟩
  have HID:=zH hid0
  clear hin hN1 hN4 hid0 HR
  go_enter Tryz.func77,Tryz.ntmps77
  go_wp2_with fail
  refine (i_in _ _ _ _).mono ?_
  rintro e w' ⟨rfl,rfl⟩
  rw [HI.out]
  go_wp2_with fail
  refine (i_IdP _ _).mono ?_
  rintro e w1 ⟨v,rfl,⟨A1,c1,B1,d1,rfl,t1,o1⟩,b1⟩
  have X1:=zH ((X0.out.below b1).alloc (.cells #[.int .i64 (idP N).N,.int .i64 (idP N).H,.slice A1 (idP N).t.length c1,.slice B1 (idP N).o.length d1] 88))
  have XP:=zH (Bx.new w1 88 #[.int .i64 (idP N).N,.int .i64 (idP N).H,.slice A1 (idP N).t.length c1,.slice B1 (idP N).o.length d1])
  have T1:=zH (ownsRow_base (t1.alloc (.cells #[.int .i64 (idP N).N,.int .i64 (idP N).H,.slice A1 (idP N).t.length c1,.slice B1 (idP N).o.length d1] 88)) (show w.heap.size+1<=_ by simp))
  have O1:=zH (ownsRow_base (o1.alloc (.cells #[.int .i64 (idP N).N,.int .i64 (idP N).H,.slice A1 (idP N).t.length c1,.slice B1 (idP N).o.length d1] 88)) (show w.heap.size+1<=_ by simp))
  have BB:=zH ((below_trans BZ.out b1).alloc (below_trans BZ.out b1).size (.cells #[.int .i64 (idP N).N,.int .i64 (idP N).H,.slice A1 (idP N).t.length c1,.slice B1 (idP N).o.length d1] 88))
  have hs1:w.heap.size < w1.heap.size:=(X0.out.below b1).lt
  clear t1 o1 b1 X0 BZ
  generalize idP N=p0 at HC HID X1 XP T1 O1 BB ⊢
  go_wp2_with fail
  generalize hgp:w1.heap.size=gp at XP hs1 ⊢
  go_loopg [19] n (fun r i wr=>∃ (k:Nat) (p:Po) (A2:Option Addr) (c2:Nat) (B2:Option Addr) (d2:Nat),k+r=n/\i=.int .i64 k/\compL p (gs.drop k)=R/\p.t.length<=k/\p.o.length<=4/\Bx wr w.heap.size 88 #[.int .i64 0,.int .i64 0,.slice none 0 0,.slice none 0 0]/\Bx wr gp 88 #[.int .i64 p.N,.int .i64 p.H,.slice A2 p.t.length c2,.slice B2 p.o.length d2]/\wr.ownsRow (w.heap.size+1) 128 2 (.slice A2 p.t.length c2) p.t.length (cellsP p.t)/\wr.ownsRow (w.heap.size+1) 93 2 (.slice B2 p.o.length d2) p.o.length (cellsP p.o)/\Below w.heap.size w wr)
  case atStart=>exact ⟨0,p0,A1,c1,B1,d1,by omega,rfl,HC.out,by have:=HID.out.1;omega,HID.out.2,X1.out,XP.out,T1.out,O1.out,BB.out⟩
  case round =>
   clear X1 XP T1 O1 BB HC HID
   obtain ⟨k,p,A2,c2,B2,d2,hk,rfl,hq,htl,hol,hx0,hxp,ht,ho,hbw⟩:=hrel
   have HQ:=zH hq
   have HX0:=zH hx0
   have HXP:=zH hxp
   have HT:=zH ht
   have HO:=zH ho
   have HB:=zH hbw
   have hbs:=hbw.size
   have hcap:=ownsRow_cap ht
   have hl0:=hx0.lt
   have hlp:=hxp.lt
   clear hq hx0 hxp ht ho hbw
   obtain ⟨p0',p1,p2,p3,f0,f1,f2,f3⟩:=HXP.out.four
   by_cases hlt:k < n
   ·obtain ⟨bb,off,g,rfl,hBb,hd,c0,c1',c2',c3⟩:=(H.out.below HB.out).at_ hlt
    have HD:=zH hd
    have hkI:(k:Int) < (n:Int):=by omega
    have hk0:(0:Int)<=(k:Int):=by omega
    clear hd
    have GB:=zH (Bx.new wr 39 #[.int .i64 g.k,.int .i64 g.a,.int .i64 g.b,.int .i64 g.c])
    go_wp2_with fail
    refine (i_ApplyP p.N p.H A2 p.t.length c2 p.t B2 p.o.length d2 p.o g _ (RdP.own (HT.out.alloc _)) (RdP.own (HO.out.alloc _)) (by omega) (by omega) hcap).mono ?_
    rintro e w5 ⟨v,rfl,⟨A5,c5,B5,d5,rfl,t5,o5⟩,b5'⟩
    have b5:=below_alloc b5'
    have hbd:=applyP_bd p g
    obtain ⟨q,hq⟩:∃ q,applyP p g=q:=⟨_,rfl⟩
    rw [show applyP ⟨p.N,p.H,p.t,p.o⟩ g=q from hq] at t5 o5 ⊢
    rw [hq] at hbd
    have hb1:=hbd.1
    have hb2:=hbd.2.1
    clear hbd
    have HQQ:=zH hq
    have X5:=zH (HX0.out.below b5)
    have XP5:=zH (HXP.out.below b5)
    have B5w:=zH (below_trans HB.out b5)
    have hl05:=X5.out.lt
    have hlp5:=XP5.out.lt
    obtain ⟨r0,r1,r2,r3,e0,e1,e2,e3⟩:=X5.out.four
    obtain ⟨s0,s1,s2,s3,g0,g1,g2,g3⟩:=XP5.out.four
    have T5:=zH (ownsRow_base t5 (show w.heap.size+1<=_ by simp;omega))
    have O5:=zH (ownsRow_base o5 (show w.heap.size+1<=_ by simp;omega))
    have hcap5:=ownsRow_cap t5
    clear t5 o5 b5 b5' hq p0' p1 p2 p3 f0 f1 f2 f3
    obtain ⟨⟨qN,qH,qt,qo⟩,qb⟩:=q
    dsimp only at *
    cases qb
    ·have HZ:Hid (R=(Po.zero,false)):=zH (by rw [<- HQ.out,HD.out,compL_no (by rw [HQQ.out])])
     go_wp2_with fail
     refine bodyPost_ret (v:=.tuple #[.agg #[.int .i64 0,.int .i64 0,.slice none 0 0,.slice none 0 0],.bool false]) (by simp [results,Tryz.results77,go_sem,r0,r1,r2,r3,hl05]) rfl ⟨_,by rw [HZ.out],by rw [HZ.out];exact ⟨none,0,none,0,rfl,World.ownsRow_nil _ _ _ _,World.ownsRow_nil _ _ _ _⟩,?_⟩
     exact below_al (below_set4 B5w.out zR)
    ·go_wp2_with fail
     go_roundg (gk - 1)
     case measure=>omega
     case rel =>
      exact ⟨k+1,⟨qN,qH,qt,qo⟩,A5,c5,B5,d5,by omega,by go_num,by rw [<- HQ.out,HD.out,compL_go (by rw [HQQ.out]),HQQ.out],by show qt.length<=k+1;omega,by show qo.length<=4;omega,(set4K X5.out (by omega)).alloc _,((((XP5.out.s0 _).s1 _).s2 _).s3 _).alloc _,(own_set_ne4 T5.out (own_bx_ne T5.out XP5.out (by decide))).alloc _,(own_set_ne4 O5.out (own_bx_ne O5.out XP5.out (by decide))).alloc _,below_al (below_set4 B5w.out (by omega))⟩
   ·have hkn:k=n:=by omega
    have HZ:Hid (R=(p,true)):=zH (by rw [<- HQ.out,List.drop_eq_nil_of_le (by have:=HL.out;omega)];rfl)
    obtain ⟨r0,r1,r2,r3,e0,e1,e2,e3⟩:=HX0.out.four
    go_wp2_with fail
    refine bodyPost_ret (v:=.tuple #[.agg #[.int .i64 p.N,.int .i64 p.H,.slice A2 p.t.length c2,.slice B2 p.o.length d2],.bool true]) (by simp [results,Tryz.results77,go_sem,r0,r1,r2,r3]) rfl ⟨_,by rw [HZ.out],by rw [HZ.out];exact ⟨A2,c2,B2,d2,rfl,ownsRow_base (own_set4 HT.out (by omega)) (by omega),ownsRow_base (own_set4 HO.out (by omega)) (by omega)⟩,?_⟩
    exact below_set4 HB.out zR
def coefT:List (Int × Int)->Int->Int
 |[],_=>0
 |p :: r,m=>if (p.1 == m)=true then p.2 else coefT r m
def turnC (c f:Int):Int:=if (f == 1)=true then (-c) % 8 else c
def foldL (t:List (Int × Int)):Po->List Int->List Gt->List Gt->List Gt
 |_,_,acc,[]=>acc
 |p,met,acc,g :: r =>
  if (units g.k == 0)=true then foldL t (applyP p g).1 met (acc++[g]) r
  else if met.any (· == (at2 p.o g.a).1)=true then foldL t (applyP p g).1 met acc r
  else foldL t (applyP p g).1 (met++[(at2 p.o g.a).1]) (acc++rotG (turnC (coefT t (at2 p.o g.a).1) (at2 p.o g.a).2) g.a) r
def foldP (gs:List Gt) (n:Int):List Gt × Int :=
 if (compP gs n).2=true then
  (foldL (compP gs n).1.t (idP n) [] [] gs,((compP gs n).1.H - (compP (foldL (compP gs n).1.t (idP n) [] [] gs) n).1.H) % 8)
 else (gs,0)
theorem foldP_no {gs:List Gt} {n:Int} (h:(compP gs n).2=false):foldP gs n=(gs,0):=by unfold foldP;rw [h];rfl
theorem foldP_yes {gs:List Gt} {n:Int} (h:(compP gs n).2=true):foldP gs n=(foldL (compP gs n).1.t (idP n) [] [] gs,((compP gs n).1.H - (compP (foldL (compP gs n).1.t (idP n) [] [] gs) n).1.H) % 8):=by unfold foldP;rw [if_pos h]
theorem foldL_len (t:List (Int × Int)):∀ (r:List Gt) (p:Po) (met:List Int) (acc:List Gt),(foldL t p met acc r).length<=acc.length+2 * r.length
 |[],_,_,acc=>by simp [foldL]
 |g :: r,p,met,acc=>by
  rw [foldL]
  split
  ·have:=foldL_len t r (applyP p g).1 met (acc++[g])
   simp at this ⊢;omega
  ·split
   ·have:=foldL_len t r (applyP p g).1 met acc
    simp at this ⊢;omega
   ·have:=foldL_len t r (applyP p g).1 (met++[(at2 p.o g.a).1]) (acc++rotG (turnC (coefT t (at2 p.o g.a).1) (at2 p.o g.a).2) g.a)
    have h2:=rotG_len (turnC (coefT t (at2 p.o g.a).1) (at2 p.o g.a).2) g.a
    have h3:=rotK_len (turnC (coefT t (at2 p.o g.a).1) (at2 p.o g.a).2)
    rw [List.length_append] at this
    rw [List.length_cons]
    omega
theorem foldP_len (gs:List Gt) (n:Int):(foldP gs n).1.length<=2 * gs.length:=by
 unfold foldP
 split
 ·have:=foldL_len (compP gs n).1.t gs (idP n) [] []
  simpa using this
 ·show gs.length<=_;omega
theorem compL_ok {p:Po} {g:Gt} {r:List Gt} (h:(compL p (g :: r)).2=true):(applyP p g).2=true/\(compL (applyP p g).1 r).2=true:=by
 cases h2:(applyP p g).2
 ·rw [compL_no h2] at h;cases h
 ·rw [compL_go h2] at h;exact ⟨rfl,h⟩
theorem applyP_okP {p:Po} {g:Gt} (h:(applyP p g).2=true):okP p g=true:=by
 cases h2:okP p g
 ·rw [applyP_no h2] at h;cases h
 ·rfl
theorem compL_fit {p:Po} {g:Gt} {r:List Gt} (h:(compL p (g :: r)).2=true):0<=g.a/\g.a < p.o.length/\p.o.length<=4:=by
 have h1:=okP_parts (applyP_okP (compL_ok h).1)
 have h2:=okG_abn h1.1
 omega
theorem foldL_0 {t:List (Int × Int)} {p q:Po} {met:List Int} {acc:List Gt} {g:Gt} {r:List Gt} (hu:(units g.k == 0)=true) (hq:applyP p g=(q,true)):foldL t p met acc (g :: r)=foldL t q met (acc++[g]) r:=by
 rw [foldL,if_pos hu,hq]
theorem foldL_old {t:List (Int × Int)} {p q:Po} {met:List Int} {acc:List Gt} {g:Gt} {r:List Gt} {x y:Int} (hu:(units g.k == 0)=false) (hx:at2 p.o g.a=(x,y)) (hm:met.any (· == x)=true) (hq:applyP p g=(q,true)):foldL t p met acc (g :: r)=foldL t q met acc r:=by
 rw [foldL,if_neg (by rw [hu];simp),hx,if_pos hm,hq]
theorem foldL_new {t:List (Int × Int)} {p q:Po} {met:List Int} {acc:List Gt} {g:Gt} {r:List Gt} {x y:Int} (hu:(units g.k == 0)=false) (hx:at2 p.o g.a=(x,y)) (hm:met.any (· == x)=false) (hq:applyP p g=(q,true)):foldL t p met acc (g :: r)=foldL t q (met++[x]) (acc++rotG (turnC (coefT t x) y) g.a) r:=by
 rw [foldL,if_neg (by rw [hu];simp),hx,if_neg (by rw [hm];simp),hq]
theorem turnC_1 {c y:Int} (h:(y == 1)=true):turnC c y=(-c) % 8:=by unfold turnC;rw [if_pos h]
theorem turnC_0 {c y:Int} (h:(y == 1)=false):turnC c y=c:=by unfold turnC;rw [if_neg (by rw [h];simp)]
theorem compL_next {p q:Po} {g:Gt} {r:List Gt} (h:(compL p (g :: r)).2=true) (hq:applyP p g=(q,true)):(compL q r).2=true:=by
 have:=(compL_ok h).2
 rw [hq] at this
 exact this
theorem compP_in {gs:List Gt} {n:Int} {M:Po} (h:compP gs n=(M,true)):inB n 1 4=true/\compL (idP n) gs=(M,true):=by
 cases hin:inB n 1 4
 ·unfold compP at h;rw [hin] at h;cases h
 ·unfold compP at h;rw [hin] at h;exact ⟨rfl,h⟩
theorem idP_len {n:Int} (h:inB n 1 4=true):(idP n).t.length=0/\(idP n).o.length<=4:=by
 obtain ⟨h1,h4⟩:=inB_iff.1 h
 have e:idP n=⟨n,0,[],idO n.toNat⟩:=by unfold idP;rw [if_pos h]
 rw [e]
 exact ⟨rfl,by rw [idO_len];omega⟩
def RetGI (r:List Gt × Int) (w:World) (e:Ending) (w':World):Prop:=∃ A c,e=.returned (.tuple #[.slice A r.1.length c,.int .i64 r.2])/\w'.ownsRow w.heap.size 39 4 (.slice A r.1.length c) r.1.length (cellsG r.1)/\Below w.heap.size w w'
def Marked (w w':World) (v1 v2:Value):Prop:=∃ o wm,(w.alloc o).grownBy wm v1.ownBlock/\wm.grownBy w' v2.ownBlock
section
variable {w w':World} {v1 v2:Value}
theorem Marked.size (h:Marked w w' v1 v2):w.heap.size<=w'.heap.size:=by
 obtain ⟨o,wm,h1,h2⟩:=h
 have:=h1.size
 have:=h2.size
 simp at *
 omega
theorem Marked.own {base n sz:Nat} {e:TypeId} {v:Value} {xs:List Value} (h:Marked w w' v1 v2) (ho:w.ownsRow base e sz v n xs) (a1:v.ownBlock=none ∨ v.ownBlock ≠ v1.ownBlock) (a2:v.ownBlock=none ∨ v.ownBlock ≠ v2.ownBlock):w'.ownsRow base e sz v n xs:=by
 obtain ⟨o,wm,h1,h2⟩:=h
 exact ((ho.alloc o).kept h1 a1).kept h2 a2
theorem Marked.bx {g t:Nat} {cs:Array Value} (h:Marked w w' v1 v2) (hb:Bx w g t cs) (n1:some g ≠ v1.ownBlock) (n2:some g ≠ v2.ownBlock):Bx w' g t cs:=by
 obtain ⟨o,wm,h1,h2⟩:=h
 exact ((hb.alloc o).grown h1 n1).grown h2 n2
theorem Marked.below {B:Nat} {a:World} (h:Marked w w' v1 v2) (hb:Below B a w) (hs:B<=w.heap.size) (l1:∀ k,v1.ownBlock=some k->B<=k) (l2:∀ k,v2.ownBlock=some k->B<=k):Below B a w':=by
 obtain ⟨o,wm,h1,h2⟩:=h
 have s1:B<=(w.alloc o).heap.size:=by simp;omega
 exact ((hb.alloc hs o).grown h1 s1 l1).grown h2 (Nat.le_trans s1 h1.size) l2
end
def PolyBox (N H:Int) (t o:List (Int × Int)) (nT nO:Nat) (wz:World) (p:Value) (wx:World):Prop :=
 ∃ (g:Nat) (A:Option Addr) (c:Nat) (B:Option Addr) (d:Nat),p=.pointer (some ⟨g,0,none⟩)/\Bx wx g 88 #[.int .i64 N,.int .i64 H,.slice A nT c,.slice B nO d] ∧
  wx.ownsRow wz.heap.size 128 2 (.slice A nT c) nT (cellsP t)/\wx.ownsRow wz.heap.size 93 2 (.slice B nO d) nO (cellsP o)/\Below wz.heap.size wz wx
section
variable {N H:Int} {t o:List (Int × Int)} {nT nO:Nat} {wz w':World} {b g:Nat} {A B:Option Addr} {c d:Nat}
theorem PolyBox.new (hT:w'.ownsRow b 128 2 (.slice A nT c) nT (cellsP t)) (hO:w'.ownsRow b 93 2 (.slice B nO d) nO (cellsP o)) (hB:Below wz.heap.size wz w') (hb:wz.heap.size<=b) :
  PolyBox N H t o nT nO wz (.pointer (some ⟨w'.heap.size,0,none⟩)) (w'.alloc (.cells #[.int .i64 N,.int .i64 H,.slice A nT c,.slice B nO d] 88)) :=
 ⟨_,A,c,B,d,rfl,Bx.new _ _ _,(ownsRow_base hT hb).alloc _,(ownsRow_base hO hb).alloc _,hB.alloc hB.size _⟩
end
def compS:Po->List Gt->Po × Bool
 |p,[]=>(p,decide (p.N > 0))
 |p,g :: r=>if (applyP p g).2=true then compS (applyP p g).1 r else (Po.zero,false)
theorem cs4 {w':World} {g g1 i:Nat} {u a b c d:Value} (h:w'.cell? ⟨g,i,none⟩=some u) (hg:g ≠ g1):((((w'.setCell ⟨g1,0,none⟩ a).setCell ⟨g1,1,none⟩ b).setCell ⟨g1,2,none⟩ c).setCell ⟨g1,3,none⟩ d).cell? ⟨g,i,none⟩=some u:=by
 have e:((((w'.setCell ⟨g1,0,none⟩ a).setCell ⟨g1,1,none⟩ b).setCell ⟨g1,2,none⟩ c).setCell ⟨g1,3,none⟩ d).heap[g]? = w'.heap[g]? :=
  ((((Below.heap_setCell _ ⟨g1,3,none⟩ d g hg).trans (Below.heap_setCell _ ⟨g1,2,none⟩ c g hg)).trans (Below.heap_setCell _ ⟨g1,1,none⟩ b g hg)).trans (Below.heap_setCell _ ⟨g1,0,none⟩ a g hg))
 exact (World.cell?_of_block (a:=⟨g,i,none⟩) e).trans h
theorem drew_cell (w:World) (a:Addr):w.drew.cell? a=w.cell? a:=rfl
theorem cs4d {w':World} {g g1 i:Nat} {u a b c d:Value} (h:w'.cell? ⟨g,i,none⟩=some u) (hg:g ≠ g1):((((w'.setCell ⟨g1,0,none⟩ a).setCell ⟨g1,1,none⟩ b).setCell ⟨g1,2,none⟩ c).setCell ⟨g1,3,none⟩ d).drew.cell? ⟨g,i,none⟩=some u:=(drew_cell _ _).trans (cs4 h hg)
theorem compS_go {p:Po} {g:Gt} {r:List Gt} (h:(applyP p g).2=true):compS p (g :: r)=compS (applyP p g).1 r:=by rw [compS,if_pos h]
theorem compS_no {p:Po} {g:Gt} {r:List Gt} (h:(applyP p g).2=false):compS p (g :: r)=(Po.zero,false):=by rw [compS,if_neg (by rw [h];simp)]
theorem compS_L:∀ (gs:List Gt) (p:Po),0 < p.N->compS p gs=compL p gs
 |[],p,h=>by rw [compS,compL,decide_eq_true (show p.N > 0 from h)]
 |g :: r,p,h=>by
  cases h1:(applyP p g).2
  ·rw [compS_no h1,compL_no h1]
  ·rw [compS_go h1,compL_go h1]
   exact compS_L r _ (by rw [(applyP_bd p g).2.2 h1];exact h)
theorem compS_P (gs:List Gt) (N:Int):compS (idP N) gs=compP gs N:=by
 unfold compP
 cases hin:inB N 1 4
 ·rw [if_neg (by simp)]
  have e:idP N=Po.zero:=by unfold idP;rw [hin];rfl
  rw [e]
  cases gs with
  |nil=>rfl
  |cons g r =>
   rw [compS_no]
   have:okP Po.zero g=false:=by
    unfold okP okG
    rw [show inB Po.zero.N 1 4=false from rfl]
    rfl
   rw [applyP_no this]
 ·rw [if_pos (by rfl)]
  have e:idP N=⟨N,0,[],idO N.toNat⟩:=by unfold idP;rw [hin];rfl
  exact compS_L gs _ (by rw [e];have:=(inB_iff.1 hin).1;show 0 < N;omega)
set_option maxRecDepth 100000 in
theorem s_CompP (A:Option Addr) (n cap:Nat) (gs:List Gt) (N:Int) (w:World) (h:RdG w A n gs) (hn:n<=68719476736) :
  Calls Tryz.prog 99 #[.slice A n cap,.int .i64 N] w (RetPB (compP gs N) w):=by
 have H:=zH h
 have HL:=zH h.1
 clear h
 have X0:=zH (Bx.new w 88 #[.int .i64 0,.int .i64 0,.slice none 0 0,.slice none 0 0])
 have BZ:Hid (Below w.heap.size w (w.alloc (.cells #[.int .i64 0,.int .i64 0,.slice none 0 0,.slice none 0 0] 88))):=zH ((zW).alloc zR _)
 obtain ⟨R,hR⟩:∃ R,compP gs N=R:=⟨_,rfl⟩
 have HR:=zH hR
 rw [hR]
 clear hR
 have HC:Hid (compS (idP N) gs=R):=zH (by rw [<- HR.out];exact compS_P gs N)
 have hid0:(idP N).t.length=0/\(idP N).o.length<=4:=by
  unfold idP
  split
  ·exact ⟨rfl,by rw [idO_len];have:=inB_iff.1 ‹_›;omega⟩
  ·exact ⟨rfl,by simp [Po.zero]⟩
 have HID:=zH hid0
 clear hid0 HR
 go_enter Tryz.func99,Tryz.ntmps99
 go_wp2_with fail
 refine (s_IdP _ _).mono ?_
 rintro e w1 ⟨v,rfl,⟨A1,c1,B1,d1,rfl,t1,o1⟩,b1⟩
 have X1:=zH ((X0.out.below b1).alloc (.cells #[.int .i64 (idP N).N,.int .i64 (idP N).H,.slice A1 (idP N).t.length c1,.slice B1 (idP N).o.length d1] 88))
 have XP:=zH (Bx.new w1 88 #[.int .i64 (idP N).N,.int .i64 (idP N).H,.slice A1 (idP N).t.length c1,.slice B1 (idP N).o.length d1])
 have T1:=zH (ownsRow_base (t1.alloc (.cells #[.int .i64 (idP N).N,.int .i64 (idP N).H,.slice A1 (idP N).t.length c1,.slice B1 (idP N).o.length d1] 88)) (show w.heap.size+1<=_ by simp))
 have O1:=zH (ownsRow_base (o1.alloc (.cells #[.int .i64 (idP N).N,.int .i64 (idP N).H,.slice A1 (idP N).t.length c1,.slice B1 (idP N).o.length d1] 88)) (show w.heap.size+1<=_ by simp))
 have BB:=zH ((below_trans BZ.out b1).alloc (below_trans BZ.out b1).size (.cells #[.int .i64 (idP N).N,.int .i64 (idP N).H,.slice A1 (idP N).t.length c1,.slice B1 (idP N).o.length d1] 88))
 have hs1:w.heap.size < w1.heap.size:=(X0.out.below b1).lt
 clear t1 o1 b1 X0 BZ
 generalize idP N=p0 at HC HID X1 XP T1 O1 BB ⊢
 go_wp2_with fail
 generalize hgp:w1.heap.size=gp at XP hs1 ⊢
 go_loopg [7] n (fun r i wr=>∃ (k:Nat) (p:Po) (A2:Option Addr) (c2:Nat) (B2:Option Addr) (d2:Nat),k+r=n/\i=.int .i64 k/\compS p (gs.drop k)=R/\p.t.length<=k/\p.o.length<=4/\Bx wr w.heap.size 88 #[.int .i64 0,.int .i64 0,.slice none 0 0,.slice none 0 0]/\Bx wr gp 88 #[.int .i64 p.N,.int .i64 p.H,.slice A2 p.t.length c2,.slice B2 p.o.length d2]/\wr.ownsRow (w.heap.size+1) 128 2 (.slice A2 p.t.length c2) p.t.length (cellsP p.t)/\wr.ownsRow (w.heap.size+1) 93 2 (.slice B2 p.o.length d2) p.o.length (cellsP p.o)/\Below w.heap.size w wr)
 case atStart=>exact ⟨0,p0,A1,c1,B1,d1,by omega,rfl,HC.out,by have:=HID.out.1;omega,HID.out.2,X1.out,XP.out,T1.out,O1.out,BB.out⟩
 case round =>
  clear X1 XP T1 O1 BB HC HID
  obtain ⟨k,p,A2,c2,B2,d2,hk,rfl,hq,htl,hol,hx0,hxp,ht,ho,hbw⟩:=hrel
  have HQ:=zH hq
  have HX0:=zH hx0
  have HXP:=zH hxp
  have HT:=zH ht
  have HO:=zH ho
  have HB:=zH hbw
  have hbs:=hbw.size
  have hcap:=ownsRow_cap ht
  have hl0:=hx0.lt
  have hlp:=hxp.lt
  clear hq hx0 hxp ht ho hbw
  obtain ⟨p0',p1,p2,p3,f0,f1,f2,f3⟩:=HXP.out.four
  by_cases hlt:k < n
  ·obtain ⟨bb,off,g,rfl,hBb,hd,c0,c1',c2',c3⟩:=(H.out.below HB.out).at_ hlt
   have HD:=zH hd
   have hkI:(k:Int) < (n:Int):=by omega
   have hk0:(0:Int)<=(k:Int):=by omega
   clear hd
   have GB:=zH (Bx.new wr 39 #[.int .i64 g.k,.int .i64 g.a,.int .i64 g.b,.int .i64 g.c])
   have hcap':=hcap
   have hng:gp ≠ wr.heap.size:=by omega
   have hnb:bb ≠ wr.heap.size:=by omega
   go_wp2_with fail
   go_region_held3 (fun w'=>w'.cell? ⟨gp,0,none⟩=some (.int .i64 p.N)/\w'.cell? ⟨gp,1,none⟩=some (.int .i64 p.H)/\w'.cell? ⟨gp,2,none⟩=some (.slice A2 p.t.length c2)/\w'.cell? ⟨gp,3,none⟩=some (.slice B2 p.o.length d2)/\w'.cell? ⟨bb,off+k * 4,none⟩=some (.int .i64 g.k)/\w'.cell? ⟨bb,off+k * 4+1,none⟩=some (.int .i64 g.a)/\w'.cell? ⟨bb,off+k * 4+2,none⟩=some (.int .i64 g.b)/\w'.cell? ⟨bb,off+k * 4+3,none⟩=some (.int .i64 g.c))
    (first | with_reducible exact ⟨s0,s1,s2,s3,y0,y1,y2,y3⟩ | with_reducible exact ⟨cs4 s0 hng,cs4 s1 hng,cs4 s2 hng,cs4 s3 hng,cs4 y0 hnb,cs4 y1 hnb,cs4 y2 hnb,cs4 y3 hnb⟩ | go_keep)
    (first
     |(go_at_call 101;(with_reducible refine (s_ApplyP p.N p.H A2 p.t.length c2 p.t B2 p.o.length d2 p.o g _ (RdP.drew (RdP.own HT.out)) (RdP.drew (RdP.own HO.out)) (by omega) (by omega) hcap').mono ?_);rintro e w5 ⟨v,rfl,⟨A5,c5,B5,d5,rfl,t5,o5⟩,b5'⟩;have b5:=below_drew b5';have ⟨s0,s1,s2,s3,_,_,_,_⟩:=(HXP.out.below b5).four;have y0:=(b5.cell (p:=⟨bb,off+k * 4,none⟩) hBb).trans c0;have y1:=(b5.cell (p:=⟨bb,off+k * 4+1,none⟩) hBb).trans c1';have y2:=(b5.cell (p:=⟨bb,off+k * 4+2,none⟩) hBb).trans c2';have y3:=(b5.cell (p:=⟨bb,off+k * 4+3,none⟩) hBb).trans c3;have ny0:=World.block_lt_of_cell? _ _ y0;have ns0:=World.block_lt_of_cell? _ _ s0)
     |(go_at_call 101;(with_reducible refine (s_ApplyP p.N p.H A2 p.t.length c2 p.t B2 p.o.length d2 p.o g _ (RdP.drew (RdP.own (HT.out.alloc _))) (RdP.drew (RdP.own (HO.out.alloc _))) (by omega) (by omega) hcap').mono ?_);rintro e w5 ⟨v,rfl,⟨A5,c5,B5,d5,rfl,t5,o5⟩,b5'⟩;have b5:=below_alloc (below_drew b5');have ⟨s0,s1,s2,s3,_,_,_,_⟩:=(HXP.out.below b5).four;have y0:=(b5.cell (p:=⟨bb,off+k * 4,none⟩) hBb).trans c0;have y1:=(b5.cell (p:=⟨bb,off+k * 4+1,none⟩) hBb).trans c1';have y2:=(b5.cell (p:=⟨bb,off+k * 4+2,none⟩) hBb).trans c2';have y3:=(b5.cell (p:=⟨bb,off+k * 4+3,none⟩) hBb).trans c3;have ny0:=World.block_lt_of_cell? _ _ y0;have ns0:=World.block_lt_of_cell? _ _ s0;have XB:=(show Bx w5 wr.heap.size 88 #[.int .i64 0,.int .i64 0,.slice none 0 0,.slice none 0 0] from (Bx.new wr _ _).below (below_drew b5'));have ⟨v0,v1,v2,v3,z0,z1,z2,z3⟩:=XB.four)
     |fail)
   all_goals
    have hbd:=applyP_bd p g
    obtain ⟨q,hq⟩:∃ q,applyP p g=q:=⟨_,rfl⟩
    rw [show applyP ⟨p.N,p.H,p.t,p.o⟩ g=q from hq] at t5 o5 ⊢
    rw [hq] at hbd
    have hb1:=hbd.1
    have hb2:=hbd.2.1
    clear hbd
    have HQQ:=zH hq
    have X5:=zH (HX0.out.below b5)
    have XP5:=zH (HXP.out.below b5)
    have B5w:=zH (below_trans HB.out b5)
    have hl05:=X5.out.lt
    have hlp5:=XP5.out.lt
    clear s0 s1 s2 s3 y0 y1 y2 y3
    obtain ⟨r0,r1,r2,r3,e0,e1,e2,e3⟩:=X5.out.four
    obtain ⟨s0,s1,s2,s3,g0,g1,g2,g3⟩:=XP5.out.four
    have T5:=zH (ownsRow_base t5 (show w.heap.size+1<=_ by first | (show w.heap.size+1<=wr.heap.size;omega) | (simp;omega)))
    have O5:=zH (ownsRow_base o5 (show w.heap.size+1<=_ by first | (show w.heap.size+1<=wr.heap.size;omega) | (simp;omega)))
    have hcap5:=ownsRow_cap t5
    clear t5 o5 b5 b5' hq p0' p1 p2 p3 f0 f1 f2 f3
    obtain ⟨⟨qN,qH,qt,qo⟩,qb⟩:=q
    dsimp only at *
   ·cases qb
    ·have HZ:Hid (R=(Po.zero,false)):=zH (by rw [<- HQ.out,HD.out,compS_no (by rw [HQQ.out])])
     go_wp2_with fail
     refine bodyPost_ret (v:=.tuple #[.agg #[.int .i64 0,.int .i64 0,.slice none 0 0,.slice none 0 0],.bool false]) (by simp [results,Tryz.results99,go_sem,r0,r1,r2,r3,hl05]) rfl ⟨_,by rw [HZ.out],by rw [HZ.out];exact ⟨none,0,none,0,rfl,World.ownsRow_nil _ _ _ _,World.ownsRow_nil _ _ _ _⟩,?_⟩
     exact below_al (below_set4 B5w.out zR)
    ·go_wp2_with fail
     go_roundg (gk - 1)
     case measure=>omega
     case rel =>
      exact ⟨k+1,⟨qN,qH,qt,qo⟩,A5,c5,B5,d5,by omega,by go_num,by rw [<- HQ.out,HD.out,compS_go (by rw [HQQ.out]),HQQ.out],by show qt.length<=k+1;omega,by show qo.length<=4;omega,(set4K X5.out (by omega)).alloc _,((((XP5.out.s0 _).s1 _).s2 _).s3 _).alloc _,(own_set_ne4 T5.out (own_bx_ne T5.out XP5.out (by decide))).alloc _,(own_set_ne4 O5.out (own_bx_ne O5.out XP5.out (by decide))).alloc _,below_al (below_set4 B5w.out (by omega))⟩
   ·have hn1:w.heap.size ≠ wr.heap.size:=by omega
    have hn2:wr.heap.size ≠ gp:=by omega
    have hn3:wr.heap.size ≠ w.heap.size:=by omega
    have HXB:=zH XB
    cases qb
    ·have HZ:Hid (R=(Po.zero,false)):=zH (by rw [<- HQ.out,HD.out,compS_no (by rw [HQQ.out])])
     go_wp2_with fail
     refine bodyPost_ret (v:=.tuple #[.agg #[.int .i64 0,.int .i64 0,.slice none 0 0,.slice none 0 0],.bool false]) (by simp [results,Tryz.results99,go_sem,r0,r1,r2,r3]) rfl ⟨_,by rw [HZ.out],by rw [HZ.out];exact ⟨none,0,none,0,rfl,World.ownsRow_nil _ _ _ _,World.ownsRow_nil _ _ _ _⟩,?_⟩
     exact below_set4 (below_set4 B5w.out (by omega)) zR
    ·go_wp2_with fail
     go_roundg (gk - 1)
     case measure=>omega
     case rel =>
      exact ⟨k+1,⟨qN,qH,qt,qo⟩,A5,c5,B5,d5,by omega,by go_num,by rw [<- HQ.out,HD.out,compS_go (by rw [HQQ.out]),HQQ.out],by show qt.length<=k+1;omega,by show qo.length<=4;omega,set4K (set4K X5.out hn1) (by omega),(((((set4K XP5.out hng).s0 _).s1 _).s2 _).s3 _),own_set_ne4 (own_set_ne4 T5.out (own_bx_ne T5.out HXB.out (by decide))) (own_bx_ne T5.out XP5.out (by decide)),own_set_ne4 (own_set_ne4 O5.out (own_bx_ne O5.out HXB.out (by decide))) (own_bx_ne O5.out XP5.out (by decide)),below_set4 (below_set4 B5w.out (by omega)) (by omega)⟩
  ·have hkn:k=n:=by omega
   have HZ:Hid (R=(p,decide (p.N > 0))):=zH (by rw [<- HQ.out,List.drop_eq_nil_of_le (by have:=HL.out;omega)];rfl)
   obtain ⟨r0,r1,r2,r3,e0,e1,e2,e3⟩:=HX0.out.four
   have hgn:gp ≠ w.heap.size:=by omega
   by_cases hN:0 < p.N
   ·have hNd:decide (p.N > 0)=true:=by simpa using hN
    have HND:=zH hNd
    go_wp2_with fail
    go_region_held3 (fun w'=>w'.cell? ⟨gp,0,none⟩=some (.int .i64 p.N)/\w'.cell? ⟨gp,1,none⟩=some (.int .i64 p.H)/\w'.cell? ⟨gp,2,none⟩=some (.slice A2 p.t.length c2)/\w'.cell? ⟨gp,3,none⟩=some (.slice B2 p.o.length d2))
     (first | with_reducible exact ⟨p0',p1,p2,p3⟩ | with_reducible exact ⟨cs4d p0' hgn,cs4d p1 hgn,cs4d p2 hgn,cs4d p3 hgn⟩ | go_keep)
     (fail)
    go_wp2_with fail
    refine bodyPost_ret (v:=.tuple #[.agg #[.int .i64 p.N,.int .i64 p.H,.slice A2 p.t.length c2,.slice B2 p.o.length d2],.bool true]) (by simp [results,Tryz.results99,go_sem,r0,r1,r2,r3]) rfl ⟨_,by rw [HZ.out,HND.out],by rw [HZ.out];exact ⟨A2,c2,B2,d2,rfl,ownsRow_base (ownsRow_drew (own_set4 HT.out (by omega))) (by omega),ownsRow_base (ownsRow_drew (own_set4 HO.out (by omega))) (by omega)⟩,?_⟩
    exact Below.drew (below_set4 HB.out zR)
   ·have hNd:decide (p.N > 0)=false:=by simpa using hN
    have HND:=zH hNd
    go_wp2_with fail
    go_region_held3 (fun w'=>w'.cell? ⟨gp,0,none⟩=some (.int .i64 p.N)/\w'.cell? ⟨gp,1,none⟩=some (.int .i64 p.H)/\w'.cell? ⟨gp,2,none⟩=some (.slice A2 p.t.length c2)/\w'.cell? ⟨gp,3,none⟩=some (.slice B2 p.o.length d2))
     (first | with_reducible exact ⟨p0',p1,p2,p3⟩ | with_reducible exact ⟨cs4d p0' hgn,cs4d p1 hgn,cs4d p2 hgn,cs4d p3 hgn⟩ | go_keep)
     (fail)
    go_wp2_with fail
    refine bodyPost_ret (v:=.tuple #[.agg #[.int .i64 p.N,.int .i64 p.H,.slice A2 p.t.length c2,.slice B2 p.o.length d2],.bool false]) (by simp [results,Tryz.results99,go_sem,r0,r1,r2,r3]) rfl ⟨_,by rw [HZ.out,HND.out],by rw [HZ.out];exact ⟨A2,c2,B2,d2,rfl,ownsRow_base (ownsRow_drew (own_set4 HT.out (by omega))) (by omega),ownsRow_base (ownsRow_drew (own_set4 HO.out (by omega))) (by omega)⟩,?_⟩
    exact Below.drew (below_set4 HB.out zR)
section
variable {P:Program} {w:World}
theorem run_app2 (base:Nat) (t ty e:TypeId) {z:Value} {size bytes:Nat} (ht:P.underlying t=some (.slice e)) (hinfo:(P.info? e).map (fun i=>(i.zero,i.size,i.bytes))=some (some z,size,bytes))
  (hzs:z.cells.size=size) (hsz:0 < size) (A:Option Addr) (n c:Nat) (xs:List Value) (hown:w.ownsRow base e size (.slice A n c) n xs)
  (A':Option Addr) (m c':Nat) (news:List Value) (hr:Rd w size A' m news) (h1:∀ u ∈ news,u.oneCell'=true)
  (hbytes:(n+m) * bytes<=140737488355328) (hby:0 < bytes) (hbase:base<=w.heap.size) :
  ∃ A'' c'' w',(Builtin.append_ #[t,t] ty #[.slice A n c,.slice A' m c']).run P w=.ok (.slice A'' (n+m) c'') w'/\w'.ownsRow base e size (.slice A'' (n+m) c'') (n+m) (xs++news)/\w.grownBy w' (Value.slice A n c).ownBlock ∧
   ((Value.slice A'' (n+m) c'').ownBlock=(Value.slice A n c).ownBlock ∨ ∀ b,(Value.slice A'' (n+m) c'').ownBlock=some b->w.heap.size<=b):=by
 obtain ⟨i,hi,hz,hs,hb⟩:=info_parts hinfo
 have h63:n+m<=maxLen:=by
  have h:=Nat.le_trans (Nat.le_mul_of_pos_right (n+m) hby) hbytes
  simp only [maxLen]
  omega
 have key:∃ v' w',(Builtin.append_ #[t,t] ty #[.slice A n c,.slice A' m c']).run P w=.ok v' w'/\w'.ownsRow base e size v' (n+m) (xs++news)/\w.grownBy w' (Value.slice A n c).ownBlock/\(v'.ownBlock=(Value.slice A n c).ownBlock ∨ ∀ b,v'.ownBlock=some b->w.heap.size<=b):=by
  rcases A' with _ | ad
  ·have hm:m=0:=by
    rcases Nat.eq_zero_or_pos m with h0 | h0
    ·exact h0
    ·obtain ⟨b,off,h,_⟩:=hr.2 h0
     cases h
   subst hm
   have hn:news=[]:=List.eq_nil_of_length_eq_zero (by simpa using hr.1)
   subst hn
   exact ⟨_,w,run_app_nil base t ty e i size ht hi _ n xs hown c',by simpa using hown,World.grownBy.refl w _,.inl rfl⟩
  ·have hcells:∀ j u,news[j]? = some u->w.cell? (ad.add j)=some u:=by
    intro j u hu
    rcases Nat.eq_zero_or_pos m with h0 | h0
    ·subst h0
     have hn:news=[]:=List.eq_nil_of_length_eq_zero (by simpa using hr.1)
     subst hn
     simp at hu
    ·obtain ⟨b,off,h,_,hc⟩:=hr.2 h0
     injection h with h
     subst h
     have:=hc j u hu
     unfold Addr.add
     split
     ·subst j;simpa using this
     ·exact this
   obtain ⟨v',w',hrun,h2,h3,h4⟩:=run_append_own_at (P:=P) w base t ty e i z size bytes ht hi hz hs hb hzs hsz _ n xs hown ad m c' news hr.1 hcells h1 h63 hbytes hbase
   refine ⟨v',w',hrun,h2,h3,?_⟩
   have h5:v'.ownBlock=(Value.slice A n c).ownBlock ∨ v'.ownBlock=some w.heap.size:=by first | exact h4 | exact h4.1 | exact h4.2
   rcases h5 with h5 | h5
   ·exact .inl h5
   ·exact .inr fun b hb=>by rw [h5] at hb;injection hb with hb;omega
 obtain ⟨v',w',hrun,h2,h3,h4⟩:=key
 obtain ⟨A'',c'',rfl⟩:=ownsRow_shape h2
 exact ⟨A'',c'',w',hrun,h2,h3,h4⟩
theorem step_app2 {ops:Array Oper} {o:Oper} {a:Act} {K:Act->World->Prop} {Q:Exit->Act->World->Prop} {E:Prop} (hgd:o.guard=none) (s x:Operand) (t:TypeId)
  (ho:o.op=.call { callee:=.builtin .append,args:=#[s,x],argTypes:=#[t,t] })
  {base e:Nat} {z:Value} {size bytes:Nat} (ht:P.underlying t=some (.slice e)) (hinfo:(P.info? e).map (fun i=>(i.zero,i.size,i.bytes))=some (some z,size,bytes))
  (hzs:z.cells.size=size) (hsz:0 < size) {A:Option Addr} {n c:Nat} {xs:List Value} (hs:a.eval s=.slice A n c) (hown:w.ownsRow base e size (.slice A n c) n xs)
  {A':Option Addr} {m c':Nat} {news:List Value} (hx:a.eval x=.slice A' m c') (hr:Rd w size A' m news) (h1:∀ u ∈ news,u.oneCell'=true)
  (hbytes:(n+m) * bytes<=140737488355328) (hby:0 < bytes) (hbase:base<=w.heap.size)
  (h:∀ A'' c'' w',w'.ownsRow base e size (.slice A'' (n+m) c'') (n+m) (xs++news)->w.grownBy w' (Value.slice A n c).ownBlock->((Value.slice A'' (n+m) c'').ownBlock=(Value.slice A n c).ownBlock ∨ ∀ b,(Value.slice A'' (n+m) c'').ownBlock=some b->w.heap.size<=b)->K (a.put o.dst (.slice A'' (n+m) c'')) w') :
  if Region.wanted o (yielded ops a.tmps)=true then Oper.wp P o a w K Q else E:=by
 have hw:Region.wanted o (yielded ops a.tmps)=true:=by simp [Region.wanted,hgd]
 rw [if_pos hw]
 obtain ⟨A'',c'',w',hrun,h2,h3,h4⟩:=run_app2 (P:=P) base t o.type e ht hinfo hzs hsz A n c xs hown A' m c' news hr h1 hbytes hby hbase
 unfold Oper.wp execOp
 simp only [ho,resolve,invoke,builtin,Sem.run_bind,Sem.run_pure,Result.andThen_ok,List.map_toArray,List.map_cons,List.map_nil,hs,hx,hrun]
 exact h A'' c'' w' h2 h3 h4
end
section
variable {α:Type} {cs:List α->List Value} {w w1:World} {sz:Nat}
theorem OwnSS.ext {base eo ei k go n cap c c':Nat} {l:List (List α)} {x y:List α} {D D':Option Addr} (hne:eo ≠ ei) (h:OwnSS cs w base eo ei sz (.slice (some ⟨go,0,none⟩) n cap) l) (hk:l[k]? = some x)
  (hcell:w.cell? ⟨go,k,none⟩=some (.slice D x.length c)) (hg:w.grownBy w1 (Value.slice D x.length c).ownBlock)
  (ho:w1.ownsRow base ei sz (.slice D' y.length c') y.length (cs y)) (hb:(Value.slice D' y.length c').ownBlock=(Value.slice D x.length c).ownBlock ∨ ∀ b,(Value.slice D' y.length c').ownBlock=some b->w.heap.size<=b) :
  OwnSS cs (w1.setCell ⟨go,k,none⟩ (.slice D' y.length c')) base eo ei sz (.slice (some ⟨go,0,none⟩) n cap) (l.set k y):=by
 obtain ⟨vs,a1,a2,a3⟩:=h
 have hkl:k < l.length:=(List.getElem?_eq_some_iff.1 hk).1
 have hln:l.length=n:=by
  obtain ⟨A,c,e⟩:=ownsRow_shape a1
  injection e with _ e _
  exact e.symm
 subst hln
 have hvl:vs.length=l.length:=by simpa using a1.1
 have hvk:vs[k]? = some (.slice D x.length c):=by rw [<- a1.cellAt k (by omega)];exact hcell
 obtain ⟨D0,c0,e1,e2⟩:=a2 k x hk
 rw [hvk] at e1
 injection e1 with e1
 injection e1 with e3 _ e4
 subst e3 e4
 have b1:=a1.kept hg (own_types a1 e2 hne)
 have s1:=b1.stored k (.slice D' y.length c')
 have gset:w1.grownBy (w1.setCell ⟨go,k,none⟩ (.slice D' y.length c')) (some go):=s1.2
 have keep:∀ (v:Value) (n':Nat) (xs:List Value),w1.ownsRow base ei sz v n' xs->(w1.setCell ⟨go,k,none⟩ (.slice D' y.length c')).ownsRow base ei sz v n' xs:=fun v n' xs hv=>by
  refine hv.kept gset ?_
  rcases own_types hv b1 (fun e=>hne e.symm) with h0 | h0
  ·exact .inl h0
  ·exact .inr h0
 have hnew:(vs.set k (.slice D' y.length c'))[k]? = some (.slice D' y.length c'):=List.getElem?_set_self (by omega)
 have old:∀ (j:Nat) (u:Value),vs[j]? = some u->∀ b,u.ownBlock=some b->b < w.heap.size:=fun j u hu b hb'=>by
  have hj:j < l.length:=by have:=(List.getElem?_eq_some_iff.1 hu).1;omega
  obtain ⟨B,cc,f1,f2⟩:=a2 j l[j] (List.getElem?_eq_getElem hj)
  rw [hu] at f1
  injection f1 with f1
  subst f1
  exact (f2.lt b hb').2
 refine ⟨vs.set k (.slice D' y.length c'),by rw [List.length_set];exact s1.1,fun j z hz=>?_,fun i j u u' hij hu hu'=>?_⟩
 ·by_cases hjk:k=j
  ·subst hjk
   rw [List.getElem?_set_self hkl] at hz
   injection hz with hz
   subst hz
   exact ⟨D',c',hnew,keep _ _ _ ho⟩
  ·rw [List.getElem?_set_ne hjk] at hz ⊢
   obtain ⟨B,cc,f1,f2⟩:=a2 j z hz
   exact ⟨B,cc,f1,keep _ _ _ (f2.kept hg (a3 j k _ _ (fun e=>hjk e.symm) f1 hvk))⟩
 ·by_cases hik:k=i
  ·subst hik
   rw [hnew] at hu
   injection hu with hu
   subst hu
   rw [List.getElem?_set_ne hij] at hu'
   rcases hb with hb | hb
   ·rw [hb];exact a3 k j _ _ hij hvk hu'
   ·cases hq:(Value.slice D' y.length c').ownBlock with
    |none=>exact .inl rfl
    |some b =>
     refine .inr fun he=>?_
     have h1:=hb b hq
     have h2:=old j u' hu' b he.symm
     omega
  ·rw [List.getElem?_set_ne hik] at hu
   by_cases hjk:k=j
   ·subst hjk
    rw [hnew] at hu'
    injection hu' with hu'
    subst hu'
    rcases hb with hb | hb
    ·rw [hb];exact a3 i k _ _ hij hu hvk
    ·cases hq:u.ownBlock with
     |none=>exact .inl rfl
     |some b =>
      refine .inr fun he=>?_
      have h1:=hb b he.symm
      have h2:=old i u hu b hq
      omega
   ·rw [List.getElem?_set_ne hjk] at hu'
    exact a3 i j u u' hij hu hu'
end
end Go.Proofs.YtmenmibfkojnoaaGreat
