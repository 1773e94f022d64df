/- Contract of ShortenRuns' closure 'emit' . -/
import Derived.Test.YtmenmibfkojnoaaGreatY49
set_option maxHeartbeats 16000000
set_option maxRecDepth 100000
namespace Go.Proofs.YtmenmibfkojnoaaGreat
open Go.RowKit
set_option linter.unusedVariables false
def SRI (R P Q:Nat) (s:iw) (vo:Value) (wx:World):Prop:=SR R P 56 s vo wx/\Bx wx Q 24 #[vo]
def Keep (P Q:Nat) (vo vo':Value) (w w':World):Prop :=
 w.heap.size<=w'.heap.size/\(∀ b,b < w.heap.size->b ≠ P->b ≠ Q->some b ≠ vo.ownBlock->w'.heap[b]? = w.heap[b]?)/\(vo'.ownBlock=vo.ownBlock\/∃ k,w.heap.size<=k/\vo'.ownBlock=some k)
section
variable {R P Q:Nat} {s:iw} {vo vo':Value} {w wx w':World}
theorem SRI.below (h:SRI R P Q s vo wx) (hb:Below wx wx w'):SRI R P Q s vo w':=⟨h.1.below hb,h.2.below hb⟩
theorem SRI.alloc (h:SRI R P Q s vo wx) (o:Obj):SRI R P Q s vo (wx.alloc o):=⟨h.1.alloc o,h.2.alloc o⟩
theorem SRI.drew (h:SRI R P Q s vo wx):SRI R P Q s vo wx.drew:=⟨h.1.drew,h.2.drew⟩
theorem Keep.bx (h:Keep P Q vo vo' w w') {b t:Nat} {cs:Array Value} (hb:Bx w b t cs) (h1:b ≠ P) (h2:b ≠ Q) (h3:some b ≠ vo.ownBlock):Bx w' b t cs:=(h.2.1 b hb.lt h1 h2 h3).trans hb
theorem Keep.far (h:Keep P Q vo vo' w w') {b:Nat} (hb:b < w.heap.size) (h3:some b ≠ vo.ownBlock):some b ≠ vo'.ownBlock:=by
 intro e;rcases h.2.2 with h4 | ⟨k,h4,h5⟩
 ·rw [h4] at e;exact h3 e
 ·rw [h5] at e;injection e with e;omega
theorem Keep.rd (h:Keep P Q vo vo' w w') {sz n:Nat} {A:Option Addr} {xs:List Value} (hr:Rd w sz A n xs) (hA:∀ b off,A=some ⟨b,off,none⟩->b ≠ P/\b ≠ Q/\some b ≠ vo.ownBlock):Rd w' sz A n xs :=
 hr.keep h.1 fun b off e hlt=>h.2.1 b hlt (hA b off e).1 (hA b off e).2.1 (hA b off e).2.2
theorem SR.far {T:Nat} (h:SR R P T s vo wx) {g t:Nat} {cs:Array Value} (hg:Bx wx g t cs) (hP:P ≠ g) (hne:39 ≠ t) (i:Nat) (u:Value):SR R P T s vo (wx.setCell ⟨g,i,none⟩ u):=by
 obtain ⟨h1,vs,h2,h3,h4⟩:=h;exact ⟨h1,vs,h2,h3.far hP u,h4.store hg hne i u⟩
theorem Pd {g t:Nat} {v u:Value} (h:Bx wx g t #[v]):Bx (wx.setCell ⟨g,0,none⟩ u) g t #[u]:=by simpa using h.set_ 0 u
theorem SRI.pushOut (h:SRI R P Q s vo wx) (hPQ:P ≠ Q) {A':Option Addr} {m c':Nat} {news:List Gt} (hm:news.length=m) (hg:wx.grownBy w' vo.ownBlock) (ho:w'.ownsRow R 39 4 (.slice A' (s.1.length+m) c') (s.1.length+m) (af s.1++af news))
  (hat:(Value.slice A' (s.1.length+m) c').ownBlock=vo.ownBlock\/(Value.slice A' (s.1.length+m) c').ownBlock=some wx.heap.size):SRI R P Q (s.1++news,s.2) (.slice A' (s.1.length+m) c') (w'.setCell ⟨Q,0,none⟩ (.slice A' (s.1.length+m) c'))/\Keep P Q vo (.slice A' (s.1.length+m) c') wx (w'.setCell ⟨Q,0,none⟩ (.slice A' (s.1.length+m) c')):=by
 obtain ⟨A,c,e,o⟩:=h.1.out;have h1:=h.1.pushOut zD hm hg ho hat;have hQ:Bx w' Q 24 #[vo]:=by subst e;exact az o hg h.2 zD
 refine ⟨⟨h1.far hQ hPQ zD _ _,Pd hQ⟩,by simp [World.setCell];exact hg.size,fun b hb b1 b2 b3=>?_,?_⟩
 ·exact (Below.heap_setCell w' ⟨Q,0,none⟩ _ b b2).trans (hg.block b hb b3)
 ·rcases hat with h | h
  ·exact .inl h
  ·exact .inr ⟨_,zR,h⟩
theorem SRI.clear (h:SRI R P Q s vo wx) (hPQ:P ≠ Q) {q:Nat} (hq:q < 4):SRI R P Q (s.1,s.2.set q []) vo (wx.setCell ⟨P,q,none⟩ (.slice none 0 0)):=⟨h.1.clear zD hq,h.2.far (p:=⟨P,q,none⟩) (fun e=>hPQ e.symm) _⟩
theorem Keep.clear (h:Keep P Q vo vo' w wx) (q:Nat) (u:Value):Keep P Q vo vo' w (wx.setCell ⟨P,q,none⟩ u) :=
 ⟨by simp [World.setCell];exact h.1,fun b hb b1 b2 b3=>(Below.heap_setCell wx ⟨P,q,none⟩ _ b b1).trans (h.2.1 b hb b1 b2 b3),h.2.2⟩
theorem Keep.pre (h:Keep P Q vo vo' wx w') (hb:Below w w wx):Keep P Q vo vo' w w' :=
 ⟨Nat.le_trans hb.size h.1,fun b hlt b1 b2 b3=>(h.2.1 b (Nat.lt_of_lt_of_le hlt hb.size) b1 b2 b3).trans (hb.block b hlt),by
  rcases h.2.2 with h4 | ⟨k,h4,h5⟩
  ·exact .inl h4
  ·exact .inr ⟨k,Nat.le_trans hb.size h4,h5⟩⟩
end
theorem Ev (R P Q q:Nat) (s:iw) (vo:Value) (w:World) (hq:q < 4) (h:SRI R P Q s vo w) (hok:fH s) (hwt:lf s<=107374182400) (hPQ:P ≠ Q) (hRP:R<=P) (hRQ:R<=Q) :
  Calls Tryz.prog 46 #[q,.pointer (some ⟨Q,0,none⟩),.pointer (some ⟨P,0,none⟩)] w fun e w'=>e=.returned (.tuple #[])/\∃ vo',SRI R P Q (eV s q) vo' w'/\Keep P Q vo vo' w w'/\Below R w w':=by
 have hz4:(Value.agg #[(0:Int),(0:Int),(0:Int),(0:Int)]).cells.size=4:=rfl;have HS:=zH h;have hRw:R<=w.heap.size:=Nat.le_trans hRQ (Nat.le_of_lt h.2.lt);obtain ⟨A5,c5,rfl,o5⟩:=h.1.out;obtain ⟨Aq,cq,y0,y1,oq⟩:=h.1.run hq;have RQ:=zH (hok.2 q hq);have hln:=tx hok.1 hq;have HSL:=zH (jf (s.2.getD q []));obtain ⟨lr,hlr⟩:∃ lr,s.2.getD q []=lr:=⟨_,rfl⟩;have HEM:=zH (show eV s q=(s.1++cH lr,s.2.set q []) by unfold eV;rw [hlr]);rw [hlr] at y0 oq RQ hln HSL;have hs5:s.1.length<=107374182400:=by unfold lf at hwt;omega
 have O5:=zH o5;have OQ:=zH oq;have qI:(q:Int) < 4:=zO;have q0:(0:Int)<=(q:Int):=zO;have y0d:w.drew.cell? ⟨P,q,none⟩=some (.slice Aq lr.length cq):=y0;obtain ⟨x0,x1⟩:=h.2.drew.one;have hlr30:lr.length<=1073741824:=zO;clear h hok hlr o5 oq hwt;go_enter Tryz.func46,Tryz.ntmps46;go_upto_region 0 with fail
 go_region_law
  (first
   |(go_simp;go_at_call 47;refine (Lt q lr.length cq Aq lr _ hq (RdG.own (aq OQ.out)) hlr30 RQ.out).mono ?_;rintro e w6 ⟨A6,c6,rfl,o6,b60⟩;have b6:Below w w w6:=aC b60;have S6:=zH (HS.below b6);have O6:=zH (ab O5.out b6);have P6:=zH (RdG.own o6);have l6:R<=w6.heap.size:=Nat.le_trans hRw b6.size;have hs6:=HSL.out;obtain ⟨z0,z1⟩:=S6.out.2.one)
   |(refine pD zF (.tmp 4) (.tmp 8) 24 zF Tryz.underlying24 ak hz4 zD (base:=R) zA O6.out zA P6.out.2 aQ zO zD l6 ?_;intro A7 c7 w7 o7 gr at7;have S7:=zH (S6.pushOut hPQ rfl gr o7 at7);have B7:=zH (((ag (Below.mono b6 hRw) l6 O6.out zR gr).setCell (p:=⟨Q,0,none⟩) hRQ (.slice A7 (s.1.length+(cH lr).length) c7)));have k7:=S6.out.2.grown gr (am O6.out S6.out.2 zD);obtain ⟨z2,z3⟩:=k7.one))
 all_goals
  obtain ⟨Av,cv,v0,v1,_⟩:=S7.out.1.1.run hq;go_wp2_with fail
  (first | go_ret | go_end0)
  rw [HEM.out];exact ⟨rfl,_,S7.out.1.clear hPQ hq,(S7.out.2.clear q _).pre b6,B7.setCell (p:=⟨P,q,none⟩) hRP _⟩
end Go.Proofs.YtmenmibfkojnoaaGreat
