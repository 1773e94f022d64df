/- Contract of MergeGates (spec). -/
import Derived.Test.YtmenmibfkojnoaaGreatY05
set_option maxHeartbeats 16000000
set_option maxRecDepth 100000
namespace Go.Proofs.YtmenmibfkojnoaaGreat
open Go.RowKit
def MgSt (w0:World) (s:Nat) (g h:Gt) (wx:World):Prop:=Bx wx s 39 #[g.k,g.a,g.b,g.c]/\Bx wx (s+1) 39 #[h.k,h.a,h.b,h.c]/\Below w0 w0 wx
theorem MgSt.below {w0 wx w':World} {s:Nat} {g h:Gt} (t:MgSt w0 s g h wx) (hb:Below wx wx w'):MgSt w0 s g h w':=⟨t.1.below hb,t.2.1.below hb,t.2.2.trans (hb.mono t.2.2.size)⟩
theorem MgSt.drew {w0 wx:World} {s:Nat} {g h:Gt} (t:MgSt w0 s g h wx):MgSt w0 s g h wx.drew:=⟨t.1,t.2.1,t.2.2.drew⟩
theorem MgSt.drewN {w0 wx:World} {s:Nat} {g h:Gt} (t:MgSt w0 s g h wx) (n:Nat):MgSt w0 s g h (wx.drewN n):=⟨t.1,t.2.1,bW t.2.2 n⟩
def Nh (s:Nat) (g h:Gt) (wx:World):Prop:=wx.cell? ⟨s,0,none⟩=some (.int .i64 g.k)/\wx.cell? ⟨s,1,none⟩=some (.int .i64 g.a)/\wx.cell? ⟨s,2,none⟩=some (.int .i64 g.b)/\wx.cell? ⟨s,3,none⟩=some (.int .i64 g.c)/\wx.cell? ⟨s+1,0,none⟩=some (.int .i64 h.k)/\wx.cell? ⟨s+1,1,none⟩=some (.int .i64 h.a)/\wx.cell? ⟨s+1,2,none⟩=some (.int .i64 h.b)/\wx.cell? ⟨s+1,3,none⟩=some (.int .i64 h.c)
theorem MgSt.cells {w0 wx:World} {s:Nat} {g h:Gt} (t:MgSt w0 s g h wx):Nh s g h wx:=by
 obtain ⟨p0,p1,p2,p3,_⟩:=t.1.four;obtain ⟨q0,q1,q2,q3,_⟩:=t.2.1.four;exact ⟨p0,p1,p2,p3,q0,q1,q2,q3⟩
def PU (w:World) (g h:Gt) (v:Value) (wx:World):Prop:=∃ A c,v=.slice A (lu (lE g h)).length c/\wx.ownsRow w 39 4 (.slice A (lu (lE g h)).length c) (lu (lE g h)).length (af (cG (lE g h) g.a))/\MgSt w w.heap.size g h wx
theorem yx (w:World) (g h:Gt):MgSt w w.heap.size g h ((w.alloc g).alloc h) :=
 ⟨(Bx.new w _ _).alloc _,Bx.new' zI,((zW).alloc zR _).alloc zI _⟩
theorem AZ {p:Prop} (h:p:=by
  clear hr
  go_wp2_with (go_at_call 102;(with_reducible refine (aT _ _).mono ?_);rintro e w' ⟨rfl,rfl⟩)
  go_ret2;exact FIN.out):p:=h
theorem vF (g h:Gt) (w:World):Calls Tryz.prog 141 #[.agg #[g.k,g.a,g.b,g.c],.agg #[h.k,h.a,h.b,h.c]] w (mO (aU g h) (bK g h) w):=by
 have ST:=zH (yx w g h);have hM:Tryz.prog.eqGuardType Tryz.prog.depth 39=false:=zK;go_enter Tryz.func141,Tryz.ntmps141;go_upto_region 1 with fail
 obtain ⟨w0,hw0⟩:∃ w0,w0=(w.alloc g).alloc h:=⟨_,rfl⟩;rw [<- hw0] at ST ⊢;clear hw0;obtain ⟨p0,p1,p2,p3,q0,q1,q2,q3⟩:=ST.cells
 go_cut [21] (fun v wx=>v=.bool (dZ g h)/\MgSt w w.heap.size g h wx)
 case first =>
  by_cases h0:0 < aA g.k
  ·have d0:decide (0 < aA g.k)=true:=by simpa using h0
   cases hi:ud g h
   ·have HB:Hid (dZ g h=m9 g h):=by unfold Hid;simp [dZ,h0,hi]
    have hE:∀ w,(Op.equalIn 10000 39 (.agg #[h.k,h.a,h.b,h.c]) (.agg #[.int .i64 (ji g.k),g.a,g.b,g.c])).run Tryz.prog w=.ok false w:=fun w=>by rw [Q0];exact congrArg (fun b=>Result.ok b w) hi
    clear hi h0;have U0:=ST.drew;have HA:Hid (xV g.k g.a g.b h.k h.a h.b=m9 g h):=rfl
    go_region_with (first
      |(go_at_call 60;(with_reducible refine (bX _ _).mono ?_);rintro e w' ⟨rfl,rfl⟩)
      |(go_at_call 176;(with_reducible refine (Mu _ _ _ _ _ _ _ _ _).mono ?_);rintro e w2 ⟨rfl,b2⟩;have U2:=U1.below b2)
      |(go_at_call 154;(with_reducible refine (jK _ _ _ _ _).mono ?_);rintro e w1 ⟨rfl,b1⟩;have U1:=U0.below b1;obtain ⟨u0,u1,u2,u3,v0,v1,v2,v3⟩:=U1.cells))
    all_goals go_wp2_with fail
    all_goals go_meet
    all_goals exact ⟨by rw [HB.out,<- HA.out],U2⟩
   ·have HB:Hid (dZ g h=true):=by unfold Hid;simp [dZ,h0,hi]
    have hE:∀ w,(Op.equalIn 10000 39 (.agg #[h.k,h.a,h.b,h.c]) (.agg #[.int .i64 (ji g.k),g.a,g.b,g.c])).run Tryz.prog w=.ok true w:=fun w=>by rw [Q0];exact congrArg (fun b=>Result.ok b w) hi
    clear hi h0;have U0:=ST.drew
    go_region_with (first
      |(go_at_call 60;(with_reducible refine (bX _ _).mono ?_);rintro e w' ⟨rfl,rfl⟩)
      |(go_at_call 154;(with_reducible refine (jK _ _ _ _ _).mono ?_);rintro e w1 ⟨rfl,b1⟩;have U1:=U0.below b1;obtain ⟨u0,u1,u2,u3,v0,v1,v2,v3⟩:=U1.cells))
    all_goals go_wp2_with fail
    all_goals go_meet
    all_goals exact ⟨by rw [HB.out],U1⟩
  ·have d0:decide (0 < aA g.k)=false:=by simpa using h0
   have HB:Hid (dZ g h=false):=by unfold Hid;simp [dZ,h0]
   clear h0;go_quiet ((go_at_call 60;exact eJ (bX _ _)))
   go_wp2_with fail;go_meet;exact ⟨by rw [HB.out],MgSt.drewN ST.out _⟩
 case rest =>
  obtain ⟨rfl,T1⟩:=hcut;obtain ⟨wd,rfl⟩:∃ wd,wd=wc:=⟨_,rfl⟩;have XT:=zH T1;clear T1 ST p0 p1 p2 p3 q0 q1 q2 q3;obtain ⟨p0,p1,p2,p3,q0,q1,q2,q3⟩:=XT.cells;have hg0:=ft g.k;have hh0:=ft h.k;cases hb:dZ g h
  ·have HB:=zH hb;clear hb;have none_:∀ {wx:World},aU g h=[]/\bK g h=false->Below w w wx->mO (aU g h) (bK g h) w (.returned (.tuple #[.slice (some ⟨wx,0,none⟩) 0 0,.bool false])) (wx.alloc (.cells #[] 39)):=fun {wx} h1 h2=>by
    rw [h1.1,h1.2];exact ⟨_,_,rfl,World.ownsRow_lit wx #[] 0 h2.size zM rfl |> fun o=>ae o zR,h2.alloc h2.size _⟩
   cases hr:rC g h
   ·have FIN:=zH (none_ (wx:=wd) (rD HB hr) XT.out.2.2);clear none_;by_cases h1:0 < al g.k
    ·have d1:decide (0 < al g.k)=true:=by simpa using h1
     by_cases h2:0 < al h.k
     ·have d2:decide (0 < al h.k)=true:=by simpa using h2
      have e3:(g.a == h.a)=false:=by simpa [rC,h1,h2] using hr
      exact AZ
     ·have d2:decide (0 < al h.k)=false:=by simpa using h2
      exact AZ
    ·have d1:decide (0 < al g.k)=false:=by simpa using h1
     exact AZ
   ·have hr':0 < al g.k/\0 < al h.k/\g.a=h.a:=by simpa [rC,and_assoc] using hr
    obtain ⟨h1,h2,h3⟩:=hr';have d1:decide (0 < al g.k)=true:=by simpa using h1
    have d2:decide (0 < al h.k)=true:=by simpa using h2
    have e3:(g.a == h.a)=true:=by simpa using h3
    have HR:=zH hr;have hwr:IntKind.i64.wrap (al g.k+al h.k)=al g.k+al h.k:=by rw [IntKind.wrap_i64];omega
    have HS:Hid ((al g.k+al h.k) % 8=lE g h):=rfl;clear hr h3;go_upto_region 4 with (go_at_call 102;(with_reducible refine (aT _ _).mono ?_);rintro e w' ⟨rfl,rfl⟩)
    go_cut [6] (fun v wx=>PU w g h v wx)
    case first =>
     have U0:=XT.drew;have hs0:=XT.out.2.2.size
     go_region_held3 (fun w'=>w'.cell? ⟨w,0,none⟩=some (.int .i64 g.k)/\w'.cell? ⟨w,1,none⟩=some (.int .i64 g.a)/\w'.cell? ⟨w.heap.size+1,0,none⟩=some (.int .i64 h.k))
      (first | go_keep | exact ⟨U1.cells.1,U1.cells.2.1,U1.cells.2.2.2.2.1⟩)
      (first
       |(go_at_call 102;(with_reducible refine (aT _ _).mono ?_);rintro e w' ⟨rfl,rfl⟩)
       |(go_at_call 58;(with_reducible refine (fI _ _).mono ?_);rintro e w' ⟨rfl,rfl⟩;rw [HS.out])
       |(go_at_call 104;(with_reducible refine (kQ _ _ _).mono ?_);rintro e w1 ⟨A1,c1,rfl,o1,b1⟩;have U1:=U0.below b1))
     all_goals go_wp2_with fail
     all_goals go_meet
     all_goals exact ⟨A1,c1,rfl,ae o1 hs0,U1⟩
    case rest =>
     obtain ⟨A,c,rfl,own,T2⟩:=hcut;have hl:=fS (lE g h);have hlG:=jU (lE g h) g.a;obtain ⟨m,hm⟩:∃ m,(lu (lE g h)).length=m:=⟨_,rfl⟩;have HM:=zH hm;rw [hm] at hl own hlG;rw [HM.out];have HL:=zH hlG;have OWN:=zH own;have TT:=zH T2;clear hm own T2 hlG;by_cases hm1:m<=1
     ·have hlt:(m:Int) < 2:=zO;have FIN:=zH (show mO (aU g h) (bK g h) w (.returned (.tuple #[.slice A m c,.bool true])) wc from by
       obtain ⟨e1,e2⟩:=ue HB.out HR.out (by rw [HM.out];exact hm1);rw [e1,e2];refine ⟨A,c,?_,?_,TT.out.2.2⟩
       ·rw [HL.out]
       ·rw [HL.out];exact OWN.out)
      go_wp2_with fail;go_ret2;exact FIN.out
     ·have hlt:¬ (m:Int) < 2:=zO;have FIN:=zH (none_ (wx:=wc) (uf HB.out (by rw [HM.out];exact hm1)) TT.out.2.2);clear none_;go_wp2_with fail;go_ret2;exact FIN.out
  ·have FIN:=zH (show mO (aU g h) (bK g h) w (.returned (.tuple #[.slice (some ⟨wd.heap.size,0,none⟩) 0 0,.bool true])) (wd.alloc (.cells #[] 39)) from by
    rw [(ml hb).1,(ml hb).2];exact ⟨_,_,rfl,World.ownsRow_lit wd #[] 0 XT.out.2.2.size zM rfl |> fun o=>ae o zR,XT.out.2.2.alloc XT.out.2.2.size _⟩)
   clear hb;go_wp2_with fail;go_ret2;exact FIN.out
end Go.Proofs.YtmenmibfkojnoaaGreat
