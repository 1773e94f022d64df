/- Contract of ConjugatePauli (impl), for valid operators and Clifford gates. -/
import Derived.Test.YtmenmibfkojnoaaGreatV07
import Derived.Test.YtmenmibfkojnoaaGreatV08
import Derived.Test.YtmenmibfkojnoaaGreatV12
import Derived.Test.YtmenmibfkojnoaaGreatV10
set_option maxHeartbeats 16000000
namespace Go.Proofs.YtmenmibfkojnoaaGreat
open Go.RowKit
set_option linter.unusedVariables false
def CB (w:World) (n:Nat) (a:Pq) (g:Gt) (O:Nat) (o:Pq) (wx:World):Prop :=
 QB w w.heap.size n a wx/\Bx wx (w.heap.size+1) 39 #[.int .i64 g.k,.int .i64 g.a,.int .i64 g.b,.int .i64 g.c]/\Bx wx (w.heap.size+1+1) 151 #[.int .i64 0,.int .i64 0,.int .i64 0,.int .i64 0]/\Bx wx O 151 #[.int .i64 (n:Nat),.int .i64 (o.x:Nat),.int .i64 (o.z:Nat),.int .i64 (o.p:Nat)]/\w.heap.size+1+1 < O
section
variable {w wx w':World} {n O:Nat} {a o:Pq} {g:Gt}
theorem CB.below (h:CB w n a g O o wx) (hb:Below wx.heap.size wx w'):CB w n a g O o w':=⟨h.1.below hb,h.2.1.below hb,h.2.2.1.below hb,h.2.2.2.1.below hb,h.2.2.2.2⟩
theorem CB.alloc (h:CB w n a g O o wx) (u:Obj):CB w n a g O o (wx.alloc u):=h.below ((zW).alloc zR _)
theorem CB.drew (h:CB w n a g O o wx):CB w n a g O o wx.drew:=h.below (zW).drew
theorem CB.set (h:CB w n a g O o wx) (b:Pq):CB w n a g O b (S4 wx O (.int .i64 (n:Nat)) (.int .i64 (b.x:Nat)) (.int .i64 (b.z:Nat)) (.int .i64 (b.p:Nat))):=by
 have hO:=h.2.2.2.2
 exact ⟨h.1.set4 (by omega) (by omega) _ _ _ _,h.2.1.far4 (by omega) _ _ _ _,h.2.2.1.far4 (by omega) _ _ _ _,h.2.2.2.1.set4 _ _ _ _,hO⟩
theorem CB.gcells (h:CB w n a g O o wx):wx.cell? ⟨w.heap.size+1,0,none⟩=some (.int .i64 g.k)/\wx.cell? ⟨w.heap.size+1,1,none⟩=some (.int .i64 g.a)/\wx.cell? ⟨w.heap.size+1,2,none⟩=some (.int .i64 g.b)/\wx.cell? ⟨w.heap.size+1,3,none⟩=some (.int .i64 g.c):=⟨h.2.1.cell 0,h.2.1.cell 1,h.2.1.cell 2,h.2.1.cell 3⟩
end
theorem conj_start {n:Nat} {g:Gt} {a c:Pq} (hc:conjQ n g a=c):conjL g a ((List.range n).drop 0) ⟨0,0,a.p⟩=c:=hc
theorem conj_next {n k:Nat} {g:Gt} {a o c:Pq} (hk:k < n) (h:conjL g a ((List.range n).drop k) o=c):conjL g a ((List.range n).drop (k+1)) (conjStep g a o k)=c:=by
 rw [range_drop hk] at h
 exact h
theorem conj_end {n:Nat} {g:Gt} {a o c:Pq} (h:conjL g a ((List.range n).drop n) o=c):o=c:=by
 rw [List.drop_eq_nil_of_le (by simp)] at h
 exact h
set_option maxRecDepth 100000 in
theorem i_ConjPau (n:Nat) (a c:Pq) (g:Gt) (w:World) (hn:1<=n/\n<=4) (ha:okQn n a=true) (hg:okN n g=true) (hcl:cliff g.k=true) (hc:conjQ n g a=c):Calls Tryz.prog 156 #[.agg #[.int .i64 (n:Nat),.int .i64 (a.x:Nat),.int .i64 (a.z:Nat),.int .i64 (a.p:Nat)],.agg #[.int .i64 g.k,.int .i64 g.a,.int .i64 g.b,.int .i64 g.c]] w fun e w'=>e=.returned (.tuple #[.agg #[.int .i64 (n:Nat),.int .i64 (c.x:Nat),.int .i64 (c.z:Nat),.int .i64 (c.p:Nat)],.bool true])/\Below w.heap.size w w':=by
 obtain ⟨A,B,eg,hA,hB,hsh⟩:=cl_shape hg hcl
 obtain ⟨kd,ga,gb,gc⟩:=g
 simp only at eg hsh hcl
 simp only [Gt.mk.injEq,true_and] at eg
 obtain ⟨rfl,rfl,rfl⟩:=eg
 have HA:=zH ha
 have HG:=zH hg
 have HG2:=zH (show okG kd (A:Int) (B:Int) 0 (n:Int)=true from hg)
 have HL:=zH hcl
 have HC:=zH (conj_start hc)
 have HS:=zH hsh
 have okp:=zH (show okQn n ⟨0,0,a.p⟩=true from okQn_iff.2 ⟨Nat.pow_pos (by omega),Nat.pow_pos (by omega),(okQn_iff.1 ha).2.2⟩)
 have hx4:=(okQ16 hn.2 ha).1
 have hz4:=(okQ16 hn.2 ha).2.1
 have X0:=zH (show QB w w.heap.size n a (((w.alloc (.cells #[.int .i64 (n:Nat),.int .i64 (a.x:Nat),.int .i64 (a.z:Nat),.int .i64 (a.p:Nat)] 151)).alloc (.cells #[.int .i64 kd,.int .i64 (A:Nat),.int .i64 (B:Nat),.int .i64 0] 39)).alloc (.cells #[.int .i64 0,.int .i64 0,.int .i64 0,.int .i64 0] 151)) from ⟨((Bx.new w _ _).alloc _).alloc _,(((zW).alloc zR _).alloc (by simp) _).alloc (by simp<;>omega) _,zR⟩)
 have G0:=zH (show Bx (((w.alloc (.cells #[.int .i64 (n:Nat),.int .i64 (a.x:Nat),.int .i64 (a.z:Nat),.int .i64 (a.p:Nat)] 151)).alloc (.cells #[.int .i64 kd,.int .i64 (A:Nat),.int .i64 (B:Nat),.int .i64 0] 39)).alloc (.cells #[.int .i64 0,.int .i64 0,.int .i64 0,.int .i64 0] 151)) (w.heap.size+1) 39 #[.int .i64 kd,.int .i64 (A:Nat),.int .i64 (B:Nat),.int .i64 0] from (Bx.new' (by simp)).alloc _)
 have R0:=zH (show Bx (((w.alloc (.cells #[.int .i64 (n:Nat),.int .i64 (a.x:Nat),.int .i64 (a.z:Nat),.int .i64 (a.p:Nat)] 151)).alloc (.cells #[.int .i64 kd,.int .i64 (A:Nat),.int .i64 (B:Nat),.int .i64 0] 39)).alloc (.cells #[.int .i64 0,.int .i64 0,.int .i64 0,.int .i64 0] 151)) (w.heap.size+1+1) 151 #[.int .i64 0,.int .i64 0,.int .i64 0,.int .i64 0] from Bx.new' (by simp))
 clear ha hg hcl hc hsh
 go_enter Tryz.func156,Tryz.ntmps156
 go_wp2_with fail
 refine (i_IsPau n a _ hn HA.out).mono ?_
 rintro e w1 ⟨rfl,b1⟩
 have X1:=zH (X0.out.below b1)
 have G1:=zH (G0.out.below b1)
 have R1:=zH (R0.out.below b1)
 clear b1 X0 G0 R0
 obtain ⟨p0,p1,p2,p3⟩:=X1.out.cells
 obtain ⟨g0,g1,g2,g3,_⟩:=G1.out.four
 go_wp2_with fail
 refine (i_IsValidGate _ _ _ _ _ _).mono ?_
 rintro e w2 ⟨rfl,b2⟩
 rw [HG2.out]
 have X2:=zH (X1.out.below b2)
 have G2:=zH (G1.out.below b2)
 have R2:=zH (R1.out.below b2)
 clear b2 X1 G1 R1 p0 p1 p2 p3 g0 g1 g2 g3
 obtain ⟨g0,g1,g2,g3,_⟩:=G2.out.four
 go_wp2_with fail
 refine (i_IsClifford _ _ _ _ _).mono ?_
 rintro e w3 ⟨rfl,b3⟩
 rw [HL.out]
 have B0:=zH (show CB w n a ⟨kd,A,B,0⟩ w3.heap.size ⟨0,0,a.p⟩ (w3.alloc (.cells #[.int .i64 (n:Nat),.int .i64 0,.int .i64 0,.int .i64 (a.p:Nat)] 151)) from ⟨(X2.out.below b3).alloc _,(G2.out.below b3).alloc _,(R2.out.below b3).alloc _,Bx.new _ _ _,(R2.out.below b3).lt⟩)
 obtain ⟨p0,p1,p2,p3⟩:=(X2.out.below b3).cells
 clear b3 X2 G2 R2 g0 g1 g2 g3
 go_wp2_with fail
 go_loopg [7] n (fun r i wr=>∃ (k:Nat) (o:Pq),k+r=n/\i=.int .i64 k/\okQn n o=true/\conjL ⟨kd,A,B,0⟩ a ((List.range n).drop k) o=c/\CB w n a ⟨kd,A,B,0⟩ w3.heap.size o wr)
 case atStart=>exact ⟨0,⟨0,0,a.p⟩,by omega,rfl,okp.out,HC.out,B0.out⟩
 case round =>
  clear B0 HC okp p0 p1 p2 p3
  obtain ⟨k,o,hk,rfl,ho,he,hB⟩:=hrel
  have HO:=zH ho
  have HE:=zH he
  have HB:=zH hB
  clear ho he hB
  obtain ⟨p0,p1,p2,p3⟩:=HB.out.1.cells
  obtain ⟨g0,g1,g2,g3⟩:=HB.out.gcells
  by_cases hlt:k < n
  ·obtain ⟨cx,hcx⟩:∃ c,imX ⟨kd,A,B,0⟩ k=c:=⟨_,rfl⟩
   obtain ⟨cz,hcz⟩:∃ c,imZ ⟨kd,A,B,0⟩ k=c:=⟨_,rfl⟩
   have okx:=zH (show okQn n cx=true from hcx ▸ (im_ok HG.out HL.out hlt).1)
   have okz:=zH (show okQn n cz=true from hcz ▸ (im_ok HG.out HL.out hlt).2)
   have MI:=fun w=>i_images n k A B kd w (by omega) hA hB HS.out
   simp only [hcx,hcz] at MI
   have NX:=zH (conj_next hlt HE.out)
   have NO:=zH (conjStep_ok (a:=a) HG.out HL.out hlt HO.out)
   obtain ⟨o2,ho2⟩:∃ o2,conjStep ⟨kd,A,B,0⟩ a o k=o2:=⟨_,rfl⟩
   have HS2:=zH (show o2=(if bitB a.z k=true then mulQ (if bitB a.x k=true then mulQ o cx else o) cz else (if bitB a.x k=true then mulQ o cx else o)) by rw [<- ho2,<- hcx,<- hcz];rfl)
   rw [ho2] at NX NO
   have BX:=bitT hx4 (show k < 4 by omega)
   have BZ:=bitT hz4 (show k < 4 by omega)
   clear ho2 hcx hcz HE
   go_wp2_with fail
   refine (MI _).mono ?_
   rintro e w5 ⟨rfl,b5⟩
   have B5:=zH (((HB.out.below b5).alloc (.cells #[.int .i64 (n:Nat),.int .i64 (cx.x:Nat),.int .i64 (cx.z:Nat),.int .i64 (cx.p:Nat)] 151)).alloc (.cells #[.int .i64 (n:Nat),.int .i64 (cz.x:Nat),.int .i64 (cz.z:Nat),.int .i64 (cz.p:Nat)] 151))
   have X5:=zH ((Bx.new w5 151 #[.int .i64 (n:Nat),.int .i64 (cx.x:Nat),.int .i64 (cx.z:Nat),.int .i64 (cx.p:Nat)]).alloc (.cells #[.int .i64 (n:Nat),.int .i64 (cz.x:Nat),.int .i64 (cz.z:Nat),.int .i64 (cz.p:Nat)] 151))
   have Z5:=zH (show Bx ((w5.alloc (.cells #[.int .i64 (n:Nat),.int .i64 (cx.x:Nat),.int .i64 (cx.z:Nat),.int .i64 (cx.p:Nat)] 151)).alloc (.cells #[.int .i64 (n:Nat),.int .i64 (cz.x:Nat),.int .i64 (cz.z:Nat),.int .i64 (cz.p:Nat)] 151)) (w5.heap.size+1) 151 #[.int .i64 (n:Nat),.int .i64 (cz.x:Nat),.int .i64 (cz.z:Nat),.int .i64 (cz.p:Nat)] from Bx.new' (by simp))
   have n5:w3.heap.size < w5.heap.size:=(HB.out.below b5).2.2.2.1.lt
   clear b5 HB MI p0 p1 p2 p3 g0 g1 g2 g3
   obtain ⟨p0,p1,p2,p3⟩:=B5.out.1.cells
   cases hx:bitB a.x k
   ·cases hz:bitB a.z k
    ·obtain rfl:o2=o:=by rw [HS2.out,hx,hz];rfl
     go_wp2_with fail
     go_roundg (gk - 1)
     all_goals first
      |omega
      |exact ⟨k+1,o2,by omega,by go_num,NO.out,NX.out,B5.out⟩
    ·have HM:=zH (show mulQ o cz=o2 by rw [HS2.out,hx,hz];rfl)
     obtain ⟨q0,q1,q2,q3,_⟩:=B5.out.2.2.2.1.four
     obtain ⟨x0,x1,x2,x3,_⟩:=Z5.out.four
     go_wp2_with fail
     refine (i_MulPau n o cz o2 _ hn HO.out okz.out HM.out).mono ?_
     rintro e w6 ⟨rfl,b6⟩
     have Bw6:=zH ((B5.out.below b6).set o2)
     obtain ⟨q0',q1',q2',q3',q4',q5',q6',q7'⟩:=(B5.out.below b6).2.2.2.1.four
     obtain ⟨p0',p1',p2',p3'⟩:=Bw6.out.1.cells
     clear b6 B5 p0 p1 p2 p3 q0 q1 q2 q3 x0 x1 x2 x3
     go_wp2_with fail
     go_roundg (gk - 1)
     all_goals first
      |omega
      |exact ⟨k+1,o2,by omega,by go_num,NO.out,NX.out,Bw6.out⟩
   ·cases hz:bitB a.z k
    ·have HM:=zH (show mulQ o cx=o2 by rw [HS2.out,hx,hz];rfl)
     obtain ⟨q0,q1,q2,q3,_⟩:=B5.out.2.2.2.1.four
     obtain ⟨x0,x1,x2,x3,_⟩:=X5.out.four
     go_wp2_with fail
     refine (i_MulPau n o cx o2 _ hn HO.out okx.out HM.out).mono ?_
     rintro e w6 ⟨rfl,b6⟩
     have Bw6:=zH ((B5.out.below b6).set o2)
     obtain ⟨q0',q1',q2',q3',q4',q5',q6',q7'⟩:=(B5.out.below b6).2.2.2.1.four
     obtain ⟨p0',p1',p2',p3'⟩:=Bw6.out.1.cells
     clear b6 B5 p0 p1 p2 p3 q0 q1 q2 q3 x0 x1 x2 x3
     go_wp2_with fail
     go_roundg (gk - 1)
     all_goals first
      |omega
      |exact ⟨k+1,o2,by omega,by go_num,NO.out,NX.out,Bw6.out⟩
    ·obtain ⟨om,hom⟩:∃ m,mulQ o cx=m:=⟨_,rfl⟩
     have OM:=zH (mulQ_ok HO.out okx.out)
     rw [hom] at OM
     have HM:=zH hom
     have HM2:=zH (show mulQ om cz=o2 by rw [HS2.out,hx,hz,<- hom];rfl)
     clear hom
     obtain ⟨q0,q1,q2,q3,_⟩:=B5.out.2.2.2.1.four
     obtain ⟨x0,x1,x2,x3,_⟩:=X5.out.four
     go_wp2_with fail
     refine (i_MulPau n o cx om _ hn HO.out okx.out HM.out).mono ?_
     rintro e w6 ⟨rfl,b6⟩
     have Bw6:=zH ((B5.out.below b6).set om)
     have Zw6:=zH ((Z5.out.below b6).far4 (show w5.heap.size+1 ≠ w3.heap.size by omega) (.int .i64 (n:Nat)) (.int .i64 (om.x:Nat)) (.int .i64 (om.z:Nat)) (.int .i64 (om.p:Nat)))
     obtain ⟨q0',q1',q2',q3',q4',q5',q6',q7'⟩:=(B5.out.below b6).2.2.2.1.four
     obtain ⟨p0',p1',p2',p3'⟩:=Bw6.out.1.cells
     clear b6 B5 p0 p1 p2 p3 q0 q1 q2 q3 x0 x1 x2 x3
     obtain ⟨p0,p1,p2,p3⟩:=Bw6.out.1.cells
     obtain ⟨q0,q1,q2,q3,_⟩:=Bw6.out.2.2.2.1.four
     obtain ⟨x0,x1,x2,x3,_⟩:=Zw6.out.four
     go_wp2_with fail
     refine (i_MulPau n om cz o2 _ hn OM.out okz.out HM2.out).mono ?_
     rintro e w7 ⟨rfl,b6⟩
     have Bw7:=zH ((Bw6.out.below b6).set o2)
     obtain ⟨q0'',q1'',q2'',q3'',q4',q5',q6',q7'⟩:=(Bw6.out.below b6).2.2.2.1.four
     obtain ⟨p0',p1',p2',p3'⟩:=Bw7.out.1.cells
     clear b6 Bw6 p0 p1 p2 p3 q0 q1 q2 q3 x0 x1 x2 x3
     go_wp2_with fail
     go_roundg (gk - 1)
     all_goals first
      |omega
      |exact ⟨k+1,o2,by omega,by go_num,NO.out,NX.out,Bw7.out⟩
  ·obtain rfl:k=n:=by omega
   obtain rfl:=conj_end HE.out
   obtain ⟨o0,o1,o2,o3,_⟩:=HB.out.2.2.2.1.four
   obtain ⟨r0,r1,r2,r3,r4,r5,r6,r7⟩:=HB.out.2.2.1.four
   go_wp2_with fail
   have RB:=HB.out.2.2.1
   with_reducible refine ret_S4 RB ?_ ?_ ⟨rfl,?_⟩
   ·intro wS z0 z1 z2 z3;simp [results,Tryz.results156,go_sem,z0,z1,z2,z3]
   ·rfl
   ·exact belowS4 HB.out.1.2.1 (by omega) _ _ _ _
end Go.Proofs.YtmenmibfkojnoaaGreat
