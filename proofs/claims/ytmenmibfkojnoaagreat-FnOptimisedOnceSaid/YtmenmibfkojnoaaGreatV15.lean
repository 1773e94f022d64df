/- Contract of ConjugatePauli (spec), for valid operators and Clifford gates. -/
import Derived.Test.YtmenmibfkojnoaaGreatV13
import Derived.Test.YtmenmibfkojnoaaGreatV14
set_option maxHeartbeats 16000000
namespace Go.Proofs.YtmenmibfkojnoaaGreat
open Go.RowKit
set_option linter.unusedVariables false
set_option maxRecDepth 100000 in
theorem s_ConjPau (n:Nat) (a c:Pq) (g:Gt) (w:World) (hn:1<=n/\n<=4) (ha:okQn n a=true) (hg:okN n g=true) (hcl:cliff g.k=true) (hc:conjQ n g a=c):Calls Tryz.prog 150 #[.agg #[.int .i64 (n:Nat),.int .i64 (a.x:Nat),.int .i64 (a.z:Nat),.int .i64 (a.p:Nat)],.agg #[.int .i64 g.k,.int .i64 g.a,.int .i64 g.b,.int .i64 g.c]] w fun e w'=>e=.returned (.tuple #[.agg #[.int .i64 (n:Nat),.int .i64 (c.x:Nat),.int .i64 (c.z:Nat),.int .i64 (c.p:Nat)],.bool true])/\Below w.heap.size w w':=by
 obtain ⟨A,B,eg,hA,hB,hsh⟩:=cl_shape hg hcl
 obtain ⟨kd,ga,gb,gc⟩:=g
 simp only at eg hsh hcl
 simp only [Gt.mk.injEq,true_and] at eg
 obtain ⟨rfl,rfl,rfl⟩:=eg
 have HA:=zH ha
 have HG:=zH hg
 have HG2:=zH (show okG kd (A:Int) (B:Int) 0 (n:Int)=true from hg)
 have HL:=zH hcl
 have HC:=zH (conj_start hc)
 have HS:=zH hsh
 have okp:=zH (show okQn n ⟨0,0,a.p⟩=true from okQn_iff.2 ⟨Nat.pow_pos (by omega),Nat.pow_pos (by omega),(okQn_iff.1 ha).2.2⟩)
 have hx4:=(okQ16 hn.2 ha).1
 have hz4:=(okQ16 hn.2 ha).2.1
 have X0:=zH (show QB w w.heap.size n a (((w.alloc (.cells #[.int .i64 (n:Nat),.int .i64 (a.x:Nat),.int .i64 (a.z:Nat),.int .i64 (a.p:Nat)] 151)).alloc (.cells #[.int .i64 kd,.int .i64 (A:Nat),.int .i64 (B:Nat),.int .i64 0] 39)).alloc (.cells #[.int .i64 0,.int .i64 0,.int .i64 0,.int .i64 0] 151)) from ⟨((Bx.new w _ _).alloc _).alloc _,(((zW).alloc zR _).alloc (by simp) _).alloc (by simp<;>omega) _,zR⟩)
 have G0:=zH (show Bx (((w.alloc (.cells #[.int .i64 (n:Nat),.int .i64 (a.x:Nat),.int .i64 (a.z:Nat),.int .i64 (a.p:Nat)] 151)).alloc (.cells #[.int .i64 kd,.int .i64 (A:Nat),.int .i64 (B:Nat),.int .i64 0] 39)).alloc (.cells #[.int .i64 0,.int .i64 0,.int .i64 0,.int .i64 0] 151)) (w.heap.size+1) 39 #[.int .i64 kd,.int .i64 (A:Nat),.int .i64 (B:Nat),.int .i64 0] from (Bx.new' (by simp)).alloc _)
 have R0:=zH (show Bx (((w.alloc (.cells #[.int .i64 (n:Nat),.int .i64 (a.x:Nat),.int .i64 (a.z:Nat),.int .i64 (a.p:Nat)] 151)).alloc (.cells #[.int .i64 kd,.int .i64 (A:Nat),.int .i64 (B:Nat),.int .i64 0] 39)).alloc (.cells #[.int .i64 0,.int .i64 0,.int .i64 0,.int .i64 0] 151)) (w.heap.size+1+1) 151 #[.int .i64 0,.int .i64 0,.int .i64 0,.int .i64 0] from Bx.new' (by simp))
 clear ha hg hcl hc hsh
 go_enter Tryz.func150,Tryz.ntmps150
 go_wp2_with fail
 refine (s_IsPau n a _ hn HA.out).mono ?_
 rintro e w1 ⟨rfl,b1⟩
 have X1:=zH (X0.out.below b1)
 have G1:=zH (G0.out.below b1)
 have R1:=zH (R0.out.below b1)
 clear b1 X0 G0 R0
 obtain ⟨p0,p1,p2,p3⟩:=X1.out.cells
 obtain ⟨g0,g1,g2,g3,_⟩:=G1.out.four
 go_wp2_with fail
 refine (s_IsValidGate _ _ _ _ _ _).mono ?_
 rintro e w2 ⟨rfl,b2⟩
 rw [HG2.out]
 have X2:=zH (X1.out.below b2)
 have G2:=zH (G1.out.below b2)
 have R2:=zH (R1.out.below b2)
 clear b2 X1 G1 R1 p0 p1 p2 p3 g0 g1 g2 g3
 obtain ⟨g0,g1,g2,g3,_⟩:=G2.out.four
 go_wp2_with fail
 refine (s_IsClifford _ _ _ _ _).mono ?_
 rintro e w3 ⟨rfl,b3⟩
 rw [HL.out]
 have B0:=zH (show CB w n a ⟨kd,A,B,0⟩ w3.heap.size ⟨0,0,a.p⟩ (w3.alloc (.cells #[.int .i64 (n:Nat),.int .i64 0,.int .i64 0,.int .i64 (a.p:Nat)] 151)) from ⟨(X2.out.below b3).alloc _,(G2.out.below b3).alloc _,(R2.out.below b3).alloc _,Bx.new _ _ _,(R2.out.below b3).lt⟩)
 obtain ⟨p0,p1,p2,p3⟩:=(X2.out.below b3).cells
 clear b3 X2 G2 R2 g0 g1 g2 g3
 go_wp2_with fail
 go_loopg [7] n (fun r i wr=>∃ (k:Nat) (o:Pq),k+r=n/\i=.int .i64 k/\okQn n o=true/\conjL ⟨kd,A,B,0⟩ a ((List.range n).drop k) o=c/\CB w n a ⟨kd,A,B,0⟩ w3.heap.size o wr)
 case atStart=>exact ⟨0,⟨0,0,a.p⟩,by omega,rfl,okp.out,HC.out,B0.out⟩
 case round =>
  clear B0 HC okp p0 p1 p2 p3
  obtain ⟨k,o,hk,rfl,ho,he,hB⟩:=hrel
  have HO:=zH ho
  have HE:=zH he
  have HB:=zH hB
  clear ho he hB
  obtain ⟨p0,p1,p2,p3⟩:=HB.out.1.cells
  obtain ⟨g0,g1,g2,g3⟩:=HB.out.gcells
  by_cases hlt:k < n
  ·obtain ⟨cx,hcx⟩:∃ c,imX ⟨kd,A,B,0⟩ k=c:=⟨_,rfl⟩
   obtain ⟨cz,hcz⟩:∃ c,imZ ⟨kd,A,B,0⟩ k=c:=⟨_,rfl⟩
   have okx:=zH (show okQn n cx=true from hcx ▸ (im_ok HG.out HL.out hlt).1)
   have okz:=zH (show okQn n cz=true from hcz ▸ (im_ok HG.out HL.out hlt).2)
   have MX:=fun w=>s_Image n k A B kd false w (by omega) hA hB HS.out
   have MZ:=fun w=>s_Image n k A B kd true w (by omega) hA hB HS.out
   simp only [Bool.false_eq_true,if_false,if_true,hcx,hcz] at MX MZ
   have NX:=zH (conj_next hlt HE.out)
   have NO:=zH (conjStep_ok (a:=a) HG.out HL.out hlt HO.out)
   obtain ⟨o2,ho2⟩:∃ o2,conjStep ⟨kd,A,B,0⟩ a o k=o2:=⟨_,rfl⟩
   have HS2:=zH (show o2=(if bitB a.z k=true then mulQ (if bitB a.x k=true then mulQ o cx else o) cz else (if bitB a.x k=true then mulQ o cx else o)) by rw [<- ho2,<- hcx,<- hcz];rfl)
   rw [ho2] at NX NO
   have BX:=bitT hx4 (show k < 4 by omega)
   have BZ:=bitT hz4 (show k < 4 by omega)
   clear ho2 hcx hcz HE
   cases hx:bitB a.x k
   ·cases hz:bitB a.z k
    ·obtain rfl:o2=o:=by rw [HS2.out,hx,hz];rfl
     go_wp2_with fail
     go_roundg (gk - 1)
     all_goals first
      |omega
      |exact ⟨k+1,o2,by omega,by go_num,NO.out,NX.out,HB.out⟩
    ·have HM:=zH (show mulQ o cz=o2 by rw [HS2.out,hx,hz];rfl)
     go_upto_region 10 with fail
     have BD:=HB.out.drew
     obtain ⟨p0,p1,p2,p3⟩:=BD.1.cells
     obtain ⟨g0,g1,g2,g3⟩:=BD.gcells
     obtain ⟨q0,q1,q2,q3,_⟩:=BD.2.2.2.1.four
     go_region_with (first
      |(go_at_call 186;refine (MZ _).mono ?_;rintro e w5 ⟨rfl,b5⟩;have B6:=BD.below b5;obtain ⟨y0,y1,y2,y3,_⟩:=B6.2.2.2.1.four;obtain ⟨p0',p1',p2',p3'⟩:=B6.1.cells;obtain ⟨g0',g1',g2',g3'⟩:=B6.gcells)
      |(go_at_call 185;refine (s_MulPau n o cz o2 _ hn HO.out okz.out HM.out).mono ?_;rintro e w6 ⟨rfl,b6⟩;have B7:=B6.below b6;obtain ⟨z0,z1,z2,z3,z4,z5,z6,z7⟩:=B7.2.2.2.1.four)
      |fail)
     all_goals go_wp2_with fail
     all_goals go_roundg (gk - 1)
     all_goals first
      |omega
      |exact ⟨k+1,o2,by omega,by go_num,NO.out,NX.out,B7.set o2⟩
   ·cases hz:bitB a.z k
    ·have HM:=zH (show mulQ o cx=o2 by rw [HS2.out,hx,hz];rfl)
     go_upto_region 8 with fail
     go_cut [50] (fun v wx=>CB w n a ⟨kd,A,B,0⟩ w3.heap.size o2 wx)
     case first =>
      have BD:=HB.out.drew
      obtain ⟨p0,p1,p2,p3⟩:=BD.1.cells
      obtain ⟨g0,g1,g2,g3⟩:=BD.gcells
      obtain ⟨q0,q1,q2,q3,_⟩:=BD.2.2.2.1.four
      go_region_with (first
       |(go_at_call 186;refine (MX _).mono ?_;rintro e w5 ⟨rfl,b5⟩;have B6:=BD.below b5;obtain ⟨y0,y1,y2,y3,_⟩:=B6.2.2.2.1.four;obtain ⟨p0',p1',p2',p3'⟩:=B6.1.cells;obtain ⟨g0',g1',g2',g3'⟩:=B6.gcells)
       |(go_at_call 185;refine (s_MulPau n o cx o2 _ hn HO.out okx.out HM.out).mono ?_;rintro e w6 ⟨rfl,b6⟩;have B7:=B6.below b6;obtain ⟨z0,z1,z2,z3,z4,z5,z6,z7⟩:=B7.2.2.2.1.four)
       |fail)
      all_goals go_wp2_with fail
      all_goals go_meet
      all_goals exact B7.set o2
     case rest =>
      have BX6:=zH hcut
      clear hcut
      obtain ⟨p0,p1,p2,p3⟩:=BX6.out.1.cells
      obtain ⟨g0,g1,g2,g3⟩:=BX6.out.gcells
      go_wp2_with fail
      go_roundg (gk - 1)
      all_goals first
       |omega
       |exact ⟨k+1,o2,by omega,by go_num,NO.out,NX.out,BX6.out⟩
    ·obtain ⟨om,hom⟩:∃ m,mulQ o cx=m:=⟨_,rfl⟩
     have OM:=zH (mulQ_ok HO.out okx.out)
     rw [hom] at OM
     have HM:=zH hom
     have HM2:=zH (show mulQ om cz=o2 by rw [HS2.out,hx,hz,<- hom];rfl)
     clear hom
     go_upto_region 8 with fail
     go_cut [50] (fun v wx=>CB w n a ⟨kd,A,B,0⟩ w3.heap.size om wx)
     case first =>
      have BD:=HB.out.drew
      obtain ⟨p0,p1,p2,p3⟩:=BD.1.cells
      obtain ⟨g0,g1,g2,g3⟩:=BD.gcells
      obtain ⟨q0,q1,q2,q3,_⟩:=BD.2.2.2.1.four
      go_region_with (first
       |(go_at_call 186;refine (MX _).mono ?_;rintro e w5 ⟨rfl,b5⟩;have B6:=BD.below b5;obtain ⟨y0,y1,y2,y3,_⟩:=B6.2.2.2.1.four;obtain ⟨p0',p1',p2',p3'⟩:=B6.1.cells;obtain ⟨g0',g1',g2',g3'⟩:=B6.gcells)
       |(go_at_call 185;refine (s_MulPau n o cx om _ hn HO.out okx.out HM.out).mono ?_;rintro e w6 ⟨rfl,b6⟩;have B7:=B6.below b6;obtain ⟨z0,z1,z2,z3,z4,z5,z6,z7⟩:=B7.2.2.2.1.four)
       |fail)
      all_goals go_wp2_with fail
      all_goals go_meet
      all_goals exact B7.set om
     case rest =>
      have BX6:=zH hcut
      clear hcut
      obtain ⟨p0,p1,p2,p3⟩:=BX6.out.1.cells
      obtain ⟨g0,g1,g2,g3⟩:=BX6.out.gcells
      go_upto_region 10 with fail
      have BD:=BX6.out.drew
      obtain ⟨p0,p1,p2,p3⟩:=BD.1.cells
      obtain ⟨g0,g1,g2,g3⟩:=BD.gcells
      obtain ⟨q0,q1,q2,q3,_⟩:=BD.2.2.2.1.four
      go_region_with (first
       |(go_at_call 186;refine (MZ _).mono ?_;rintro e w5 ⟨rfl,b5⟩;have B6:=BD.below b5;obtain ⟨y0,y1,y2,y3,_⟩:=B6.2.2.2.1.four;obtain ⟨p0',p1',p2',p3'⟩:=B6.1.cells;obtain ⟨g0',g1',g2',g3'⟩:=B6.gcells)
       |(go_at_call 185;refine (s_MulPau n om cz o2 _ hn OM.out okz.out HM2.out).mono ?_;rintro e w6 ⟨rfl,b6⟩;have B7:=B6.below b6;obtain ⟨z0,z1,z2,z3,z4,z5,z6,z7⟩:=B7.2.2.2.1.four)
       |fail)
      all_goals go_wp2_with fail
      all_goals go_roundg (gk - 1)
      all_goals first
       |omega
       |exact ⟨k+1,o2,by omega,by go_num,NO.out,NX.out,B7.set o2⟩
  ·obtain rfl:k=n:=by omega
   obtain rfl:=conj_end HE.out
   obtain ⟨o0,o1,o2,o3,_⟩:=HB.out.2.2.2.1.four
   obtain ⟨r0,r1,r2,r3,r4,r5,r6,r7⟩:=HB.out.2.2.1.four
   go_wp2_with fail
   have RB:=HB.out.2.2.1
   with_reducible refine ret_S4 RB ?_ ?_ ⟨rfl,?_⟩
   ·intro wS z0 z1 z2 z3;simp [results,Tryz.results150,go_sem,z0,z1,z2,z3]
   ·rfl
   ·exact belowS4 HB.out.1.2.1 (by omega) _ _ _ _
end Go.Proofs.YtmenmibfkojnoaaGreat
