/- Contract of ConjugatePauli (spec), for v. -/
import Derived.Test.YtmenmibfkojnoaaGreatY14
import Derived.Test.YtmenmibfkojnoaaGreatY11
set_option maxHeartbeats 16000000
set_option maxRecDepth 100000
namespace Go.Proofs.YtmenmibfkojnoaaGreat
open Go.RowKit
set_option linter.unusedVariables false
theorem Fo (n:Nat) (a c:Pq) (g:Gt) (w:World) (hn:1<=n/\n<=4) (ha:ci n a=true) (hg:bF n g=true) (hcl:bh g.k=true) (hc:eP n g a=c):Calls Tryz.prog 150 #[.agg #[n,a.x,a.z,a.p],.agg #[g.k,g.a,g.b,g.c]] w fun e w'=>e=.returned (.tuple #[.agg #[n,c.x,c.z,c.p],.bool true])/\Below w w w':=by
 obtain ⟨A,B,eg,hA,hB,hsh⟩:=yu hg hcl;obtain ⟨kd,ga,gb,gc⟩:=g;simp only at eg hsh hcl;simp only [Gt.mk.injEq,true_and] at eg;obtain ⟨rfl,rfl,rfl⟩:=eg;have HA:=zH ha;have HG:=zH hg;have HG2:=zH (show fJ kd (A:Int) (B:Int) 0 (n:Int)=true from hg);have HL:=zH hcl;have HC:=zH (rT hc);have HS:=zH hsh;have okp:=zH (show ci n ⟨0,0,a.p⟩=true from okQn_iff.2 ⟨Nat.pow_pos zO,Nat.pow_pos zO,(okQn_iff.1 ha).2.2⟩);have hx4:=(bI hn.2 ha).1;have hz4:=(bI hn.2 ha).2.1;have X0:=zH (show QB w w.heap.size n a (((w.alloc (.cells #[n,a.x,a.z,a.p] 151)).alloc (.cells #[kd,A,B,(0:Int)] 39)).alloc ZO.zQ) from ⟨((Bx.new w _ _).alloc _).alloc _,(((zW).alloc zR _).alloc zI _).alloc zS _,zR⟩);have G0:=zH (show Bx (((w.alloc (.cells #[n,a.x,a.z,a.p] 151)).alloc (.cells #[kd,A,B,(0:Int)] 39)).alloc ZO.zQ) (w.heap.size+1) 39 #[kd,A,B,(0:Int)] from (Bx.new' zI).alloc _)
 have R0:=zH (show Bx (((w.alloc (.cells #[n,a.x,a.z,a.p] 151)).alloc (.cells #[kd,A,B,(0:Int)] 39)).alloc ZO.zQ) (w.heap.size+1+1) 151 #[(0:Int),(0:Int),(0:Int),(0:Int)] from Bx.new' zI);clear ha hg hcl hc hsh;go_enter Tryz.func150,Tryz.ntmps150;go_wp2_with fail;refine (nK n a _ hn HA).mono ?_;rintro e w1 ⟨rfl,b1⟩;have X1:=zH (X0.below b1);have G1:=zH (G0.below b1);have R1:=zH (R0.below b1);clear b1 X0 G0 R0;obtain ⟨p0,p1,p2,p3⟩:=X1.cells;obtain ⟨g0,g1,g2,g3,_⟩:=G1.four;go_wp2_with fail;refine (aY _ _ _ _ _ _).mono ?_;rintro e w2 ⟨rfl,b2⟩;rw [HG2.out];have X2:=zH (X1.below b2);have G2:=zH (G1.below b2);have R2:=zH (R1.below b2);clear b2 X1 G1 R1 p0 p1 p2 p3 g0 g1 g2 g3;obtain ⟨g0,g1,g2,g3,_⟩:=G2.four;go_wp2_with fail;refine (kq _ _ _ _ _).mono ?_;rintro e w3 ⟨rfl,b3⟩;rw [HL.out]
 have B0:=zH (show CB w n a ⟨kd,A,B,0⟩ w3.heap.size ⟨0,0,a.p⟩ (w3.alloc (.cells #[n,(0:Int),(0:Int),a.p] 151)) from ⟨(X2.below b3).alloc _,(G2.below b3).alloc _,(R2.below b3).alloc _,Bx.new _ _ _,(R2.below b3).lt⟩);obtain ⟨p0,p1,p2,p3⟩:=(X2.below b3).cells;clear b3 X2 G2 R2 g0 g1 g2 g3;go_wp2_with fail;go_loopg [7] n (fun r i wr=>∃ (k:Nat) (o:Pq),k+r=n/\i=.int .i64 k/\ci n o=true/\fT ⟨kd,A,B,0⟩ a ((List.range n).drop k) o=c/\CB w n a ⟨kd,A,B,0⟩ w3.heap.size o wr)
 case atStart=>exact ⟨0,⟨0,0,a.p⟩,zO,rfl,okp.out,HC.out,B0.out⟩
 case round =>
  clear B0 HC okp p0 p1 p2 p3;obtain ⟨k,o,hk,rfl,ho,he,hB⟩:=hrel;have HO:=zH ho;have HE:=zH he;have HB:=zH hB;clear ho he hB;obtain ⟨p0,p1,p2,p3⟩:=HB.out.1.cells;obtain ⟨g0,g1,g2,g3⟩:=HB.gcells;by_cases hlt:k < n
  ·obtain ⟨cx,hcx⟩:∃ c,oO ⟨kd,A,B,0⟩ k=c:=⟨_,rfl⟩;obtain ⟨cz,hcz⟩:∃ c,oW ⟨kd,A,B,0⟩ k=c:=⟨_,rfl⟩;have okx:=zH (show ci n cx=true from hcx ▸ (yt HG.out HL.out hlt).1);have okz:=zH (show ci n cz=true from hcz ▸ (yt HG.out HL.out hlt).2);have MX:=fun w=>Db n k A B kd false w zO hA hB HS.out
   have MZ:=fun w=>Db n k A B kd true w zO hA hB HS.out
   simp only [Bool.false_eq_true,if_false,if_true,hcx,hcz] at MX MZ;have NX:=zH (uq hlt HE);have NO:=zH (pT (a:=a) HG HL hlt HO);obtain ⟨o2,ho2⟩:∃ o2,dV ⟨kd,A,B,0⟩ a o k=o2:=⟨_,rfl⟩;have HS2:=zH (show o2=(if aZ a.z k=true then cn (if aZ a.x k=true then cn o cx else o) cz else (if aZ a.x k=true then cn o cx else o)) by rw [<- ho2,<- hcx,<- hcz];rfl);rw [ho2] at NX NO;have BX:=qp hx4 (show k < 4 by omega);have BZ:=qp hz4 (show k < 4 by omega);clear ho2 hcx hcz HE;cases hx:aZ a.x k
   ·cases hz:aZ a.z k
    ·obtain rfl:o2=o:=by rw [HS2.out,hx,hz];rfl
     go_wp2_with fail;go_roundg (gk - 1)
     all_goals first
      |omega
      |exact ⟨k+1,o2,zO,by go_num,NO.out,NX.out,HB.out⟩
    ·have HM:=zH (show cn o cz=o2 by rw [HS2.out,hx,hz];rfl);go_upto_region 10 with fail
     have BD:=HB.drew;obtain ⟨p0,p1,p2,p3⟩:=BD.1.cells;obtain ⟨g0,g1,g2,g3⟩:=BD.gcells;obtain ⟨q0,q1,q2,q3,_⟩:=BD.2.2.2.1.four
     go_region_with (first
      |(go_at_call 186;refine (MZ _).mono ?_;rintro e w5 ⟨rfl,b5⟩;have B6:=BD.below b5;obtain ⟨y0,y1,y2,y3,_⟩:=B6.2.2.2.1.four;obtain ⟨p0',p1',p2',p3'⟩:=B6.1.cells;obtain ⟨g0',g1',g2',g3'⟩:=B6.gcells)
      |(go_at_call 185;refine (gV n o cz o2 _ hn HO.out okz.out HM.out).mono ?_;rintro e w6 ⟨rfl,b6⟩;have B7:=B6.below b6;obtain ⟨z0,z1,z2,z3,z4,z5,z6,z7⟩:=B7.2.2.2.1.four)
      |fail)
     all_goals go_wp2_with fail
     all_goals go_roundg (gk - 1)
     all_goals first
      |omega
      |exact ⟨k+1,o2,zO,by go_num,NO.out,NX.out,B7.set o2⟩
   ·cases hz:aZ a.z k
    ·have HM:=zH (show cn o cx=o2 by rw [HS2.out,hx,hz];rfl);go_upto_region 8 with fail
     go_cut [50] (fun v wx=>CB w n a ⟨kd,A,B,0⟩ w3.heap.size o2 wx)
     case first =>
      have BD:=HB.drew;obtain ⟨p0,p1,p2,p3⟩:=BD.1.cells;obtain ⟨g0,g1,g2,g3⟩:=BD.gcells;obtain ⟨q0,q1,q2,q3,_⟩:=BD.2.2.2.1.four
      go_region_with (first
       |(go_at_call 186;refine (MX _).mono ?_;rintro e w5 ⟨rfl,b5⟩;have B6:=BD.below b5;obtain ⟨y0,y1,y2,y3,_⟩:=B6.2.2.2.1.four;obtain ⟨p0',p1',p2',p3'⟩:=B6.1.cells;obtain ⟨g0',g1',g2',g3'⟩:=B6.gcells)
       |(go_at_call 185;refine (gV n o cx o2 _ hn HO.out okx.out HM.out).mono ?_;rintro e w6 ⟨rfl,b6⟩;have B7:=B6.below b6;obtain ⟨z0,z1,z2,z3,z4,z5,z6,z7⟩:=B7.2.2.2.1.four)
       |fail)
      all_goals go_wp2_with fail
      all_goals go_meet
      all_goals exact B7.set o2
     case rest =>
      have BX6:=zH hcut;clear hcut;obtain ⟨p0,p1,p2,p3⟩:=BX6.out.1.cells;obtain ⟨g0,g1,g2,g3⟩:=BX6.gcells;go_wp2_with fail;go_roundg (gk - 1)
      all_goals first
       |omega
       |exact ⟨k+1,o2,zO,by go_num,NO.out,NX.out,BX6.out⟩
    ·obtain ⟨om,hom⟩:∃ m,cn o cx=m:=⟨_,rfl⟩;have OM:=zH (jw HO okx);rw [hom] at OM;have HM:=zH hom;have HM2:=zH (show cn om cz=o2 by rw [HS2.out,hx,hz,<- hom];rfl);clear hom;go_upto_region 8 with fail
     go_cut [50] (fun v wx=>CB w n a ⟨kd,A,B,0⟩ w3.heap.size om wx)
     case first =>
      have BD:=HB.drew;obtain ⟨p0,p1,p2,p3⟩:=BD.1.cells;obtain ⟨g0,g1,g2,g3⟩:=BD.gcells;obtain ⟨q0,q1,q2,q3,_⟩:=BD.2.2.2.1.four
      go_region_with (first
       |(go_at_call 186;refine (MX _).mono ?_;rintro e w5 ⟨rfl,b5⟩;have B6:=BD.below b5;obtain ⟨y0,y1,y2,y3,_⟩:=B6.2.2.2.1.four;obtain ⟨p0',p1',p2',p3'⟩:=B6.1.cells;obtain ⟨g0',g1',g2',g3'⟩:=B6.gcells)
       |(go_at_call 185;refine (gV n o cx om _ hn HO.out okx.out HM.out).mono ?_;rintro e w6 ⟨rfl,b6⟩;have B7:=B6.below b6;obtain ⟨z0,z1,z2,z3,z4,z5,z6,z7⟩:=B7.2.2.2.1.four)
       |fail)
      all_goals go_wp2_with fail
      all_goals go_meet
      all_goals exact B7.set om
     case rest =>
      have BX6:=zH hcut;clear hcut;obtain ⟨p0,p1,p2,p3⟩:=BX6.out.1.cells;obtain ⟨g0,g1,g2,g3⟩:=BX6.gcells;go_upto_region 10 with fail
      have BD:=BX6.drew;obtain ⟨p0,p1,p2,p3⟩:=BD.1.cells;obtain ⟨g0,g1,g2,g3⟩:=BD.gcells;obtain ⟨q0,q1,q2,q3,_⟩:=BD.2.2.2.1.four
      go_region_with (first
       |(go_at_call 186;refine (MZ _).mono ?_;rintro e w5 ⟨rfl,b5⟩;have B6:=BD.below b5;obtain ⟨y0,y1,y2,y3,_⟩:=B6.2.2.2.1.four;obtain ⟨p0',p1',p2',p3'⟩:=B6.1.cells;obtain ⟨g0',g1',g2',g3'⟩:=B6.gcells)
       |(go_at_call 185;refine (gV n om cz o2 _ hn OM.out okz.out HM2.out).mono ?_;rintro e w6 ⟨rfl,b6⟩;have B7:=B6.below b6;obtain ⟨z0,z1,z2,z3,z4,z5,z6,z7⟩:=B7.2.2.2.1.four)
       |fail)
      all_goals go_wp2_with fail
      all_goals go_roundg (gk - 1)
      all_goals first
       |omega
       |exact ⟨k+1,o2,zO,by go_num,NO.out,NX.out,B7.set o2⟩
  ·obtain rfl:k=n:=zO;obtain rfl:=yv HE.out;obtain ⟨o0,o1,o2,o3,_⟩:=HB.out.2.2.2.1.four;obtain ⟨r0,r1,r2,r3,r4,r5,r6,r7⟩:=HB.out.2.2.1.four;go_wp2_with fail;have RB:=HB.out.2.2.1
   with_reducible refine dY RB ?_ ?_ ⟨rfl,?_⟩
   ·intro wS z0 z1 z2 z3;simp [results,Tryz.results150,go_sem,z0,z1,z2,z3]
   ·rfl
   ·exact cI HB.out.1.2.1 zO _ _ _ _
end Go.Proofs.YtmenmibfkojnoaaGreat
