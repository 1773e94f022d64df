/- Contract of l25Image (spec), for Cliffor. -/
import Derived.Test.YtmenmibfkojnoaaGreatY05
set_option maxHeartbeats 16000000
set_option maxRecDepth 100000
namespace Go.Proofs.YtmenmibfkojnoaaGreat
open Go.RowKit
set_option linter.unusedVariables false
set_option linter.unusedSimpArgs false
theorem Rc {k:Int} (ha:aA k=1) (A B q:Nat):kV k A B 0 q=((A:Int) == (q:Int)):=by unfold kV ik gH;rw [ha];simp
theorem Re {k:Int} (ha:aA k=2) (A B q:Nat):kV k A B 0 q=(((A:Int) == (q:Int)) || ((B:Int) == (q:Int))):=by unfold kV ik gH;rw [ha];simp
theorem vv {p:Prop} (h:p:=by
  intro wS z0 z1 z2 z3;simp [results,Tryz.results186,go_sem,z0,z1,z2,z3]):p:=h
theorem oZ {p:Prop} (h:p:=by
  subst hcv;go_wp2_with fail
  all_goals (try go_region)
  all_goals (try (go_wp2_with fail))
  all_goals (first | with_reducible refine dY R4.out ?_ ?_ ⟨rfl,?_⟩ | with_reducible refine dY (R5 _) ?_ ?_ ⟨rfl,?_⟩ | with_reducible refine dY (R6 _) ?_ ?_ ⟨rfl,?_⟩ | with_reducible refine dY (R7 _) ?_ ?_ ⟨rfl,?_⟩ | with_reducible refine dY (R8 _) ?_ ?_ ⟨rfl,?_⟩ | with_reducible refine dQ R4.out ?_ ?_ ⟨rfl,?_⟩ | with_reducible refine dQ (R5 _) ?_ ?_ ⟨rfl,?_⟩ | with_reducible refine dQ (R6 _) ?_ ?_ ⟨rfl,?_⟩ | with_reducible refine dQ (R7 _) ?_ ?_ ⟨rfl,?_⟩ | with_reducible refine dQ (R8 _) ?_ ?_ ⟨rfl,?_⟩ | (trace_state;fail))
  ·exact vv
  ·rfl
  ·repeat (first | with_reducible exact B4.out | (with_reducible refine Below.setCell ?_ zS _) | with_reducible refine Below.drew ?_)):p:=h
theorem vw {p:Prop} (h:p:=by
  rintro e w5 ⟨rfl,b5⟩;have R9:=R4.below b5;obtain ⟨r0',r1',r2',r3',r4',r5',r6',r7'⟩:=R9.four;have B9:=aa B4.out b5;go_wp2_with fail
  first | with_reducible refine dY R9 ?_ ?_ ⟨rfl,?_⟩ | with_reducible refine dQ R9 ?_ ?_ ⟨rfl,?_⟩ | (trace_state;fail)
  ·exact vv
  ·rfl
  ·repeat (first | with_reducible exact B9 | (with_reducible refine Below.setCell ?_ zS _) | with_reducible refine Below.drew ?_)):p:=h
theorem Ih {p:Prop} (h:p:=by
  repeat (first | with_reducible exact B4.out | (with_reducible refine Below.setCell ?_ zS _) | with_reducible refine Below.drew ?_)):p:=h
theorem vz {p:Prop} (h:p:=by
  simp [oO,ac,xQ,zQ,s1,s2,hX,hZ] at hcv;exact oZ):p:=h
theorem vA {p:Prop} (h:p:=by
  simp [oW,ac,xQ,zQ,s1,s2,hX,hZ] at hcv;exact oZ):p:=h
theorem Ii {p:Prop} (h:p:=by
  rcases hk with ⟨ha,_⟩ | ⟨ha,_⟩
  ·rw [Rc ha];unfold dU;simp [ha]
  ·rw [Re ha];unfold dU;simp [ha]):p:=h
theorem Db (n q A B:Nat) (k:Int) (z:Bool) (w:World) (hq:q < 4) (hA:A < 4) (hB:B < 4) (hk:(aA k=1/\(k=1\/k=2\/k=3\/k=4\/k=5\/k=6))\/(aA k=2/\A ≠ B/\(k=9\/k=10\/k=11))) :
  Calls Tryz.prog 186 #[n,.agg #[k,A,B,(0:Int)],q,.bool z] w fun e w'=>e=.returned (.agg #[n,.int .i64 ((if z=true then oW ⟨k,A,B,0⟩ q else oO ⟨k,A,B,0⟩ q).x:Nat),.int .i64 ((if z=true then oW ⟨k,A,B,0⟩ q else oO ⟨k,A,B,0⟩ q).z:Nat),.int .i64 ((if z=true then oW ⟨k,A,B,0⟩ q else oO ⟨k,A,B,0⟩ q).p:Nat)])/\Below w w w':=by
 obtain ⟨S1,S2,S3⟩:=vl ⟨q,hq⟩;obtain ⟨T1,T2,T3⟩:=vl ⟨A,hA⟩;obtain ⟨U1,U2,U3⟩:=vl ⟨B,hB⟩;simp only at S1 S2 S3 T1 T2 T3 U1 U2 U3;have hl:∀ r:Fin 4,2 ^ (r:Nat) < 16:=zD;have hlq:=hl ⟨q,hq⟩;have hlA:=hl ⟨A,hA⟩;have hlB:=hl ⟨B,hB⟩;obtain ⟨X,hX⟩:∃ X:Nat,2 ^ q=X:=⟨_,rfl⟩;obtain ⟨Y,hY⟩:∃ X:Nat,2 ^ A=X:=⟨_,rfl⟩;obtain ⟨Z,hZ⟩:∃ X:Nat,2 ^ B=X:=⟨_,rfl⟩;simp only at hlq hlA hlB;rw [hX] at S1 S2 S3 hlq;rw [hY] at T1 T2 T3 hlA;rw [hZ] at U1 U2 U3 hlB;have o1:=(gU hlq hlB).2.2.1;have o2:=(gU hlq hlA).2.2.1;have oz:=(gU hlq (show 0 < 16 by decide)).2.2.1;have zo:=(gU (show 0 < 16 by decide) hlq).2.2.1;rw [Nat.or_zero] at oz;rw [Nat.zero_or] at zo;simp only [Int.natCast_zero] at oz zo;have s1:((A:Int)+(B:Int)).toNat - A=B:=zO;have s2:((A:Int)+(B:Int)).toNat - B=A:=zO;have G0:=zH (Bx.new w 39 #[k,A,B,(0:Int)])
 have B0:=zH (show Below w w ((w.alloc (.cells #[k,A,B,(0:Int)] 39)).alloc ZO.zQ) from ((zW).alloc zR _).alloc zI _);have R0:=zH (show Bx ((w.alloc (.cells #[k,A,B,(0:Int)] 39)).alloc ZO.zQ) (w.heap.size+1) 151 #[(0:Int),(0:Int),(0:Int),(0:Int)] from Bx.new' zI);have XQ:xQ q=⟨X,0,0⟩:=by unfold xQ;rw [hX]
 have ZQ:zQ q=⟨0,X,0⟩:=by unfold zQ;rw [hX]
 cases z
 ·obtain ⟨cv,hcv⟩:∃ c,oO ⟨k,A,B,0⟩ q=c:=⟨_,rfl⟩;simp only [Bool.false_eq_true,if_false,hcv];have M1:=fU n q false ⟨X,0,0⟩ ((w.alloc (.cells #[k,A,B,(0:Int)] 39)).alloc ZO.zQ) hq XQ;have M2:=fun w=>fU n q true ⟨0,X,0⟩ w hq ZQ
  have AC:kV k A B 0 q=dU ⟨k,A,B,0⟩ q:=by
   exact Ii
  go_enter Tryz.func186,Tryz.ntmps186;go_wp2_with fail;refine M1.mono ?_;rintro e w1 ⟨rfl,b1⟩;have G1:=zH (((G0.alloc _).below b1).alloc (.cells #[n,X,(0:Int),(0:Int)] 151));have R1:=zH ((R0.below b1).alloc (.cells #[n,X,(0:Int),(0:Int)] 151));have B1:=zH ((aa B0.out b1).alloc (by have:=b1.size;simp at this;omega) (.cells #[n,X,(0:Int),(0:Int)] 151));have P1:=zH (Bx.new w1 151 #[n,X,(0:Int),(0:Int)]);have L1:w.heap.size+1 < w1.heap.size:=(R0.below b1).lt;clear b1 M1 G0 R0 B0;go_wp2_with fail;refine (M2 _).mono ?_;rintro e w2 ⟨rfl,b2⟩;have L2:w1.heap.size < w2.heap.size:=(P1.below b2).lt;have P2:=(P1.below b2).alloc (.cells #[n,(0:Int),X,(0:Int)] 151);have G2:=(G1.below b2).alloc (.cells #[n,(0:Int),X,(0:Int)] 151);have O2:=Bx.new w2 151 #[n,(0:Int),X,(0:Int)];have P3:=zH (P2.alloc (.cells #[n,X,X,(0:Int)] 151));have O3:=zH (O2.alloc (.cells #[n,X,X,(0:Int)] 151))
  have G3:=zH (G2.alloc (.cells #[n,X,X,(0:Int)] 151));have R3:=zH (((R1.below b2).alloc (.cells #[n,(0:Int),X,(0:Int)] 151)).alloc (.cells #[n,X,X,(0:Int)] 151));have B3:=zH (((aa B1 b2).alloc zO (.cells #[n,(0:Int),X,(0:Int)] 151)).alloc zJ (.cells #[n,X,X,(0:Int)] 151));have D3:=zH (Bx.new' (w:=w2.alloc (.cells #[n,(0:Int),X,(0:Int)] 151)) (i:=w2.heap.size+1) (t:=151) (cs:=#[n,X,X,(0:Int)]) zI);obtain ⟨p0,p1,p2,p3,_⟩:=P2.four;obtain ⟨g0,g1,g2,g3,_⟩:=G3.four;clear b2 M2 P1 G1 R1 B1 P2 G2 O2;go_wp2_with fail;refine (eL _ _ _ _ _ _).mono ?_;rintro e w3 ⟨rfl,b3⟩;have P4:=zH (P3.below b3);have O4:=zH (O3.below b3);have D4:=zH (D3.below b3);have G4:=zH (G3.below b3);have R4:=zH (R3.below b3);have B4:=zH (aa B3 b3);clear b3 P3 O3 D3 G3 R3 B3 p0 p1 p2 p3 g0 g1 g2 g3;rw [AC];obtain ⟨p0,p1,p2,p3,p4,p5,p6,p7⟩:=P4.four;obtain ⟨o0,o11,o22,o3,o4,o5,o6,o7⟩:=O4.four
  obtain ⟨d0,d1,d2,d3,d4,d5,d6,d7⟩:=D4.four;obtain ⟨g0,g1,g2,g3,g4,g5,g6,g7⟩:=G4.four;obtain ⟨r0,r1,r2,r3,r4,r5,r6,r7⟩:=R4.four;clear P4 O4 D4 G4;have n1:w.heap.size+1 ≠ w1.heap.size:=zO;have n2:w.heap.size+1 ≠ w2.heap.size+1:=zO;have R5:∀ u,Bx (w3.setCell ⟨w1,3,none⟩ u) (w.heap.size+1) 151 #[(0:Int),(0:Int),(0:Int),(0:Int)]:=fun u=>R4.far n1 _
  have R6:∀ u,Bx (w3.setCell ⟨w2.heap.size+1,3,none⟩ u) (w.heap.size+1) 151 #[(0:Int),(0:Int),(0:Int),(0:Int)]:=fun u=>R4.far n2 _
  have R7:∀ u,Bx (w3.setCell ⟨w1,1,none⟩ u) (w.heap.size+1) 151 #[(0:Int),(0:Int),(0:Int),(0:Int)]:=fun u=>R4.far n1 _
  have R8:∀ u,Bx (w3.setCell ⟨w1,2,none⟩ u) (w.heap.size+1) 151 #[(0:Int),(0:Int),(0:Int),(0:Int)]:=fun u=>R4.far n1 _
  by_cases h1:q=A
  ·obtain rfl:A=q:=h1.symm;obtain rfl:X=Y:=hX.symm.trans hY;clear T1 T2 T3 hY hlA o2;have ac:dU ⟨k,A,B,0⟩ A=true:=by unfold dU;simp
   rw [ac];rcases hk with ⟨ha,hk⟩ | ⟨ha,hab,hk⟩
   ·rcases hk with rfl | rfl | rfl | rfl | rfl | rfl
    all_goals
     simp [oO,ac,xQ,zQ,s1,s2,hX,hZ] at hcv;subst hcv;go_wp2_with fail
     all_goals (try go_region)
     all_goals (try (go_wp2_with fail))
     all_goals (first | with_reducible refine dY R4.out ?_ ?_ ⟨rfl,?_⟩ | with_reducible refine dY (R5 _) ?_ ?_ ⟨rfl,?_⟩ | with_reducible refine dY (R6 _) ?_ ?_ ⟨rfl,?_⟩ | with_reducible refine dY (R7 _) ?_ ?_ ⟨rfl,?_⟩ | with_reducible refine dY (R8 _) ?_ ?_ ⟨rfl,?_⟩ | with_reducible refine dQ R4.out ?_ ?_ ⟨rfl,?_⟩ | with_reducible refine dQ (R5 _) ?_ ?_ ⟨rfl,?_⟩ | with_reducible refine dQ (R6 _) ?_ ?_ ⟨rfl,?_⟩ | with_reducible refine dQ (R7 _) ?_ ?_ ⟨rfl,?_⟩ | with_reducible refine dQ (R8 _) ?_ ?_ ⟨rfl,?_⟩ | (trace_state;fail))
     ·exact vv
     ·rfl
     ·exact Ih
   ·rcases hk with rfl | rfl | rfl
    ·exact vz
    ·exact vz
    ·simp [oO,ac,xQ,zQ,s1,s2,hX,hZ] at hcv;subst hcv;go_wp2_with fail;rw [show (A:Int)+B - A=(B:Int) by omega];refine (fU n B false ⟨Z,0,0⟩ _ hB (by simp [xQ,zQ,hZ])).mono ?_;exact vw
  ·have f1:((q:Int) == (A:Int))=false:=zJ;have f2:((A:Int) == (q:Int))=false:=zJ;rcases hk with ⟨ha,hk⟩ | ⟨ha,hab,hk⟩
   ·clear hk;have ac:dU ⟨k,A,B,0⟩ q=false:=by unfold dU;simp [f1,f2,ha]
    rw [ac];exact vz
   ·by_cases h2:q=B
    ·obtain rfl:B=q:=h2.symm;obtain rfl:X=Z:=hX.symm.trans hZ;clear U1 U2 U3 hZ hlB o1;have ac:dU ⟨k,A,B,0⟩ B=true:=by unfold dU;simp [f1,f2,ha]
     rw [ac];rcases hk with rfl | rfl | rfl
     ·simp [oO,ac,xQ,zQ,s1,s2,hX,hY,f1,f2,h1] at hcv;exact oZ
     ·simp [oO,ac,xQ,zQ,s1,s2,hX,hY,f1,f2,h1] at hcv;exact oZ
     ·simp [oO,ac,xQ,zQ,s1,s2,hX,hY,f1,f2,h1] at hcv;subst hcv;go_wp2_with fail;refine (fU n A false ⟨Y,0,0⟩ _ hA (by simp [xQ,zQ,hY])).mono ?_;exact vw
    ·have f3:((q:Int) == (B:Int))=false:=zJ;have f4:((B:Int) == (q:Int))=false:=zJ;have ac:dU ⟨k,A,B,0⟩ q=false:=by unfold dU;simp [f1,f2,f3,f4,ha]
     rw [ac];exact vz
 ·obtain ⟨cv,hcv⟩:∃ c,oW ⟨k,A,B,0⟩ q=c:=⟨_,rfl⟩;simp only [if_true,hcv];have M1:=fU n q true ⟨0,X,0⟩ ((w.alloc (.cells #[k,A,B,(0:Int)] 39)).alloc ZO.zQ) hq ZQ;have M2:=fun w=>fU n q false ⟨X,0,0⟩ w hq XQ
  have AC:kV k A B 0 q=dU ⟨k,A,B,0⟩ q:=by
   exact Ii
  go_enter Tryz.func186,Tryz.ntmps186;go_wp2_with fail;refine M1.mono ?_;rintro e w1 ⟨rfl,b1⟩;have G1:=zH (((G0.alloc _).below b1).alloc (.cells #[n,(0:Int),X,(0:Int)] 151));have R1:=zH ((R0.below b1).alloc (.cells #[n,(0:Int),X,(0:Int)] 151));have B1:=zH ((aa B0.out b1).alloc (by have:=b1.size;simp at this;omega) (.cells #[n,(0:Int),X,(0:Int)] 151));have P1:=zH (Bx.new w1 151 #[n,(0:Int),X,(0:Int)]);have L1:w.heap.size+1 < w1.heap.size:=(R0.below b1).lt;clear b1 M1 G0 R0 B0;go_wp2_with fail;refine (M2 _).mono ?_;rintro e w2 ⟨rfl,b2⟩;have L2:w1.heap.size < w2.heap.size:=(P1.below b2).lt;have P2:=(P1.below b2).alloc (.cells #[n,X,(0:Int),(0:Int)] 151);have G2:=(G1.below b2).alloc (.cells #[n,X,(0:Int),(0:Int)] 151);have O2:=Bx.new w2 151 #[n,X,(0:Int),(0:Int)];have P3:=zH (P2.alloc (.cells #[n,X,X,(0:Int)] 151));have O3:=zH (O2.alloc (.cells #[n,X,X,(0:Int)] 151))
  have G3:=zH (G2.alloc (.cells #[n,X,X,(0:Int)] 151));have R3:=zH (((R1.below b2).alloc (.cells #[n,X,(0:Int),(0:Int)] 151)).alloc (.cells #[n,X,X,(0:Int)] 151));have B3:=zH (((aa B1 b2).alloc zO (.cells #[n,X,(0:Int),(0:Int)] 151)).alloc zJ (.cells #[n,X,X,(0:Int)] 151));have D3:=zH (Bx.new' (w:=w2.alloc (.cells #[n,X,(0:Int),(0:Int)] 151)) (i:=w2.heap.size+1) (t:=151) (cs:=#[n,X,X,(0:Int)]) zI);obtain ⟨p0,p1,p2,p3,_⟩:=P2.four;obtain ⟨g0,g1,g2,g3,_⟩:=G3.four;clear b2 M2 P1 G1 R1 B1 P2 G2 O2;go_wp2_with fail;refine (eL _ _ _ _ _ _).mono ?_;rintro e w3 ⟨rfl,b3⟩;have P4:=zH (P3.below b3);have O4:=zH (O3.below b3);have D4:=zH (D3.below b3);have G4:=zH (G3.below b3);have R4:=zH (R3.below b3);have B4:=zH (aa B3 b3);clear b3 P3 O3 D3 G3 R3 B3 p0 p1 p2 p3 g0 g1 g2 g3;rw [AC];obtain ⟨p0,p1,p2,p3,p4,p5,p6,p7⟩:=P4.four;obtain ⟨o0,o11,o22,o3,o4,o5,o6,o7⟩:=O4.four
  obtain ⟨d0,d1,d2,d3,d4,d5,d6,d7⟩:=D4.four;obtain ⟨g0,g1,g2,g3,g4,g5,g6,g7⟩:=G4.four;obtain ⟨r0,r1,r2,r3,r4,r5,r6,r7⟩:=R4.four;clear P4 O4 D4 G4;have n1:w.heap.size+1 ≠ w1.heap.size:=zO;have n2:w.heap.size+1 ≠ w2.heap.size+1:=zO;have R5:∀ u,Bx (w3.setCell ⟨w1,3,none⟩ u) (w.heap.size+1) 151 #[(0:Int),(0:Int),(0:Int),(0:Int)]:=fun u=>R4.far n1 _
  have R6:∀ u,Bx (w3.setCell ⟨w2.heap.size+1,3,none⟩ u) (w.heap.size+1) 151 #[(0:Int),(0:Int),(0:Int),(0:Int)]:=fun u=>R4.far n2 _
  have R7:∀ u,Bx (w3.setCell ⟨w1,1,none⟩ u) (w.heap.size+1) 151 #[(0:Int),(0:Int),(0:Int),(0:Int)]:=fun u=>R4.far n1 _
  have R8:∀ u,Bx (w3.setCell ⟨w1,2,none⟩ u) (w.heap.size+1) 151 #[(0:Int),(0:Int),(0:Int),(0:Int)]:=fun u=>R4.far n1 _
  by_cases h1:q=A
  ·obtain rfl:A=q:=h1.symm;obtain rfl:X=Y:=hX.symm.trans hY;clear T1 T2 T3 hY hlA o2;have ac:dU ⟨k,A,B,0⟩ A=true:=by unfold dU;simp
   rw [ac];rcases hk with ⟨ha,hk⟩ | ⟨ha,hab,hk⟩
   ·rcases hk with rfl | rfl | rfl | rfl | rfl | rfl
    all_goals
     simp [oW,ac,xQ,zQ,s1,s2,hX,hZ] at hcv;subst hcv;go_wp2_with fail
     all_goals (try go_region)
     all_goals (try (go_wp2_with fail))
     all_goals (first | with_reducible refine dY R4.out ?_ ?_ ⟨rfl,?_⟩ | with_reducible refine dY (R5 _) ?_ ?_ ⟨rfl,?_⟩ | with_reducible refine dY (R6 _) ?_ ?_ ⟨rfl,?_⟩ | with_reducible refine dY (R7 _) ?_ ?_ ⟨rfl,?_⟩ | with_reducible refine dY (R8 _) ?_ ?_ ⟨rfl,?_⟩ | with_reducible refine dQ R4.out ?_ ?_ ⟨rfl,?_⟩ | with_reducible refine dQ (R5 _) ?_ ?_ ⟨rfl,?_⟩ | with_reducible refine dQ (R6 _) ?_ ?_ ⟨rfl,?_⟩ | with_reducible refine dQ (R7 _) ?_ ?_ ⟨rfl,?_⟩ | with_reducible refine dQ (R8 _) ?_ ?_ ⟨rfl,?_⟩ | (trace_state;fail))
     ·exact vv
     ·rfl
     ·exact Ih
   ·rcases hk with rfl | rfl | rfl
    ·exact vA
    ·exact vA
    ·simp [oW,ac,xQ,zQ,s1,s2,hX,hZ] at hcv;subst hcv;go_wp2_with fail;rw [show (A:Int)+B - A=(B:Int) by omega];refine (fU n B true ⟨0,Z,0⟩ _ hB (by simp [xQ,zQ,hZ])).mono ?_;exact vw
  ·have f1:((q:Int) == (A:Int))=false:=zJ;have f2:((A:Int) == (q:Int))=false:=zJ;rcases hk with ⟨ha,hk⟩ | ⟨ha,hab,hk⟩
   ·clear hk;have ac:dU ⟨k,A,B,0⟩ q=false:=by unfold dU;simp [f1,f2,ha]
    rw [ac];exact vA
   ·by_cases h2:q=B
    ·obtain rfl:B=q:=h2.symm;obtain rfl:X=Z:=hX.symm.trans hZ;clear U1 U2 U3 hZ hlB o1;have ac:dU ⟨k,A,B,0⟩ B=true:=by unfold dU;simp [f1,f2,ha]
     rw [ac];rcases hk with rfl | rfl | rfl
     ·simp [oW,ac,xQ,zQ,s1,s2,hX,hY,f1,f2,h1] at hcv;exact oZ
     ·simp [oW,ac,xQ,zQ,s1,s2,hX,hY,f1,f2,h1] at hcv;exact oZ
     ·simp [oW,ac,xQ,zQ,s1,s2,hX,hY,f1,f2,h1] at hcv;subst hcv;go_wp2_with fail;refine (fU n A true ⟨0,Y,0⟩ _ hA (by simp [xQ,zQ,hY])).mono ?_;exact vw
    ·have f3:((q:Int) == (B:Int))=false:=zJ;have f4:((B:Int) == (q:Int))=false:=zJ;have ac:dU ⟨k,A,B,0⟩ q=false:=by unfold dU;simp [f1,f2,f3,f4,ha]
     rw [ac];exact vA
end Go.Proofs.YtmenmibfkojnoaaGreat
