/- Contract of l25Image (spec), for Clifford gates on qubits below four. -/
import Derived.Test.YtmenmibfkojnoaaGreatV03
import Derived.Test.YtmenmibfkojnoaaGreatV06
set_option maxHeartbeats 16000000
namespace Go.Proofs.YtmenmibfkojnoaaGreat
open Go.RowKit
set_option linter.unusedVariables false
set_option linter.unusedSimpArgs false
theorem acts_1 {k:Int} (ha:arity k=1) (A B q:Nat):acts k A B 0 q=((A:Int) == (q:Int)):=by unfold acts gqn hasI;rw [ha];simp
theorem acts_2 {k:Int} (ha:arity k=2) (A B q:Nat):acts k A B 0 q=(((A:Int) == (q:Int)) || ((B:Int) == (q:Int))):=by unfold acts gqn hasI;rw [ha];simp
set_option maxRecDepth 100000 in
theorem s_Image (n q A B:Nat) (k:Int) (z:Bool) (w:World) (hq:q < 4) (hA:A < 4) (hB:B < 4) (hk:(arity k=1/\(k=1 ∨ k=2 ∨ k=3 ∨ k=4 ∨ k=5 ∨ k=6)) ∨ (arity k=2/\A ≠ B/\(k=9 ∨ k=10 ∨ k=11))) :
  Calls Tryz.prog 186 #[.int .i64 (n:Nat),.agg #[.int .i64 k,.int .i64 (A:Nat),.int .i64 (B:Nat),.int .i64 0],.int .i64 (q:Nat),.bool z] w fun e w'=>e=.returned (.agg #[.int .i64 (n:Nat),.int .i64 ((if z=true then imZ ⟨k,A,B,0⟩ q else imX ⟨k,A,B,0⟩ q).x:Nat),.int .i64 ((if z=true then imZ ⟨k,A,B,0⟩ q else imX ⟨k,A,B,0⟩ q).z:Nat),.int .i64 ((if z=true then imZ ⟨k,A,B,0⟩ q else imX ⟨k,A,B,0⟩ q).p:Nat)])/\Below w.heap.size w w':=by
 obtain ⟨S1,S2,S3⟩:=shl2 ⟨q,hq⟩
 obtain ⟨T1,T2,T3⟩:=shl2 ⟨A,hA⟩
 obtain ⟨U1,U2,U3⟩:=shl2 ⟨B,hB⟩
 simp only at S1 S2 S3 T1 T2 T3 U1 U2 U3
 have hl:∀ r:Fin 4,2 ^ (r:Nat) < 16:=by decide
 have hlq:=hl ⟨q,hq⟩
 have hlA:=hl ⟨A,hA⟩
 have hlB:=hl ⟨B,hB⟩
 obtain ⟨X,hX⟩:∃ X:Nat,2 ^ q=X:=⟨_,rfl⟩
 obtain ⟨Y,hY⟩:∃ X:Nat,2 ^ A=X:=⟨_,rfl⟩
 obtain ⟨Z,hZ⟩:∃ X:Nat,2 ^ B=X:=⟨_,rfl⟩
 simp only at hlq hlA hlB
 rw [hX] at S1 S2 S3 hlq
 rw [hY] at T1 T2 T3 hlA
 rw [hZ] at U1 U2 U3 hlB
 have o1:=(bt16 hlq hlB).2.2.1
 have o2:=(bt16 hlq hlA).2.2.1
 have oz:=(bt16 hlq (show 0 < 16 by decide)).2.2.1
 have zo:=(bt16 (show 0 < 16 by decide) hlq).2.2.1
 rw [Nat.or_zero] at oz
 rw [Nat.zero_or] at zo
 simp only [Int.natCast_zero] at oz zo
 have s1:((A:Int)+(B:Int)).toNat - A=B:=by omega
 have s2:((A:Int)+(B:Int)).toNat - B=A:=by omega
 have G0:=zH (Bx.new w 39 #[.int .i64 k,.int .i64 (A:Nat),.int .i64 (B:Nat),.int .i64 0])
 have B0:=zH (show Below w.heap.size w ((w.alloc (.cells #[.int .i64 k,.int .i64 (A:Nat),.int .i64 (B:Nat),.int .i64 0] 39)).alloc (.cells #[.int .i64 0,.int .i64 0,.int .i64 0,.int .i64 0] 151)) from ((zW).alloc zR _).alloc (by simp) _)
 have R0:=zH (show Bx ((w.alloc (.cells #[.int .i64 k,.int .i64 (A:Nat),.int .i64 (B:Nat),.int .i64 0] 39)).alloc (.cells #[.int .i64 0,.int .i64 0,.int .i64 0,.int .i64 0] 151)) (w.heap.size+1) 151 #[.int .i64 0,.int .i64 0,.int .i64 0,.int .i64 0] from Bx.new' (by simp))
 have XQ:xQ q=⟨X,0,0⟩:=by unfold xQ;rw [hX]
 have ZQ:zQ q=⟨0,X,0⟩:=by unfold zQ;rw [hX]
 cases z
 ·obtain ⟨cv,hcv⟩:∃ c,imX ⟨k,A,B,0⟩ q=c:=⟨_,rfl⟩
  simp only [Bool.false_eq_true,if_false,hcv]
  have M1:=s_Single n q false ⟨X,0,0⟩ ((w.alloc (.cells #[.int .i64 k,.int .i64 (A:Nat),.int .i64 (B:Nat),.int .i64 0] 39)).alloc (.cells #[.int .i64 0,.int .i64 0,.int .i64 0,.int .i64 0] 151)) hq XQ
  have M2:=fun w=>s_Single n q true ⟨0,X,0⟩ w hq ZQ
  have AC:acts k A B 0 q=actsQ ⟨k,A,B,0⟩ q:=by
   rcases hk with ⟨ha,_⟩ | ⟨ha,_⟩
   ·rw [acts_1 ha];unfold actsQ;simp [ha]
   ·rw [acts_2 ha];unfold actsQ;simp [ha]
  go_enter Tryz.func186,Tryz.ntmps186
  go_wp2_with fail
  refine M1.mono ?_
  rintro e w1 ⟨rfl,b1⟩
  have G1:=zH (((G0.out.alloc _).below b1).alloc (.cells #[.int .i64 (n:Nat),.int .i64 (X:Nat),.int .i64 0,.int .i64 0] 151))
  have R1:=zH ((R0.out.below b1).alloc (.cells #[.int .i64 (n:Nat),.int .i64 (X:Nat),.int .i64 0,.int .i64 0] 151))
  have B1:=zH ((below_trans B0.out b1).alloc (by have:=b1.size;simp at this;omega) (.cells #[.int .i64 (n:Nat),.int .i64 (X:Nat),.int .i64 0,.int .i64 0] 151))
  have P1:=zH (Bx.new w1 151 #[.int .i64 (n:Nat),.int .i64 (X:Nat),.int .i64 0,.int .i64 0])
  have L1:w.heap.size+1 < w1.heap.size:=(R0.out.below b1).lt
  clear b1 M1 G0 R0 B0
  go_wp2_with fail
  refine (M2 _).mono ?_
  rintro e w2 ⟨rfl,b2⟩
  have L2:w1.heap.size < w2.heap.size:=(P1.out.below b2).lt
  have P2:=(P1.out.below b2).alloc (.cells #[.int .i64 (n:Nat),.int .i64 0,.int .i64 (X:Nat),.int .i64 0] 151)
  have G2:=(G1.out.below b2).alloc (.cells #[.int .i64 (n:Nat),.int .i64 0,.int .i64 (X:Nat),.int .i64 0] 151)
  have O2:=Bx.new w2 151 #[.int .i64 (n:Nat),.int .i64 0,.int .i64 (X:Nat),.int .i64 0]
  have P3:=zH (P2.alloc (.cells #[.int .i64 (n:Nat),.int .i64 (X:Nat),.int .i64 (X:Nat),.int .i64 0] 151))
  have O3:=zH (O2.alloc (.cells #[.int .i64 (n:Nat),.int .i64 (X:Nat),.int .i64 (X:Nat),.int .i64 0] 151))
  have G3:=zH (G2.alloc (.cells #[.int .i64 (n:Nat),.int .i64 (X:Nat),.int .i64 (X:Nat),.int .i64 0] 151))
  have R3:=zH (((R1.out.below b2).alloc (.cells #[.int .i64 (n:Nat),.int .i64 0,.int .i64 (X:Nat),.int .i64 0] 151)).alloc (.cells #[.int .i64 (n:Nat),.int .i64 (X:Nat),.int .i64 (X:Nat),.int .i64 0] 151))
  have B3:=zH (((below_trans B1.out b2).alloc (by omega) (.cells #[.int .i64 (n:Nat),.int .i64 0,.int .i64 (X:Nat),.int .i64 0] 151)).alloc (by simp;omega) (.cells #[.int .i64 (n:Nat),.int .i64 (X:Nat),.int .i64 (X:Nat),.int .i64 0] 151))
  have D3:=zH (Bx.new' (w:=w2.alloc (.cells #[.int .i64 (n:Nat),.int .i64 0,.int .i64 (X:Nat),.int .i64 0] 151)) (i:=w2.heap.size+1) (t:=151) (cs:=#[.int .i64 (n:Nat),.int .i64 (X:Nat),.int .i64 (X:Nat),.int .i64 0]) (by simp))
  obtain ⟨p0,p1,p2,p3,_⟩:=P2.four
  obtain ⟨g0,g1,g2,g3,_⟩:=G3.out.four
  clear b2 M2 P1 G1 R1 B1 P2 G2 O2
  go_wp2_with fail
  refine (s_ActsOn _ _ _ _ _ _).mono ?_
  rintro e w3 ⟨rfl,b3⟩
  have P4:=zH (P3.out.below b3)
  have O4:=zH (O3.out.below b3)
  have D4:=zH (D3.out.below b3)
  have G4:=zH (G3.out.below b3)
  have R4:=zH (R3.out.below b3)
  have B4:=zH (below_trans B3.out b3)
  clear b3 P3 O3 D3 G3 R3 B3 p0 p1 p2 p3 g0 g1 g2 g3
  rw [AC]
  obtain ⟨p0,p1,p2,p3,p4,p5,p6,p7⟩:=P4.out.four
  obtain ⟨o0,o11,o22,o3,o4,o5,o6,o7⟩:=O4.out.four
  obtain ⟨d0,d1,d2,d3,d4,d5,d6,d7⟩:=D4.out.four
  obtain ⟨g0,g1,g2,g3,g4,g5,g6,g7⟩:=G4.out.four
  obtain ⟨r0,r1,r2,r3,r4,r5,r6,r7⟩:=R4.out.four
  clear P4 O4 D4 G4
  have n1:w.heap.size+1 ≠ w1.heap.size:=by omega
  have n2:w.heap.size+1 ≠ w2.heap.size+1:=by omega
  have R5:∀ u,Bx (w3.setCell ⟨w1.heap.size,3,none⟩ u) (w.heap.size+1) 151 #[.int .i64 0,.int .i64 0,.int .i64 0,.int .i64 0]:=fun u=>R4.out.far n1 _
  have R6:∀ u,Bx (w3.setCell ⟨w2.heap.size+1,3,none⟩ u) (w.heap.size+1) 151 #[.int .i64 0,.int .i64 0,.int .i64 0,.int .i64 0]:=fun u=>R4.out.far n2 _
  have R7:∀ u,Bx (w3.setCell ⟨w1.heap.size,1,none⟩ u) (w.heap.size+1) 151 #[.int .i64 0,.int .i64 0,.int .i64 0,.int .i64 0]:=fun u=>R4.out.far n1 _
  have R8:∀ u,Bx (w3.setCell ⟨w1.heap.size,2,none⟩ u) (w.heap.size+1) 151 #[.int .i64 0,.int .i64 0,.int .i64 0,.int .i64 0]:=fun u=>R4.out.far n1 _
  by_cases h1:q=A
  ·obtain rfl:A=q:=h1.symm
   obtain rfl:X=Y:=hX.symm.trans hY
   clear T1 T2 T3 hY hlA o2
   have ac:actsQ ⟨k,A,B,0⟩ A=true:=by unfold actsQ;simp
   rw [ac]
   rcases hk with ⟨ha,hk⟩ | ⟨ha,hab,hk⟩
   ·rcases hk with rfl | rfl | rfl | rfl | rfl | rfl
    all_goals
     simp [imX,ac,xQ,zQ,s1,s2,hX,hZ] at hcv
     subst hcv
     go_wp2_with fail
     all_goals (try go_region)
     all_goals (try (go_wp2_with fail))
     all_goals (first | with_reducible refine ret_S4 R4.out ?_ ?_ ⟨rfl,?_⟩ | with_reducible refine ret_S4 (R5 _) ?_ ?_ ⟨rfl,?_⟩ | with_reducible refine ret_S4 (R6 _) ?_ ?_ ⟨rfl,?_⟩ | with_reducible refine ret_S4 (R7 _) ?_ ?_ ⟨rfl,?_⟩ | with_reducible refine ret_S4 (R8 _) ?_ ?_ ⟨rfl,?_⟩ | with_reducible refine ret_S4d R4.out ?_ ?_ ⟨rfl,?_⟩ | with_reducible refine ret_S4d (R5 _) ?_ ?_ ⟨rfl,?_⟩ | with_reducible refine ret_S4d (R6 _) ?_ ?_ ⟨rfl,?_⟩ | with_reducible refine ret_S4d (R7 _) ?_ ?_ ⟨rfl,?_⟩ | with_reducible refine ret_S4d (R8 _) ?_ ?_ ⟨rfl,?_⟩ | (trace_state;fail))
     ·intro wS z0 z1 z2 z3;simp [results,Tryz.results186,go_sem,z0,z1,z2,z3]
     ·rfl
     ·repeat (first | with_reducible exact B4.out | (with_reducible refine Below.setCell ?_ (by simp<;>omega) _) | with_reducible refine Below.drew ?_)
   ·rcases hk with rfl | rfl | rfl
    ·simp [imX,ac,xQ,zQ,s1,s2,hX,hZ] at hcv
     subst hcv
     go_wp2_with fail
     all_goals (try go_region)
     all_goals (try (go_wp2_with fail))
     all_goals (first | with_reducible refine ret_S4 R4.out ?_ ?_ ⟨rfl,?_⟩ | with_reducible refine ret_S4 (R5 _) ?_ ?_ ⟨rfl,?_⟩ | with_reducible refine ret_S4 (R6 _) ?_ ?_ ⟨rfl,?_⟩ | with_reducible refine ret_S4 (R7 _) ?_ ?_ ⟨rfl,?_⟩ | with_reducible refine ret_S4 (R8 _) ?_ ?_ ⟨rfl,?_⟩ | with_reducible refine ret_S4d R4.out ?_ ?_ ⟨rfl,?_⟩ | with_reducible refine ret_S4d (R5 _) ?_ ?_ ⟨rfl,?_⟩ | with_reducible refine ret_S4d (R6 _) ?_ ?_ ⟨rfl,?_⟩ | with_reducible refine ret_S4d (R7 _) ?_ ?_ ⟨rfl,?_⟩ | with_reducible refine ret_S4d (R8 _) ?_ ?_ ⟨rfl,?_⟩ | (trace_state;fail))
     ·intro wS z0 z1 z2 z3;simp [results,Tryz.results186,go_sem,z0,z1,z2,z3]
     ·rfl
     ·repeat (first | with_reducible exact B4.out | (with_reducible refine Below.setCell ?_ (by simp<;>omega) _) | with_reducible refine Below.drew ?_)
    ·simp [imX,ac,xQ,zQ,s1,s2,hX,hZ] at hcv
     subst hcv
     go_wp2_with fail
     all_goals (try go_region)
     all_goals (try (go_wp2_with fail))
     all_goals (first | with_reducible refine ret_S4 R4.out ?_ ?_ ⟨rfl,?_⟩ | with_reducible refine ret_S4 (R5 _) ?_ ?_ ⟨rfl,?_⟩ | with_reducible refine ret_S4 (R6 _) ?_ ?_ ⟨rfl,?_⟩ | with_reducible refine ret_S4 (R7 _) ?_ ?_ ⟨rfl,?_⟩ | with_reducible refine ret_S4 (R8 _) ?_ ?_ ⟨rfl,?_⟩ | with_reducible refine ret_S4d R4.out ?_ ?_ ⟨rfl,?_⟩ | with_reducible refine ret_S4d (R5 _) ?_ ?_ ⟨rfl,?_⟩ | with_reducible refine ret_S4d (R6 _) ?_ ?_ ⟨rfl,?_⟩ | with_reducible refine ret_S4d (R7 _) ?_ ?_ ⟨rfl,?_⟩ | with_reducible refine ret_S4d (R8 _) ?_ ?_ ⟨rfl,?_⟩ | (trace_state;fail))
     ·intro wS z0 z1 z2 z3;simp [results,Tryz.results186,go_sem,z0,z1,z2,z3]
     ·rfl
     ·repeat (first | with_reducible exact B4.out | (with_reducible refine Below.setCell ?_ (by simp<;>omega) _) | with_reducible refine Below.drew ?_)
    ·simp [imX,ac,xQ,zQ,s1,s2,hX,hZ] at hcv
     subst hcv
     go_wp2_with fail
     rw [show (A:Int)+B - A=(B:Int) by omega]
     refine (s_Single n B false ⟨Z,0,0⟩ _ hB (by simp [xQ,zQ,hZ])).mono ?_
     rintro e w5 ⟨rfl,b5⟩
     have R9:=R4.out.below b5
     obtain ⟨r0',r1',r2',r3',r4',r5',r6',r7'⟩:=R9.four
     have B9:=below_trans B4.out b5
     go_wp2_with fail
     first | with_reducible refine ret_S4 R9 ?_ ?_ ⟨rfl,?_⟩ | with_reducible refine ret_S4d R9 ?_ ?_ ⟨rfl,?_⟩ | (trace_state;fail)
     ·intro wS z0 z1 z2 z3;simp [results,Tryz.results186,go_sem,z0,z1,z2,z3]
     ·rfl
     ·repeat (first | with_reducible exact B9 | (with_reducible refine Below.setCell ?_ (by simp<;>omega) _) | with_reducible refine Below.drew ?_)
  ·have f1:((q:Int) == (A:Int))=false:=by simp;omega
   have f2:((A:Int) == (q:Int))=false:=by simp;omega
   rcases hk with ⟨ha,hk⟩ | ⟨ha,hab,hk⟩
   ·clear hk
    have ac:actsQ ⟨k,A,B,0⟩ q=false:=by unfold actsQ;simp [f1,f2,ha]
    rw [ac]
    simp [imX,ac,xQ,zQ,s1,s2,hX,hZ] at hcv
    subst hcv
    go_wp2_with fail
    all_goals (try go_region)
    all_goals (try (go_wp2_with fail))
    all_goals (first | with_reducible refine ret_S4 R4.out ?_ ?_ ⟨rfl,?_⟩ | with_reducible refine ret_S4 (R5 _) ?_ ?_ ⟨rfl,?_⟩ | with_reducible refine ret_S4 (R6 _) ?_ ?_ ⟨rfl,?_⟩ | with_reducible refine ret_S4 (R7 _) ?_ ?_ ⟨rfl,?_⟩ | with_reducible refine ret_S4 (R8 _) ?_ ?_ ⟨rfl,?_⟩ | with_reducible refine ret_S4d R4.out ?_ ?_ ⟨rfl,?_⟩ | with_reducible refine ret_S4d (R5 _) ?_ ?_ ⟨rfl,?_⟩ | with_reducible refine ret_S4d (R6 _) ?_ ?_ ⟨rfl,?_⟩ | with_reducible refine ret_S4d (R7 _) ?_ ?_ ⟨rfl,?_⟩ | with_reducible refine ret_S4d (R8 _) ?_ ?_ ⟨rfl,?_⟩ | (trace_state;fail))
    ·intro wS z0 z1 z2 z3;simp [results,Tryz.results186,go_sem,z0,z1,z2,z3]
    ·rfl
    ·repeat (first | with_reducible exact B4.out | (with_reducible refine Below.setCell ?_ (by simp<;>omega) _) | with_reducible refine Below.drew ?_)
   ·by_cases h2:q=B
    ·obtain rfl:B=q:=h2.symm
     obtain rfl:X=Z:=hX.symm.trans hZ
     clear U1 U2 U3 hZ hlB o1
     have ac:actsQ ⟨k,A,B,0⟩ B=true:=by unfold actsQ;simp [f1,f2,ha]
     rw [ac]
     rcases hk with rfl | rfl | rfl
     ·simp [imX,ac,xQ,zQ,s1,s2,hX,hY,f1,f2,h1] at hcv
      subst hcv
      go_wp2_with fail
      all_goals (try go_region)
      all_goals (try (go_wp2_with fail))
      all_goals (first | with_reducible refine ret_S4 R4.out ?_ ?_ ⟨rfl,?_⟩ | with_reducible refine ret_S4 (R5 _) ?_ ?_ ⟨rfl,?_⟩ | with_reducible refine ret_S4 (R6 _) ?_ ?_ ⟨rfl,?_⟩ | with_reducible refine ret_S4 (R7 _) ?_ ?_ ⟨rfl,?_⟩ | with_reducible refine ret_S4 (R8 _) ?_ ?_ ⟨rfl,?_⟩ | with_reducible refine ret_S4d R4.out ?_ ?_ ⟨rfl,?_⟩ | with_reducible refine ret_S4d (R5 _) ?_ ?_ ⟨rfl,?_⟩ | with_reducible refine ret_S4d (R6 _) ?_ ?_ ⟨rfl,?_⟩ | with_reducible refine ret_S4d (R7 _) ?_ ?_ ⟨rfl,?_⟩ | with_reducible refine ret_S4d (R8 _) ?_ ?_ ⟨rfl,?_⟩ | (trace_state;fail))
      ·intro wS z0 z1 z2 z3;simp [results,Tryz.results186,go_sem,z0,z1,z2,z3]
      ·rfl
      ·repeat (first | with_reducible exact B4.out | (with_reducible refine Below.setCell ?_ (by simp<;>omega) _) | with_reducible refine Below.drew ?_)
     ·simp [imX,ac,xQ,zQ,s1,s2,hX,hY,f1,f2,h1] at hcv
      subst hcv
      go_wp2_with fail
      all_goals (try go_region)
      all_goals (try (go_wp2_with fail))
      all_goals (first | with_reducible refine ret_S4 R4.out ?_ ?_ ⟨rfl,?_⟩ | with_reducible refine ret_S4 (R5 _) ?_ ?_ ⟨rfl,?_⟩ | with_reducible refine ret_S4 (R6 _) ?_ ?_ ⟨rfl,?_⟩ | with_reducible refine ret_S4 (R7 _) ?_ ?_ ⟨rfl,?_⟩ | with_reducible refine ret_S4 (R8 _) ?_ ?_ ⟨rfl,?_⟩ | with_reducible refine ret_S4d R4.out ?_ ?_ ⟨rfl,?_⟩ | with_reducible refine ret_S4d (R5 _) ?_ ?_ ⟨rfl,?_⟩ | with_reducible refine ret_S4d (R6 _) ?_ ?_ ⟨rfl,?_⟩ | with_reducible refine ret_S4d (R7 _) ?_ ?_ ⟨rfl,?_⟩ | with_reducible refine ret_S4d (R8 _) ?_ ?_ ⟨rfl,?_⟩ | (trace_state;fail))
      ·intro wS z0 z1 z2 z3;simp [results,Tryz.results186,go_sem,z0,z1,z2,z3]
      ·rfl
      ·repeat (first | with_reducible exact B4.out | (with_reducible refine Below.setCell ?_ (by simp<;>omega) _) | with_reducible refine Below.drew ?_)
     ·simp [imX,ac,xQ,zQ,s1,s2,hX,hY,f1,f2,h1] at hcv
      subst hcv
      go_wp2_with fail
      refine (s_Single n A false ⟨Y,0,0⟩ _ hA (by simp [xQ,zQ,hY])).mono ?_
      rintro e w5 ⟨rfl,b5⟩
      have R9:=R4.out.below b5
      obtain ⟨r0',r1',r2',r3',r4',r5',r6',r7'⟩:=R9.four
      have B9:=below_trans B4.out b5
      go_wp2_with fail
      first | with_reducible refine ret_S4 R9 ?_ ?_ ⟨rfl,?_⟩ | with_reducible refine ret_S4d R9 ?_ ?_ ⟨rfl,?_⟩ | (trace_state;fail)
      ·intro wS z0 z1 z2 z3;simp [results,Tryz.results186,go_sem,z0,z1,z2,z3]
      ·rfl
      ·repeat (first | with_reducible exact B9 | (with_reducible refine Below.setCell ?_ (by simp<;>omega) _) | with_reducible refine Below.drew ?_)
    ·have f3:((q:Int) == (B:Int))=false:=by simp;omega
     have f4:((B:Int) == (q:Int))=false:=by simp;omega
     have ac:actsQ ⟨k,A,B,0⟩ q=false:=by unfold actsQ;simp [f1,f2,f3,f4,ha]
     rw [ac]
     simp [imX,ac,xQ,zQ,s1,s2,hX,hZ] at hcv
     subst hcv
     go_wp2_with fail
     all_goals (try go_region)
     all_goals (try (go_wp2_with fail))
     all_goals (first | with_reducible refine ret_S4 R4.out ?_ ?_ ⟨rfl,?_⟩ | with_reducible refine ret_S4 (R5 _) ?_ ?_ ⟨rfl,?_⟩ | with_reducible refine ret_S4 (R6 _) ?_ ?_ ⟨rfl,?_⟩ | with_reducible refine ret_S4 (R7 _) ?_ ?_ ⟨rfl,?_⟩ | with_reducible refine ret_S4 (R8 _) ?_ ?_ ⟨rfl,?_⟩ | with_reducible refine ret_S4d R4.out ?_ ?_ ⟨rfl,?_⟩ | with_reducible refine ret_S4d (R5 _) ?_ ?_ ⟨rfl,?_⟩ | with_reducible refine ret_S4d (R6 _) ?_ ?_ ⟨rfl,?_⟩ | with_reducible refine ret_S4d (R7 _) ?_ ?_ ⟨rfl,?_⟩ | with_reducible refine ret_S4d (R8 _) ?_ ?_ ⟨rfl,?_⟩ | (trace_state;fail))
     ·intro wS z0 z1 z2 z3;simp [results,Tryz.results186,go_sem,z0,z1,z2,z3]
     ·rfl
     ·repeat (first | with_reducible exact B4.out | (with_reducible refine Below.setCell ?_ (by simp<;>omega) _) | with_reducible refine Below.drew ?_)
 ·obtain ⟨cv,hcv⟩:∃ c,imZ ⟨k,A,B,0⟩ q=c:=⟨_,rfl⟩
  simp only [if_true,hcv]
  have M1:=s_Single n q true ⟨0,X,0⟩ ((w.alloc (.cells #[.int .i64 k,.int .i64 (A:Nat),.int .i64 (B:Nat),.int .i64 0] 39)).alloc (.cells #[.int .i64 0,.int .i64 0,.int .i64 0,.int .i64 0] 151)) hq ZQ
  have M2:=fun w=>s_Single n q false ⟨X,0,0⟩ w hq XQ
  have AC:acts k A B 0 q=actsQ ⟨k,A,B,0⟩ q:=by
   rcases hk with ⟨ha,_⟩ | ⟨ha,_⟩
   ·rw [acts_1 ha];unfold actsQ;simp [ha]
   ·rw [acts_2 ha];unfold actsQ;simp [ha]
  go_enter Tryz.func186,Tryz.ntmps186
  go_wp2_with fail
  refine M1.mono ?_
  rintro e w1 ⟨rfl,b1⟩
  have G1:=zH (((G0.out.alloc _).below b1).alloc (.cells #[.int .i64 (n:Nat),.int .i64 0,.int .i64 (X:Nat),.int .i64 0] 151))
  have R1:=zH ((R0.out.below b1).alloc (.cells #[.int .i64 (n:Nat),.int .i64 0,.int .i64 (X:Nat),.int .i64 0] 151))
  have B1:=zH ((below_trans B0.out b1).alloc (by have:=b1.size;simp at this;omega) (.cells #[.int .i64 (n:Nat),.int .i64 0,.int .i64 (X:Nat),.int .i64 0] 151))
  have P1:=zH (Bx.new w1 151 #[.int .i64 (n:Nat),.int .i64 0,.int .i64 (X:Nat),.int .i64 0])
  have L1:w.heap.size+1 < w1.heap.size:=(R0.out.below b1).lt
  clear b1 M1 G0 R0 B0
  go_wp2_with fail
  refine (M2 _).mono ?_
  rintro e w2 ⟨rfl,b2⟩
  have L2:w1.heap.size < w2.heap.size:=(P1.out.below b2).lt
  have P2:=(P1.out.below b2).alloc (.cells #[.int .i64 (n:Nat),.int .i64 (X:Nat),.int .i64 0,.int .i64 0] 151)
  have G2:=(G1.out.below b2).alloc (.cells #[.int .i64 (n:Nat),.int .i64 (X:Nat),.int .i64 0,.int .i64 0] 151)
  have O2:=Bx.new w2 151 #[.int .i64 (n:Nat),.int .i64 (X:Nat),.int .i64 0,.int .i64 0]
  have P3:=zH (P2.alloc (.cells #[.int .i64 (n:Nat),.int .i64 (X:Nat),.int .i64 (X:Nat),.int .i64 0] 151))
  have O3:=zH (O2.alloc (.cells #[.int .i64 (n:Nat),.int .i64 (X:Nat),.int .i64 (X:Nat),.int .i64 0] 151))
  have G3:=zH (G2.alloc (.cells #[.int .i64 (n:Nat),.int .i64 (X:Nat),.int .i64 (X:Nat),.int .i64 0] 151))
  have R3:=zH (((R1.out.below b2).alloc (.cells #[.int .i64 (n:Nat),.int .i64 (X:Nat),.int .i64 0,.int .i64 0] 151)).alloc (.cells #[.int .i64 (n:Nat),.int .i64 (X:Nat),.int .i64 (X:Nat),.int .i64 0] 151))
  have B3:=zH (((below_trans B1.out b2).alloc (by omega) (.cells #[.int .i64 (n:Nat),.int .i64 (X:Nat),.int .i64 0,.int .i64 0] 151)).alloc (by simp;omega) (.cells #[.int .i64 (n:Nat),.int .i64 (X:Nat),.int .i64 (X:Nat),.int .i64 0] 151))
  have D3:=zH (Bx.new' (w:=w2.alloc (.cells #[.int .i64 (n:Nat),.int .i64 (X:Nat),.int .i64 0,.int .i64 0] 151)) (i:=w2.heap.size+1) (t:=151) (cs:=#[.int .i64 (n:Nat),.int .i64 (X:Nat),.int .i64 (X:Nat),.int .i64 0]) (by simp))
  obtain ⟨p0,p1,p2,p3,_⟩:=P2.four
  obtain ⟨g0,g1,g2,g3,_⟩:=G3.out.four
  clear b2 M2 P1 G1 R1 B1 P2 G2 O2
  go_wp2_with fail
  refine (s_ActsOn _ _ _ _ _ _).mono ?_
  rintro e w3 ⟨rfl,b3⟩
  have P4:=zH (P3.out.below b3)
  have O4:=zH (O3.out.below b3)
  have D4:=zH (D3.out.below b3)
  have G4:=zH (G3.out.below b3)
  have R4:=zH (R3.out.below b3)
  have B4:=zH (below_trans B3.out b3)
  clear b3 P3 O3 D3 G3 R3 B3 p0 p1 p2 p3 g0 g1 g2 g3
  rw [AC]
  obtain ⟨p0,p1,p2,p3,p4,p5,p6,p7⟩:=P4.out.four
  obtain ⟨o0,o11,o22,o3,o4,o5,o6,o7⟩:=O4.out.four
  obtain ⟨d0,d1,d2,d3,d4,d5,d6,d7⟩:=D4.out.four
  obtain ⟨g0,g1,g2,g3,g4,g5,g6,g7⟩:=G4.out.four
  obtain ⟨r0,r1,r2,r3,r4,r5,r6,r7⟩:=R4.out.four
  clear P4 O4 D4 G4
  have n1:w.heap.size+1 ≠ w1.heap.size:=by omega
  have n2:w.heap.size+1 ≠ w2.heap.size+1:=by omega
  have R5:∀ u,Bx (w3.setCell ⟨w1.heap.size,3,none⟩ u) (w.heap.size+1) 151 #[.int .i64 0,.int .i64 0,.int .i64 0,.int .i64 0]:=fun u=>R4.out.far n1 _
  have R6:∀ u,Bx (w3.setCell ⟨w2.heap.size+1,3,none⟩ u) (w.heap.size+1) 151 #[.int .i64 0,.int .i64 0,.int .i64 0,.int .i64 0]:=fun u=>R4.out.far n2 _
  have R7:∀ u,Bx (w3.setCell ⟨w1.heap.size,1,none⟩ u) (w.heap.size+1) 151 #[.int .i64 0,.int .i64 0,.int .i64 0,.int .i64 0]:=fun u=>R4.out.far n1 _
  have R8:∀ u,Bx (w3.setCell ⟨w1.heap.size,2,none⟩ u) (w.heap.size+1) 151 #[.int .i64 0,.int .i64 0,.int .i64 0,.int .i64 0]:=fun u=>R4.out.far n1 _
  by_cases h1:q=A
  ·obtain rfl:A=q:=h1.symm
   obtain rfl:X=Y:=hX.symm.trans hY
   clear T1 T2 T3 hY hlA o2
   have ac:actsQ ⟨k,A,B,0⟩ A=true:=by unfold actsQ;simp
   rw [ac]
   rcases hk with ⟨ha,hk⟩ | ⟨ha,hab,hk⟩
   ·rcases hk with rfl | rfl | rfl | rfl | rfl | rfl
    all_goals
     simp [imZ,ac,xQ,zQ,s1,s2,hX,hZ] at hcv
     subst hcv
     go_wp2_with fail
     all_goals (try go_region)
     all_goals (try (go_wp2_with fail))
     all_goals (first | with_reducible refine ret_S4 R4.out ?_ ?_ ⟨rfl,?_⟩ | with_reducible refine ret_S4 (R5 _) ?_ ?_ ⟨rfl,?_⟩ | with_reducible refine ret_S4 (R6 _) ?_ ?_ ⟨rfl,?_⟩ | with_reducible refine ret_S4 (R7 _) ?_ ?_ ⟨rfl,?_⟩ | with_reducible refine ret_S4 (R8 _) ?_ ?_ ⟨rfl,?_⟩ | with_reducible refine ret_S4d R4.out ?_ ?_ ⟨rfl,?_⟩ | with_reducible refine ret_S4d (R5 _) ?_ ?_ ⟨rfl,?_⟩ | with_reducible refine ret_S4d (R6 _) ?_ ?_ ⟨rfl,?_⟩ | with_reducible refine ret_S4d (R7 _) ?_ ?_ ⟨rfl,?_⟩ | with_reducible refine ret_S4d (R8 _) ?_ ?_ ⟨rfl,?_⟩ | (trace_state;fail))
     ·intro wS z0 z1 z2 z3;simp [results,Tryz.results186,go_sem,z0,z1,z2,z3]
     ·rfl
     ·repeat (first | with_reducible exact B4.out | (with_reducible refine Below.setCell ?_ (by simp<;>omega) _) | with_reducible refine Below.drew ?_)
   ·rcases hk with rfl | rfl | rfl
    ·simp [imZ,ac,xQ,zQ,s1,s2,hX,hZ] at hcv
     subst hcv
     go_wp2_with fail
     all_goals (try go_region)
     all_goals (try (go_wp2_with fail))
     all_goals (first | with_reducible refine ret_S4 R4.out ?_ ?_ ⟨rfl,?_⟩ | with_reducible refine ret_S4 (R5 _) ?_ ?_ ⟨rfl,?_⟩ | with_reducible refine ret_S4 (R6 _) ?_ ?_ ⟨rfl,?_⟩ | with_reducible refine ret_S4 (R7 _) ?_ ?_ ⟨rfl,?_⟩ | with_reducible refine ret_S4 (R8 _) ?_ ?_ ⟨rfl,?_⟩ | with_reducible refine ret_S4d R4.out ?_ ?_ ⟨rfl,?_⟩ | with_reducible refine ret_S4d (R5 _) ?_ ?_ ⟨rfl,?_⟩ | with_reducible refine ret_S4d (R6 _) ?_ ?_ ⟨rfl,?_⟩ | with_reducible refine ret_S4d (R7 _) ?_ ?_ ⟨rfl,?_⟩ | with_reducible refine ret_S4d (R8 _) ?_ ?_ ⟨rfl,?_⟩ | (trace_state;fail))
     ·intro wS z0 z1 z2 z3;simp [results,Tryz.results186,go_sem,z0,z1,z2,z3]
     ·rfl
     ·repeat (first | with_reducible exact B4.out | (with_reducible refine Below.setCell ?_ (by simp<;>omega) _) | with_reducible refine Below.drew ?_)
    ·simp [imZ,ac,xQ,zQ,s1,s2,hX,hZ] at hcv
     subst hcv
     go_wp2_with fail
     all_goals (try go_region)
     all_goals (try (go_wp2_with fail))
     all_goals (first | with_reducible refine ret_S4 R4.out ?_ ?_ ⟨rfl,?_⟩ | with_reducible refine ret_S4 (R5 _) ?_ ?_ ⟨rfl,?_⟩ | with_reducible refine ret_S4 (R6 _) ?_ ?_ ⟨rfl,?_⟩ | with_reducible refine ret_S4 (R7 _) ?_ ?_ ⟨rfl,?_⟩ | with_reducible refine ret_S4 (R8 _) ?_ ?_ ⟨rfl,?_⟩ | with_reducible refine ret_S4d R4.out ?_ ?_ ⟨rfl,?_⟩ | with_reducible refine ret_S4d (R5 _) ?_ ?_ ⟨rfl,?_⟩ | with_reducible refine ret_S4d (R6 _) ?_ ?_ ⟨rfl,?_⟩ | with_reducible refine ret_S4d (R7 _) ?_ ?_ ⟨rfl,?_⟩ | with_reducible refine ret_S4d (R8 _) ?_ ?_ ⟨rfl,?_⟩ | (trace_state;fail))
     ·intro wS z0 z1 z2 z3;simp [results,Tryz.results186,go_sem,z0,z1,z2,z3]
     ·rfl
     ·repeat (first | with_reducible exact B4.out | (with_reducible refine Below.setCell ?_ (by simp<;>omega) _) | with_reducible refine Below.drew ?_)
    ·simp [imZ,ac,xQ,zQ,s1,s2,hX,hZ] at hcv
     subst hcv
     go_wp2_with fail
     rw [show (A:Int)+B - A=(B:Int) by omega]
     refine (s_Single n B true ⟨0,Z,0⟩ _ hB (by simp [xQ,zQ,hZ])).mono ?_
     rintro e w5 ⟨rfl,b5⟩
     have R9:=R4.out.below b5
     obtain ⟨r0',r1',r2',r3',r4',r5',r6',r7'⟩:=R9.four
     have B9:=below_trans B4.out b5
     go_wp2_with fail
     first | with_reducible refine ret_S4 R9 ?_ ?_ ⟨rfl,?_⟩ | with_reducible refine ret_S4d R9 ?_ ?_ ⟨rfl,?_⟩ | (trace_state;fail)
     ·intro wS z0 z1 z2 z3;simp [results,Tryz.results186,go_sem,z0,z1,z2,z3]
     ·rfl
     ·repeat (first | with_reducible exact B9 | (with_reducible refine Below.setCell ?_ (by simp<;>omega) _) | with_reducible refine Below.drew ?_)
  ·have f1:((q:Int) == (A:Int))=false:=by simp;omega
   have f2:((A:Int) == (q:Int))=false:=by simp;omega
   rcases hk with ⟨ha,hk⟩ | ⟨ha,hab,hk⟩
   ·clear hk
    have ac:actsQ ⟨k,A,B,0⟩ q=false:=by unfold actsQ;simp [f1,f2,ha]
    rw [ac]
    simp [imZ,ac,xQ,zQ,s1,s2,hX,hZ] at hcv
    subst hcv
    go_wp2_with fail
    all_goals (try go_region)
    all_goals (try (go_wp2_with fail))
    all_goals (first | with_reducible refine ret_S4 R4.out ?_ ?_ ⟨rfl,?_⟩ | with_reducible refine ret_S4 (R5 _) ?_ ?_ ⟨rfl,?_⟩ | with_reducible refine ret_S4 (R6 _) ?_ ?_ ⟨rfl,?_⟩ | with_reducible refine ret_S4 (R7 _) ?_ ?_ ⟨rfl,?_⟩ | with_reducible refine ret_S4 (R8 _) ?_ ?_ ⟨rfl,?_⟩ | with_reducible refine ret_S4d R4.out ?_ ?_ ⟨rfl,?_⟩ | with_reducible refine ret_S4d (R5 _) ?_ ?_ ⟨rfl,?_⟩ | with_reducible refine ret_S4d (R6 _) ?_ ?_ ⟨rfl,?_⟩ | with_reducible refine ret_S4d (R7 _) ?_ ?_ ⟨rfl,?_⟩ | with_reducible refine ret_S4d (R8 _) ?_ ?_ ⟨rfl,?_⟩ | (trace_state;fail))
    ·intro wS z0 z1 z2 z3;simp [results,Tryz.results186,go_sem,z0,z1,z2,z3]
    ·rfl
    ·repeat (first | with_reducible exact B4.out | (with_reducible refine Below.setCell ?_ (by simp<;>omega) _) | with_reducible refine Below.drew ?_)
   ·by_cases h2:q=B
    ·obtain rfl:B=q:=h2.symm
     obtain rfl:X=Z:=hX.symm.trans hZ
     clear U1 U2 U3 hZ hlB o1
     have ac:actsQ ⟨k,A,B,0⟩ B=true:=by unfold actsQ;simp [f1,f2,ha]
     rw [ac]
     rcases hk with rfl | rfl | rfl
     ·simp [imZ,ac,xQ,zQ,s1,s2,hX,hY,f1,f2,h1] at hcv
      subst hcv
      go_wp2_with fail
      all_goals (try go_region)
      all_goals (try (go_wp2_with fail))
      all_goals (first | with_reducible refine ret_S4 R4.out ?_ ?_ ⟨rfl,?_⟩ | with_reducible refine ret_S4 (R5 _) ?_ ?_ ⟨rfl,?_⟩ | with_reducible refine ret_S4 (R6 _) ?_ ?_ ⟨rfl,?_⟩ | with_reducible refine ret_S4 (R7 _) ?_ ?_ ⟨rfl,?_⟩ | with_reducible refine ret_S4 (R8 _) ?_ ?_ ⟨rfl,?_⟩ | with_reducible refine ret_S4d R4.out ?_ ?_ ⟨rfl,?_⟩ | with_reducible refine ret_S4d (R5 _) ?_ ?_ ⟨rfl,?_⟩ | with_reducible refine ret_S4d (R6 _) ?_ ?_ ⟨rfl,?_⟩ | with_reducible refine ret_S4d (R7 _) ?_ ?_ ⟨rfl,?_⟩ | with_reducible refine ret_S4d (R8 _) ?_ ?_ ⟨rfl,?_⟩ | (trace_state;fail))
      ·intro wS z0 z1 z2 z3;simp [results,Tryz.results186,go_sem,z0,z1,z2,z3]
      ·rfl
      ·repeat (first | with_reducible exact B4.out | (with_reducible refine Below.setCell ?_ (by simp<;>omega) _) | with_reducible refine Below.drew ?_)
     ·simp [imZ,ac,xQ,zQ,s1,s2,hX,hY,f1,f2,h1] at hcv
      subst hcv
      go_wp2_with fail
      all_goals (try go_region)
      all_goals (try (go_wp2_with fail))
      all_goals (first | with_reducible refine ret_S4 R4.out ?_ ?_ ⟨rfl,?_⟩ | with_reducible refine ret_S4 (R5 _) ?_ ?_ ⟨rfl,?_⟩ | with_reducible refine ret_S4 (R6 _) ?_ ?_ ⟨rfl,?_⟩ | with_reducible refine ret_S4 (R7 _) ?_ ?_ ⟨rfl,?_⟩ | with_reducible refine ret_S4 (R8 _) ?_ ?_ ⟨rfl,?_⟩ | with_reducible refine ret_S4d R4.out ?_ ?_ ⟨rfl,?_⟩ | with_reducible refine ret_S4d (R5 _) ?_ ?_ ⟨rfl,?_⟩ | with_reducible refine ret_S4d (R6 _) ?_ ?_ ⟨rfl,?_⟩ | with_reducible refine ret_S4d (R7 _) ?_ ?_ ⟨rfl,?_⟩ | with_reducible refine ret_S4d (R8 _) ?_ ?_ ⟨rfl,?_⟩ | (trace_state;fail))
      ·intro wS z0 z1 z2 z3;simp [results,Tryz.results186,go_sem,z0,z1,z2,z3]
      ·rfl
      ·repeat (first | with_reducible exact B4.out | (with_reducible refine Below.setCell ?_ (by simp<;>omega) _) | with_reducible refine Below.drew ?_)
     ·simp [imZ,ac,xQ,zQ,s1,s2,hX,hY,f1,f2,h1] at hcv
      subst hcv
      go_wp2_with fail
      refine (s_Single n A true ⟨0,Y,0⟩ _ hA (by simp [xQ,zQ,hY])).mono ?_
      rintro e w5 ⟨rfl,b5⟩
      have R9:=R4.out.below b5
      obtain ⟨r0',r1',r2',r3',r4',r5',r6',r7'⟩:=R9.four
      have B9:=below_trans B4.out b5
      go_wp2_with fail
      first | with_reducible refine ret_S4 R9 ?_ ?_ ⟨rfl,?_⟩ | with_reducible refine ret_S4d R9 ?_ ?_ ⟨rfl,?_⟩ | (trace_state;fail)
      ·intro wS z0 z1 z2 z3;simp [results,Tryz.results186,go_sem,z0,z1,z2,z3]
      ·rfl
      ·repeat (first | with_reducible exact B9 | (with_reducible refine Below.setCell ?_ (by simp<;>omega) _) | with_reducible refine Below.drew ?_)
    ·have f3:((q:Int) == (B:Int))=false:=by simp;omega
     have f4:((B:Int) == (q:Int))=false:=by simp;omega
     have ac:actsQ ⟨k,A,B,0⟩ q=false:=by unfold actsQ;simp [f1,f2,f3,f4,ha]
     rw [ac]
     simp [imZ,ac,xQ,zQ,s1,s2,hX,hZ] at hcv
     subst hcv
     go_wp2_with fail
     all_goals (try go_region)
     all_goals (try (go_wp2_with fail))
     all_goals (first | with_reducible refine ret_S4 R4.out ?_ ?_ ⟨rfl,?_⟩ | with_reducible refine ret_S4 (R5 _) ?_ ?_ ⟨rfl,?_⟩ | with_reducible refine ret_S4 (R6 _) ?_ ?_ ⟨rfl,?_⟩ | with_reducible refine ret_S4 (R7 _) ?_ ?_ ⟨rfl,?_⟩ | with_reducible refine ret_S4 (R8 _) ?_ ?_ ⟨rfl,?_⟩ | with_reducible refine ret_S4d R4.out ?_ ?_ ⟨rfl,?_⟩ | with_reducible refine ret_S4d (R5 _) ?_ ?_ ⟨rfl,?_⟩ | with_reducible refine ret_S4d (R6 _) ?_ ?_ ⟨rfl,?_⟩ | with_reducible refine ret_S4d (R7 _) ?_ ?_ ⟨rfl,?_⟩ | with_reducible refine ret_S4d (R8 _) ?_ ?_ ⟨rfl,?_⟩ | (trace_state;fail))
     ·intro wS z0 z1 z2 z3;simp [results,Tryz.results186,go_sem,z0,z1,z2,z3]
     ·rfl
     ·repeat (first | with_reducible exact B4.out | (with_reducible refine Below.setCell ?_ (by simp<;>omega) _) | with_reducible refine Below.drew ?_)
end Go.Proofs.YtmenmibfkojnoaaGreat
