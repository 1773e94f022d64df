/- Contracts of MulPauli, PaulisCommute, IsHermitianPauli (spec and impl), for valid operators on one to four qubits. -/
import Derived.Test.YtmenmibfkojnoaaGreatV06
set_option maxHeartbeats 16000000
namespace Go.Proofs.YtmenmibfkojnoaaGreat
open Go.RowKit
set_option linter.unusedVariables false
theorem i64S {x:Int} (h0:0<=x) (h1:x < 1000):IntKind.i64.wrap x=x:=by rw [IntKind.wrap_i64];omega
set_option maxRecDepth 100000 in
theorem s_MulPau (n:Nat) (a b c:Pq) (w:World) (hn:1<=n/\n<=4) (ha:okQn n a=true) (hb:okQn n b=true) (hc:mulQ a b=c):Calls Tryz.prog 185 #[.agg #[.int .i64 (n:Nat),.int .i64 (a.x:Nat),.int .i64 (a.z:Nat),.int .i64 (a.p:Nat)],.agg #[.int .i64 (n:Nat),.int .i64 (b.x:Nat),.int .i64 (b.z:Nat),.int .i64 (b.p:Nat)]] w fun e w'=>e=.returned (.tuple #[.agg #[.int .i64 (n:Nat),.int .i64 (c.x:Nat),.int .i64 (c.z:Nat),.int .i64 (c.p:Nat)],.bool true])/\Below w.heap.size w w':=by
 obtain ⟨a1,a2,a3⟩:=okQ16 hn.2 ha
 obtain ⟨b1,b2,b3⟩:=okQ16 hn.2 hb
 obtain ⟨m,hm⟩:∃ m,popQ (a.z &&& b.x)=m:=⟨_,rfl⟩
 have hm4:m<=4:=by rw [<- hm];exact popQ_bd _
 obtain ⟨u,hu⟩:∃ u,bits .and .i64 (a.z:Int) (b.x:Int)=u:=⟨_,rfl⟩
 have hc1:c.x=a.x ^^^ b.x/\c.z=a.z ^^^ b.z/\c.p=(a.p+b.p+2 * m) % 4:=by rw [<- hc,<- hm];exact ⟨rfl,rfl,rfl⟩
 have E1:=zH (show bits .xor .i64 (a.x:Int) (b.x:Int)=(c.x:Nat) by rw [hc1.1];exact (bt16 a1 b1).2.1)
 have E2:=zH (show bits .xor .i64 (a.z:Int) (b.z:Int)=(c.z:Nat) by rw [hc1.2.1];exact (bt16 a2 b2).2.1)
 have E3:=zH (show onesI u=(m:Nat) by rw [<- hu,(bt16 a2 b1).1,ones16 (bt16 a2 b1).2.2.2,hm])
 have E5:Hid ((IntKind.i64.wrap (IntKind.i64.wrap ((a.p:Int)+b.p)+IntKind.i64.wrap (2 * (m:Int)))).tmod 4=(c.p:Nat)):=zH (by rw [i64S (x:=(a.p:Int)+b.p) (by omega) (by omega),i64S (x:=2 * (m:Int)) (by omega) (by omega),i64S (by omega) (by omega),Int.tmod_eq_emod_of_nonneg (by omega),hc1.2.2];omega)
 have HU:=zH hu
 have HA:=zH ha
 have HB:=zH hb
 have X0:=zH (show QB w w.heap.size n a (((w.alloc (.cells #[.int .i64 (n:Nat),.int .i64 (a.x:Nat),.int .i64 (a.z:Nat),.int .i64 (a.p:Nat)] 151)).alloc (.cells #[.int .i64 (n:Nat),.int .i64 (b.x:Nat),.int .i64 (b.z:Nat),.int .i64 (b.p:Nat)] 151)).alloc (.cells #[.int .i64 0,.int .i64 0,.int .i64 0,.int .i64 0] 151)) from ⟨((Bx.new w _ _).alloc _).alloc _,(((zW).alloc zR _).alloc (by simp) _).alloc (by simp<;>omega) _,zR⟩)
 have Y0:=zH (show QB w (w.heap.size+1) n b (((w.alloc (.cells #[.int .i64 (n:Nat),.int .i64 (a.x:Nat),.int .i64 (a.z:Nat),.int .i64 (a.p:Nat)] 151)).alloc (.cells #[.int .i64 (n:Nat),.int .i64 (b.x:Nat),.int .i64 (b.z:Nat),.int .i64 (b.p:Nat)] 151)).alloc (.cells #[.int .i64 0,.int .i64 0,.int .i64 0,.int .i64 0] 151)) from ⟨(Bx.new' (by simp)).alloc _,X0.out.2.1,by omega⟩)
 have R0:=zH (show Bx (((w.alloc (.cells #[.int .i64 (n:Nat),.int .i64 (a.x:Nat),.int .i64 (a.z:Nat),.int .i64 (a.p:Nat)] 151)).alloc (.cells #[.int .i64 (n:Nat),.int .i64 (b.x:Nat),.int .i64 (b.z:Nat),.int .i64 (b.p:Nat)] 151)).alloc (.cells #[.int .i64 0,.int .i64 0,.int .i64 0,.int .i64 0] 151)) (w.heap.size+1+1) 151 #[.int .i64 0,.int .i64 0,.int .i64 0,.int .i64 0] from Bx.new' (by simp))
 clear ha hb hc hm hu hc1 a1 a2 b1 b2
 obtain ⟨p0,p1,p2,p3,_⟩:=X0.out.1.four
 go_enter Tryz.func185,Tryz.ntmps185
 go_wp2_with fail
 refine (s_IsPau n a _ hn HA.out).mono ?_
 rintro e w1 ⟨rfl,b1⟩
 have X1:=zH (X0.out.below b1)
 have Y1:=zH (Y0.out.below b1)
 have R1:=zH (R0.out.below b1)
 clear b1 X0 Y0 R0 p0 p1 p2 p3
 obtain ⟨q0,q1,q2,q3,_⟩:=Y1.out.1.four
 go_wp2_with fail
 refine (s_IsPau n b _ hn HB.out).mono ?_
 rintro e w2 ⟨rfl,b2⟩
 have X2:=zH (X1.out.below b2)
 have Y2:=zH (Y1.out.below b2)
 have R2:=zH (R1.out.below b2)
 clear b2 X1 Y1 R1 q0 q1 q2 q3
 have P2:=X2.out.cells
 have Q2:=Y2.out.cells
 obtain ⟨p0,p1,p2,p3⟩:=P2
 obtain ⟨q0,q1,q2,q3⟩:=Q2
 obtain ⟨r0,r1,r2,r3,f0,f1,f2,f3⟩:=R2.out.four
 have FX:∀ u wx,QB w w.heap.size n a wx->QB w w.heap.size n a (S4 wx (w.heap.size+1+1) (.int .i64 (n:Nat)) (.int .i64 (c.x:Nat)) (.int .i64 (c.z:Nat)) u):=fun u wx h=>h.set4 (by omega) (by omega) _ _ _ _
 have FY:∀ u wx,QB w (w.heap.size+1) n b wx->QB w (w.heap.size+1) n b (S4 wx (w.heap.size+1+1) (.int .i64 (n:Nat)) (.int .i64 (c.x:Nat)) (.int .i64 (c.z:Nat)) u):=fun u wx h=>h.set4 (by omega) (by omega) _ _ _ _
 have hne0:w.heap.size ≠ w.heap.size+1+1:=by omega
 have hne1:w.heap.size+1 ≠ w.heap.size+1+1:=by omega
 go_upto_region 3 with fail
 go_region_held3 (fun w'=>(w'.cell? ⟨w.heap.size,0,none⟩=some (.int .i64 (n:Nat))/\w'.cell? ⟨w.heap.size,1,none⟩=some (.int .i64 (a.x:Nat))/\w'.cell? ⟨w.heap.size,2,none⟩=some (.int .i64 (a.z:Nat))/\w'.cell? ⟨w.heap.size,3,none⟩=some (.int .i64 (a.p:Nat)))/\(w'.cell? ⟨w.heap.size+1,1,none⟩=some (.int .i64 (b.x:Nat))/\w'.cell? ⟨w.heap.size+1,2,none⟩=some (.int .i64 (b.z:Nat))/\w'.cell? ⟨w.heap.size+1,3,none⟩=some (.int .i64 (b.p:Nat))))
  (first | exact ⟨⟨p0,p1,p2,p3⟩,q1,q2,q3⟩ | exact ⟨(FX _ _ X2.out).cells,(FY _ _ Y2.out).cells.2⟩ | go_keep)
  (first
   |(go_at_call 211;refine (s_ones _ _).mono ?_;rintro e w3 ⟨rfl,rfl⟩;rw [HU.out,E3.out,E1.out,E2.out])
   |fail)
 have RR:=R2.out.set4 (.int .i64 (n:Nat)) (.int .i64 (c.x:Nat)) (.int .i64 (c.z:Nat)) (.int .i64 ((IntKind.i64.wrap (IntKind.i64.wrap ((a.p:Int)+b.p)+IntKind.i64.wrap (2 * (m:Int)))).tmod 4))
 obtain ⟨z0,z1,z2,z3,_⟩:=RR.four
 have BB:=belowS4 X2.out.2.1 (r:=w.heap.size+1+1) (by omega) (.int .i64 (n:Nat)) (.int .i64 (c.x:Nat)) (.int .i64 (c.z:Nat)) (.int .i64 ((IntKind.i64.wrap (IntKind.i64.wrap ((a.p:Int)+b.p)+IntKind.i64.wrap (2 * (m:Int)))).tmod 4))
 clear RR FX FY p0 p1 p2 p3 q0 q1 q2 q3 r0 r1 r2 r3 f0 f1 f2 f3
 obtain ⟨wS,hS⟩:∃ wS,S4 w2 (w.heap.size+1+1) (.int .i64 (n:Nat)) (.int .i64 (c.x:Nat)) (.int .i64 (c.z:Nat)) (.int .i64 ((IntKind.i64.wrap (IntKind.i64.wrap ((a.p:Int)+b.p)+IntKind.i64.wrap (2 * (m:Int)))).tmod 4))=wS:=⟨_,rfl⟩
 rw [hS] at z0 z1 z2 z3 BB
 simp only [S4] at hS
 rw [hS]
 clear hS
 rw [E5.out] at z3
 go_wp2_with fail
 refine bodyPost_ret (v:=.tuple #[.agg #[.int .i64 (n:Nat),.int .i64 (c.x:Nat),.int .i64 (c.z:Nat),.int .i64 (c.p:Nat)],.bool true]) (by simp [results,Tryz.results185,go_sem,z0,z1,z2,z3]) rfl ⟨rfl,BB.drew⟩
set_option maxRecDepth 100000 in
theorem i_MulPau (n:Nat) (a b c:Pq) (w:World) (hn:1<=n/\n<=4) (ha:okQn n a=true) (hb:okQn n b=true) (hc:mulQ a b=c):Calls Tryz.prog 195 #[.agg #[.int .i64 (n:Nat),.int .i64 (a.x:Nat),.int .i64 (a.z:Nat),.int .i64 (a.p:Nat)],.agg #[.int .i64 (n:Nat),.int .i64 (b.x:Nat),.int .i64 (b.z:Nat),.int .i64 (b.p:Nat)]] w fun e w'=>e=.returned (.tuple #[.agg #[.int .i64 (n:Nat),.int .i64 (c.x:Nat),.int .i64 (c.z:Nat),.int .i64 (c.p:Nat)],.bool true])/\Below w.heap.size w w':=by
 obtain ⟨a1,a2,a3⟩:=okQ16 hn.2 ha
 obtain ⟨b1,b2,b3⟩:=okQ16 hn.2 hb
 obtain ⟨m,hm⟩:∃ m,popQ (a.z &&& b.x)=m:=⟨_,rfl⟩
 have hm4:m<=4:=by rw [<- hm];exact popQ_bd _
 obtain ⟨u,hu⟩:∃ u,bits .and .i64 (a.z:Int) (b.x:Int)=u:=⟨_,rfl⟩
 have hc1:c.x=a.x ^^^ b.x/\c.z=a.z ^^^ b.z/\c.p=(a.p+b.p+2 * m) % 4:=by rw [<- hc,<- hm];exact ⟨rfl,rfl,rfl⟩
 have E1:=zH (show bits .xor .i64 (a.x:Int) (b.x:Int)=(c.x:Nat) by rw [hc1.1];exact (bt16 a1 b1).2.1)
 have E2:=zH (show bits .xor .i64 (a.z:Int) (b.z:Int)=(c.z:Nat) by rw [hc1.2.1];exact (bt16 a2 b2).2.1)
 have E3:=zH (show onesI u=(m:Nat) by rw [<- hu,(bt16 a2 b1).1,ones16 (bt16 a2 b1).2.2.2,hm])
 have E5:Hid ((IntKind.i64.wrap (IntKind.i64.wrap ((a.p:Int)+b.p)+IntKind.i64.wrap (2 * (m:Int)))).tmod 4=(c.p:Nat)):=zH (by rw [i64S (x:=(a.p:Int)+b.p) (by omega) (by omega),i64S (x:=2 * (m:Int)) (by omega) (by omega),i64S (by omega) (by omega),Int.tmod_eq_emod_of_nonneg (by omega),hc1.2.2];omega)
 have HU:=zH hu
 have HA:=zH ha
 have HB:=zH hb
 have X0:=zH (show QB w w.heap.size n a (((w.alloc (.cells #[.int .i64 (n:Nat),.int .i64 (a.x:Nat),.int .i64 (a.z:Nat),.int .i64 (a.p:Nat)] 151)).alloc (.cells #[.int .i64 (n:Nat),.int .i64 (b.x:Nat),.int .i64 (b.z:Nat),.int .i64 (b.p:Nat)] 151)).alloc (.cells #[.int .i64 0,.int .i64 0,.int .i64 0,.int .i64 0] 151)) from ⟨((Bx.new w _ _).alloc _).alloc _,(((zW).alloc zR _).alloc (by simp) _).alloc (by simp<;>omega) _,zR⟩)
 have Y0:=zH (show QB w (w.heap.size+1) n b (((w.alloc (.cells #[.int .i64 (n:Nat),.int .i64 (a.x:Nat),.int .i64 (a.z:Nat),.int .i64 (a.p:Nat)] 151)).alloc (.cells #[.int .i64 (n:Nat),.int .i64 (b.x:Nat),.int .i64 (b.z:Nat),.int .i64 (b.p:Nat)] 151)).alloc (.cells #[.int .i64 0,.int .i64 0,.int .i64 0,.int .i64 0] 151)) from ⟨(Bx.new' (by simp)).alloc _,X0.out.2.1,by omega⟩)
 have R0:=zH (show Bx (((w.alloc (.cells #[.int .i64 (n:Nat),.int .i64 (a.x:Nat),.int .i64 (a.z:Nat),.int .i64 (a.p:Nat)] 151)).alloc (.cells #[.int .i64 (n:Nat),.int .i64 (b.x:Nat),.int .i64 (b.z:Nat),.int .i64 (b.p:Nat)] 151)).alloc (.cells #[.int .i64 0,.int .i64 0,.int .i64 0,.int .i64 0] 151)) (w.heap.size+1+1) 151 #[.int .i64 0,.int .i64 0,.int .i64 0,.int .i64 0] from Bx.new' (by simp))
 clear ha hb hc hm hu hc1 a1 a2 b1 b2
 obtain ⟨p0,p1,p2,p3,_⟩:=X0.out.1.four
 go_enter Tryz.func195,Tryz.ntmps195
 go_wp2_with fail
 refine (i_IsPau n a _ hn HA.out).mono ?_
 rintro e w1 ⟨rfl,b1⟩
 have X1:=zH (X0.out.below b1)
 have Y1:=zH (Y0.out.below b1)
 have R1:=zH (R0.out.below b1)
 clear b1 X0 Y0 R0 p0 p1 p2 p3
 obtain ⟨q0,q1,q2,q3,_⟩:=Y1.out.1.four
 go_wp2_with fail
 refine (i_IsPau n b _ hn HB.out).mono ?_
 rintro e w2 ⟨rfl,b2⟩
 have X2:=zH (X1.out.below b2)
 have Y2:=zH (Y1.out.below b2)
 have R2:=zH (R1.out.below b2)
 clear b2 X1 Y1 R1 q0 q1 q2 q3
 have P2:=X2.out.cells
 have Q2:=Y2.out.cells
 obtain ⟨p0,p1,p2,p3⟩:=P2
 obtain ⟨q0,q1,q2,q3⟩:=Q2
 obtain ⟨r0,r1,r2,r3,f0,f1,f2,f3⟩:=R2.out.four
 have FX:∀ u wx,QB w w.heap.size n a wx->QB w w.heap.size n a (S4 wx (w.heap.size+1+1) (.int .i64 (n:Nat)) (.int .i64 (c.x:Nat)) (.int .i64 (c.z:Nat)) u):=fun u wx h=>h.set4 (by omega) (by omega) _ _ _ _
 have FY:∀ u wx,QB w (w.heap.size+1) n b wx->QB w (w.heap.size+1) n b (S4 wx (w.heap.size+1+1) (.int .i64 (n:Nat)) (.int .i64 (c.x:Nat)) (.int .i64 (c.z:Nat)) u):=fun u wx h=>h.set4 (by omega) (by omega) _ _ _ _
 have hne0:w.heap.size ≠ w.heap.size+1+1:=by omega
 have hne1:w.heap.size+1 ≠ w.heap.size+1+1:=by omega
 go_upto_region 3 with fail
 go_region_held3 (fun w'=>(w'.cell? ⟨w.heap.size,0,none⟩=some (.int .i64 (n:Nat))/\w'.cell? ⟨w.heap.size,1,none⟩=some (.int .i64 (a.x:Nat))/\w'.cell? ⟨w.heap.size,2,none⟩=some (.int .i64 (a.z:Nat))/\w'.cell? ⟨w.heap.size,3,none⟩=some (.int .i64 (a.p:Nat)))/\(w'.cell? ⟨w.heap.size+1,1,none⟩=some (.int .i64 (b.x:Nat))/\w'.cell? ⟨w.heap.size+1,2,none⟩=some (.int .i64 (b.z:Nat))/\w'.cell? ⟨w.heap.size+1,3,none⟩=some (.int .i64 (b.p:Nat))))
  (first | exact ⟨⟨p0,p1,p2,p3⟩,q1,q2,q3⟩ | exact ⟨(FX _ _ X2.out).cells,(FY _ _ Y2.out).cells.2⟩ | go_keep)
  (first
   |(go_at_call 212;refine (i_ones _ _).mono ?_;rintro e w3 ⟨rfl,rfl⟩;rw [HU.out,E3.out,E1.out,E2.out])
   |fail)
 have RR:=R2.out.set4 (.int .i64 (n:Nat)) (.int .i64 (c.x:Nat)) (.int .i64 (c.z:Nat)) (.int .i64 ((IntKind.i64.wrap (IntKind.i64.wrap ((a.p:Int)+b.p)+IntKind.i64.wrap (2 * (m:Int)))).tmod 4))
 obtain ⟨z0,z1,z2,z3,_⟩:=RR.four
 have BB:=belowS4 X2.out.2.1 (r:=w.heap.size+1+1) (by omega) (.int .i64 (n:Nat)) (.int .i64 (c.x:Nat)) (.int .i64 (c.z:Nat)) (.int .i64 ((IntKind.i64.wrap (IntKind.i64.wrap ((a.p:Int)+b.p)+IntKind.i64.wrap (2 * (m:Int)))).tmod 4))
 clear RR FX FY p0 p1 p2 p3 q0 q1 q2 q3 r0 r1 r2 r3 f0 f1 f2 f3
 obtain ⟨wS,hS⟩:∃ wS,S4 w2 (w.heap.size+1+1) (.int .i64 (n:Nat)) (.int .i64 (c.x:Nat)) (.int .i64 (c.z:Nat)) (.int .i64 ((IntKind.i64.wrap (IntKind.i64.wrap ((a.p:Int)+b.p)+IntKind.i64.wrap (2 * (m:Int)))).tmod 4))=wS:=⟨_,rfl⟩
 rw [hS] at z0 z1 z2 z3 BB
 simp only [S4] at hS
 rw [hS]
 clear hS
 rw [E5.out] at z3
 go_wp2_with fail
 refine bodyPost_ret (v:=.tuple #[.agg #[.int .i64 (n:Nat),.int .i64 (c.x:Nat),.int .i64 (c.z:Nat),.int .i64 (c.p:Nat)],.bool true]) (by simp [results,Tryz.results195,go_sem,z0,z1,z2,z3]) rfl ⟨rfl,BB.drew⟩
end Go.Proofs.YtmenmibfkojnoaaGreat
