/- Contracts of images (impl) and l25Image (spec), for Clifford gates on qubits below four. -/
import Derived.Test.YtmenmibfkojnoaaGreatV03
import Derived.Test.YtmenmibfkojnoaaGreatV06
set_option maxHeartbeats 16000000
namespace Go.Proofs.YtmenmibfkojnoaaGreat
open Go.RowKit
set_option linter.unusedVariables false
set_option linter.unusedSimpArgs false
set_option maxRecDepth 100000 in
theorem i_images (n q A B:Nat) (k:Int) (w:World) (hq:q < 4) (hA:A < 4) (hB:B < 4) (hk:(arity k=1/\(k=1 ∨ k=2 ∨ k=3 ∨ k=4 ∨ k=5 ∨ k=6)) ∨ (arity k=2/\A ≠ B/\(k=9 ∨ k=10 ∨ k=11))) :
  Calls Tryz.prog 194 #[.agg #[.int .i64 k,.int .i64 (A:Nat),.int .i64 (B:Nat),.int .i64 0],.int .i64 (n:Nat),.int .i64 (q:Nat)] w fun e w'=>e=.returned (.tuple #[.agg #[.int .i64 (n:Nat),.int .i64 ((imX ⟨k,A,B,0⟩ q).x:Nat),.int .i64 ((imX ⟨k,A,B,0⟩ q).z:Nat),.int .i64 ((imX ⟨k,A,B,0⟩ q).p:Nat)],.agg #[.int .i64 (n:Nat),.int .i64 ((imZ ⟨k,A,B,0⟩ q).x:Nat),.int .i64 ((imZ ⟨k,A,B,0⟩ q).z:Nat),.int .i64 ((imZ ⟨k,A,B,0⟩ q).p:Nat)]])/\Below w.heap.size w w':=by
 obtain ⟨S1,S2,S3⟩:=shl2 ⟨q,hq⟩
 obtain ⟨T1,T2,T3⟩:=shl2 ⟨A,hA⟩
 obtain ⟨U1,U2,U3⟩:=shl2 ⟨B,hB⟩
 simp only at S1 S2 S3 T1 T2 T3 U1 U2 U3
 have hl:∀ r:Fin 4,2 ^ (r:Nat) < 16:=by decide
 have hlq:=hl ⟨q,hq⟩
 have hlA:=hl ⟨A,hA⟩
 have hlB:=hl ⟨B,hB⟩
 obtain ⟨X,hX⟩:∃ X:Nat,2 ^ q=X:=⟨_,rfl⟩
 obtain ⟨Y,hY⟩:∃ X:Nat,2 ^ A=X:=⟨_,rfl⟩
 obtain ⟨Z,hZ⟩:∃ X:Nat,2 ^ B=X:=⟨_,rfl⟩
 simp only at hlq hlA hlB
 rw [hX] at S1 S2 S3 hlq
 rw [hY] at T1 T2 T3 hlA
 rw [hZ] at U1 U2 U3 hlB
 have o1:=(bt16 hlq hlB).2.2.1
 have o2:=(bt16 hlq hlA).2.2.1
 have s1:((A:Int)+(B:Int)).toNat - A=B:=by omega
 have s2:((A:Int)+(B:Int)).toNat - B=A:=by omega
 by_cases h1:q=A
 ·obtain rfl:A=q:=h1.symm
  obtain rfl:X=Y:=hX.symm.trans hY
  clear T1 T2 T3 hY hlA o2
  rcases hk with ⟨ha,hk⟩ | ⟨ha,hab,hk⟩
  ·rcases hk with rfl | rfl | rfl | rfl | rfl | rfl
   all_goals
    simp [imX,imZ,actsQ,xQ,zQ,s1,s2,hX,hZ]
    go_enter Tryz.func194,Tryz.ntmps194
    go_wp2_with fail
    refine (i_Arity _ _).mono ?_
    rintro e w1 ⟨rfl,rfl⟩
    rw [ha]
    go_wp2_with fail
    all_goals (try go_region)
    all_goals (try (go_wp2_with fail))
    all_goals (try go_region)
    all_goals (try (go_wp2_with fail))
    all_goals (refine bodyPost_ret ?_ rfl ⟨rfl,(by repeat (first | exact zW | assumption | refine Below.drew ?_ | refine Below.alloc ?_ (by simp<;>omega) _))⟩;simp [results,Tryz.results194,go_sem])
  ·rcases hk with rfl | rfl | rfl
   all_goals
    simp [imX,imZ,actsQ,xQ,zQ,s1,s2,hX,hZ]
    go_enter Tryz.func194,Tryz.ntmps194
    go_wp2_with fail
    refine (i_Arity _ _).mono ?_
    rintro e w1 ⟨rfl,rfl⟩
    rw [ha]
    go_wp2_with fail
    all_goals (try go_region)
    all_goals (try (go_wp2_with fail))
    all_goals (try go_region)
    all_goals (try (go_wp2_with fail))
    all_goals (refine bodyPost_ret ?_ rfl ⟨rfl,(by repeat (first | exact zW | assumption | refine Below.drew ?_ | refine Below.alloc ?_ (by simp<;>omega) _))⟩;simp [results,Tryz.results194,go_sem])
 ·have f1:((q:Int) == (A:Int))=false:=by simp;omega
  have f2:((A:Int) == (q:Int))=false:=by simp;omega
  rcases hk with ⟨ha,hk⟩ | ⟨ha,hab,hk⟩
  ·clear hk
   simp [imX,imZ,actsQ,xQ,zQ,s1,s2,hX,hY,hZ,f1,f2,ha]
   go_enter Tryz.func194,Tryz.ntmps194
   go_wp2_with fail
   refine (i_Arity _ _).mono ?_
   rintro e w1 ⟨rfl,rfl⟩
   rw [ha]
   go_wp2_with fail
   all_goals (try go_region)
   all_goals (try (go_wp2_with fail))
   all_goals (try go_region)
   all_goals (try (go_wp2_with fail))
   all_goals (refine bodyPost_ret ?_ rfl ⟨rfl,(by repeat (first | exact zW | assumption | refine Below.drew ?_ | refine Below.alloc ?_ (by simp<;>omega) _))⟩;simp [results,Tryz.results194,go_sem])
  ·by_cases h2:q=B
   ·obtain rfl:B=q:=h2.symm
    obtain rfl:X=Z:=hX.symm.trans hZ
    clear U1 U2 U3 hZ hlB o1
    rcases hk with rfl | rfl | rfl
    all_goals
     simp [imX,imZ,actsQ,xQ,zQ,s1,s2,hX,hY,f1,f2,h1,hab]
     go_enter Tryz.func194,Tryz.ntmps194
     go_wp2_with fail
     refine (i_Arity _ _).mono ?_
     rintro e w1 ⟨rfl,rfl⟩
     rw [ha]
     go_wp2_with fail
     all_goals (try go_region)
     all_goals (try (go_wp2_with fail))
     all_goals (try go_region)
     all_goals (try (go_wp2_with fail))
     all_goals (refine bodyPost_ret ?_ rfl ⟨rfl,(by repeat (first | exact zW | assumption | refine Below.drew ?_ | refine Below.alloc ?_ (by simp<;>omega) _))⟩;simp [results,Tryz.results194,go_sem])
   ·have f3:((q:Int) == (B:Int))=false:=by simp;omega
    have f4:((B:Int) == (q:Int))=false:=by simp;omega
    clear hk
    simp [imX,imZ,actsQ,xQ,zQ,s1,s2,hX,hY,hZ,f1,f2,f3,f4,ha]
    go_enter Tryz.func194,Tryz.ntmps194
    go_wp2_with fail
    refine (i_Arity _ _).mono ?_
    rintro e w1 ⟨rfl,rfl⟩
    rw [ha]
    go_wp2_with fail
    all_goals (try go_region)
    all_goals (try (go_wp2_with fail))
    all_goals (try go_region)
    all_goals (try (go_wp2_with fail))
    all_goals (refine bodyPost_ret ?_ rfl ⟨rfl,(by repeat (first | exact zW | assumption | refine Below.drew ?_ | refine Below.alloc ?_ (by simp<;>omega) _))⟩;simp [results,Tryz.results194,go_sem])
end Go.Proofs.YtmenmibfkojnoaaGreat
