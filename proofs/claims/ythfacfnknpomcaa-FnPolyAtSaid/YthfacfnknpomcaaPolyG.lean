/- Contract of PhasePolynomialApplyGate (spec). At most 2^38 terms and outputs. -/
import Derived.Test.YthfacfnknpomcaaPolyG1
import Derived.Test.YthfacfnknpomcaaPolyG2
import Derived.Test.YthfacfnknpomcaaPolyG3
import Derived.Test.YthfacfnknpomcaaPolyG4
namespace Go.Proofs.Ythfacfnknpomcaa
open Go.RowKit

theorem s_ApplyP (N H : Int) (AT : Option Addr) (nT cT : Nat) (t : List (Int × Int)) (AO : Option Addr) (nO cO : Nat) (o : List (Int × Int)) (g : Gt) (w : World) (hT : RdP w AT nT t) (hO : RdP w AO nO o) (hnT : nT ≤ 274877906944) (hnO : nO ≤ 274877906944) (hcT : nT ≤ cT) :
    Calls Try.prog 20 #[.agg #[.int .i64 N, .int .i64 H, .slice AT nT cT, .slice AO nO cO], .agg #[.int .i64 g.k, .int .i64 g.a, .int .i64 g.b, .int .i64 g.c]] w (RetPB (applyP ⟨N, H, t, o⟩ g) w) := by
  obtain ⟨k, a, b, c⟩ := g
  cases hok : okP ⟨N, H, t, o⟩ ⟨k, a, b, c⟩
  · rw [applyP_no hok]
    exact s_AG_no N H AT nT cT t AO nO cO o k a b c w hT hO hnT hnO hcT hok
  · rw [applyP_yes hok]
    by_cases h1 : k = 1
    · subst h1; exact s_AG_x N H AT nT cT t AO nO cO o a b c w hT hO hnT hnO hcT hok
    by_cases h9 : k = 9
    · subst h9; exact s_AG_cx N H AT nT cT t AO nO cO o a b c w hT hO hnT hnO hcT hok
    by_cases h11 : k = 11
    · subst h11; exact s_AG_sw N H AT nT cT t AO nO cO o a b c w hT hO hnT hnO hcT hok
    have e1 : (k == 1) = false := by simpa using h1
    have e9 : (k == 9) = false := by simpa using h9
    have e11 : (k == 11) = false := by simpa using h11
    by_cases hu : units k = 0
    · have ha : actP ⟨N, H, t, o⟩ ⟨k, a, b, c⟩ = (Po.zero, false) := by
        unfold actP
        rw [if_neg (by rw [e1]; simp), if_neg (by rw [e9]; simp), if_neg (by rw [e11]; simp), if_pos (by rw [hu]; rfl)]
      rw [ha]
      exact s_AG_df N H AT nT cT t AO nO cO o k a b c w hT hO hnT hnO hcT hok e1 e9 e11 hu
    by_cases hf : (at2 o a).2 = 0
    · exact s_AG_r0 N H AT nT cT t AO nO cO o k a b c w hT hO hnT hnO hcT hok e1 e9 e11 hu hf
    · exact s_AG_r1 N H AT nT cT t AO nO cO o k a b c w hT hO hnT hnO hcT hok e1 e9 e11 hu hf

end Go.Proofs.Ythfacfnknpomcaa
