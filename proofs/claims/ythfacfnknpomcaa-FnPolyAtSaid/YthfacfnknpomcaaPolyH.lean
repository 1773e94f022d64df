/- Contract of PhasePolynomialApplyGate (impl). At most 2^38 terms and outputs. -/
import Derived.Test.YthfacfnknpomcaaPolyH1
import Derived.Test.YthfacfnknpomcaaPolyH2
import Derived.Test.YthfacfnknpomcaaPolyH3
import Derived.Test.YthfacfnknpomcaaPolyH4
namespace Go.Proofs.Ythfacfnknpomcaa
open Go.RowKit

theorem i_ApplyP (N H : Int) (AT : Option Addr) (nT cT : Nat) (t : List (Int × Int)) (AO : Option Addr) (nO cO : Nat) (o : List (Int × Int)) (g : Gt) (w : World) (hT : RdP w AT nT t) (hO : RdP w AO nO o) (hnT : nT ≤ 274877906944) (hnO : nO ≤ 274877906944) (hcT : nT ≤ cT) :
    Calls Try.prog 22 #[.agg #[.int .i64 N, .int .i64 H, .slice AT nT cT, .slice AO nO cO], .agg #[.int .i64 g.k, .int .i64 g.a, .int .i64 g.b, .int .i64 g.c]] w (RetPB (applyP ⟨N, H, t, o⟩ g) w) := by
  obtain ⟨k, a, b, c⟩ := g
  cases hok : okP ⟨N, H, t, o⟩ ⟨k, a, b, c⟩
  · rw [applyP_no hok]
    exact i_AG_no N H AT nT cT t AO nO cO o k a b c w hT hO hnT hnO hcT hok
  · rw [applyP_yes hok]
    by_cases h1 : k = 1
    · subst h1; exact i_AG_x N H AT nT cT t AO nO cO o a b c w hT hO hnT hnO hcT hok
    by_cases h9 : k = 9
    · subst h9; exact i_AG_cx N H AT nT cT t AO nO cO o a b c w hT hO hnT hnO hcT hok
    by_cases h11 : k = 11
    · subst h11; exact i_AG_sw N H AT nT cT t AO nO cO o a b c w hT hO hnT hnO hcT hok
    have e1 : (k == 1) = false := by simpa using h1
    have e9 : (k == 9) = false := by simpa using h9
    have e11 : (k == 11) = false := by simpa using h11
    by_cases hu : units k = 0
    · have ha : actP ⟨N, H, t, o⟩ ⟨k, a, b, c⟩ = (Po.zero, false) := by
        unfold actP
        rw [if_neg (by rw [e1]; simp), if_neg (by rw [e9]; simp), if_neg (by rw [e11]; simp), if_pos (by rw [hu]; rfl)]
      rw [ha]
      exact i_AG_df N H AT nT cT t AO nO cO o k a b c w hT hO hnT hnO hcT hok e1 e9 e11 hu
    exact i_AG_r N H AT nT cT t AO nO cO o k a b c w hT hO hnT hnO hcT hok e1 e9 e11 hu

end Go.Proofs.Ythfacfnknpomcaa
