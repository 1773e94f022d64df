/- Plain: on a graph of at most four places the distance is symmetric, is nought only from a place to itself, and meets the triangle inequality. No program in sight. -/
import Derived.Test.YtibhikngiceeeaaGraphP
namespace Go.Proofs.Ytibhikngiceeeaa
def triB (l : List Bool) (n : Nat) (a b : Int) : Bool :=
  (gdI l n a b == gdI l n b a && (gdI l n a b != 0 || a == b)) && ((List.range n).all fun c => decide (gdI l n a b < 0) || (decide (gdI l n b c < 0) || (decide (0 ≤ gdI l n a c) && decide (gdI l n a c ≤ gdI l n a b + gdI l n b c))))
theorem tri_all1 : (allSym fun l => allAB 1 fun a b => triB l 1 a b) = true := by decide +kernel
theorem tri_all2 : (allSym fun l => allAB 2 fun a b => triB l 2 a b) = true := by decide +kernel
theorem tri_all3 : (allSym fun l => allAB 3 fun a b => triB l 3 a b) = true := by decide +kernel
theorem tri_all4 : (allSym fun l => allAB 4 fun a b => triB l 4 a b) = true := by decide +kernel
theorem tri_ok (c00 c01 c02 c03 c11 c12 c13 c22 c23 c33 : Bool) (n : Nat) (a b : Int) (h1 : 1 ≤ n) (h4 : n ≤ 4) (ha : 0 ≤ a) (ha2 : a < n) (hb : 0 ≤ b) (hb2 : b < n) :
    triB (sym c00 c01 c02 c03 c11 c12 c13 c22 c23 c33) n a b = true := by
  obtain rfl | rfl | rfl | rfl : n = 1 ∨ n = 2 ∨ n = 3 ∨ n = 4 := by omega
  · exact allAB_at (allSym_at tri_all1 _ _ _ _ _ _ _ _ _ _) ha ha2 hb hb2
  · exact allAB_at (allSym_at tri_all2 _ _ _ _ _ _ _ _ _ _) ha ha2 hb hb2
  · exact allAB_at (allSym_at tri_all3 _ _ _ _ _ _ _ _ _ _) ha ha2 hb hb2
  · exact allAB_at (allSym_at tri_all4 _ _ _ _ _ _ _ _ _ _) ha ha2 hb hb2
end Go.Proofs.Ytibhikngiceeeaa
