/- Plain: on a graph of at most four places, a place that is some way off has a neighbour one step nearer. No program in sight. -/
import Derived.Test.YtibhikngiceeeaaGraphP
namespace Go.Proofs.Ytibhikngiceeeaa
def nbB (l : List Bool) (n : Nat) (a b : Int) : Bool := decide (gdI l n a b ≤ 0) || ((List.range n).any fun x => mAt l a x && gdI l n x b == gdI l n a b - 1)
theorem nb_all1 : (allSym fun l => allAB 1 fun a b => nbB l 1 a b) = true := by decide +kernel
theorem nb_all2 : (allSym fun l => allAB 2 fun a b => nbB l 2 a b) = true := by decide +kernel
theorem nb_all3 : (allSym fun l => allAB 3 fun a b => nbB l 3 a b) = true := by decide +kernel
theorem nb_all4 : (allSym fun l => allAB 4 fun a b => nbB l 4 a b) = true := by decide +kernel
theorem nb_ok (c00 c01 c02 c03 c11 c12 c13 c22 c23 c33 : Bool) (n : Nat) (a b : Int) (h1 : 1 ≤ n) (h4 : n ≤ 4) (ha : 0 ≤ a) (ha2 : a < n) (hb : 0 ≤ b) (hb2 : b < n) :
    nbB (sym c00 c01 c02 c03 c11 c12 c13 c22 c23 c33) n a b = true := by
  obtain rfl | rfl | rfl | rfl : n = 1 ∨ n = 2 ∨ n = 3 ∨ n = 4 := by omega
  · exact allAB_at (allSym_at nb_all1 _ _ _ _ _ _ _ _ _ _) ha ha2 hb hb2
  · exact allAB_at (allSym_at nb_all2 _ _ _ _ _ _ _ _ _ _) ha ha2 hb hb2
  · exact allAB_at (allSym_at nb_all3 _ _ _ _ _ _ _ _ _ _) ha ha2 hb hb2
  · exact allAB_at (allSym_at nb_all4 _ _ _ _ _ _ _ _ _ _) ha ha2 hb hb2
end Go.Proofs.Ytibhikngiceeeaa
