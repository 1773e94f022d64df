/- Contracts of the laws' helpers on slices of gates: eqGateS, markGateS, heldGateS. The slices have at most 2^40 gates. -/
import Derived.Test.YtjmgpgppammhhaaGateS
import Derived.StillTailTactics
import Derived.Outline
namespace Go.Proofs.Ytjmgpgppammhhaa
open Go.RowKit


def markG (n : Nat) (j : Int) : List Gt := (List.range n).map fun (i : Nat) => ⟨j + 4 * i, j + 4 * i + 1, j + 4 * i + 2, j + 4 * i + 3⟩
theorem markG_take (n k : Nat) (j : Int) (h : k ≤ n) : (markG n j).take k = markG k j := by
  simp [markG, ← List.map_take, List.take_range, Nat.min_eq_left h]
theorem markG_drop (n k : Nat) (j : Int) (h : k < n) : (markG n j).drop k = ⟨j + 4 * k, j + 4 * k + 1, j + 4 * k + 2, j + 4 * k + 3⟩ :: (markG n j).drop (k + 1) := by
  rw [drop_cons (by simpa [markG] using h)]
  simp [markG]



end Go.Proofs.Ytjmgpgppammhhaa
