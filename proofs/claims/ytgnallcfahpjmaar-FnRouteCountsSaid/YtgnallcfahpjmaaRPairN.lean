/- Plain: the marks on a row of pairs; rows of two types lie apart. Nothing is asked. -/
import Derived.Test.YtgnallcfahpjmaaRPairs
import Derived.Test.YtgnallcfahpjmaaRBase4
namespace Go.Proofs.YtgnallcfahpjmaaR
open Go.RowKit

def markP (n : Nat) (j : Int) : List (Int × Int) := (List.range n).map fun (i : Nat) => (j + 2 * i, j + 2 * i + 1)
theorem markP_take (n k : Nat) (j : Int) (h : k ≤ n) : (markP n j).take k = markP k j := by
  simp [markP, ← List.map_take, List.take_range, Nat.min_eq_left h]
theorem markP_drop (n k : Nat) (j : Int) (h : k < n) : (markP n j).drop k = (j + 2 * k, j + 2 * k + 1) :: (markP n j).drop (k + 1) := by
  rw [drop_cons (by simpa [markP] using h)]
  simp [markP]
theorem own_types {w : World} {b1 b2 : Nat} {e1 e2 : TypeId} {s1 s2 n1 n2 : Nat} {v1 v2 : Value} {x1 x2 : List Value} (h1 : w.ownsRow b1 e1 s1 v1 n1 x1) (h2 : w.ownsRow b2 e2 s2 v2 n2 x2) (hne : e1 ≠ e2) :
    v1.ownBlock = none ∨ v1.ownBlock ≠ v2.ownBlock := by
  rcases h1.2 with ⟨rfl, _⟩ | ⟨g, cap, cur, rfl, _, hh, _⟩
  · exact .inl rfl
  · rcases h2.2 with ⟨rfl, _⟩ | ⟨g', cap', cur', rfl, _, hh', _⟩
    · exact .inr (by simp [Value.ownBlock])
    · refine .inr fun he => ?_
      have : g = g' := by simpa [Value.ownBlock] using he
      subst this
      rw [hh] at hh'
      injection hh' with hh'
      injection hh' with _ ht
      exact hne ht
end Go.Proofs.YtgnallcfahpjmaaR
