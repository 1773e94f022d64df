/- Contracts of CommutationAxis (spec and impl). Nothing is asked. -/
import Derived.Test.YtibhikngiceeeaaQubits
namespace Go.Proofs.Ytibhikngiceeeaa
open Go.RowKit

def axis (k a b c q : Int) : Int :=
  if acts k a b c q = false then 0 else if units k ≠ 0 ∨ k = 10 ∨ k = 9 ∧ q = a ∨ k = 12 ∧ q ≠ c then 3 else if k = 1 ∨ k = 9 ∨ k = 12 then 1 else 2
theorem axis_no {k a b c q : Int} (h : acts k a b c q = false) : axis k a b c q = 0 := by unfold axis; rw [if_pos h]
theorem axis_3 {k a b c q : Int} (h : acts k a b c q = true) (h2 : units k ≠ 0 ∨ k = 10 ∨ k = 9 ∧ q = a ∨ k = 12 ∧ q ≠ c) : axis k a b c q = 3 := by unfold axis; rw [if_neg (by simp [h]), if_pos h2]
theorem axis_1 {k a b c q : Int} (h : acts k a b c q = true) (h2 : ¬ (units k ≠ 0 ∨ k = 10 ∨ k = 9 ∧ q = a ∨ k = 12 ∧ q ≠ c)) (h3 : k = 1 ∨ k = 9 ∨ k = 12) : axis k a b c q = 1 := by
  unfold axis; rw [if_neg (by simp [h]), if_neg h2, if_pos h3]
theorem axis_2 {k a b c q : Int} (h : acts k a b c q = true) (h2 : ¬ (units k ≠ 0 ∨ k = 10 ∨ k = 9 ∧ q = a ∨ k = 12 ∧ q ≠ c)) (h3 : ¬ (k = 1 ∨ k = 9 ∨ k = 12)) : axis k a b c q = 2 := by
  unfold axis; rw [if_neg (by simp [h]), if_neg h2, if_neg h3]
theorem axis_bd (k a b c q : Int) : 0 ≤ axis k a b c q ∧ axis k a b c q ≤ 3 := by
  unfold axis
  split
  · omega
  · split
    · omega
    · split <;> omega



end Go.Proofs.Ytibhikngiceeeaa
