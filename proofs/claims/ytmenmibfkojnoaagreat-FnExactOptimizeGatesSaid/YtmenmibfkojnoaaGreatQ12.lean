/- Plain: valid gates on three qubits, listed; gates that commute may be exchanged, merged gates do the same, on every basis state. Nothing is asked. -/
import Derived.Test.YtmenmibfkojnoaaGreatQ03
import Derived.Test.YtmenmibfkojnoaaGreatQ08
import Derived.Test.YtmenmibfkojnoaaGreatQ11
set_option maxHeartbeats 16000000
namespace Go.Proofs.YtmenmibfkojnoaaGreat
set_option linter.unusedVariables false
def ks3 : List Int := [1, 2, 3, 4, 5, 6, 7, 8, 9, 10, 11, 12]
theorem ks_mem {k : Int} (h : 0 < arity k) : k ∈ ks3 := by
 have hk : 1 <= k /\ k <= 12 := by
  rcases arity_cases k with ⟨h1, h2, h3⟩ | ⟨h1, h2, h3⟩ | ⟨h1, h3⟩ | ⟨h1, h3⟩ <;> omega
 obtain rfl | rfl | rfl | rfl | rfl | rfl | rfl | rfl | rfl | rfl | rfl | rfl : k = 1 ∨ k = 2 ∨ k = 3 ∨ k = 4 ∨ k = 5 ∨ k = 6 ∨ k = 7 ∨ k = 8 ∨ k = 9 ∨ k = 10 ∨ k = 11 ∨ k = 12 := by omega
 all_goals decide
end Go.Proofs.YtmenmibfkojnoaaGreat
