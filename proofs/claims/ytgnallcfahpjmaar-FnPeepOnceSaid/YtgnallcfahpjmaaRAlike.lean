/- Contracts of l34Alike and MergeGates. -/
import Derived.Test.YtgnallcfahpjmaaRInv

import Derived.BigGuardPart
import Derived.StillTailTactics
import Derived.Deep.RegionWith
import Derived.Deep.DeepCutAuto
namespace Go.Proofs.YtgnallcfahpjmaaR
open Go.RowKit

def alike (k a b k' a' b' : Int) : Bool := (k == k' && (k == 10 || k == 11)) && ((a == a' && b == b') || (a == b' && b == a'))

set_option maxHeartbeats 800000 in
theorem s_alike (k a b c k' a' b' c' : Int) (w : World) : Calls Try.prog 121 #[.agg #[.int .i64 k, .int .i64 a, .int .i64 b, .int .i64 c], .agg #[.int .i64 k', .int .i64 a', .int .i64 b', .int .i64 c']] w fun e w' => e = .returned (.bool (alike k a b k' a' b')) ∧ Below w.heap.size w w' := by
  go_enter Try.func121, Try.ntmps121
  go_wp2
  all_goals go_ret

  all_goals exact ⟨ret_bool (by unfold alike; simp [*] <;> (intros; omega)), (by repeat (first | exact Below.refl _ _ | assumption | refine Below.drew ?_ | refine Below.alloc ?_ (by simp <;> omega) _))⟩
end Go.Proofs.YtgnallcfahpjmaaR
