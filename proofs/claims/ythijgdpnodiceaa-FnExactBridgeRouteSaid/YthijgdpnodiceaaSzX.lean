/- Contracts of the laws' helpers szEdgeS and szGraph with any allowance up to 2^20. -/
import Derived.Test.YthijgdpnodiceaaGraphL
namespace Go.Proofs.Ythijgdpnodiceaa
open Go.RowKit

theorem l_szEdgeSx (A : Option Addr) (n cap : Nat) (x : Int) (hn : n ≤ 9223372036854775807) (hx0 : 0 ≤ x) (hx : x ≤ 1048576) (w : World) :
    Calls Try.prog 78 #[.slice A n cap, .int .i64 x] w fun e w' => e = .returned (.int .i64 (if (n : Int) ≤ x then x - n else -1)) ∧ w = w' := by
  by_cases h : (n : Int) ≤ x
  · go_enter Try.func78, Try.ntmps78
    go_wp2
    go_ret
    exact ⟨ret_int (by first | rfl | (split <;> omega)), rfl⟩
  · go_enter Try.func78, Try.ntmps78
    go_wp2
    go_ret
    exact ⟨ret_int (by first | rfl | (split <;> omega)), rfl⟩

theorem l_szGraphx (N : Int) (A : Option Addr) (n cap : Nat) (x : Int) (hn : n ≤ 9223372036854775807) (hx0 : 0 ≤ x) (hx : x ≤ 1048576) (w : World) :
    Calls Try.prog 41 #[.agg #[.int .i64 N, .slice A n cap], .int .i64 x] w fun e w' => e = .returned (.int .i64 (if (n : Int) ≤ x then x - n else -1)) ∧ Below w.heap.size w w' := by
  by_cases h : (n : Int) ≤ x
  · go_enter Try.func41, Try.ntmps41
    go_wp2_with fail
    refine (l_szEdgeSx _ _ _ _ hn hx0 hx _).mono ?_
    rintro e w1 ⟨rfl, rfl⟩
    rw [if_pos h]
    go_wp2_with fail
    go_ret
    exact ⟨ret_int (by first | rfl | (split <;> omega)), (Below.refl _ _).alloc (Nat.le_refl _) _⟩
  · go_enter Try.func41, Try.ntmps41
    go_wp2_with fail
    refine (l_szEdgeSx _ _ _ _ hn hx0 hx _).mono ?_
    rintro e w1 ⟨rfl, rfl⟩
    rw [if_neg (by omega)]
    go_wp2_with fail
    go_ret
    exact ⟨ret_int (by first | rfl | (split <;> omega)), (Below.refl _ _).alloc (Nat.le_refl _) _⟩
end Go.Proofs.Ythijgdpnodiceaa
