/- Contracts of markEdgeS and markGraph. At most 2^40 edges. -/
import Derived.Test.YthijgdpnodiceaaGraphL
import Derived.Test.YthijgdpnodiceaaGateT
namespace Go.Proofs.Ythijgdpnodiceaa
open Go.RowKit

set_option maxHeartbeats 400000 in
theorem l_markEdgeS_some (base e g n c : Nat) (j0 : Int) (xs : List Value) (w : World) (h : w.ownsRow base e 2 (.slice (some ⟨g, 0, none⟩) n c) n xs) (hn : n ≤ 1099511627776) (hj : 0 ≤ j0) (hj2 : j0 ≤ 1125899906842624) :
    Calls Try.prog 87 #[.slice (some ⟨g, 0, none⟩) n c, .int .i64 j0] w fun e' w' => e' = .returned (.int .i64 (j0 + 2 * n)) ∧ w.grownBy w' (some g) := by
  have H := Lib.hid h
  clear h
  go_enter Try.func87, Try.ntmps87
  go_wp2
  go_loopg [1, 5] n (fun m j i wr => ∃ k : Nat, k + m = n ∧ i = .int .i64 k ∧ j = .int .i64 (j0 + 2 * k) ∧ w.grownBy wr (some g) ∧ ∃ xs, wr.ownsRow base e 2 (.slice (some ⟨g, 0, none⟩) n c) n xs)
  case atStart => exact ⟨0, by omega, rfl, by simp, World.grownBy.refl _ _, xs, H.out⟩
  case round =>
    obtain ⟨k, hk, rfl, rfl, hg, xs, hown⟩ := hrel
    by_cases hlt : k < n
    · obtain ⟨⟨x0, q0⟩, ⟨x1, q1⟩, z0, z1⟩ := own2 hown hlt
      go_wp2
      go_roundg (gk - 1)
      case measure => omega
      case rel =>
        have s1 := hown.stored (k * 2) (.int .i64 (j0 + 2 * k))
        have s2 := s1.1.stored (k * 2 + 1) (.int .i64 (j0 + 2 * k + 1))
        exact ⟨k + 1, by omega, by go_num, by go_num, (hg.trans s1.2).trans s2.2, _, s2.1⟩
    · go_wp2
      go_ret
      obtain rfl : k = n := by omega
      exact ⟨rfl, hg⟩
theorem l_markEdgeS (base e n c : Nat) (A : Option Addr) (j0 : Int) (xs : List Value) (w : World) (h : w.ownsRow base e 2 (.slice A n c) n xs) (hn : n ≤ 1099511627776) (hj : 0 ≤ j0) (hj2 : j0 ≤ 1125899906842624) :
    Calls Try.prog 87 #[.slice A n c, .int .i64 j0] w fun e' w' => e' = .returned (.int .i64 (j0 + 2 * n)) ∧ w.grownBy w' (Value.slice A n c).ownBlock := by
  rcases h.2 with ⟨h0, h1⟩ | ⟨g, cap, cur, hv, _⟩
  · injection h0 with hA _ hc
    subst hA hc h1
    clear h
    go_enter Try.func87, Try.ntmps87
    go_wp2
    refine wp_loop_rounds 1 ?_
    rw [rounds_succ]
    go_wp2
    go_ret
    exact ⟨ret_int (by simp), World.grownBy.refl _ _⟩
  · injection hv with hA _ hc
    subst hA hc
    exact l_markEdgeS_some base e g n c j0 xs w h hn hj hj2
/-- Marking a graph: memory is made (the box), and the graph's own row may change. -/
theorem l_markGraph (base n c : Nat) (N : Int) (A : Option Addr) (j0 : Int) (xs : List Value) (w : World) (h : w.ownsRow base 90 2 (.slice A n c) n xs) (hn : n ≤ 1099511627776) (hj : 0 ≤ j0) (hj2 : j0 ≤ 1125899906842624) :
    Calls Try.prog 55 #[.agg #[.int .i64 N, .slice A n c], .int .i64 j0] w fun e' w' => e' = .returned (.int .i64 (j0 + 2 * n)) ∧ (w.alloc (.cells #[.int .i64 N, .slice A n c] 38)).grownBy w' (Value.slice A n c).ownBlock := by
  have H := Lib.hid h
  clear h
  go_enter Try.func55, Try.ntmps55
  go_wp2_with fail
  refine (l_markEdgeS base 90 n c A j0 xs _ (H.out.alloc _) hn hj hj2).mono ?_
  rintro e w1 ⟨rfl, g1⟩
  go_wp2_with fail
  go_ret
  exact ⟨rfl, g1⟩
end Go.Proofs.Ythijgdpnodiceaa
