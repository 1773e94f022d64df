/- Contracts of the laws' helpers on slices of pairs (PhaseTerm): markPhaseTermS, heldPhaseTermS. The slices have at most 2^40 elements. -/
import Derived.Test.YtibhikngiceeeaaPairSPhaseTerm
import Derived.Test.YtibhikngiceeeaaPairs
namespace Go.Proofs.Ytibhikngiceeeaa
open Go.RowKit

set_option maxHeartbeats 400000 in
theorem l_markPhaseTermS_some (base e g n c : Nat) (j0 : Int) (xs : List Value) (w : World) (h : w.ownsRow base e 2 (.slice (some ⟨g, 0, none⟩) n c) n xs) (hn : n ≤ 1099511627776) (hj : 0 ≤ j0) (hj2 : j0 ≤ 1125899906842624) :
    Calls Try.prog 57 #[.slice (some ⟨g, 0, none⟩) n c, .int .i64 j0] w fun e' w' => e' = .returned (.int .i64 (j0 + 2 * n)) ∧ w'.ownsRow base e 2 (.slice (some ⟨g, 0, none⟩) n c) n (cellsP (markP n j0)) ∧ w.grownBy w' (some g) := by
  have H := Lib.hid h
  clear h
  go_enter Try.func57, Try.ntmps57
  go_wp2
  go_loopg [1, 5] n (fun m j i wr => ∃ k : Nat, k + m = n ∧ i = .int .i64 k ∧ j = .int .i64 (j0 + 2 * k) ∧ w.grownBy wr (some g) ∧ ∃ xs, wr.ownsRow base e 2 (.slice (some ⟨g, 0, none⟩) n c) n xs ∧ xs.take (k * 2) = cellsP (markP k j0))
  case atStart => exact ⟨0, by omega, rfl, by simp, World.grownBy.refl _ _, _, H.out, by simp [cellsP, markP]⟩
  case round =>
    obtain ⟨k, hk, rfl, rfl, hg, xs, hown, ht⟩ := hrel
    have HT := Lib.hid ht
    clear ht
    by_cases hlt : k < n
    · obtain ⟨⟨x0, q0⟩, ⟨x1, q1⟩, z0, z1⟩ := own2 hown hlt
      go_wp2
      go_roundg (gk - 1)
      case measure => omega
      case rel =>
        have s1 := hown.stored (k * 2) (.int .i64 (j0 + 2 * k))
        have s2 := s1.1.stored (k * 2 + 1) (.int .i64 (j0 + 2 * k + 1))
        refine ⟨k + 1, by omega, by go_num, by go_num, (hg.trans s1.2).trans s2.2, _, s2.1, ?_⟩
        have hm := setP hlt xs hown.1 (j0 + 2 * k, j0 + 2 * k + 1) (markP_drop n k j0 hlt) (by rw [markP_take n k j0 (by omega)]; exact HT.out)
        rw [markP_take n (k + 1) j0 (by omega)] at hm
        exact hm
    · go_wp2
      go_ret
      obtain rfl : k = n := by omega
      have e1 : xs = cellsP (markP k j0) := by
        have h1 := HT.out
        have h3 := hown.1
        rwa [List.take_of_length_le (by omega)] at h1
      exact ⟨rfl, e1 ▸ hown, hg⟩

theorem l_markPhaseTermS (base e n c : Nat) (A : Option Addr) (j0 : Int) (xs : List Value) (w : World) (h : w.ownsRow base e 2 (.slice A n c) n xs) (hn : n ≤ 1099511627776) (hj : 0 ≤ j0) (hj2 : j0 ≤ 1125899906842624) :
    Calls Try.prog 57 #[.slice A n c, .int .i64 j0] w fun e' w' => e' = .returned (.int .i64 (j0 + 2 * n)) ∧ w'.ownsRow base e 2 (.slice A n c) n (cellsP (markP n j0)) ∧ w.grownBy w' (Value.slice A n c).ownBlock := by
  rcases h.2 with ⟨h0, h1⟩ | ⟨g, cap, cur, hv, _⟩
  · injection h0 with hA _ hc
    subst hA hc h1
    clear h
    go_enter Try.func57, Try.ntmps57
    go_wp2
    refine wp_loop_rounds 1 ?_
    rw [rounds_succ]
    go_wp2
    go_ret
    exact ⟨ret_int (by simp), World.ownsRow_nil _ _ _ _, World.grownBy.refl _ _⟩
  · injection hv with hA _ hc
    subst hA hc
    exact l_markPhaseTermS_some base e g n c j0 xs w h hn hj hj2

end Go.Proofs.Ytibhikngiceeeaa
