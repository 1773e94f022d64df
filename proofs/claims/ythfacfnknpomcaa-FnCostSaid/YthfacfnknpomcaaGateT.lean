/- Contracts of the laws' helpers on slices of gates: eqGateS, markGateS, heldGateS. The slices have at most 2^40 gates. -/
import Derived.Test.YthfacfnknpomcaaGateS
import Derived.StillTailTactics
import Derived.Outline
namespace Go.Proofs.Ythfacfnknpomcaa
open Go.RowKit

set_option maxRecDepth 100000 in
set_option maxHeartbeats 400000 in
theorem l_eqGateS_same (A A' : Option Addr) (n c c' : Nat) (gs : List Gt) (w : World) (h : RdG w A n gs) (h' : RdG w A' n gs) (hn : n ≤ 1099511627776) :
    Calls Try.prog 31 #[.slice A n c, .slice A' n c'] w fun e w' => e = .returned (.bool true) ∧ Below w.heap.size w w' := by
  have H := Lib.hid h
  have H' := Lib.hid h'
  clear h h'
  go_enter Try.func31, Try.ntmps31
  go_wp2
  go_loopg [5] n (fun m i wr => ∃ k : Nat, k + m = n ∧ i = .int .i64 k ∧ Below w.heap.size w wr)
  case atStart => exact ⟨0, by omega, rfl, Below.refl _ _⟩
  case round =>
    obtain ⟨k, hk, rfl, hb⟩ := hrel
    by_cases hlt : k < n
    · obtain ⟨b, off, g, rfl, hB, hd, c0, c1, c2, c3⟩ := (H.out.below hb).at_ hlt
      obtain ⟨b', off', g', rfl, hB', hd', c0', c1', c2', c3'⟩ := (H'.out.below hb).at_ hlt
      obtain rfl : g = g' := by rw [hd] at hd'; injection hd'
      clear hd hd'
      go_wp2_with fail
      go_still_tail 8, (by kernel_rfl)
      go_wp2_with (go_at_call 100; refine (l_eqGate_same _ _ _ _ _).mono ?_; rintro e w1 ⟨rfl, hb1⟩)
      go_roundg (gk - 1)
      case measure => omega
      case rel => exact ⟨k + 1, by omega, by go_num, hb.drew.trans (Below.mono hb1 hb.size)⟩
    · go_wp2
      go_ret
      exact ⟨rfl, hb⟩

def markG (n : Nat) (j : Int) : List Gt := (List.range n).map fun (i : Nat) => ⟨j + 4 * i, j + 4 * i + 1, j + 4 * i + 2, j + 4 * i + 3⟩
theorem markG_take (n k : Nat) (j : Int) (h : k ≤ n) : (markG n j).take k = markG k j := by
  simp [markG, ← List.map_take, List.take_range, Nat.min_eq_left h]
theorem markG_drop (n k : Nat) (j : Int) (h : k < n) : (markG n j).drop k = ⟨j + 4 * k, j + 4 * k + 1, j + 4 * k + 2, j + 4 * k + 3⟩ :: (markG n j).drop (k + 1) := by
  rw [drop_cons (by simpa [markG] using h)]
  simp [markG]

set_option maxHeartbeats 400000 in
theorem l_markGateS_some (base e g n c : Nat) (j0 : Int) (xs : List Value) (w : World) (h : w.ownsRow base e 4 (.slice (some ⟨g, 0, none⟩) n c) n xs) (hn : n ≤ 1099511627776) (hj : 0 ≤ j0) (hj2 : j0 ≤ 1125899906842624) :
    Calls Try.prog 32 #[.slice (some ⟨g, 0, none⟩) n c, .int .i64 j0] w fun e' w' => e' = .returned (.int .i64 (j0 + 4 * n)) ∧ w'.ownsRow base e 4 (.slice (some ⟨g, 0, none⟩) n c) n (cellsG (markG n j0)) ∧ w.grownBy w' (some g) := by
  have H := Lib.hid h
  clear h
  go_enter Try.func32, Try.ntmps32
  go_wp2
  go_loopg [1, 5] n (fun m j i wr => ∃ k : Nat, k + m = n ∧ i = .int .i64 k ∧ j = .int .i64 (j0 + 4 * k) ∧ w.grownBy wr (some g) ∧ ∃ xs, wr.ownsRow base e 4 (.slice (some ⟨g, 0, none⟩) n c) n xs ∧ xs.take (k * 4) = cellsG (markG k j0))
  case atStart => exact ⟨0, by omega, rfl, by simp, World.grownBy.refl _ _, _, H.out, by simp [cellsG, markG]⟩
  case round =>
    obtain ⟨k, hk, rfl, rfl, hg, xs, hown, ht⟩ := hrel
    have HT := Lib.hid ht
    clear ht
    by_cases hlt : k < n
    · obtain ⟨⟨x0, q0⟩, ⟨x1, q1⟩, ⟨x2, q2⟩, ⟨x3, q3⟩, z0, z1, z2, z3⟩ := own4 hown hlt
      go_wp2
      go_roundg (gk - 1)
      case measure => omega
      case rel =>
        have s1 := hown.stored (k * 4) (.int .i64 (j0 + 4 * k))
        have s2 := s1.1.stored (k * 4 + 1) (.int .i64 (j0 + 4 * k + 1))
        have s3 := s2.1.stored (k * 4 + 2) (.int .i64 (j0 + 4 * k + 1 + 1))
        have s4 := s3.1.stored (k * 4 + 3) (.int .i64 (j0 + 4 * k + 1 + 1 + 1))
        refine ⟨k + 1, by omega, by go_num, by go_num, (((hg.trans s1.2).trans s2.2).trans s3.2).trans s4.2, _, s4.1, ?_⟩
        have hm := setG hlt xs hown.1 ⟨j0 + 4 * k, j0 + 4 * k + 1, j0 + 4 * k + 2, j0 + 4 * k + 3⟩ (markG_drop n k j0 hlt) (by rw [markG_take n k j0 (by omega)]; exact HT.out)
        rw [markG_take n (k + 1) j0 (by omega)] at hm
        rw [← hm]
        simp [Int.add_assoc]
    · go_wp2
      go_ret
      obtain rfl : k = n := by omega
      have e1 : xs = cellsG (markG k j0) := by
        have h1 := HT.out
        have h3 := hown.1
        rwa [List.take_of_length_le (by omega)] at h1
      exact ⟨rfl, e1 ▸ hown, hg⟩

theorem l_markGateS (base e n c : Nat) (A : Option Addr) (j0 : Int) (xs : List Value) (w : World) (h : w.ownsRow base e 4 (.slice A n c) n xs) (hn : n ≤ 1099511627776) (hj : 0 ≤ j0) (hj2 : j0 ≤ 1125899906842624) :
    Calls Try.prog 32 #[.slice A n c, .int .i64 j0] w fun e' w' => e' = .returned (.int .i64 (j0 + 4 * n)) ∧ w'.ownsRow base e 4 (.slice A n c) n (cellsG (markG n j0)) ∧ w.grownBy w' (Value.slice A n c).ownBlock := by
  rcases h.2 with ⟨h0, h1⟩ | ⟨g, cap, cur, hv, _⟩
  · injection h0 with hA _ hc
    subst hA hc h1
    clear h
    go_enter Try.func32, Try.ntmps32
    go_wp2
    refine wp_loop_rounds 1 ?_
    rw [rounds_succ]
    go_wp2
    go_ret
    exact ⟨ret_int (by simp), World.ownsRow_nil _ _ _ _, World.grownBy.refl _ _⟩
  · injection hv with hA _ hc
    subst hA hc
    exact l_markGateS_some base e g n c j0 xs w h hn hj hj2

set_option maxHeartbeats 400000 in
theorem l_heldGateS (A : Option Addr) (n c : Nat) (j0 : Int) (w : World) (h : RdG w A n (markG n j0)) (hn : n ≤ 1099511627776) (hj : 0 ≤ j0) (hj2 : j0 ≤ 1125899906842624) :
    Calls Try.prog 33 #[.slice A n c, .int .i64 j0] w fun e' w' => e' = .returned (.int .i64 (j0 + 4 * n)) ∧ w = w' := by
  have H := Lib.hid h
  clear h
  go_enter Try.func33, Try.ntmps33
  go_wp2
  go_loop [1, 5] (fun j i => ∃ k : Nat, k ≤ n ∧ i = .int .i64 k ∧ j = .int .i64 (j0 + 4 * k)) (fun _ i => n - (intOf i).toNat)
  case atStart => exact ⟨0, by omega, rfl, by simp⟩
  case round =>
    obtain ⟨k, hk, rfl, rfl⟩ := hrel
    by_cases hlt : k < n
    · obtain ⟨b, off, g, rfl, hB, hd, c0, c1, c2, c3⟩ := H.out.at_ hlt
      rw [markG_drop n k j0 hlt] at hd
      injection hd with hd _
      subst hd
      have e2 : (j0 + 4 * (k : Int) + 2 != j0 + 4 * (k : Int) + 1 + 1) = false := by simp; omega
      have e3 : (j0 + 4 * (k : Int) + 3 != j0 + 4 * (k : Int) + 1 + 1 + 1) = false := by simp; omega
      go_wp2
      go_round
      case rel => exact ⟨k + 1, by omega, by go_num, by go_num⟩
      case measure => simp [intOf]; omega
    · go_wp2
      go_ret
      obtain rfl : k = n := by omega
      exact ⟨rfl, rfl⟩
end Go.Proofs.Ythfacfnknpomcaa
