/- Contracts of the laws' helpers on slices of pairs (PhaseTerm): szPhaseTermS, toPhaseTerm, toPhaseTermS, eqPhaseTerm, eqPhaseTermS. The slices have at most 2^20 elements where they are made, 2^40 else. -/
import Derived.Test.YtibhikngiceeeaaProg
import Derived.Test.YtibhikngiceeeaaPairs
import Derived.StillTailTactics
namespace Go.Proofs.Ytibhikngiceeeaa
open Go.RowKit

theorem infoPhaseTerm : (Try.prog.info? 107).map (fun i => (i.zero, i.size, i.bytes)) = some (some (.agg #[.int .i64 0, .int .i64 0]), 2, 16) := by kernel_rfl

theorem l_toPhaseTerm (a b : Int) (w : World) :
    Calls Try.prog 104 #[.agg #[.int .i64 a, .int .i64 b]] w fun e w' => e = .returned (.agg #[.int .i64 a, .int .i64 b]) ∧ Below w.heap.size w w' := by
  go_enter Try.func104, Try.ntmps104
  go_wp2
  exact bodyPost_ret (v := .agg #[.int .i64 a, .int .i64 b]) (by simp [results, Try.results104, go_sem]) rfl ⟨rfl, (by repeat (first | exact Below.refl _ _ | assumption | refine Below.drew ?_ | refine Below.alloc ?_ (by simp <;> omega) _))⟩

theorem l_eqPhaseTerm_same (a b : Int) (w : World) :
    Calls Try.prog 108 #[.agg #[.int .i64 a, .int .i64 b], .agg #[.int .i64 a, .int .i64 b]] w fun e w' => e = .returned (.bool true) ∧ Below w.heap.size w w' := by
  go_enter Try.func108, Try.ntmps108
  go_wp2
  go_ret
  exact ⟨rfl, (by repeat (first | exact Below.refl _ _ | assumption | refine Below.drew ?_ | refine Below.alloc ?_ (by simp <;> omega) _))⟩

set_option maxHeartbeats 400000 in
theorem l_toPhaseTermS (A : Option Addr) (n cap : Nat) (gs : List (Int × Int)) (w : World) (h : RdP w A n gs) (hn : n ≤ 1048576) :
    Calls Try.prog 48 #[.slice A n cap] w (Ret 107 2 (cellsP gs) n w) := by
  have hmk := run_makeN (P := Try.prog) Try.underlying29 infoPhaseTerm n (by omega) (by omega)
  have H := Lib.hid h
  clear h
  go_enter Try.func48, Try.ntmps48
  go_wp2
  clear hmk
  go_loopg [4] n (fun m i wr => ∃ k : Nat, k + m = n ∧ i = .int .i64 k ∧ Below w.heap.size w wr ∧ ∃ xs, wr.ownsRow w.heap.size 107 2 (.slice (some ⟨w.heap.size, 0, none⟩) n n) n xs ∧ xs.take (k * 2) = cellsP (gs.take k))
  case atStart =>
    refine ⟨0, by omega, rfl, (Below.refl _ _).alloc (Nat.le_refl _) _, _, World.ownsRow_lit w _ n (Nat.le_refl _) (by unfold maxLen; omega) (by rw [size_madeCells]), by simp [cellsP]⟩
  case round =>
    obtain ⟨k, hk, rfl, hb, xs, hown, ht⟩ := hrel
    have HT := Lib.hid ht
    clear ht
    by_cases hlt : k < n
    · obtain ⟨b, off, x, y, rfl, hB, hd, c0, c1⟩ := (H.out.below hb).at_ hlt
      have HD := Lib.hid hd
      clear hd
      go_wp2_with (go_at_call 104; refine (l_toPhaseTerm _ _ _).mono ?_; rintro e w1 ⟨rfl, hb1⟩; obtain ⟨⟨x0, q0⟩, ⟨x1, q1⟩, z0, z1⟩ := own2 (ownsRow_below hown hb1) hlt)
      go_roundg (gk - 1)
      case measure => omega
      case rel =>
        have s1 := (ownsRow_below hown hb1).stored (k * 2) (.int .i64 x)
        have s2 := s1.1.stored (k * 2 + 1) (.int .i64 y)
        refine ⟨k + 1, by omega, by go_num, ?_, _, s2.1, setP hlt xs hown.1 (x, y) HD.out HT.out⟩
        exact ((hb.trans (hb1.mono hb.size)).setCell (Nat.le_refl _) _).setCell (Nat.le_refl _) _
    · go_wp2
      go_ret
      have e : xs = cellsP gs := by
        have h1 := HT.out
        have h2 := H.out.1
        have h3 := hown.1
        obtain rfl : k = n := by omega
        rwa [List.take_of_length_le (by omega), List.take_of_length_le (by omega)] at h1
      exact ⟨_, _, rfl, e ▸ hown, hb⟩

set_option maxRecDepth 100000 in
set_option maxHeartbeats 400000 in
theorem l_eqPhaseTermS_same (A A' : Option Addr) (n c c' : Nat) (gs : List (Int × Int)) (w : World) (h : RdP w A n gs) (h' : RdP w A' n gs) (hn : n ≤ 1099511627776) :
    Calls Try.prog 55 #[.slice A n c, .slice A' n c'] w fun e w' => e = .returned (.bool true) ∧ Below w.heap.size w w' := by
  have H := Lib.hid h
  have H' := Lib.hid h'
  clear h h'
  go_enter Try.func55, Try.ntmps55
  go_wp2
  go_loopg [5] n (fun m i wr => ∃ k : Nat, k + m = n ∧ i = .int .i64 k ∧ Below w.heap.size w wr)
  case atStart => exact ⟨0, by omega, rfl, Below.refl _ _⟩
  case round =>
    obtain ⟨k, hk, rfl, hb⟩ := hrel
    by_cases hlt : k < n
    · obtain ⟨b, off, x, y, rfl, hB, hd, c0, c1⟩ := (H.out.below hb).at_ hlt
      obtain ⟨b', off', x', y', rfl, hB', hd', c0', c1'⟩ := (H'.out.below hb).at_ hlt
      obtain ⟨rfl, rfl⟩ : x = x' ∧ y = y' := by rw [hd] at hd'; injection hd' with h1 _; injection h1 with h2 h3; exact ⟨h2, h3⟩
      clear hd hd'
      go_wp2_with fail
      go_still_tail 8, (by kernel_rfl)
      go_wp2_with (go_at_call 108; refine (l_eqPhaseTerm_same _ _ _).mono ?_; rintro e w1 ⟨rfl, hb1⟩)
      go_roundg (gk - 1)
      case measure => omega
      case rel => exact ⟨k + 1, by omega, by go_num, hb.drew.trans (Below.mono hb1 hb.size)⟩
    · go_wp2
      go_ret
      exact ⟨rfl, hb⟩
end Go.Proofs.Ytibhikngiceeeaa
