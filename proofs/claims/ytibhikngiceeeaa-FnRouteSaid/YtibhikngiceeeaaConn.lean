/- Contracts of IsConnected (impl and spec). The graph has at most 2^40 edges. -/
import Derived.Test.YtibhikngiceeeaaDistF
namespace Go.Proofs.Ytibhikngiceeeaa
open Go.RowKit

theorem sF_sign (l : List Bool) (n : Int) (b : Int) : ∀ (m : Nat) (met : List Int), (m : Int) ≤ n → sF l n b m met = -1 ∨ 0 ≤ sF l n b m met
  | 0, met, _ => .inl rfl
  | m + 1, met, h => by
    rw [sF]
    split
    · exact .inr (by omega)
    · exact sF_sign l n b m _ (by omega)
theorem gd_sign (ps : List (Int × Int)) (N a b : Int) : gd ps N a b = -1 ∨ 0 ≤ gd ps N a b := by
  rcases inB_cases N 1 4 with ⟨c1, d1, d2⟩ | ⟨c1, _⟩
  · rcases inB_cases a 0 (N - 1) with ⟨c2, d3, d4⟩ | ⟨c2, _⟩
    · rcases inB_cases b 0 (N - 1) with ⟨c3, d5, d6⟩ | ⟨c3, _⟩
      · rw [gd_inS d1 d2 d3 d4 d5 d6]
        exact sF_sign _ _ _ _ _ (by omega)
      · exact .inl (gd_out3 c3)
    · exact .inl (gd_out2 c2)
  · exact .inl (gd_out1 c1)
def con (ps : List (Int × Int)) (N : Int) : Bool := inB N 1 4 && decide (∀ j : Nat, j < 4 → ((j : Int) < N → 0 ≤ gd ps N 0 j))
theorem con_end {ps : List (Int × Int)} {N : Int} {k : Nat} (h : ∀ j : Nat, j < k → 0 ≤ gd ps N 0 j) (hk : 4 ≤ k ∨ N ≤ k) : con ps N = inB N 1 4 := by
  unfold con
  rw [decide_eq_true (fun j h1 h2 => h j (by omega)), Bool.and_true]
theorem con_bad {ps : List (Int × Int)} {N : Int} {k : Nat} (h : gd ps N 0 k < 0) (h1 : k < 4) (h2 : (k : Int) < N) : con ps N = false := by
  unfold con
  rw [decide_eq_false (fun h3 => by have := h3 k h1 h2; omega), Bool.and_false]

set_option maxRecDepth 100000 in
set_option maxHeartbeats 1600000 in
theorem i_IsConnected (N : Int) (A : Option Addr) (n cap : Nat) (ps : List (Int × Int)) (w : World) (h : RdP w A n ps) (hn : n ≤ 1099511627776) :
    Calls Try.prog 167 #[.agg #[.int .i64 N, .slice A n cap]] w fun e w' => e = .returned (.bool (con ps N)) ∧ Below w.heap.size w w' := by
  have H := Lib.hid h
  clear h
  go_enter Try.func167, Try.ntmps167
  go_wp2_with fail
  go_loopg [3] 4 (fun m i wr => ∃ k : Nat, k + m = 4 ∧ i = .int .i64 k ∧ (∀ j : Nat, j < k → 0 ≤ gd ps N 0 j) ∧ Bx wr w.heap.size 61 #[.int .i64 N, .slice A n cap] ∧ Below w.heap.size w wr)
  case atStart => exact ⟨0, by omega, rfl, fun j hj => absurd hj (by omega), Bx.new w _ _, (Below.refl _ _).alloc (Nat.le_refl _) _⟩
  case round =>
    obtain ⟨k, hk, rfl, hall, hx, hb⟩ := hrel
    have HX := Lib.hid hx
    have HA := Lib.hid hall
    clear hx hall
    obtain ⟨p0, p1, _, _⟩ := HX.out.two
    have HP := Lib.hid (H.out.below hb)
    by_cases hlt : k < 4 ∧ (k : Int) < N
    · obtain ⟨h1, h2⟩ := hlt
      by_cases hN : N ≤ 4
      all_goals
        go_wp2_with fail
        refine (i_GraphDistance _ _ _ _ _ _ _ _ HP.out hn).mono ?_
        rintro e w2 ⟨rfl, b2⟩
        rcases gd_sign ps N 0 k with hg | hg
        · rw [hg]
          go_wp2_with fail
          go_ret
          exact ⟨ret_bool (con_bad (k := k) (by omega) h1 h2).symm, hb.trans (b2.mono hb.size)⟩
        · obtain ⟨G, hG⟩ : ∃ G, gd ps N 0 k = G := ⟨_, rfl⟩
          rw [hG] at hg ⊢
          go_wp2_with fail
          go_roundg (gk - 1)
          case measure => omega
          case rel =>
            refine ⟨k + 1, by omega, by go_num, fun j hj => ?_, HX.out.below b2, hb.trans (b2.mono hb.size)⟩
            rcases Nat.lt_or_eq_of_le (Nat.lt_succ_iff.1 hj) with h3 | rfl
            · exact HA.out j h3
            · omega
    · by_cases hN : N ≤ 4
      all_goals
        go_wp2_with fail
        refine (i_in _ _ _ _).mono ?_
        rintro e w' ⟨rfl, rfl⟩
        go_wp2_with fail
        go_ret
        exact ⟨ret_bool (con_end HA.out (by omega)).symm, hb⟩

set_option maxRecDepth 100000 in
set_option maxHeartbeats 1600000 in
theorem s_IsConnected (N : Int) (A : Option Addr) (n cap : Nat) (ps : List (Int × Int)) (w : World) (h : RdP w A n ps) (hn : n ≤ 1099511627776) :
    Calls Try.prog 145 #[.agg #[.int .i64 N, .slice A n cap]] w fun e w' => e = .returned (.bool (con ps N)) ∧ Below w.heap.size w w' := by
  have H := Lib.hid h
  clear h
  go_enter Try.func145, Try.ntmps145
  go_wp2_with fail
  go_loopg [3] 4 (fun m i wr => ∃ k : Nat, k + m = 4 ∧ i = .int .i64 k ∧ (∀ j : Nat, j < k → 0 ≤ gd ps N 0 j) ∧ Bx wr w.heap.size 61 #[.int .i64 N, .slice A n cap] ∧ Below w.heap.size w wr)
  case atStart => exact ⟨0, by omega, rfl, fun j hj => absurd hj (by omega), Bx.new w _ _, (Below.refl _ _).alloc (Nat.le_refl _) _⟩
  case round =>
    obtain ⟨k, hk, rfl, hall, hx, hb⟩ := hrel
    have HX := Lib.hid hx
    have HA := Lib.hid hall
    clear hx hall
    obtain ⟨p0, p1, _, _⟩ := HX.out.two
    have HP := Lib.hid (H.out.below hb)
    by_cases h2 : (k : Int) < N
    · by_cases h1 : k < 4
      · go_wp2_with fail
        refine (s_GraphDistance _ _ _ _ _ _ _ _ HP.out hn).mono ?_
        rintro e w2 ⟨rfl, b2⟩
        rcases gd_sign ps N 0 k with hg | hg
        · rw [hg]
          go_wp2_with fail
          go_ret
          exact ⟨ret_bool (con_bad (k := k) (by omega) h1 h2).symm, hb.trans (b2.mono hb.size)⟩
        · obtain ⟨G, hG⟩ : ∃ G, gd ps N 0 k = G := ⟨_, rfl⟩
          rw [hG] at hg ⊢
          go_wp2_with fail
          go_roundg (gk - 1)
          case measure => omega
          case rel =>
            refine ⟨k + 1, by omega, by go_num, fun j hj => ?_, HX.out.below b2, hb.trans (b2.mono hb.size)⟩
            rcases Nat.lt_or_eq_of_le (Nat.lt_succ_iff.1 hj) with h3 | rfl
            · exact HA.out j h3
            · omega
      · go_wp2_with fail
        refine (s_in _ _ _ _).mono ?_
        rintro e w' ⟨rfl, rfl⟩
        go_wp2_with fail
        go_ret
        exact ⟨ret_bool (con_end HA.out (by omega)).symm, hb⟩
    · go_wp2_with fail
      refine (s_in _ _ _ _).mono ?_
      rintro e w' ⟨rfl, rfl⟩
      go_wp2_with fail
      go_ret
      exact ⟨ret_bool (con_end HA.out (by omega)).symm, hb⟩
end Go.Proofs.Ytibhikngiceeeaa
