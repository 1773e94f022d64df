/- Contracts of GraphDistance (impl and spec), for every two numbers. The graph has at most 2^40 edges. -/
import Derived.Test.YtibhikngiceeeaaDist
import Derived.Test.YtibhikngiceeeaaDistS
namespace Go.Proofs.Ytibhikngiceeeaa
open Go.RowKit

theorem inB_cases (x lo hi : Int) : (inB x lo hi = true ∧ lo ≤ x ∧ x ≤ hi) ∨ (inB x lo hi = false ∧ (x < lo ∨ hi < x)) := by
  by_cases h1 : lo ≤ x
  · by_cases h2 : x ≤ hi
    · exact .inl ⟨inB_t h1 h2, h1, h2⟩
    · exact .inr ⟨inB_f (.inr (by omega)), .inr (by omega)⟩
  · exact .inr ⟨inB_f (.inl (by omega)), .inl (by omega)⟩
theorem gd_in {ps : List (Int × Int)} {N a b : Int} (hN1 : 1 ≤ N) (hN4 : N ≤ 4) (ha : 0 ≤ a) (ha2 : a ≤ N - 1) (hb : 0 ≤ b) (hb2 : b ≤ N - 1) : gd ps N a b = gdI (mat ps) N a b := by
  unfold gd
  rw [inB_t hN1 hN4, inB_t ha ha2, inB_t hb hb2]
  rfl
theorem gd_inS {ps : List (Int × Int)} {N a b : Int} (hN1 : 1 ≤ N) (hN4 : N ≤ 4) (ha : 0 ≤ a) (ha2 : a ≤ N - 1) (hb : 0 ≤ b) (hb2 : b ≤ N - 1) : gd ps N a b = gdS (mat ps) N a b := by
  rw [gd_in hN1 hN4 ha ha2 hb hb2]
  exact (gd_same _ _ _ _ _ _ _ _ _ _ N a b hN1 hN4 ha (by omega) hb (by omega)).symm
theorem gd_out1 {ps : List (Int × Int)} {N a b : Int} (h : inB N 1 4 = false) : gd ps N a b = -1 := by unfold gd; rw [h]; rfl
theorem gd_out2 {ps : List (Int × Int)} {N a b : Int} (h : inB a 0 (N - 1) = false) : gd ps N a b = -1 := by unfold gd; rw [h, Bool.false_and, Bool.and_false]; rfl
theorem gd_out3 {ps : List (Int × Int)} {N a b : Int} (h : inB b 0 (N - 1) = false) : gd ps N a b = -1 := by unfold gd; rw [h, Bool.and_false, Bool.and_false]; rfl

set_option maxRecDepth 100000 in
set_option maxHeartbeats 3200000 in
theorem i_GraphDistance (N : Int) (A : Option Addr) (n cap : Nat) (a b : Int) (ps : List (Int × Int)) (w : World) (h : RdP w A n ps) (hn : n ≤ 1099511627776) :
    Calls Try.prog 141 #[.agg #[.int .i64 N, .slice A n cap], .int .i64 a, .int .i64 b] w fun e w' => e = .returned (.int .i64 (gd ps N a b)) ∧ Below w.heap.size w w' := by
  rcases inB_cases N 1 4 with ⟨c1, d1, d2⟩ | ⟨c1, _⟩
  · rcases inB_cases a 0 (N - 1) with ⟨c2, d3, d4⟩ | ⟨c2, _⟩
    · rcases inB_cases b 0 (N - 1) with ⟨c3, d5, d6⟩ | ⟨c3, _⟩
      · rw [gd_in d1 d2 d3 d4 d5 d6]
        obtain ⟨N', rfl⟩ : ∃ N' : Nat, N = (N' : Int) := ⟨N.toNat, by omega⟩
        obtain ⟨a', rfl⟩ : ∃ a' : Nat, a = (a' : Int) := ⟨a.toNat, by omega⟩
        obtain ⟨b', rfl⟩ : ∃ b' : Nat, b = (b' : Int) := ⟨b.toNat, by omega⟩
        exact i_dist_in N' A n cap a' b' ps w h hn (by omega) (by omega) (by omega) (by omega)
      · rw [gd_out3 c3]
        have C1 := Lib.hid c1
        have C2 := Lib.hid c2
        have C3 := Lib.hid c3
        clear c1 c2 c3 h
        go_enter Try.func141, Try.ntmps141
        go_wp2_with fail
        refine (i_in _ _ _ _).mono ?_
        rintro e w' ⟨rfl, rfl⟩
        rw [C1.out]
        go_wp2_with fail
        refine (i_in _ _ _ _).mono ?_
        rintro e w' ⟨rfl, rfl⟩
        rw [C2.out]
        go_wp2_with fail
        refine (i_in _ _ _ _).mono ?_
        rintro e w' ⟨rfl, rfl⟩
        rw [C3.out]
        go_wp2_with fail
        go_ret
        exact ⟨rfl, (Below.refl _ _).alloc (Nat.le_refl _) _⟩
    · rw [gd_out2 c2]
      have C1 := Lib.hid c1
      have C2 := Lib.hid c2
      clear c1 c2 h
      go_enter Try.func141, Try.ntmps141
      go_wp2_with fail
      refine (i_in _ _ _ _).mono ?_
      rintro e w' ⟨rfl, rfl⟩
      rw [C1.out]
      go_wp2_with fail
      refine (i_in _ _ _ _).mono ?_
      rintro e w' ⟨rfl, rfl⟩
      rw [C2.out]
      go_wp2_with fail
      go_ret
      exact ⟨rfl, (Below.refl _ _).alloc (Nat.le_refl _) _⟩
  · rw [gd_out1 c1]
    have C1 := Lib.hid c1
    clear c1 h
    go_enter Try.func141, Try.ntmps141
    go_wp2_with fail
    refine (i_in _ _ _ _).mono ?_
    rintro e w' ⟨rfl, rfl⟩
    rw [C1.out]
    go_wp2_with fail
    go_ret
    exact ⟨rfl, (Below.refl _ _).alloc (Nat.le_refl _) _⟩

set_option maxRecDepth 100000 in
set_option maxHeartbeats 3200000 in
theorem s_GraphDistance (N : Int) (A : Option Addr) (n cap : Nat) (a b : Int) (ps : List (Int × Int)) (w : World) (h : RdP w A n ps) (hn : n ≤ 1099511627776) :
    Calls Try.prog 148 #[.agg #[.int .i64 N, .slice A n cap], .int .i64 a, .int .i64 b] w fun e w' => e = .returned (.int .i64 (gd ps N a b)) ∧ Below w.heap.size w w' := by
  rcases inB_cases N 1 4 with ⟨c1, d1, d2⟩ | ⟨c1, _⟩
  · rcases inB_cases a 0 (N - 1) with ⟨c2, d3, d4⟩ | ⟨c2, _⟩
    · rcases inB_cases b 0 (N - 1) with ⟨c3, d5, d6⟩ | ⟨c3, _⟩
      · rw [gd_inS d1 d2 d3 d4 d5 d6]
        obtain ⟨N', rfl⟩ : ∃ N' : Nat, N = (N' : Int) := ⟨N.toNat, by omega⟩
        obtain ⟨a', rfl⟩ : ∃ a' : Nat, a = (a' : Int) := ⟨a.toNat, by omega⟩
        obtain ⟨b', rfl⟩ : ∃ b' : Nat, b = (b' : Int) := ⟨b.toNat, by omega⟩
        exact s_dist_in N' A n cap a' b' ps w h hn (by omega) (by omega) (by omega) (by omega)
      · rw [gd_out3 c3]
        have C1 := Lib.hid c1
        have C2 := Lib.hid c2
        have C3 := Lib.hid c3
        clear c1 c2 c3 h
        go_enter Try.func148, Try.ntmps148
        go_wp2_with fail
        refine (s_in _ _ _ _).mono ?_
        rintro e w' ⟨rfl, rfl⟩
        rw [C1.out]
        go_wp2_with fail
        refine (s_in _ _ _ _).mono ?_
        rintro e w' ⟨rfl, rfl⟩
        rw [C2.out]
        go_wp2_with fail
        refine (s_in _ _ _ _).mono ?_
        rintro e w' ⟨rfl, rfl⟩
        rw [C3.out]
        go_wp2_with fail
        go_ret
        exact ⟨rfl, (Below.refl _ _).alloc (Nat.le_refl _) _⟩
    · rw [gd_out2 c2]
      have C1 := Lib.hid c1
      have C2 := Lib.hid c2
      clear c1 c2 h
      go_enter Try.func148, Try.ntmps148
      go_wp2_with fail
      refine (s_in _ _ _ _).mono ?_
      rintro e w' ⟨rfl, rfl⟩
      rw [C1.out]
      go_wp2_with fail
      refine (s_in _ _ _ _).mono ?_
      rintro e w' ⟨rfl, rfl⟩
      rw [C2.out]
      go_wp2_with fail
      go_ret
      exact ⟨rfl, (Below.refl _ _).alloc (Nat.le_refl _) _⟩
  · rw [gd_out1 c1]
    have C1 := Lib.hid c1
    clear c1 h
    go_enter Try.func148, Try.ntmps148
    go_wp2_with fail
    refine (s_in _ _ _ _).mono ?_
    rintro e w' ⟨rfl, rfl⟩
    rw [C1.out]
    go_wp2_with fail
    go_ret
    exact ⟨rfl, (Below.refl _ _).alloc (Nat.le_refl _) _⟩
end Go.Proofs.Ytibhikngiceeeaa
