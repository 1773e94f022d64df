/- Contracts of l8Bent and DrawSwapLayout. -/
import Derived.Test.YtgnallcfahpjmaaRDrawP
import Derived.Test.YtgnallcfahpjmaaROpen
namespace Go.Proofs.YtgnallcfahpjmaaR
open Go.RowKit

theorem ownsRow_pre {w : World} {base : Nat} {e : TypeId} {sz n c k : Nat} {A : Option Addr} {xs : List Value} (h : w.ownsRow base e sz (.slice A n c) n xs) (hk : k ≤ n) : w.ownsRow base e sz (.slice A k c) k (xs.take (k * sz)) := by
  have hl := h.1
  have hle : k * sz ≤ n * sz := Nat.mul_le_mul_right _ hk
  refine ⟨by rw [List.length_take, hl]; omega, ?_⟩
  rcases h.2 with ⟨h0, h1⟩ | ⟨g, cap, cur, h1, h2, h3, h4, h5, h6, h7⟩
  · left
    injection h0 with hA _ hc
    obtain rfl : k = 0 := by omega
    rw [hA, hc]
    exact ⟨rfl, rfl⟩
  · right
    injection h1 with hA _ hc
    refine ⟨g, cap, cur, by rw [hA, hc], h2, h3, by omega, h5, h6, ?_⟩
    rw [← h7, List.take_take, Nat.min_eq_left hle]
theorem sl_hI (A : Option Addr) (n c hi : Nat) (h2 : hi ≤ c) (w : World) :
    (Instr.slice 47 (.slice A n c) none (some (.int .i64 (hi : Int))) none).run Try.prog w = .ok (.slice A hi c) w := by
  have hz : (sizeOf (Try.prog.elem 47)).run Try.prog w = .ok 1 w := by kernel_rfl
  rw [run_slice_h w 47 A n c (by kernel_rfl) .i64 hi (by omega) (by omega), hz]
  simp only [Result.andThen, sliced, Int.toNat_natCast]
  cases A <;> simp [Addr.add]
theorem i64_set {zs : List Int} (h : ∀ z ∈ zs, I64 z) {x : Int} (hx : I64 x) (k : Nat) : ∀ z ∈ zs.set k x, I64 z := by
  intro z hz
  rcases List.mem_or_eq_of_mem_set hz with h1 | h1
  · exact h z h1
  · rw [h1]; exact hx
theorem i64_perm {zs : List Int} (h : isPerm zs = true) : ∀ z ∈ zs, I64 z := by
  intro z hz
  obtain ⟨h1, _, _, h4⟩ := (isPerm_iff zs).1 h
  have := h1 z hz
  unfold I64
  omega

set_option maxRecDepth 100000 in
set_option maxHeartbeats 1600000 in
theorem s_l8Bent (g : Nat) (w : World) (h : Cur w g) : Calls Try.prog 161 #[.pointer (some ⟨g, 0, none⟩)] w (DrawnI (fun zs => zs.length ≤ 5 ∧ ∀ z ∈ zs, I64 z) g w) := by
  have H := Lib.hid h
  have hgw := h.lt
  clear h
  go_enter Try.func161, Try.ntmps161
  go_wp2_with fail
  refine (s_l1Below _ _ _ H.out (by omega)).mono ?_
  rintro e w1 ⟨y, rfl, ⟨hy, _⟩, hc1, g1⟩
  obtain ⟨hy0, hy1⟩ := hy (by omega)
  obtain ⟨n0, hn0⟩ : ∃ n : Nat, 1 + y = n := ⟨(1 + y).toNat, by omega⟩
  have hs1 := g1.size
  go_wp2_with fail
  refine (s_l8Perm g n0 _ hc1 (by omega) (by omega)).mono ?_
  rintro e w2 ⟨A2, n2, c2, z2, rfl, hl2, ⟨hl2', hp2⟩, o2, hc2, g2⟩
  have hn2 : n2 = n0 := by rw [← hl2, hl2']
  subst hn2
  obtain ⟨b, hA2⟩ : ∃ b, A2 = some ⟨b, 0, none⟩ := by
    rcases o2.2 with ⟨_, h0⟩ | ⟨b, cap, cur, hv, _⟩
    · omega
    · injection hv with hv _ _; exact ⟨b, hv⟩
  subst hA2
  have hbw : w.heap.size ≤ b := by have := (o2.lt b rfl).1; omega
  have hcap := ownsRow_cap o2
  have O2 := Lib.hid (ownsRow_base o2 (show w.heap.size ≤ w1.heap.size from hs1))
  have HL2 := Lib.hid hl2
  have HP2 := Lib.hid (i64_perm hp2)
  have C2 := Lib.hid hc2
  have G2 := Lib.hid (dr_trans g1 g2)
  have hn1 : 1 ≤ n2 := by omega
  have hn4 : n2 ≤ 4 := by omega
  clear hy hn0 hl2 hl2' hp2 hc1 hc2 g1 g2 o2 H hs1
  go_wp2_with fail
  refine (s_l1Below _ _ _ C2.out (by omega)).mono ?_
  rintro e w3 ⟨x, rfl, _, hc3, g3⟩
  have O3 := Lib.hid (dr_own g3 C2.out O2.out (by decide))
  have C3 := Lib.hid hc3
  have G3 := Lib.hid (dr_trans G2.out g3)
  have hgs3 : g + 1 ≤ w3.heap.size := hc3.lt
  clear hc3 g3 C2 O2 G2
  by_cases hx0 : x = 0
  · subst hx0
    go_wp2_with fail
    refine (s_l1Below _ _ _ C3.out (by omega)).mono ?_
    rintro e w4 ⟨i, rfl, ⟨hi, _⟩, hc4, g4⟩
    obtain ⟨hi0, hi1⟩ := hi (by omega)
    obtain ⟨k, rfl⟩ : ∃ k : Nat, i = k := ⟨i.toNat, by omega⟩
    have O4 := Lib.hid (dr_own g4 C3.out O3.out (by decide))
    have G4 := Lib.hid (dr_trans G3.out g4)
    have hgs4 : g + 1 ≤ w4.heap.size := hc4.lt
    have hs4 : w.heap.size ≤ w4.heap.size := G4.out.size
    have C4 := Lib.hid hc4
    clear hi hc4 g4 O3 C3 G3
    go_wp2_with fail
    refine (s_l1PickInt g _ 5 5 [0, 1, 4, -1, 9223372036854775807] _ (C4.out.below ((Below.refl _ _).alloc (Nat.le_refl _) _)) (World.ownsRow_lit w4 #[.int .i64 0, .int .i64 1, .int .i64 4, .int .i64 (-1), .int .i64 9223372036854775807] 5 hgs4 (by simp [maxLen]) rfl) (by omega) (by omega)).mono ?_
    rintro e w5 ⟨v, rfl, hv, hc5, g5⟩
    have hv64 : I64 v := by
      simp at hv
      unfold I64
      omega
    have O5 := dr_own g5 (C4.out.below ((Below.refl _ _).alloc (Nat.le_refl _) _)) (O4.out.alloc _) (by decide)
    have G5 := Lib.hid (dr_trans (dr_below G4.out ((Below.refl _ _).alloc (Nat.le_refl _) _)) g5)
    have ck := (O5.cellAt k (by omega)).trans (show (cellsI z2)[k]? = some (.int .i64 (z2[k]'(by have := HL2.out; omega))) from by have := HL2.out; first | (simp [cellsI]; omega) | simp [cellsI])
    have fk := O5.frozenAt k
    have OO5 := Lib.hid O5
    have C5 := Lib.hid hc5
    have hkI : (k : Int) < (n2 : Int) := by omega
    clear O5 hc5 g5 hv O4 C4 G4
    go_wp2_with fail
    go_ret
    have s1 := OO5.out.stored k (.int .i64 v)
    rw [cellsI_set] at s1
    exact ⟨_, n2, c2, z2.set k v, rfl, by simp [HL2.out], ⟨by simp [HL2.out]; omega, i64_set HP2.out hv64 k⟩, s1.1, C5.out.setCell (by show g < b; omega) _, dr_set G5.out hbw _⟩
  · by_cases hx1 : x = 1
    · subst hx1
      go_wp2_with fail
      refine (s_l1Below _ _ _ C3.out (by omega)).mono ?_
      rintro e w4 ⟨i, rfl, ⟨hi, _⟩, hc4, g4⟩
      obtain ⟨hi0, hi1⟩ := hi (by omega)
      obtain ⟨k, rfl⟩ : ∃ k : Nat, i = k := ⟨i.toNat, by omega⟩
      have O4 := Lib.hid (dr_own g4 C3.out O3.out (by decide))
      have G4 := Lib.hid (dr_trans G3.out g4)
      have C4 := Lib.hid hc4
      have hsl := sl_hI (some ⟨b, 0, none⟩) n2 c2 k (by omega)
      clear hi hc4 g4 O3 C3 G3
      go_wp2_with fail
      go_ret
      have s1 := ownsRow_pre O4.out (show k ≤ n2 by omega)
      rw [Nat.mul_one, show (cellsI z2).take k = cellsI (z2.take k) from by simp [cellsI, List.map_take]] at s1
      exact ⟨_, k, c2, z2.take k, rfl, by rw [List.length_take, HL2.out]; omega, ⟨by rw [List.length_take, HL2.out]; omega, fun z hz => HP2.out z (List.mem_of_mem_take hz)⟩, s1, C4.out, G4.out⟩
    · by_cases hx2 : x = 2
      · subst hx2
        have hs3 : w.heap.size ≤ w3.heap.size := G3.out.size
        go_wp2_with (at_builtin; refine wpList_app rfl (.tmp 32) (.tmp 35) 47 rfl Try.underlying47 infoInt1 rfl (by decide) rfl (O3.out.alloc _) rfl (Rd.lit _ 3 #[.int .i64 (n2 : Int)] 1 1 rfl) (by simp [Value.oneCell']) (by omega) (by decide) (by simp <;> omega) ?_; intro A4 c4 w4 o4 g4)
        go_ret
        refine ⟨A4, n2 + 1, c4, z2 ++ [(n2 : Int)], rfl, by simp [HL2.out], ⟨by simp [HL2.out]; omega, ?_⟩, by rw [cellsI_append]; exact o4, ?_, ?_⟩
        · intro z hz
          rcases List.mem_append.1 hz with hz | hz
          · exact HP2.out z hz
          · simp at hz; subst hz; unfold I64; omega
        · exact (C3.out.below ((Below.refl _ _).alloc (Nat.le_refl _) _)).row g4 (fun k hk => by have := (O3.out.lt k hk).1; omega)
        · exact dr_row (dr_below G3.out ((Below.refl _ _).alloc (Nat.le_refl _) _)) g4 (fun k hk => (O3.out.lt k hk).1)
      · have e0 : (x == 0) = false := by simpa using hx0
        have e1 : (x == 1) = false := by simpa using hx1
        have e2 : (x == 2) = false := by simpa using hx2
        clear hx0 hx1 hx2
        go_wp2_with fail
        go_ret
        exact ⟨_, n2, c2, z2, rfl, HL2.out, ⟨by rw [HL2.out]; omega, HP2.out⟩, O3.out, C3.out, G3.out⟩

end Go.Proofs.YtgnallcfahpjmaaR
