/- Contract of DrawLongRangeCX: the beginning of a permutation of four qubits, or five numbers. The code has at most 2^20 bytes. -/
import Derived.Test.YtgnallcfahpjmaaRDrawQ
namespace Go.Proofs.YtgnallcfahpjmaaR
open Go.RowKit
set_option linter.unusedVariables false

def RetWay (w : World) (e : Ending) (w' : World) : Prop :=
  ∃ (A : Option Addr) (n c : Nat) (zs : List Int), e = .returned (.slice A n c) ∧ zs.length = n ∧ n ≤ c ∧ n ≤ 5 ∧ RdI w' A n zs ∧ (n ≤ 4 → ∃ p : List Int, isPerm p = true ∧ p.length = 4 ∧ zs = p.take n) ∧ Below w.heap.size w w'
set_option maxHeartbeats 3200000 in
theorem s_DrawLong (A : Option Addr) (n cap : Nat) (zs : List Int) (w : World) (h : RdB w A n zs) (hz : ∀ z ∈ zs, 0 ≤ z ∧ z ≤ 255) (hn : n ≤ 1048576) : Calls Try.prog 56 #[.slice A n cap] w (RetWay w) := by
  have H := Lib.hid h
  have HZ := Lib.hid hz
  clear h hz
  go_enter Try.func56, Try.ntmps56
  go_wp2_with fail
  refine (s_l1New _ _ _ _ _ H.out HZ.out hn).mono ?_
  rintro e w1 ⟨g, rfl, hc1, hg, b1⟩
  go_wp2_with fail
  refine (s_l8Perm g 4 _ hc1 (by omega) (by omega)).mono ?_
  rintro e w2 ⟨A2, n2, c2, z2, rfl, hl2, ⟨hl4, hp⟩, o2, hc2, g2⟩
  obtain rfl : n2 = 4 := by rw [← hl2]; exact hl4
  have HP := Lib.hid hp
  have HL := Lib.hid hl4
  have hcap := ownsRow_cap o2
  clear hl2 hl4 hp
  go_wp2_with fail
  refine (s_l1Once g 8 _ hc2 (by omega)).mono ?_
  rintro e w3 ⟨b, rfl, hc3, g3⟩
  have o3 := dr_own g3 hc2 o2 (by decide)
  have G3 := dr_trans g2 g3
  cases b
  · go_wp2_with fail
    refine (s_l1Below g 5 _ hc3 (by omega)).mono ?_
    rintro e w4 ⟨x, rfl, ⟨hx, _⟩, hc4, g4⟩
    obtain ⟨hx0, hx1⟩ := hx (by omega)
    obtain ⟨k, rfl⟩ : ∃ k : Nat, x = k := ⟨x.toNat, by omega⟩
    have O4 := Lib.hid (dr_own g4 hc3 o3 (by decide))
    have B4 := Lib.hid (b1.trans (below_of_grown (dr_trans G3 g4) b1.size (fun k hk => by injection hk with hk; omega)))
    have hsl := sl_hI A2 4 c2 k (by omega)
    clear hx o2 o3 hc2 hc3 hc4 g2 g3 g4 G3 hc1 b1
    go_wp2_with fail
    go_ret
    refine ⟨A2, k, c2, z2.take k, rfl, by rw [List.length_take, HL.out]; omega, by omega, by omega, ?_, fun _ => ⟨z2, HP.out, HL.out, rfl⟩, B4.out⟩
    have s1 := ownsRow_pre O4.out (show k ≤ 4 by omega)
    rw [Nat.mul_one, show (cellsI z2).take k = cellsI (z2.take k) from by simp [cellsI, List.map_take]] at s1
    exact RdI.own s1
  · have O3 := Lib.hid (ownsRow_base o3 b1.size)
    have B3 := Lib.hid (b1.trans (below_of_grown G3 b1.size (fun k hk => by injection hk with hk; omega)))
    have hs3 := B3.out.size
    clear o2 o3 hc2 hc3 g2 g3 G3 hc1 b1
    go_wp2_with (at_builtin; refine wpList_app rfl (.tmp 11) (.tmp 12) 47 rfl Try.underlying47 infoInt1 rfl (by decide) rfl (O3.out.alloc _) rfl (Rd.lit _ 3 #[.int .i64 4] 1 1 rfl) (by simp [Value.oneCell']) (by omega) (by decide) (by simp <;> omega) ?_; intro A4 c4 w4 o4 g4)
    go_ret
    have o5 : w4.ownsRow w.heap.size 3 1 (.slice A4 5 c4) 5 (cellsI (z2 ++ [4])) := by rw [cellsI_append]; exact o4
    exact ⟨A4, 5, c4, z2 ++ [4], rfl, by simp [HL.out], ownsRow_cap o5, by omega, RdI.own o5, fun h => absurd h (by omega), below_grown (B3.out.alloc hs3 _) (by simp; omega) (O3.out.alloc _) (Nat.le_refl _) g4⟩
end Go.Proofs.YtgnallcfahpjmaaR
