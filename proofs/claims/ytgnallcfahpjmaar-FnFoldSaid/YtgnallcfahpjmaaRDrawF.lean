/- Contract of DrawComputePhasePolynomial. Nothing is asked. -/
import Derived.Test.YtgnallcfahpjmaaRDrawL
namespace Go.Proofs.YtgnallcfahpjmaaR
open Go.RowKit
set_option linter.unusedVariables false

def RetDCP (w : World) (e : Ending) (w' : World) : Prop := ∃ (A : Option Addr) (n c : Nat) (gs : List Gt) (N : Int), e = .returned (.tuple #[.slice A n c, .int .i64 N]) ∧ gs.length = n ∧ n ≤ 13 ∧ w'.ownsRow w.heap.size 63 4 (.slice A n c) n (cellsG gs) ∧ Below w.heap.size w w'
set_option maxRecDepth 100000 in
set_option maxHeartbeats 3200000 in
theorem s_DrawComp (A : Option Addr) (n cap : Nat) (zs : List Int) (w : World) (h : RdB w A n zs) (hz : ∀ z ∈ zs, 0 ≤ z ∧ z ≤ 255) (hn : n ≤ 1048576) :
    Calls Try.prog 74 #[.slice A n cap] w (RetDCP w) := by
  have hz4 : (Value.agg #[.int .i64 0, .int .i64 0, .int .i64 0, .int .i64 0]).cells.size = 4 := rfl
  have H := Lib.hid h
  have HZ := Lib.hid hz
  clear h hz
  go_enter Try.func74, Try.ntmps74
  go_wp2_with fail
  refine (s_l1New _ _ _ _ _ H.out HZ.out hn).mono ?_
  rintro e w1 ⟨g, rfl, hc1, hg, b1⟩
  have B1 := Lib.hid b1
  have hs1 := b1.size
  have hgl := hc1.lt
  clear b1
  go_wp2_with fail
  refine (s_l1Below g 4 _ hc1 (by omega)).mono ?_
  rintro e w2 ⟨y, rfl, ⟨hy, _⟩, hc2, g2⟩
  obtain ⟨hy0, hy1⟩ := hy (by omega)
  obtain ⟨q, hq⟩ : ∃ q : Nat, 1 + y = q := ⟨(1 + y).toNat, by omega⟩
  have hq1 : 1 ≤ q := by omega
  have hq4 : q ≤ 4 := by omega
  clear hy
  go_wp2_with fail
  clear hq hy0 hy1
  refine (s_l32Gates g q 12 _ hc2 hq1 hq4 (by omega)).mono ?_
  rintro e w3 ⟨A3, n3, c3, gs, rfl, hl, hn3, _, o3, hc3, g3⟩
  have HL := Lib.hid hl
  have hs2 := g2.size
  have O3 := Lib.hid (ownsRow_base o3 (show w1.heap.size ≤ w2.heap.size from hs2))
  have G3 := Lib.hid (dr_trans g2 g3)
  clear hl o3 g2 g3 hc1 hc2
  go_wp2_with fail
  refine (s_l1Once g 8 _ hc3 (by omega)).mono ?_
  rintro e w4 ⟨b1, rfl, hc4, g4⟩
  have O4 := Lib.hid (dr_own g4 hc3 O3.out (by decide))
  have G4 := Lib.hid (dr_trans G3.out g4)
  clear O3 G3 g4 hc3
  cases b1
  · skip
    go_wp2_with fail
    refine (s_l1Once g 16 _ hc4 (by omega)).mono ?_
    rintro e w7 ⟨b2, rfl, hc7, g7⟩
    have O7 := Lib.hid (dr_own g7 hc4 O4.out (by decide))
    have G7 := Lib.hid (dr_trans G4.out g7)
    have hgs : g + 1 ≤ w7.heap.size := hc7.lt
    clear g7
    cases b2
    · go_wp2_with fail
      go_ret2
      exact ⟨A3, n3, c3, gs, (q : Int), rfl, by first | exact HL.out | simp [HL.out], by omega, ownsRow_base O7.out hs1, B1.out.trans (below_of_grown G7.out hs1 (fun k hk => (by injection hk with hk; omega)))⟩
    · have OL := Lib.hid (show (w7.alloc (.cells #[.int .i64 0, .int .i64 5] 3)).ownsRow (g + 1) 3 1 (.slice (some ⟨w7.heap.size, 0, none⟩) 2 2) 2 (cellsI [0, 5]) from World.ownsRow_lit w7 #[.int .i64 0, .int .i64 5] 2 hgs (by simp [maxLen]) rfl)
      have C8 := Lib.hid (cur_alloc hc7 (.cells #[.int .i64 0, .int .i64 5] 3))
      have O8 := Lib.hid (O7.out.alloc (.cells #[.int .i64 0, .int .i64 5] 3))
      have G8 := Lib.hid (dr_alloc G7.out (.cells #[.int .i64 0, .int .i64 5] 3))
      go_wp2_with fail
      refine (s_l1PickInt g _ 2 2 [0, 5] _ C8.out OL.out (by omega) (by omega)).mono ?_
      rintro e w9 ⟨x, rfl, _, hc9, g9⟩
      have O9 := Lib.hid (dr_own g9 C8.out O8.out (by decide))
      have G9 := Lib.hid (dr_trans G8.out g9)
      clear g9
      go_wp2_with fail
      go_ret2
      exact ⟨A3, n3, c3, gs, x, rfl, by first | exact HL.out | simp [HL.out], by omega, ownsRow_base O9.out hs1, B1.out.trans (below_of_grown G9.out hs1 (fun k hk => (by injection hk with hk; omega)))⟩
  · go_wp2_with fail
    refine (s_l9Bent g q _ hc4 hq1 hq4).mono ?_
    rintro e w5 ⟨k5, a5, b5, c5, rfl, _, hc5, g5⟩
    have O5 := Lib.hid ((dr_own g5 hc4 O4.out (by decide)).alloc (.cells #[.int .i64 k5, .int .i64 a5, .int .i64 b5, .int .i64 c5] 63))
    have C5 := Lib.hid (cur_alloc hc5 (.cells #[.int .i64 k5, .int .i64 a5, .int .i64 b5, .int .i64 c5] 63))
    have G5 := Lib.hid (dr_alloc (dr_trans G4.out g5) (.cells #[.int .i64 k5, .int .i64 a5, .int .i64 b5, .int .i64 c5] 63))
    have hs5 := (dr_trans G4.out g5).size
    clear g5
    go_wp2_with (at_builtin; refine wpList_app rfl (.tmp 17) (.tmp 21) 24 rfl Try.underlying24 infoGate hz4 (by decide) rfl O5.out rfl (Rd.lit w5 63 #[.int .i64 k5, .int .i64 a5, .int .i64 b5, .int .i64 c5] 1 4 rfl) (by simp [Value.oneCell']) (by omega) (by decide) (by simp <;> omega) ?_; intro A6 c6 w6 o6 g6; have C6 := C5.out.row g6 (fun q hq => (by have := (O5.out.lt q hq).1; omega)); have G6 := Lib.hid (dr_row G5.out g6 (fun q hq => (O5.out.lt q hq).1)); have O6 := Lib.hid (show w6.ownsRow w1.heap.size 63 4 (.slice A6 (n3 + 1) c6) (n3 + 1) (cellsG (gs ++ [⟨k5, a5, b5, c5⟩])) from (by rw [cellsG_append]; exact o6)); clear o6 g6)
    go_wp2_with fail
    refine (s_l1Once g 16 _ C6 (by omega)).mono ?_
    rintro e w7 ⟨b2, rfl, hc7, g7⟩
    have O7 := Lib.hid (dr_own g7 C6 O6.out (by decide))
    have G7 := Lib.hid (dr_trans G6.out g7)
    have hgs : g + 1 ≤ w7.heap.size := hc7.lt
    clear g7
    cases b2
    · go_wp2_with fail
      go_ret2
      exact ⟨A6, n3 + 1, c6, gs ++ [⟨k5, a5, b5, c5⟩], (q : Int), rfl, by first | exact HL.out | simp [HL.out], by omega, ownsRow_base O7.out hs1, B1.out.trans (below_of_grown G7.out hs1 (fun k hk => (by injection hk with hk; omega)))⟩
    · have OL := Lib.hid (show (w7.alloc (.cells #[.int .i64 0, .int .i64 5] 3)).ownsRow (g + 1) 3 1 (.slice (some ⟨w7.heap.size, 0, none⟩) 2 2) 2 (cellsI [0, 5]) from World.ownsRow_lit w7 #[.int .i64 0, .int .i64 5] 2 hgs (by simp [maxLen]) rfl)
      have C8 := Lib.hid (cur_alloc hc7 (.cells #[.int .i64 0, .int .i64 5] 3))
      have O8 := Lib.hid (O7.out.alloc (.cells #[.int .i64 0, .int .i64 5] 3))
      have G8 := Lib.hid (dr_alloc G7.out (.cells #[.int .i64 0, .int .i64 5] 3))
      go_wp2_with fail
      refine (s_l1PickInt g _ 2 2 [0, 5] _ C8.out OL.out (by omega) (by omega)).mono ?_
      rintro e w9 ⟨x, rfl, _, hc9, g9⟩
      have O9 := Lib.hid (dr_own g9 C8.out O8.out (by decide))
      have G9 := Lib.hid (dr_trans G8.out g9)
      clear g9
      go_wp2_with fail
      go_ret2
      exact ⟨A6, n3 + 1, c6, gs ++ [⟨k5, a5, b5, c5⟩], x, rfl, by first | exact HL.out | simp [HL.out], by omega, ownsRow_base O9.out hs1, B1.out.trans (below_of_grown G9.out hs1 (fun k hk => (by injection hk with hk; omega)))⟩
end Go.Proofs.YtgnallcfahpjmaaR
