/- Contracts of DecomposeGate and DecomposeGates (spec): new gates, at most 15 for each. At most 2^20 gates. -/
import Derived.Test.YtgnallcfahpjmaaRGateS
import Derived.Test.YtgnallcfahpjmaaRSmall
import Derived.Test.YtgnallcfahpjmaaRBase4
import Derived.StillTailTactics
import Derived.Deep.DeepCutAuto
namespace Go.Proofs.YtgnallcfahpjmaaR
open Go.RowKit
set_option linter.unusedVariables false

def RetDG (B : Nat) (w : World) (e : Ending) (w' : World) : Prop :=
  ∃ (A : Option Addr) (n c : Nat) (gs : List Gt), e = .returned (.slice A n c) ∧ gs.length = n ∧ n ≤ B ∧ w'.ownsRow w.heap.size 63 4 (.slice A n c) n (cellsG gs) ∧ Below w.heap.size w w'
set_option maxRecDepth 100000 in
set_option maxHeartbeats 3200000 in
theorem s_DecomposeGate (g : Gt) (w : World) : Calls Try.prog 188 #[.agg #[.int .i64 g.k, .int .i64 g.a, .int .i64 g.b, .int .i64 g.c]] w (RetDG 15 w) := by
  obtain ⟨k, a, b, c⟩ := g
  have hB : Below w.heap.size w (w.alloc (.cells #[.int .i64 k, .int .i64 a, .int .i64 b, .int .i64 c] 63)) := (Below.refl _ _).alloc (Nat.le_refl _) _
  by_cases h10 : k = 10
  · subst h10
    go_enter Try.func188, Try.ntmps188
    go_wp2_with (first
      | (go_at_call 154; refine (s_one _ _ _).mono ?_; rintro e w1 ⟨rfl, b1⟩; have hB := below_trans hB b1)
      | (go_at_call 126; refine (s_cx _ _ _).mono ?_; rintro e w1 ⟨rfl, b1⟩; have hB := below_trans hB b1))
    go_ret
    have hs := hB.size
    exact ⟨_, 3, 3, [⟨4, b, 0, 0⟩, ⟨9, a, b, 0⟩, ⟨4, b, 0, 0⟩], rfl, rfl, by omega, World.ownsRow_lit _ #[.int .i64 4, .int .i64 b, .int .i64 0, .int .i64 0, .int .i64 9, .int .i64 a, .int .i64 b, .int .i64 0, .int .i64 4, .int .i64 b, .int .i64 0, .int .i64 0] 3 hs (by simp [maxLen]) rfl, hB.alloc hs _⟩
  · by_cases h11 : k = 11
    · subst h11
      go_enter Try.func188, Try.ntmps188
      go_wp2_with (first
        | (go_at_call 154; refine (s_one _ _ _).mono ?_; rintro e w1 ⟨rfl, b1⟩; have hB := below_trans hB b1)
        | (go_at_call 126; refine (s_cx _ _ _).mono ?_; rintro e w1 ⟨rfl, b1⟩; have hB := below_trans hB b1))
      go_ret
      have hs := hB.size
      exact ⟨_, 3, 3, [⟨9, a, b, 0⟩, ⟨9, b, a, 0⟩, ⟨9, a, b, 0⟩], rfl, rfl, by omega, World.ownsRow_lit _ #[.int .i64 9, .int .i64 a, .int .i64 b, .int .i64 0, .int .i64 9, .int .i64 b, .int .i64 a, .int .i64 0, .int .i64 9, .int .i64 a, .int .i64 b, .int .i64 0] 3 hs (by simp [maxLen]) rfl, hB.alloc hs _⟩
    · by_cases h12 : k = 12
      · subst h12
        go_enter Try.func188, Try.ntmps188
        go_upto_region 11 with (first
          | (go_at_call 154; refine (s_one _ _ _).mono ?_; rintro e w1 ⟨rfl, b1⟩; have hB := below_trans hB b1)
          | (go_at_call 126; refine (s_cx _ _ _).mono ?_; rintro e w1 ⟨rfl, b1⟩; have hB := below_trans hB b1))
        have hs := hB.size
        have o8 := World.ownsRow_lit w1 #[.int .i64 4, .int .i64 c, .int .i64 0, .int .i64 0, .int .i64 9, .int .i64 b, .int .i64 c, .int .i64 0, .int .i64 8, .int .i64 c, .int .i64 0, .int .i64 0, .int .i64 9, .int .i64 a, .int .i64 c, .int .i64 0, .int .i64 7, .int .i64 c, .int .i64 0, .int .i64 0, .int .i64 9, .int .i64 b, .int .i64 c, .int .i64 0, .int .i64 8, .int .i64 c, .int .i64 0, .int .i64 0, .int .i64 9, .int .i64 a, .int .i64 c, .int .i64 0] 8 (size := 4) (e := 63) (base := w.heap.size) hs (by simp [maxLen]) rfl
        have hB := hB.alloc hs (.cells #[.int .i64 4, .int .i64 c, .int .i64 0, .int .i64 0, .int .i64 9, .int .i64 b, .int .i64 c, .int .i64 0, .int .i64 8, .int .i64 c, .int .i64 0, .int .i64 0, .int .i64 9, .int .i64 a, .int .i64 c, .int .i64 0, .int .i64 7, .int .i64 c, .int .i64 0, .int .i64 0, .int .i64 9, .int .i64 b, .int .i64 c, .int .i64 0, .int .i64 8, .int .i64 c, .int .i64 0, .int .i64 0, .int .i64 9, .int .i64 a, .int .i64 c, .int .i64 0] 63)
        go_wp2_with (first
          | (go_at_call 154; refine (s_one _ _ _).mono ?_; rintro e w1 ⟨rfl, b1⟩; have o8 := ownsRow_below o8 b1; have hB := below_trans hB b1)
          | (go_at_call 126; refine (s_cx _ _ _).mono ?_; rintro e w1 ⟨rfl, b1⟩; have o8 := ownsRow_below o8 b1; have hB := below_trans hB b1)
          | (at_builtin; have hs := hB.size; refine wpList_app rfl (.tmp 60) (.tmp 77) 24 rfl Try.underlying24 infoGate rfl (by decide) rfl (o8.alloc _) rfl (Rd.lit w1 63 #[.int .i64 7, .int .i64 b, .int .i64 0, .int .i64 0, .int .i64 7, .int .i64 c, .int .i64 0, .int .i64 0, .int .i64 4, .int .i64 c, .int .i64 0, .int .i64 0, .int .i64 9, .int .i64 a, .int .i64 b, .int .i64 0, .int .i64 7, .int .i64 a, .int .i64 0, .int .i64 0, .int .i64 8, .int .i64 b, .int .i64 0, .int .i64 0, .int .i64 9, .int .i64 a, .int .i64 b, .int .i64 0] 7 4 rfl) (by simp [Value.oneCell']) (by omega) (by decide) (by simp <;> omega) ?_; intro A9 c9 w9 o9 g9))
        go_ret
        exact ⟨A9, 15, c9, [⟨4, c, 0, 0⟩, ⟨9, b, c, 0⟩, ⟨8, c, 0, 0⟩, ⟨9, a, c, 0⟩, ⟨7, c, 0, 0⟩, ⟨9, b, c, 0⟩, ⟨8, c, 0, 0⟩, ⟨9, a, c, 0⟩, ⟨7, b, 0, 0⟩, ⟨7, c, 0, 0⟩, ⟨4, c, 0, 0⟩, ⟨9, a, b, 0⟩, ⟨7, a, 0, 0⟩, ⟨8, b, 0, 0⟩, ⟨9, a, b, 0⟩], rfl, rfl, by omega, o9, below_grown (hB.alloc hB.size _) (by have := hB.size; simp <;> omega) (o8.alloc _) (Nat.le_refl _) g9⟩
      · have e1 : (k == 10) = false := by simpa using h10
        have e2 : (k == 11) = false := by simpa using h11
        have e3 : (k == 12) = false := by simpa using h12
        go_enter Try.func188, Try.ntmps188
        go_wp2_with fail
        go_ret
        have o1 := World.ownsRow_lit (w.alloc (.cells #[.int .i64 k, .int .i64 a, .int .i64 b, .int .i64 c] 63)) #[.int .i64 k, .int .i64 a, .int .i64 b, .int .i64 c] 1 (size := 4) (e := 63) hB.size (by simp [maxLen]) rfl
        rw [World.size_alloc] at o1
        exact ⟨_, 1, 1, [⟨k, a, b, c⟩], rfl, rfl, by omega, o1, hB.alloc hB.size _⟩

set_option maxHeartbeats 1600000 in
theorem s_DecomposeGates (A : Option Addr) (n cap : Nat) (gs : List Gt) (w : World) (h : RdG w A n gs) (hn : n ≤ 1048576) : Calls Try.prog 158 #[.slice A n cap] w (RetDG (15 * n) w) := by
  have H := Lib.hid h
  clear h
  go_enter Try.func158, Try.ntmps158
  go_wp2_with fail
  go_loopg [4, 3] n (fun r i v wr => ∃ (k : Nat) (A0 : Option Addr) (m c0 : Nat) (os : List Gt), k + r = n ∧ i = .int .i64 k ∧ v = .slice A0 m c0 ∧ os.length = m ∧ m ≤ 15 * k ∧ wr.ownsRow w.heap.size 63 4 (.slice A0 m c0) m (cellsG os) ∧ Below w.heap.size w wr)
  case atStart => exact ⟨0, _, 0, _, [], by omega, rfl, rfl, rfl, by omega, World.ownsRow_lit w #[] 0 (Nat.le_refl _) (by simp [maxLen]) rfl, (Below.refl _ _).alloc (Nat.le_refl _) _⟩
  case round =>
    obtain ⟨k, A0, m, c0, os, hk, rfl, rfl, hl, hm, ho, hb⟩ := hrel
    have HO := Lib.hid ho
    have HL := Lib.hid hl
    have hs := hb.size
    clear ho hl
    by_cases hlt : k < n
    · obtain ⟨bb, off, g, rfl, hB, hd, d0, d1, d2, d3⟩ := (H.out.below hb).at_ hlt
      clear hd
      go_wp2_with fail
      refine (s_DecomposeGate g _).mono ?_
      rintro e w2 ⟨A2, n2, c2, g2, rfl, hl2, hn2, o2, b2⟩
      have hs2 := b2.size
      have O2 := Lib.hid (RdG.own o2).2
      have HO2 := Lib.hid (ownsRow_below HO.out b2)
      have hone : ∀ u ∈ cellsG g2, u.oneCell' = true := fun u hu => by
        simp only [cellsG, List.mem_flatMap] at hu
        obtain ⟨q, _, hq⟩ := hu
        simp [Gt.cells] at hq
        rcases hq with rfl | rfl | rfl | rfl <;> rfl
      go_wp2_with (at_builtin; refine wpList_app rfl (.tmp 12) (.tmp 17) 24 rfl Try.underlying24 infoGate rfl (by decide) rfl HO2.out rfl O2.out hone (by omega) (by decide) (by omega) ?_; intro A5 c5 w5 o5 g5)
      go_roundg (gk - 1)
      case measure => omega
      case rel => exact ⟨k + 1, A5, m + n2, c5, os ++ g2, by omega, by go_num, rfl, by simp [HL.out, hl2], by omega, by rw [cellsG_append]; exact o5, below_grown (hb.trans (b2.mono hs)) (by omega) HO2.out (Nat.le_refl _) g5⟩
    · go_wp2_with fail
      go_ret
      exact ⟨A0, m, c0, os, rfl, HL.out, by omega, HO.out, hb⟩
end Go.Proofs.YtgnallcfahpjmaaR
