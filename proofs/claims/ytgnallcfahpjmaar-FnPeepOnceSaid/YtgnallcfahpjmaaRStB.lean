/- Contracts of NegDOmega of a constant, QubitCount, IsValidState, l6Copy, BasisState (spec). States are valid; they have 2, 4, 8 or 16 numbers. -/
import Derived.Test.YtgnallcfahpjmaaRStA
import Derived.Deep.RegionLaw
import Derived.Deep.RegionHeld3
namespace Go.Proofs.YtgnallcfahpjmaaR
open Go.RowKit
set_option linter.unusedVariables false

set_option maxRecDepth 100000 in
set_option maxHeartbeats 3200000 in
theorem s_NegD1 (w : World) : Calls Try.prog 202 #[.agg #[.int .i64 1, .int .i64 0, .int .i64 0, .int .i64 0, .int .i64 1]] w fun e w' => e = .returned (.agg #[.int .i64 (-1), .int .i64 0, .int .i64 0, .int .i64 0, .int .i64 1]) ∧ Below w.heap.size w w' := by
  have h1 : Below w.heap.size w (w.alloc (.cells #[.int .i64 1, .int .i64 0, .int .i64 0, .int .i64 0, .int .i64 1] 138)) := (Below.refl _ _).alloc (Nat.le_refl _) _
  have hb := h1.alloc h1.size (.cells #[.int .i64 0, .int .i64 0, .int .i64 0, .int .i64 0, .int .i64 0] 138)
  have X0 := Lib.hid (show DB w w.heap.size ⟨1, 0, 0, 0⟩ 1 ((w.alloc (.cells #[.int .i64 1, .int .i64 0, .int .i64 0, .int .i64 0, .int .i64 1] 138)).alloc (.cells #[.int .i64 0, .int .i64 0, .int .i64 0, .int .i64 0, .int .i64 0] 138)) from ⟨(Bx.new w _ _).alloc _, hb, Nat.le_refl _⟩)
  have R0 := Lib.hid (show DB w (w.heap.size + 1) ⟨0, 0, 0, 0⟩ 0 ((w.alloc (.cells #[.int .i64 1, .int .i64 0, .int .i64 0, .int .i64 0, .int .i64 1] 138)).alloc (.cells #[.int .i64 0, .int .i64 0, .int .i64 0, .int .i64 0, .int .i64 0] 138)) from ⟨Bx.new' (by simp), hb, by omega⟩)
  clear h1 hb
  go_enter Try.func202, Try.ntmps202
  go_wp2_with fail
  refine (s_IsValidD ⟨1, 0, 0, 0⟩ 1 _ (by decide)).mono ?_
  rintro e w1 ⟨rfl, b1⟩
  have X1 := Lib.hid (X0.out.below b1)
  have R1 := Lib.hid (R0.out.below b1)
  clear b1 X0 R0
  go_upto_region 3 with fail
  have XD := Lib.hid (X1.out.below (w' := w1.drew) (Below.refl _ _).drew)
  have RD := Lib.hid (R1.out.below (w' := w1.drew) (Below.refl _ _).drew)
  obtain ⟨p0, p1, p2, p3, p4, pl⟩ := XD.out.cells
  go_region_law (first
    | (go_simp; go_at_call 210; (with_reducible refine (s_NegZ1 _).mono ?_); rintro e w2 ⟨rfl, b2⟩; have X2 := XD.out.below b2; have R2 := RD.out.below b2; have ⟨q0, q1, q2, q3, q4, ql⟩ := X2.cells; have ⟨r0, r1, r2, r3, r4, rl⟩ := R2.cells; have ⟨f0, f1, f2, f3, f4⟩ := R2.free)
    | fail)
  all_goals go_wp2_with fail
  all_goals
    obtain ⟨c0, c1, c2, c3, c4, _⟩ := (R2.set ⟨-1, 0, 0, 0⟩ 1).cells
    simp only [stD] at c0 c1 c2 c3 c4
    exact bodyPost_ret (v := .agg #[.int .i64 (-1), .int .i64 0, .int .i64 0, .int .i64 0, .int .i64 1]) (by simp [results, Try.results202, go_sem, c0, c1, c2, c3, c4]) rfl ⟨rfl, (R2.set ⟨-1, 0, 0, 0⟩ 1).2.1⟩

set_option maxHeartbeats 1600000 in
theorem s_QCount (A : Option Addr) (n cap q : Nat) (w : World) (h1 : 1 ≤ q) (h4 : q ≤ 4) (hn : n = 2 ^ q) : Calls Try.prog 191 #[.slice A n cap] w fun e w' => e = .returned (.int .i64 q) ∧ w = w' := by
  obtain rfl | rfl | rfl | rfl : q = 1 ∨ q = 2 ∨ q = 3 ∨ q = 4 := by omega
  all_goals
    simp only [Nat.reducePow] at hn
    subst hn
    go_enter Try.func191, Try.ntmps191
    go_wp2_with fail
  · go_loopg [3] 4 (fun r v wr => ∃ i : Nat, 1 ≤ i ∧ i ≤ 1 ∧ i + r = 5 ∧ v = .int .i64 i ∧ w = wr)
    case atStart => exact ⟨1, by omega, by omega, by omega, rfl, rfl⟩
    case round =>
      obtain ⟨i, hi1, hi2, hir, rfl, rfl⟩ := hrel
      obtain rfl : i = 1 := by omega
      go_wp2_with fail
      go_ret
      exact ⟨rfl, rfl⟩
  · go_loopg [3] 4 (fun r v wr => ∃ i : Nat, 1 ≤ i ∧ i ≤ 2 ∧ i + r = 5 ∧ v = .int .i64 i ∧ w = wr)
    case atStart => exact ⟨1, by omega, by omega, by omega, rfl, rfl⟩
    case round =>
      obtain ⟨i, hi1, hi2, hir, rfl, rfl⟩ := hrel
      obtain rfl | rfl : i = 1 ∨ i = 2 := by omega
      · go_wp2_with fail
        go_roundg (gk - 1)
        case measure => omega
        case rel => exact ⟨2, by omega, by omega, by omega, by go_num, rfl⟩
      · go_wp2_with fail
        go_ret
        exact ⟨rfl, rfl⟩
  · go_loopg [3] 4 (fun r v wr => ∃ i : Nat, 1 ≤ i ∧ i ≤ 3 ∧ i + r = 5 ∧ v = .int .i64 i ∧ w = wr)
    case atStart => exact ⟨1, by omega, by omega, by omega, rfl, rfl⟩
    case round =>
      obtain ⟨i, hi1, hi2, hir, rfl, rfl⟩ := hrel
      obtain rfl | rfl | rfl : i = 1 ∨ i = 2 ∨ i = 3 := by omega
      · go_wp2_with fail
        go_roundg (gk - 1)
        case measure => omega
        case rel => exact ⟨2, by omega, by omega, by omega, by go_num, rfl⟩
      · go_wp2_with fail
        go_roundg (gk - 1)
        case measure => omega
        case rel => exact ⟨3, by omega, by omega, by omega, by go_num, rfl⟩
      · go_wp2_with fail
        go_ret
        exact ⟨rfl, rfl⟩
  · go_loopg [3] 4 (fun r v wr => ∃ i : Nat, 1 ≤ i ∧ i ≤ 4 ∧ i + r = 5 ∧ v = .int .i64 i ∧ w = wr)
    case atStart => exact ⟨1, by omega, by omega, by omega, rfl, rfl⟩
    case round =>
      obtain ⟨i, hi1, hi2, hir, rfl, rfl⟩ := hrel
      obtain rfl | rfl | rfl | rfl : i = 1 ∨ i = 2 ∨ i = 3 ∨ i = 4 := by omega
      · go_wp2_with fail
        go_roundg (gk - 1)
        case measure => omega
        case rel => exact ⟨2, by omega, by omega, by omega, by go_num, rfl⟩
      · go_wp2_with fail
        go_roundg (gk - 1)
        case measure => omega
        case rel => exact ⟨3, by omega, by omega, by omega, by go_num, rfl⟩
      · go_wp2_with fail
        go_roundg (gk - 1)
        case measure => omega
        case rel => exact ⟨4, by omega, by omega, by omega, by go_num, rfl⟩
      · go_wp2_with fail
        go_ret
        exact ⟨rfl, rfl⟩

theorem pow_16 {q : Nat} (h1 : 1 ≤ q) (h4 : q ≤ 4) : 2 ^ q ≤ 16 ∧ 2 ≤ 2 ^ q := by
  obtain rfl | rfl | rfl | rfl : q = 1 ∨ q = 2 ∨ q = 3 ∨ q = 4 := by omega
  all_goals decide
set_option maxHeartbeats 1600000 in
theorem s_IsState (A : Option Addr) (n cap q : Nat) (vs : List Dw) (w : World) (h : RdD w A n vs) (h1 : 1 ≤ q) (h4 : q ≤ 4) (hn : n = 2 ^ q) (hv : ∀ x ∈ vs, okD x = true) : Calls Try.prog 168 #[.slice A n cap] w fun e w' => e = .returned (.bool true) ∧ Below w.heap.size w w' := by
  have H := Lib.hid h
  have HN := Lib.hid hn
  have HV := Lib.hid hv
  have hn16 : n ≤ 16 := by rw [hn]; exact (pow_16 h1 h4).1
  clear h hn hv
  go_enter Try.func168, Try.ntmps168
  go_wp2_with fail
  go_loopg [3] n (fun r v wr => ∃ k : Nat, k + r = n ∧ v = .int .i64 k ∧ Below w.heap.size w wr)
  case atStart => exact ⟨0, by omega, rfl, Below.refl _ _⟩
  case round =>
    obtain ⟨k, hk, rfl, hb⟩ := hrel
    by_cases hlt : k < n
    · obtain ⟨b, off, x, rfl, hB, hd, c0, c1, c2, c3, c4⟩ := (H.out.below hb).at_ hlt
      have HX := Lib.hid (HV.out x (List.mem_of_mem_drop (i := k) (by rw [hd]; simp)))
      clear hd
      have hi0 : (0 : Int) ≤ (k : Int) := by omega
      have hi1 : (k : Int) < (n : Int) := by omega
      go_wp2_with fail
      refine (s_IsValidD x.n x.e _ HX.out).mono ?_
      rintro e w1 ⟨rfl, b1⟩
      have hb2 := hb.trans (b1.mono hb.size)
      clear c0 c1 c2 c3 c4 hb b1
      go_wp2_with fail
      go_roundg (gk - 1)
      case measure => omega
      case rel => exact ⟨k + 1, by omega, by go_num, hb2⟩
    · go_wp2_with fail
      refine (s_QCount _ n _ q _ h1 h4 HN.out).mono ?_
      rintro e w1 ⟨rfl, rfl⟩
      go_wp2_with fail
      go_ret
      exact ⟨ret_bool (by simp; omega), hb⟩

set_option maxHeartbeats 1600000 in
theorem s_copyD (A : Option Addr) (n cap : Nat) (vs : List Dw) (w : World) (h : RdD w A n vs) (hn : n ≤ 1048576) :
    Calls Try.prog 169 #[.slice A n cap] w (Ret 138 5 (cellsD vs) n w) := by
  have H := Lib.hid h
  clear h
  go_enter Try.func169, Try.ntmps169
  go_wp2_with (at_builtin; refine wpList_app rfl (.tmp 3) (.tmp 4) 118 rfl Try.underlying118 infoDOmega rfl (by decide) rfl (World.ownsRow_lit w #[] 0 (Nat.le_refl _) (by simp [maxLen]) rfl) rfl (H.out.2.alloc _) one_cellsD (by omega) (by decide) (by simp) ?_; intro A2 c2 w2 o2 g2)
  go_ret
  try rw [Nat.zero_add] at o2
  refine ⟨A2, c2, rfl, by simpa using o2, ?_⟩
  exact below_grown (a := w) ((Below.refl _ _).alloc (Nat.le_refl _) _) (by simp) (World.ownsRow_lit w #[] 0 (size := 5) (e := 138) (Nat.le_refl _) (by simp [maxLen]) rfl) (Nat.le_refl _) g2
end Go.Proofs.YtgnallcfahpjmaaR
