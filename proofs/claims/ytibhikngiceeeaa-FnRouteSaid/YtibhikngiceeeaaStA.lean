/- Contracts of PhaseFactor, InvSqrt2Power, OneDOmega, NegDOmega of a constant, QubitCount, IsValidState, l6Copy, BasisState (spec). Where a partial operation is asked: it succeeds; states have 2, 4, 8 or 16 numbers. Contracts of NegDOmega of a constant, QubitCount, IsValidState, l6Copy, BasisState (spec). States are valid; they have 2, 4, 8 or 16 numbers. Rows of numbers of D[omega] of a call's own; contract of BasisState (spec), within its range. -/
import Derived.Test.YtibhikngiceeeaaDomG
import Derived.Deep.RegionHeld3
import Derived.Deep.RegionLaw
namespace Go.Proofs.Ytibhikngiceeeaa
open Go.RowKit
set_option linter.unusedVariables false

theorem infoDOmega : (Try.prog.info? 83).map (fun i => (i.zero, i.size, i.bytes)) = some (some (.agg #[.int .i64 0, .int .i64 0, .int .i64 0, .int .i64 0, .int .i64 0]), 5, 40) := by kernel_rfl

set_option maxRecDepth 100000 in
set_option maxHeartbeats 6400000 in
theorem s_Phase (k : Nat) (w : World) (h : k < 8) : Calls Try.prog 46 #[.int .i64 k] w fun e w' => e = .returned (.agg #[.int .i64 (phD k).n.a, .int .i64 (phD k).n.b, .int .i64 (phD k).n.c, .int .i64 (phD k).n.d, .int .i64 (phD k).e]) ∧ Below w.heap.size w w' := by
  obtain rfl | rfl | rfl | rfl | rfl | rfl | rfl | rfl : k = 0 ∨ k = 1 ∨ k = 2 ∨ k = 3 ∨ k = 4 ∨ k = 5 ∨ k = 6 ∨ k = 7 := by omega
  all_goals
    have hB2 : ∀ o o' : Obj, Below w.heap.size w ((w.alloc o).alloc o') := fun o o' => by
      have h1 : Below w.heap.size w (w.alloc o) := (Below.refl _ _).alloc (Nat.le_refl _) _
      exact h1.alloc h1.size _
    go_enter Try.func46, Try.ntmps46
    go_wp2_with fail
  · exact bodyPost_ret (v := .agg #[.int .i64 (phD 0).n.a, .int .i64 (phD 0).n.b, .int .i64 (phD 0).n.c, .int .i64 (phD 0).n.d, .int .i64 (phD 0).e]) (by simp [results, Try.results46, go_sem, phD, phZ]) rfl ⟨rfl, hB2 _ _⟩
  · exact bodyPost_ret (v := .agg #[.int .i64 (phD 1).n.a, .int .i64 (phD 1).n.b, .int .i64 (phD 1).n.c, .int .i64 (phD 1).n.d, .int .i64 (phD 1).e]) (by simp [results, Try.results46, go_sem, phD, phZ]) rfl ⟨rfl, hB2 _ _⟩
  · exact bodyPost_ret (v := .agg #[.int .i64 (phD 2).n.a, .int .i64 (phD 2).n.b, .int .i64 (phD 2).n.c, .int .i64 (phD 2).n.d, .int .i64 (phD 2).e]) (by simp [results, Try.results46, go_sem, phD, phZ]) rfl ⟨rfl, hB2 _ _⟩
  · exact bodyPost_ret (v := .agg #[.int .i64 (phD 3).n.a, .int .i64 (phD 3).n.b, .int .i64 (phD 3).n.c, .int .i64 (phD 3).n.d, .int .i64 (phD 3).e]) (by simp [results, Try.results46, go_sem, phD, phZ]) rfl ⟨rfl, hB2 _ _⟩
  · exact bodyPost_ret (v := .agg #[.int .i64 (phD 4).n.a, .int .i64 (phD 4).n.b, .int .i64 (phD 4).n.c, .int .i64 (phD 4).n.d, .int .i64 (phD 4).e]) (by simp [results, Try.results46, go_sem, phD, phZ]) rfl ⟨rfl, hB2 _ _⟩
  · exact bodyPost_ret (v := .agg #[.int .i64 (phD 5).n.a, .int .i64 (phD 5).n.b, .int .i64 (phD 5).n.c, .int .i64 (phD 5).n.d, .int .i64 (phD 5).e]) (by simp [results, Try.results46, go_sem, phD, phZ]) rfl ⟨rfl, hB2 _ _⟩
  · exact bodyPost_ret (v := .agg #[.int .i64 (phD 6).n.a, .int .i64 (phD 6).n.b, .int .i64 (phD 6).n.c, .int .i64 (phD 6).n.d, .int .i64 (phD 6).e]) (by simp [results, Try.results46, go_sem, phD, phZ]) rfl ⟨rfl, hB2 _ _⟩
  · exact bodyPost_ret (v := .agg #[.int .i64 (phD 7).n.a, .int .i64 (phD 7).n.b, .int .i64 (phD 7).n.c, .int .i64 (phD 7).n.d, .int .i64 (phD 7).e]) (by simp [results, Try.results46, go_sem, phD, phZ]) rfl ⟨rfl, hB2 _ _⟩

set_option maxHeartbeats 1600000 in
theorem s_Isq (w : World) : Calls Try.prog 175 #[.int .i64 1] w fun e w' => e = .returned (.agg #[.int .i64 1, .int .i64 0, .int .i64 0, .int .i64 0, .int .i64 1]) ∧ Below w.heap.size w w' := by
  go_enter Try.func175, Try.ntmps175
  go_wp2_with fail
  refine (s_in _ _ _ _).mono ?_
  rintro e w1 ⟨rfl, rfl⟩
  rw [show inB 1 0 60 = true by decide]
  go_wp2_with fail
  exact bodyPost_ret (v := .agg #[.int .i64 1, .int .i64 0, .int .i64 0, .int .i64 0, .int .i64 1]) (by simp [results, Try.results175, go_sem]) rfl ⟨rfl, (Below.refl _ _).alloc (Nat.le_refl _) _⟩

set_option maxHeartbeats 1600000 in
theorem s_One (w : World) : Calls Try.prog 132 #[] w fun e w' => e = .returned (.agg #[.int .i64 1, .int .i64 0, .int .i64 0, .int .i64 0, .int .i64 0]) ∧ Below w.heap.size w w' := by
  go_enter Try.func132, Try.ntmps132
  go_wp2_with fail
  exact bodyPost_ret (v := .agg #[.int .i64 1, .int .i64 0, .int .i64 0, .int .i64 0, .int .i64 0]) (by simp [results, Try.results132, go_sem]) rfl ⟨rfl, (Below.refl _ _).alloc (Nat.le_refl _) _⟩

set_option maxHeartbeats 1600000 in
theorem s_NegZ1 (w : World) : Calls Try.prog 184 #[.agg #[.int .i64 1, .int .i64 0, .int .i64 0, .int .i64 0]] w fun e w' => e = .returned (.agg #[.int .i64 (-1), .int .i64 0, .int .i64 0, .int .i64 0]) ∧ Below w.heap.size w w' := by
  have Z0 := Lib.hid (Z2.new w ⟨1, 0, 0, 0⟩)
  go_enter Try.func184, Try.ntmps184
  go_wp2_with fail
  refine (s_IsValidZ ⟨1, 0, 0, 0⟩ _).mono ?_
  rintro e w1 ⟨rfl, b1⟩
  rw [show okZ ⟨1, 0, 0, 0⟩ = true by decide]
  have Z1 := Lib.hid (Z0.out.below b1)
  obtain ⟨p0, p1, p2, p3, _⟩ := Z1.out.1.cells
  obtain ⟨r0, r1, r2, r3, f0, f1, f2, f3⟩ := Z1.out.2.cells
  go_wp2_with fail
  obtain ⟨c0, c1, c2, c3, _⟩ := (Z1.out.2.set ⟨-1, 0, 0, 0⟩).cells
  simp only [set4] at c0 c1 c2 c3
  exact bodyPost_ret (v := .agg #[.int .i64 (-1), .int .i64 0, .int .i64 0, .int .i64 0]) (by simp [results, Try.results184, go_sem, c0, c1, c2, c3]) rfl ⟨rfl, (Z1.out.2.set ⟨-1, 0, 0, 0⟩).2.1⟩
end Go.Proofs.Ytibhikngiceeeaa
namespace Go.Proofs.Ytibhikngiceeeaa
open Go.RowKit
set_option linter.unusedVariables false

set_option maxRecDepth 100000 in
set_option maxHeartbeats 3200000 in
theorem s_NegD1 (w : World) : Calls Try.prog 176 #[.agg #[.int .i64 1, .int .i64 0, .int .i64 0, .int .i64 0, .int .i64 1]] w fun e w' => e = .returned (.agg #[.int .i64 (-1), .int .i64 0, .int .i64 0, .int .i64 0, .int .i64 1]) ∧ Below w.heap.size w w' := by
  have h1 : Below w.heap.size w (w.alloc (.cells #[.int .i64 1, .int .i64 0, .int .i64 0, .int .i64 0, .int .i64 1] 83)) := (Below.refl _ _).alloc (Nat.le_refl _) _
  have hb := h1.alloc h1.size (.cells #[.int .i64 0, .int .i64 0, .int .i64 0, .int .i64 0, .int .i64 0] 83)
  have X0 := Lib.hid (show DB w w.heap.size ⟨1, 0, 0, 0⟩ 1 ((w.alloc (.cells #[.int .i64 1, .int .i64 0, .int .i64 0, .int .i64 0, .int .i64 1] 83)).alloc (.cells #[.int .i64 0, .int .i64 0, .int .i64 0, .int .i64 0, .int .i64 0] 83)) from ⟨(Bx.new w _ _).alloc _, hb, Nat.le_refl _⟩)
  have R0 := Lib.hid (show DB w (w.heap.size + 1) ⟨0, 0, 0, 0⟩ 0 ((w.alloc (.cells #[.int .i64 1, .int .i64 0, .int .i64 0, .int .i64 0, .int .i64 1] 83)).alloc (.cells #[.int .i64 0, .int .i64 0, .int .i64 0, .int .i64 0, .int .i64 0] 83)) from ⟨Bx.new' (by simp), hb, by omega⟩)
  clear h1 hb
  go_enter Try.func176, Try.ntmps176
  go_wp2_with fail
  refine (s_IsValidD ⟨1, 0, 0, 0⟩ 1 _ (by decide)).mono ?_
  rintro e w1 ⟨rfl, b1⟩
  have X1 := Lib.hid (X0.out.below b1)
  have R1 := Lib.hid (R0.out.below b1)
  clear b1 X0 R0
  go_upto_region 3 with fail
  have XD := Lib.hid (X1.out.below (w' := w1.drew) (Below.refl _ _).drew)
  have RD := Lib.hid (R1.out.below (w' := w1.drew) (Below.refl _ _).drew)
  obtain ⟨p0, p1, p2, p3, p4, pl⟩ := XD.out.cells
  go_region_law (first
    | (go_simp; go_at_call 184; (with_reducible refine (s_NegZ1 _).mono ?_); rintro e w2 ⟨rfl, b2⟩; have X2 := XD.out.below b2; have R2 := RD.out.below b2; have ⟨q0, q1, q2, q3, q4, ql⟩ := X2.cells; have ⟨r0, r1, r2, r3, r4, rl⟩ := R2.cells; have ⟨f0, f1, f2, f3, f4⟩ := R2.free)
    | fail)
  all_goals go_wp2_with fail
  all_goals
    obtain ⟨c0, c1, c2, c3, c4, _⟩ := (R2.set ⟨-1, 0, 0, 0⟩ 1).cells
    simp only [stD] at c0 c1 c2 c3 c4
    exact bodyPost_ret (v := .agg #[.int .i64 (-1), .int .i64 0, .int .i64 0, .int .i64 0, .int .i64 1]) (by simp [results, Try.results176, go_sem, c0, c1, c2, c3, c4]) rfl ⟨rfl, (R2.set ⟨-1, 0, 0, 0⟩ 1).2.1⟩

set_option maxHeartbeats 1600000 in
theorem s_QCount (A : Option Addr) (n cap q : Nat) (w : World) (h1 : 1 ≤ q) (h4 : q ≤ 4) (hn : n = 2 ^ q) : Calls Try.prog 159 #[.slice A n cap] w fun e w' => e = .returned (.int .i64 q) ∧ w = w' := by
  obtain rfl | rfl | rfl | rfl : q = 1 ∨ q = 2 ∨ q = 3 ∨ q = 4 := by omega
  all_goals
    simp only [Nat.reducePow] at hn
    subst hn
    go_enter Try.func159, Try.ntmps159
    go_wp2_with fail
  · go_loopg [3] 4 (fun r v wr => ∃ i : Nat, 1 ≤ i ∧ i ≤ 1 ∧ i + r = 5 ∧ v = .int .i64 i ∧ w = wr)
    case atStart => exact ⟨1, by omega, by omega, by omega, rfl, rfl⟩
    case round =>
      obtain ⟨i, hi1, hi2, hir, rfl, rfl⟩ := hrel
      obtain rfl : i = 1 := by omega
      go_wp2_with fail
      go_ret
      exact ⟨rfl, rfl⟩
  · go_loopg [3] 4 (fun r v wr => ∃ i : Nat, 1 ≤ i ∧ i ≤ 2 ∧ i + r = 5 ∧ v = .int .i64 i ∧ w = wr)
    case atStart => exact ⟨1, by omega, by omega, by omega, rfl, rfl⟩
    case round =>
      obtain ⟨i, hi1, hi2, hir, rfl, rfl⟩ := hrel
      obtain rfl | rfl : i = 1 ∨ i = 2 := by omega
      · go_wp2_with fail
        go_roundg (gk - 1)
        case measure => omega
        case rel => exact ⟨2, by omega, by omega, by omega, by go_num, rfl⟩
      · go_wp2_with fail
        go_ret
        exact ⟨rfl, rfl⟩
  · go_loopg [3] 4 (fun r v wr => ∃ i : Nat, 1 ≤ i ∧ i ≤ 3 ∧ i + r = 5 ∧ v = .int .i64 i ∧ w = wr)
    case atStart => exact ⟨1, by omega, by omega, by omega, rfl, rfl⟩
    case round =>
      obtain ⟨i, hi1, hi2, hir, rfl, rfl⟩ := hrel
      obtain rfl | rfl | rfl : i = 1 ∨ i = 2 ∨ i = 3 := by omega
      · go_wp2_with fail
        go_roundg (gk - 1)
        case measure => omega
        case rel => exact ⟨2, by omega, by omega, by omega, by go_num, rfl⟩
      · go_wp2_with fail
        go_roundg (gk - 1)
        case measure => omega
        case rel => exact ⟨3, by omega, by omega, by omega, by go_num, rfl⟩
      · go_wp2_with fail
        go_ret
        exact ⟨rfl, rfl⟩
  · go_loopg [3] 4 (fun r v wr => ∃ i : Nat, 1 ≤ i ∧ i ≤ 4 ∧ i + r = 5 ∧ v = .int .i64 i ∧ w = wr)
    case atStart => exact ⟨1, by omega, by omega, by omega, rfl, rfl⟩
    case round =>
      obtain ⟨i, hi1, hi2, hir, rfl, rfl⟩ := hrel
      obtain rfl | rfl | rfl | rfl : i = 1 ∨ i = 2 ∨ i = 3 ∨ i = 4 := by omega
      · go_wp2_with fail
        go_roundg (gk - 1)
        case measure => omega
        case rel => exact ⟨2, by omega, by omega, by omega, by go_num, rfl⟩
      · go_wp2_with fail
        go_roundg (gk - 1)
        case measure => omega
        case rel => exact ⟨3, by omega, by omega, by omega, by go_num, rfl⟩
      · go_wp2_with fail
        go_roundg (gk - 1)
        case measure => omega
        case rel => exact ⟨4, by omega, by omega, by omega, by go_num, rfl⟩
      · go_wp2_with fail
        go_ret
        exact ⟨rfl, rfl⟩

theorem pow_16 {q : Nat} (h1 : 1 ≤ q) (h4 : q ≤ 4) : 2 ^ q ≤ 16 ∧ 2 ≤ 2 ^ q := by
  obtain rfl | rfl | rfl | rfl : q = 1 ∨ q = 2 ∨ q = 3 ∨ q = 4 := by omega
  all_goals decide
set_option maxHeartbeats 1600000 in
theorem s_IsState (A : Option Addr) (n cap q : Nat) (vs : List Dw) (w : World) (h : RdD w A n vs) (h1 : 1 ≤ q) (h4 : q ≤ 4) (hn : n = 2 ^ q) (hv : ∀ x ∈ vs, okD x = true) : Calls Try.prog 129 #[.slice A n cap] w fun e w' => e = .returned (.bool true) ∧ Below w.heap.size w w' := by
  have H := Lib.hid h
  have HN := Lib.hid hn
  have HV := Lib.hid hv
  have hn16 : n ≤ 16 := by rw [hn]; exact (pow_16 h1 h4).1
  clear h hn hv
  go_enter Try.func129, Try.ntmps129
  go_wp2_with fail
  go_loopg [3] n (fun r v wr => ∃ k : Nat, k + r = n ∧ v = .int .i64 k ∧ Below w.heap.size w wr)
  case atStart => exact ⟨0, by omega, rfl, Below.refl _ _⟩
  case round =>
    obtain ⟨k, hk, rfl, hb⟩ := hrel
    by_cases hlt : k < n
    · obtain ⟨b, off, x, rfl, hB, hd, c0, c1, c2, c3, c4⟩ := (H.out.below hb).at_ hlt
      have HX := Lib.hid (HV.out x (List.mem_of_mem_drop (i := k) (by rw [hd]; simp)))
      clear hd
      have hi0 : (0 : Int) ≤ (k : Int) := by omega
      have hi1 : (k : Int) < (n : Int) := by omega
      go_wp2_with fail
      refine (s_IsValidD x.n x.e _ HX.out).mono ?_
      rintro e w1 ⟨rfl, b1⟩
      have hb2 := hb.trans (b1.mono hb.size)
      clear c0 c1 c2 c3 c4 hb b1
      go_wp2_with fail
      go_roundg (gk - 1)
      case measure => omega
      case rel => exact ⟨k + 1, by omega, by go_num, hb2⟩
    · go_wp2_with fail
      refine (s_QCount _ n _ q _ h1 h4 HN.out).mono ?_
      rintro e w1 ⟨rfl, rfl⟩
      go_wp2_with fail
      go_ret
      exact ⟨ret_bool (by simp; omega), hb⟩

set_option maxHeartbeats 1600000 in
theorem s_copyD (A : Option Addr) (n cap : Nat) (vs : List Dw) (w : World) (h : RdD w A n vs) (hn : n ≤ 1048576) :
    Calls Try.prog 130 #[.slice A n cap] w (Ret 83 5 (cellsD vs) n w) := by
  have H := Lib.hid h
  clear h
  go_enter Try.func130, Try.ntmps130
  go_wp2_with (at_builtin; refine wpList_app rfl (.tmp 3) (.tmp 4) 79 rfl Try.underlying79 infoDOmega rfl (by decide) rfl (World.ownsRow_lit w #[] 0 (Nat.le_refl _) (by simp [maxLen]) rfl) rfl (H.out.2.alloc _) one_cellsD (by omega) (by decide) (by simp) ?_; intro A2 c2 w2 o2 g2)
  go_ret
  try rw [Nat.zero_add] at o2
  refine ⟨A2, c2, rfl, by simpa using o2, ?_⟩
  exact below_grown (a := w) ((Below.refl _ _).alloc (Nat.le_refl _) _) (by simp) (World.ownsRow_lit w #[] 0 (size := 5) (e := 83) (Nat.le_refl _) (by simp [maxLen]) rfl) (Nat.le_refl _) g2
end Go.Proofs.Ytibhikngiceeeaa
namespace Go.Proofs.Ytibhikngiceeeaa
open Go.RowKit
set_option linter.unusedVariables false

theorem own5 {w : World} {base : Nat} {e : TypeId} {g n c : Nat} {xs : List Value} (h : w.ownsRow base e 5 (.slice (some ⟨g, 0, none⟩) n c) n xs) {k : Nat} (hk : k < n) :
    ((∃ v, w.cell? ⟨g, k * 5, none⟩ = some v) ∧ (∃ v, w.cell? ⟨g, k * 5 + 1, none⟩ = some v) ∧ (∃ v, w.cell? ⟨g, k * 5 + 2, none⟩ = some v) ∧ (∃ v, w.cell? ⟨g, k * 5 + 3, none⟩ = some v) ∧ (∃ v, w.cell? ⟨g, k * 5 + 4, none⟩ = some v)) ∧
    w.frozen? ⟨g, k * 5, none⟩ = false ∧ w.frozen? ⟨g, k * 5 + 1, none⟩ = false ∧ w.frozen? ⟨g, k * 5 + 2, none⟩ = false ∧ w.frozen? ⟨g, k * 5 + 3, none⟩ = false ∧ w.frozen? ⟨g, k * 5 + 4, none⟩ = false := by
  have hl := h.1
  have f : ∀ j, j < n * 5 → ∃ v, w.cell? ⟨g, j, none⟩ = some v := fun j hj => ⟨_, (h.cellAt j hj).trans (List.getElem?_eq_getElem (by omega))⟩
  exact ⟨⟨f _ (by omega), f _ (by omega), f _ (by omega), f _ (by omega), f _ (by omega)⟩, h.frozenAt _, h.frozenAt _, h.frozenAt _, h.frozenAt _, h.frozenAt _⟩
abbrev stAt (w : World) (g o : Nat) (y : Dw) : World := ((((w.setCell ⟨g, o, none⟩ (.int .i64 y.n.a)).setCell ⟨g, o + 1, none⟩ (.int .i64 y.n.b)).setCell ⟨g, o + 2, none⟩ (.int .i64 y.n.c)).setCell ⟨g, o + 3, none⟩ (.int .i64 y.n.d)).setCell ⟨g, o + 4, none⟩ (.int .i64 y.e)
theorem own_stAt {w : World} {base : Nat} {g n c : Nat} {vs : List Dw} (h : w.ownsRow base 83 5 (.slice (some ⟨g, 0, none⟩) n c) n (cellsD vs)) {k : Nat} (hk : k < vs.length) (y : Dw) : (stAt w g (k * 5) y).ownsRow base 83 5 (.slice (some ⟨g, 0, none⟩) n c) n (cellsD (vs.set k y)) := by
  have s1 := h.stored (k * 5) (.int .i64 y.n.a)
  have s2 := s1.1.stored (k * 5 + 1) (.int .i64 y.n.b)
  have s3 := s2.1.stored (k * 5 + 2) (.int .i64 y.n.c)
  have s4 := s3.1.stored (k * 5 + 3) (.int .i64 y.n.d)
  have s5 := s4.1.stored (k * 5 + 4) (.int .i64 y.e)
  rw [← setD hk y]
  exact s5.1
theorem below_stAt {B : Nat} {a w : World} {g o : Nat} (h : Below B a w) (hg : B ≤ g) (y : Dw) : Below B a (stAt w g o y) := ((((h.setCell hg _).setCell hg _).setCell hg _).setCell hg _).setCell hg _
set_option maxRecDepth 100000 in
theorem made_D {q : Nat} (h1 : 1 ≤ q) (h4 : q ≤ 4) : (madeCells (Value.agg #[.int .i64 0, .int .i64 0, .int .i64 0, .int .i64 0, .int .i64 0]).cells (2 ^ q * 5)).toList = cellsD (List.replicate (2 ^ q) Dw.zero) := by
  obtain rfl | rfl | rfl | rfl : q = 1 ∨ q = 2 ∨ q = 3 ∨ q = 4 := by omega
  all_goals kernel_rfl
theorem own_made (w : World) {q n : Nat} (h1 : 1 ≤ q) (h4 : q ≤ 4) (hn : n = 2 ^ q) : (w.alloc (.cells (madeCells (Value.agg #[.int .i64 0, .int .i64 0, .int .i64 0, .int .i64 0, .int .i64 0]).cells (n * 5)) 83)).ownsRow w.heap.size 83 5 (.slice (some ⟨w.heap.size, 0, none⟩) n n) n (cellsD (List.replicate n Dw.zero)) := by
  have h := World.ownsRow_lit w (e := 83) (size := 5) (madeCells (Value.agg #[.int .i64 0, .int .i64 0, .int .i64 0, .int .i64 0, .int .i64 0]).cells (n * 5)) n (Nat.le_refl _) (by have := (pow_16 h1 h4).1; unfold maxLen; omega) (by rw [size_madeCells])
  subst hn
  rw [made_D h1 h4] at h
  exact h

set_option maxHeartbeats 3200000 in
theorem s_Basis (q i : Nat) (w : World) (h1 : 1 ≤ q) (h4 : q ≤ 4) (hi : i < 2 ^ q) : Calls Try.prog 85 #[.int .i64 q, .int .i64 i] w (Ret 83 5 (cellsD (basis q i)) (2 ^ q) w) := by
  have hb : (basis q i) = (List.replicate (2 ^ q) Dw.zero).set i ⟨⟨1, 0, 0, 0⟩, 0⟩ := rfl
  have HB := Lib.hid hb
  clear hb
  obtain rfl | rfl | rfl | rfl : q = 1 ∨ q = 2 ∨ q = 3 ∨ q = 4 := by omega
  · have hn : 2 ^ 1 = 2 := by decide
    rw [hn] at hi HB ⊢
    have O0 := Lib.hid (own_made w h1 h4 hn.symm)
    have hmk : ∀ w : World, (Instr.makeSlice 79 (.int .i64 2) (.int .i64 2)).run Try.prog w = .ok (.slice (some ⟨w.heap.size, 0, none⟩) 2 2) (w.alloc (.cells (madeCells (Value.agg #[.int .i64 0, .int .i64 0, .int .i64 0, .int .i64 0, .int .i64 0]).cells (2 * 5)) 83)) := fun w => run_makeN (P := Try.prog) Try.underlying79 infoDOmega 2 (by omega) (by omega) w
    have I1 := Lib.hid (show inB 1 1 4 = true by decide)
    have I2 := Lib.hid (show inB (i : Int) 0 1 = true from inB_t (by omega) (by omega))
    clear hn
    have hi0 : (0 : Int) ≤ (i : Int) := by omega
    have hi1 : (i : Int) < 2 := by omega
    go_enter Try.func85, Try.ntmps85
    go_wp2_with fail
    refine (s_in _ _ _ _).mono ?_
    rintro e w1 ⟨rfl, rfl⟩
    rw [I1.out]
    go_wp2_with fail
    refine (s_in _ _ _ _).mono ?_
    rintro e w1 ⟨rfl, rfl⟩
    rw [I2.out]
    go_wp2_with fail
    refine (s_One _).mono ?_
    rintro e w2 ⟨rfl, b2⟩
    have O2 := Lib.hid (ownsRow_below O0.out b2)
    have B2 := Lib.hid (below_alloc b2)
    clear b2 O0
    obtain ⟨⟨⟨x0, c0⟩, ⟨x1, c1⟩, ⟨x2, c2⟩, ⟨x3, c3⟩, ⟨x4, c4⟩⟩, f0, f1, f2, f3, f4⟩ := own5 O2.out hi
    go_wp2_with fail
    go_ret
    rw [HB.out]
    exact ⟨_, _, rfl, own_stAt O2.out (by simpa using hi) ⟨⟨1, 0, 0, 0⟩, 0⟩, below_stAt B2.out (Nat.le_refl _) ⟨⟨1, 0, 0, 0⟩, 0⟩⟩
  · have hn : 2 ^ 2 = 4 := by decide
    rw [hn] at hi HB ⊢
    have O0 := Lib.hid (own_made w h1 h4 hn.symm)
    have hmk : ∀ w : World, (Instr.makeSlice 79 (.int .i64 4) (.int .i64 4)).run Try.prog w = .ok (.slice (some ⟨w.heap.size, 0, none⟩) 4 4) (w.alloc (.cells (madeCells (Value.agg #[.int .i64 0, .int .i64 0, .int .i64 0, .int .i64 0, .int .i64 0]).cells (4 * 5)) 83)) := fun w => run_makeN (P := Try.prog) Try.underlying79 infoDOmega 4 (by omega) (by omega) w
    have I1 := Lib.hid (show inB 2 1 4 = true by decide)
    have I2 := Lib.hid (show inB (i : Int) 0 3 = true from inB_t (by omega) (by omega))
    clear hn
    have hi0 : (0 : Int) ≤ (i : Int) := by omega
    have hi1 : (i : Int) < 4 := by omega
    go_enter Try.func85, Try.ntmps85
    go_wp2_with fail
    refine (s_in _ _ _ _).mono ?_
    rintro e w1 ⟨rfl, rfl⟩
    rw [I1.out]
    go_wp2_with fail
    refine (s_in _ _ _ _).mono ?_
    rintro e w1 ⟨rfl, rfl⟩
    rw [I2.out]
    go_wp2_with fail
    refine (s_One _).mono ?_
    rintro e w2 ⟨rfl, b2⟩
    have O2 := Lib.hid (ownsRow_below O0.out b2)
    have B2 := Lib.hid (below_alloc b2)
    clear b2 O0
    obtain ⟨⟨⟨x0, c0⟩, ⟨x1, c1⟩, ⟨x2, c2⟩, ⟨x3, c3⟩, ⟨x4, c4⟩⟩, f0, f1, f2, f3, f4⟩ := own5 O2.out hi
    go_wp2_with fail
    go_ret
    rw [HB.out]
    exact ⟨_, _, rfl, own_stAt O2.out (by simpa using hi) ⟨⟨1, 0, 0, 0⟩, 0⟩, below_stAt B2.out (Nat.le_refl _) ⟨⟨1, 0, 0, 0⟩, 0⟩⟩
  · have hn : 2 ^ 3 = 8 := by decide
    rw [hn] at hi HB ⊢
    have O0 := Lib.hid (own_made w h1 h4 hn.symm)
    have hmk : ∀ w : World, (Instr.makeSlice 79 (.int .i64 8) (.int .i64 8)).run Try.prog w = .ok (.slice (some ⟨w.heap.size, 0, none⟩) 8 8) (w.alloc (.cells (madeCells (Value.agg #[.int .i64 0, .int .i64 0, .int .i64 0, .int .i64 0, .int .i64 0]).cells (8 * 5)) 83)) := fun w => run_makeN (P := Try.prog) Try.underlying79 infoDOmega 8 (by omega) (by omega) w
    have I1 := Lib.hid (show inB 3 1 4 = true by decide)
    have I2 := Lib.hid (show inB (i : Int) 0 7 = true from inB_t (by omega) (by omega))
    clear hn
    have hi0 : (0 : Int) ≤ (i : Int) := by omega
    have hi1 : (i : Int) < 8 := by omega
    go_enter Try.func85, Try.ntmps85
    go_wp2_with fail
    refine (s_in _ _ _ _).mono ?_
    rintro e w1 ⟨rfl, rfl⟩
    rw [I1.out]
    go_wp2_with fail
    refine (s_in _ _ _ _).mono ?_
    rintro e w1 ⟨rfl, rfl⟩
    rw [I2.out]
    go_wp2_with fail
    refine (s_One _).mono ?_
    rintro e w2 ⟨rfl, b2⟩
    have O2 := Lib.hid (ownsRow_below O0.out b2)
    have B2 := Lib.hid (below_alloc b2)
    clear b2 O0
    obtain ⟨⟨⟨x0, c0⟩, ⟨x1, c1⟩, ⟨x2, c2⟩, ⟨x3, c3⟩, ⟨x4, c4⟩⟩, f0, f1, f2, f3, f4⟩ := own5 O2.out hi
    go_wp2_with fail
    go_ret
    rw [HB.out]
    exact ⟨_, _, rfl, own_stAt O2.out (by simpa using hi) ⟨⟨1, 0, 0, 0⟩, 0⟩, below_stAt B2.out (Nat.le_refl _) ⟨⟨1, 0, 0, 0⟩, 0⟩⟩
  · have hn : 2 ^ 4 = 16 := by decide
    rw [hn] at hi HB ⊢
    have O0 := Lib.hid (own_made w h1 h4 hn.symm)
    have hmk : ∀ w : World, (Instr.makeSlice 79 (.int .i64 16) (.int .i64 16)).run Try.prog w = .ok (.slice (some ⟨w.heap.size, 0, none⟩) 16 16) (w.alloc (.cells (madeCells (Value.agg #[.int .i64 0, .int .i64 0, .int .i64 0, .int .i64 0, .int .i64 0]).cells (16 * 5)) 83)) := fun w => run_makeN (P := Try.prog) Try.underlying79 infoDOmega 16 (by omega) (by omega) w
    have I1 := Lib.hid (show inB 4 1 4 = true by decide)
    have I2 := Lib.hid (show inB (i : Int) 0 15 = true from inB_t (by omega) (by omega))
    clear hn
    have hi0 : (0 : Int) ≤ (i : Int) := by omega
    have hi1 : (i : Int) < 16 := by omega
    go_enter Try.func85, Try.ntmps85
    go_wp2_with fail
    refine (s_in _ _ _ _).mono ?_
    rintro e w1 ⟨rfl, rfl⟩
    rw [I1.out]
    go_wp2_with fail
    refine (s_in _ _ _ _).mono ?_
    rintro e w1 ⟨rfl, rfl⟩
    rw [I2.out]
    go_wp2_with fail
    refine (s_One _).mono ?_
    rintro e w2 ⟨rfl, b2⟩
    have O2 := Lib.hid (ownsRow_below O0.out b2)
    have B2 := Lib.hid (below_alloc b2)
    clear b2 O0
    obtain ⟨⟨⟨x0, c0⟩, ⟨x1, c1⟩, ⟨x2, c2⟩, ⟨x3, c3⟩, ⟨x4, c4⟩⟩, f0, f1, f2, f3, f4⟩ := own5 O2.out hi
    go_wp2_with fail
    go_ret
    rw [HB.out]
    exact ⟨_, _, rfl, own_stAt O2.out (by simpa using hi) ⟨⟨1, 0, 0, 0⟩, 0⟩, below_stAt B2.out (Nat.le_refl _) ⟨⟨1, 0, 0, 0⟩, 0⟩⟩
end Go.Proofs.Ytibhikngiceeeaa
