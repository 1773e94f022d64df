/- Rows of numbers of D[omega] of a call's own; contract of BasisState (spec), within its range. -/
import Derived.Test.YtgnallcfahpjmaaRStB
namespace Go.Proofs.YtgnallcfahpjmaaR
open Go.RowKit
set_option linter.unusedVariables false

theorem own5 {w : World} {base : Nat} {e : TypeId} {g n c : Nat} {xs : List Value} (h : w.ownsRow base e 5 (.slice (some ⟨g, 0, none⟩) n c) n xs) {k : Nat} (hk : k < n) :
    ((∃ v, w.cell? ⟨g, k * 5, none⟩ = some v) ∧ (∃ v, w.cell? ⟨g, k * 5 + 1, none⟩ = some v) ∧ (∃ v, w.cell? ⟨g, k * 5 + 2, none⟩ = some v) ∧ (∃ v, w.cell? ⟨g, k * 5 + 3, none⟩ = some v) ∧ (∃ v, w.cell? ⟨g, k * 5 + 4, none⟩ = some v)) ∧
    w.frozen? ⟨g, k * 5, none⟩ = false ∧ w.frozen? ⟨g, k * 5 + 1, none⟩ = false ∧ w.frozen? ⟨g, k * 5 + 2, none⟩ = false ∧ w.frozen? ⟨g, k * 5 + 3, none⟩ = false ∧ w.frozen? ⟨g, k * 5 + 4, none⟩ = false := by
  have hl := h.1
  have f : ∀ j, j < n * 5 → ∃ v, w.cell? ⟨g, j, none⟩ = some v := fun j hj => ⟨_, (h.cellAt j hj).trans (List.getElem?_eq_getElem (by omega))⟩
  exact ⟨⟨f _ (by omega), f _ (by omega), f _ (by omega), f _ (by omega), f _ (by omega)⟩, h.frozenAt _, h.frozenAt _, h.frozenAt _, h.frozenAt _, h.frozenAt _⟩
abbrev stAt (w : World) (g o : Nat) (y : Dw) : World := ((((w.setCell ⟨g, o, none⟩ (.int .i64 y.n.a)).setCell ⟨g, o + 1, none⟩ (.int .i64 y.n.b)).setCell ⟨g, o + 2, none⟩ (.int .i64 y.n.c)).setCell ⟨g, o + 3, none⟩ (.int .i64 y.n.d)).setCell ⟨g, o + 4, none⟩ (.int .i64 y.e)
theorem own_stAt {w : World} {base : Nat} {g n c : Nat} {vs : List Dw} (h : w.ownsRow base 138 5 (.slice (some ⟨g, 0, none⟩) n c) n (cellsD vs)) {k : Nat} (hk : k < vs.length) (y : Dw) : (stAt w g (k * 5) y).ownsRow base 138 5 (.slice (some ⟨g, 0, none⟩) n c) n (cellsD (vs.set k y)) := by
  have s1 := h.stored (k * 5) (.int .i64 y.n.a)
  have s2 := s1.1.stored (k * 5 + 1) (.int .i64 y.n.b)
  have s3 := s2.1.stored (k * 5 + 2) (.int .i64 y.n.c)
  have s4 := s3.1.stored (k * 5 + 3) (.int .i64 y.n.d)
  have s5 := s4.1.stored (k * 5 + 4) (.int .i64 y.e)
  rw [← setD hk y]
  exact s5.1
theorem below_stAt {B : Nat} {a w : World} {g o : Nat} (h : Below B a w) (hg : B ≤ g) (y : Dw) : Below B a (stAt w g o y) := ((((h.setCell hg _).setCell hg _).setCell hg _).setCell hg _).setCell hg _
set_option maxRecDepth 100000 in
theorem made_D {q : Nat} (h1 : 1 ≤ q) (h4 : q ≤ 4) : (madeCells (Value.agg #[.int .i64 0, .int .i64 0, .int .i64 0, .int .i64 0, .int .i64 0]).cells (2 ^ q * 5)).toList = cellsD (List.replicate (2 ^ q) Dw.zero) := by
  obtain rfl | rfl | rfl | rfl : q = 1 ∨ q = 2 ∨ q = 3 ∨ q = 4 := by omega
  all_goals kernel_rfl
theorem own_made (w : World) {q n : Nat} (h1 : 1 ≤ q) (h4 : q ≤ 4) (hn : n = 2 ^ q) : (w.alloc (.cells (madeCells (Value.agg #[.int .i64 0, .int .i64 0, .int .i64 0, .int .i64 0, .int .i64 0]).cells (n * 5)) 138)).ownsRow w.heap.size 138 5 (.slice (some ⟨w.heap.size, 0, none⟩) n n) n (cellsD (List.replicate n Dw.zero)) := by
  have h := World.ownsRow_lit w (e := 138) (size := 5) (madeCells (Value.agg #[.int .i64 0, .int .i64 0, .int .i64 0, .int .i64 0, .int .i64 0]).cells (n * 5)) n (Nat.le_refl _) (by have := (pow_16 h1 h4).1; unfold maxLen; omega) (by rw [size_madeCells])
  subst hn
  rw [made_D h1 h4] at h
  exact h

set_option maxHeartbeats 3200000 in
theorem s_Basis (q i : Nat) (w : World) (h1 : 1 ≤ q) (h4 : q ≤ 4) (hi : i < 2 ^ q) : Calls Try.prog 117 #[.int .i64 q, .int .i64 i] w (Ret 138 5 (cellsD (basis q i)) (2 ^ q) w) := by
  have hb : (basis q i) = (List.replicate (2 ^ q) Dw.zero).set i ⟨⟨1, 0, 0, 0⟩, 0⟩ := rfl
  have HB := Lib.hid hb
  clear hb
  obtain rfl | rfl | rfl | rfl : q = 1 ∨ q = 2 ∨ q = 3 ∨ q = 4 := by omega
  · have hn : 2 ^ 1 = 2 := by decide
    rw [hn] at hi HB ⊢
    have O0 := Lib.hid (own_made w h1 h4 hn.symm)
    have hmk : ∀ w : World, (Instr.makeSlice 118 (.int .i64 2) (.int .i64 2)).run Try.prog w = .ok (.slice (some ⟨w.heap.size, 0, none⟩) 2 2) (w.alloc (.cells (madeCells (Value.agg #[.int .i64 0, .int .i64 0, .int .i64 0, .int .i64 0, .int .i64 0]).cells (2 * 5)) 138)) := fun w => run_makeN (P := Try.prog) Try.underlying118 infoDOmega 2 (by omega) (by omega) w
    have I1 := Lib.hid (show inB 1 1 4 = true by decide)
    have I2 := Lib.hid (show inB (i : Int) 0 1 = true from inB_t (by omega) (by omega))
    clear hn
    have hi0 : (0 : Int) ≤ (i : Int) := by omega
    have hi1 : (i : Int) < 2 := by omega
    go_enter Try.func117, Try.ntmps117
    go_wp2_with fail
    refine (s_in _ _ _ _).mono ?_
    rintro e w1 ⟨rfl, rfl⟩
    rw [I1.out]
    go_wp2_with fail
    refine (s_in _ _ _ _).mono ?_
    rintro e w1 ⟨rfl, rfl⟩
    rw [I2.out]
    go_wp2_with fail
    refine (s_One _).mono ?_
    rintro e w2 ⟨rfl, b2⟩
    have O2 := Lib.hid (ownsRow_below O0.out b2)
    have B2 := Lib.hid (below_alloc b2)
    clear b2 O0
    obtain ⟨⟨⟨x0, c0⟩, ⟨x1, c1⟩, ⟨x2, c2⟩, ⟨x3, c3⟩, ⟨x4, c4⟩⟩, f0, f1, f2, f3, f4⟩ := own5 O2.out hi
    go_wp2_with fail
    go_ret
    rw [HB.out]
    exact ⟨_, _, rfl, own_stAt O2.out (by simpa using hi) ⟨⟨1, 0, 0, 0⟩, 0⟩, below_stAt B2.out (Nat.le_refl _) ⟨⟨1, 0, 0, 0⟩, 0⟩⟩
  · have hn : 2 ^ 2 = 4 := by decide
    rw [hn] at hi HB ⊢
    have O0 := Lib.hid (own_made w h1 h4 hn.symm)
    have hmk : ∀ w : World, (Instr.makeSlice 118 (.int .i64 4) (.int .i64 4)).run Try.prog w = .ok (.slice (some ⟨w.heap.size, 0, none⟩) 4 4) (w.alloc (.cells (madeCells (Value.agg #[.int .i64 0, .int .i64 0, .int .i64 0, .int .i64 0, .int .i64 0]).cells (4 * 5)) 138)) := fun w => run_makeN (P := Try.prog) Try.underlying118 infoDOmega 4 (by omega) (by omega) w
    have I1 := Lib.hid (show inB 2 1 4 = true by decide)
    have I2 := Lib.hid (show inB (i : Int) 0 3 = true from inB_t (by omega) (by omega))
    clear hn
    have hi0 : (0 : Int) ≤ (i : Int) := by omega
    have hi1 : (i : Int) < 4 := by omega
    go_enter Try.func117, Try.ntmps117
    go_wp2_with fail
    refine (s_in _ _ _ _).mono ?_
    rintro e w1 ⟨rfl, rfl⟩
    rw [I1.out]
    go_wp2_with fail
    refine (s_in _ _ _ _).mono ?_
    rintro e w1 ⟨rfl, rfl⟩
    rw [I2.out]
    go_wp2_with fail
    refine (s_One _).mono ?_
    rintro e w2 ⟨rfl, b2⟩
    have O2 := Lib.hid (ownsRow_below O0.out b2)
    have B2 := Lib.hid (below_alloc b2)
    clear b2 O0
    obtain ⟨⟨⟨x0, c0⟩, ⟨x1, c1⟩, ⟨x2, c2⟩, ⟨x3, c3⟩, ⟨x4, c4⟩⟩, f0, f1, f2, f3, f4⟩ := own5 O2.out hi
    go_wp2_with fail
    go_ret
    rw [HB.out]
    exact ⟨_, _, rfl, own_stAt O2.out (by simpa using hi) ⟨⟨1, 0, 0, 0⟩, 0⟩, below_stAt B2.out (Nat.le_refl _) ⟨⟨1, 0, 0, 0⟩, 0⟩⟩
  · have hn : 2 ^ 3 = 8 := by decide
    rw [hn] at hi HB ⊢
    have O0 := Lib.hid (own_made w h1 h4 hn.symm)
    have hmk : ∀ w : World, (Instr.makeSlice 118 (.int .i64 8) (.int .i64 8)).run Try.prog w = .ok (.slice (some ⟨w.heap.size, 0, none⟩) 8 8) (w.alloc (.cells (madeCells (Value.agg #[.int .i64 0, .int .i64 0, .int .i64 0, .int .i64 0, .int .i64 0]).cells (8 * 5)) 138)) := fun w => run_makeN (P := Try.prog) Try.underlying118 infoDOmega 8 (by omega) (by omega) w
    have I1 := Lib.hid (show inB 3 1 4 = true by decide)
    have I2 := Lib.hid (show inB (i : Int) 0 7 = true from inB_t (by omega) (by omega))
    clear hn
    have hi0 : (0 : Int) ≤ (i : Int) := by omega
    have hi1 : (i : Int) < 8 := by omega
    go_enter Try.func117, Try.ntmps117
    go_wp2_with fail
    refine (s_in _ _ _ _).mono ?_
    rintro e w1 ⟨rfl, rfl⟩
    rw [I1.out]
    go_wp2_with fail
    refine (s_in _ _ _ _).mono ?_
    rintro e w1 ⟨rfl, rfl⟩
    rw [I2.out]
    go_wp2_with fail
    refine (s_One _).mono ?_
    rintro e w2 ⟨rfl, b2⟩
    have O2 := Lib.hid (ownsRow_below O0.out b2)
    have B2 := Lib.hid (below_alloc b2)
    clear b2 O0
    obtain ⟨⟨⟨x0, c0⟩, ⟨x1, c1⟩, ⟨x2, c2⟩, ⟨x3, c3⟩, ⟨x4, c4⟩⟩, f0, f1, f2, f3, f4⟩ := own5 O2.out hi
    go_wp2_with fail
    go_ret
    rw [HB.out]
    exact ⟨_, _, rfl, own_stAt O2.out (by simpa using hi) ⟨⟨1, 0, 0, 0⟩, 0⟩, below_stAt B2.out (Nat.le_refl _) ⟨⟨1, 0, 0, 0⟩, 0⟩⟩
  · have hn : 2 ^ 4 = 16 := by decide
    rw [hn] at hi HB ⊢
    have O0 := Lib.hid (own_made w h1 h4 hn.symm)
    have hmk : ∀ w : World, (Instr.makeSlice 118 (.int .i64 16) (.int .i64 16)).run Try.prog w = .ok (.slice (some ⟨w.heap.size, 0, none⟩) 16 16) (w.alloc (.cells (madeCells (Value.agg #[.int .i64 0, .int .i64 0, .int .i64 0, .int .i64 0, .int .i64 0]).cells (16 * 5)) 138)) := fun w => run_makeN (P := Try.prog) Try.underlying118 infoDOmega 16 (by omega) (by omega) w
    have I1 := Lib.hid (show inB 4 1 4 = true by decide)
    have I2 := Lib.hid (show inB (i : Int) 0 15 = true from inB_t (by omega) (by omega))
    clear hn
    have hi0 : (0 : Int) ≤ (i : Int) := by omega
    have hi1 : (i : Int) < 16 := by omega
    go_enter Try.func117, Try.ntmps117
    go_wp2_with fail
    refine (s_in _ _ _ _).mono ?_
    rintro e w1 ⟨rfl, rfl⟩
    rw [I1.out]
    go_wp2_with fail
    refine (s_in _ _ _ _).mono ?_
    rintro e w1 ⟨rfl, rfl⟩
    rw [I2.out]
    go_wp2_with fail
    refine (s_One _).mono ?_
    rintro e w2 ⟨rfl, b2⟩
    have O2 := Lib.hid (ownsRow_below O0.out b2)
    have B2 := Lib.hid (below_alloc b2)
    clear b2 O0
    obtain ⟨⟨⟨x0, c0⟩, ⟨x1, c1⟩, ⟨x2, c2⟩, ⟨x3, c3⟩, ⟨x4, c4⟩⟩, f0, f1, f2, f3, f4⟩ := own5 O2.out hi
    go_wp2_with fail
    go_ret
    rw [HB.out]
    exact ⟨_, _, rfl, own_stAt O2.out (by simpa using hi) ⟨⟨1, 0, 0, 0⟩, 0⟩, below_stAt B2.out (Nat.le_refl _) ⟨⟨1, 0, 0, 0⟩, 0⟩⟩
end Go.Proofs.YtgnallcfahpjmaaR
