/- Contracts of PhaseFactor, InvSqrt2Power, OneDOmega, NegDOmega of a constant, QubitCount, IsValidState, l6Copy, BasisState (spec). Where a partial operation is asked: it succeeds; states have 2, 4, 8 or 16 numbers. -/
import Derived.Test.YtgnallcfahpjmaaRDomH
import Derived.Deep.RegionHeld3
namespace Go.Proofs.YtgnallcfahpjmaaR
open Go.RowKit
set_option linter.unusedVariables false

theorem infoDOmega : (Try.prog.info? 138).map (fun i => (i.zero, i.size, i.bytes)) = some (some (.agg #[.int .i64 0, .int .i64 0, .int .i64 0, .int .i64 0, .int .i64 0]), 5, 40) := by kernel_rfl

set_option maxRecDepth 100000 in
set_option maxHeartbeats 6400000 in
theorem s_Phase (k : Nat) (w : World) (h : k < 8) : Calls Try.prog 132 #[.int .i64 k] w fun e w' => e = .returned (.agg #[.int .i64 (phD k).n.a, .int .i64 (phD k).n.b, .int .i64 (phD k).n.c, .int .i64 (phD k).n.d, .int .i64 (phD k).e]) ∧ Below w.heap.size w w' := by
  obtain rfl | rfl | rfl | rfl | rfl | rfl | rfl | rfl : k = 0 ∨ k = 1 ∨ k = 2 ∨ k = 3 ∨ k = 4 ∨ k = 5 ∨ k = 6 ∨ k = 7 := by omega
  all_goals
    have hB2 : ∀ o o' : Obj, Below w.heap.size w ((w.alloc o).alloc o') := fun o o' => by
      have h1 : Below w.heap.size w (w.alloc o) := (Below.refl _ _).alloc (Nat.le_refl _) _
      exact h1.alloc h1.size _
    go_enter Try.func132, Try.ntmps132
    go_wp2_with fail
  · exact bodyPost_ret (v := .agg #[.int .i64 (phD 0).n.a, .int .i64 (phD 0).n.b, .int .i64 (phD 0).n.c, .int .i64 (phD 0).n.d, .int .i64 (phD 0).e]) (by simp [results, Try.results132, go_sem, phD, phZ]) rfl ⟨rfl, hB2 _ _⟩
  · exact bodyPost_ret (v := .agg #[.int .i64 (phD 1).n.a, .int .i64 (phD 1).n.b, .int .i64 (phD 1).n.c, .int .i64 (phD 1).n.d, .int .i64 (phD 1).e]) (by simp [results, Try.results132, go_sem, phD, phZ]) rfl ⟨rfl, hB2 _ _⟩
  · exact bodyPost_ret (v := .agg #[.int .i64 (phD 2).n.a, .int .i64 (phD 2).n.b, .int .i64 (phD 2).n.c, .int .i64 (phD 2).n.d, .int .i64 (phD 2).e]) (by simp [results, Try.results132, go_sem, phD, phZ]) rfl ⟨rfl, hB2 _ _⟩
  · exact bodyPost_ret (v := .agg #[.int .i64 (phD 3).n.a, .int .i64 (phD 3).n.b, .int .i64 (phD 3).n.c, .int .i64 (phD 3).n.d, .int .i64 (phD 3).e]) (by simp [results, Try.results132, go_sem, phD, phZ]) rfl ⟨rfl, hB2 _ _⟩
  · exact bodyPost_ret (v := .agg #[.int .i64 (phD 4).n.a, .int .i64 (phD 4).n.b, .int .i64 (phD 4).n.c, .int .i64 (phD 4).n.d, .int .i64 (phD 4).e]) (by simp [results, Try.results132, go_sem, phD, phZ]) rfl ⟨rfl, hB2 _ _⟩
  · exact bodyPost_ret (v := .agg #[.int .i64 (phD 5).n.a, .int .i64 (phD 5).n.b, .int .i64 (phD 5).n.c, .int .i64 (phD 5).n.d, .int .i64 (phD 5).e]) (by simp [results, Try.results132, go_sem, phD, phZ]) rfl ⟨rfl, hB2 _ _⟩
  · exact bodyPost_ret (v := .agg #[.int .i64 (phD 6).n.a, .int .i64 (phD 6).n.b, .int .i64 (phD 6).n.c, .int .i64 (phD 6).n.d, .int .i64 (phD 6).e]) (by simp [results, Try.results132, go_sem, phD, phZ]) rfl ⟨rfl, hB2 _ _⟩
  · exact bodyPost_ret (v := .agg #[.int .i64 (phD 7).n.a, .int .i64 (phD 7).n.b, .int .i64 (phD 7).n.c, .int .i64 (phD 7).n.d, .int .i64 (phD 7).e]) (by simp [results, Try.results132, go_sem, phD, phZ]) rfl ⟨rfl, hB2 _ _⟩

set_option maxHeartbeats 1600000 in
theorem s_Isq (w : World) : Calls Try.prog 201 #[.int .i64 1] w fun e w' => e = .returned (.agg #[.int .i64 1, .int .i64 0, .int .i64 0, .int .i64 0, .int .i64 1]) ∧ Below w.heap.size w w' := by
  go_enter Try.func201, Try.ntmps201
  go_wp2_with fail
  refine (s_in _ _ _ _).mono ?_
  rintro e w1 ⟨rfl, rfl⟩
  rw [show inB 1 0 60 = true by decide]
  go_wp2_with fail
  exact bodyPost_ret (v := .agg #[.int .i64 1, .int .i64 0, .int .i64 0, .int .i64 0, .int .i64 1]) (by simp [results, Try.results201, go_sem]) rfl ⟨rfl, (Below.refl _ _).alloc (Nat.le_refl _) _⟩

set_option maxHeartbeats 1600000 in
theorem s_One (w : World) : Calls Try.prog 171 #[] w fun e w' => e = .returned (.agg #[.int .i64 1, .int .i64 0, .int .i64 0, .int .i64 0, .int .i64 0]) ∧ Below w.heap.size w w' := by
  go_enter Try.func171, Try.ntmps171
  go_wp2_with fail
  exact bodyPost_ret (v := .agg #[.int .i64 1, .int .i64 0, .int .i64 0, .int .i64 0, .int .i64 0]) (by simp [results, Try.results171, go_sem]) rfl ⟨rfl, (Below.refl _ _).alloc (Nat.le_refl _) _⟩

set_option maxHeartbeats 1600000 in
theorem s_NegZ1 (w : World) : Calls Try.prog 210 #[.agg #[.int .i64 1, .int .i64 0, .int .i64 0, .int .i64 0]] w fun e w' => e = .returned (.agg #[.int .i64 (-1), .int .i64 0, .int .i64 0, .int .i64 0]) ∧ Below w.heap.size w w' := by
  have Z0 := Lib.hid (Z2.new w ⟨1, 0, 0, 0⟩)
  go_enter Try.func210, Try.ntmps210
  go_wp2_with fail
  refine (s_IsValidZ ⟨1, 0, 0, 0⟩ _).mono ?_
  rintro e w1 ⟨rfl, b1⟩
  rw [show okZ ⟨1, 0, 0, 0⟩ = true by decide]
  have Z1 := Lib.hid (Z0.out.below b1)
  obtain ⟨p0, p1, p2, p3, _⟩ := Z1.out.1.cells
  obtain ⟨r0, r1, r2, r3, f0, f1, f2, f3⟩ := Z1.out.2.cells
  go_wp2_with fail
  obtain ⟨c0, c1, c2, c3, _⟩ := (Z1.out.2.set ⟨-1, 0, 0, 0⟩).cells
  simp only [set4] at c0 c1 c2 c3
  exact bodyPost_ret (v := .agg #[.int .i64 (-1), .int .i64 0, .int .i64 0, .int .i64 0]) (by simp [results, Try.results210, go_sem, c0, c1, c2, c3]) rfl ⟨rfl, (Z1.out.2.set ⟨-1, 0, 0, 0⟩).2.1⟩
end Go.Proofs.YtgnallcfahpjmaaR
