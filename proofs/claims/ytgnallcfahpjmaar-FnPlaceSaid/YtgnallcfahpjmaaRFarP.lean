/- Plain: the distance of a graph is symmetric and meets the triangle inequality; what a shortest way consists of. Nothing is asked. -/
import Derived.Test.YtgnallcfahpjmaaRGraphT
import Derived.Test.YtgnallcfahpjmaaRConn
import Derived.Test.YtgnallcfahpjmaaRPathP
namespace Go.Proofs.YtgnallcfahpjmaaR

theorem gd_T {ps : List (Int × Int)} {N a b : Int} (h : (1 ≤ N ∧ N ≤ 4) ∧ (0 ≤ a ∧ a < N) ∧ 0 ≤ b ∧ b < N) : triB (mat ps) N.toNat a b = true ∧ gd ps N a b = gdI (mat ps) N a b ∧ gd ps N b a = gdI (mat ps) N b a ∧ ((N.toNat : Nat) : Int) = N :=
  ⟨tri_ok _ _ _ _ _ _ _ _ _ _ N.toNat a b (by omega) (by omega) (by omega) (by omega) (by omega) (by omega), gd_in h.1.1 h.1.2 h.2.1.1 (by omega) h.2.2.1 (by omega), gd_in h.1.1 h.1.2 h.2.2.1 (by omega) h.2.1.1 (by omega), by omega⟩
theorem gd_symm (ps : List (Int × Int)) (N a b : Int) : gd ps N b a = gd ps N a b := by
  have key : ∀ x y, 0 ≤ gd ps N x y → gd ps N y x = gd ps N x y := by
    intro x y h
    obtain ⟨h1, h2, h3, h4⟩ := gd_T (ps := ps) (gd_rng h)
    unfold triB at h1
    rw [h4] at h1
    simp only [Bool.and_eq_true, beq_iff_eq] at h1
    rw [h2, h3, ← h1.1.1]
  rcases gd_sign ps N a b with h | h
  · rcases gd_sign ps N b a with h' | h'
    · rw [h, h']
    · exact (key b a h').symm
  · exact key a b h
theorem gd_tri (ps : List (Int × Int)) (N a b c : Int) (hx : 0 ≤ gd ps N a b) (hy : 0 ≤ gd ps N b c) : 0 ≤ gd ps N a c ∧ gd ps N a c ≤ gd ps N a b + gd ps N b c := by
  have r1 := gd_rng hx
  have r2 := gd_rng hy
  obtain ⟨h1, h2, h3, h4⟩ := gd_T (ps := ps) r1
  unfold triB at h1
  rw [h4] at h1
  simp only [Bool.and_eq_true, List.all_eq_true, List.mem_range] at h1
  have h5 := h1.2 c.toNat (by omega)
  have h6 : ((c.toNat : Nat) : Int) = c := by omega
  rw [h6, ← h2, ← gd_in (ps := ps) r2.1.1 r2.1.2 r2.2.1.1 (by omega) r2.2.2.1 (by omega), ← gd_in (ps := ps) r2.1.1 r2.1.2 r1.2.1.1 (by omega) r2.2.2.1 (by omega)] at h5
  simp only [Bool.or_eq_true, Bool.and_eq_true, decide_eq_true_eq] at h5
  omega
theorem gd_zero {ps : List (Int × Int)} {N a b : Int} (h : gd ps N a b = 0) : a = b := by
  obtain ⟨h1, h2, h3, h4⟩ := gd_T (ps := ps) (gd_rng (ps := ps) (N := N) (a := a) (b := b) (by omega))
  unfold triB at h1
  rw [h4] at h1
  simp only [Bool.and_eq_true] at h1
  have h5 := h1.1.2
  rw [← h2, h] at h5
  simpa using h5
theorem pS_law {ps : List (Int × Int)} {N b : Int} : ∀ (d : Nat) (a : Int), gd ps N a b = d → (a :: pS ps N b d a).getD d 0 = b ∧ ∀ i, i < d → ∃ x y, (a :: pS ps N b d a)[i]? = some x ∧ (a :: pS ps N b d a)[i + 1]? = some y ∧ coup ps x y = true ∧ gd ps N y b = (d : Int) - (i + 1 : Nat)
  | 0, a, h => ⟨by rw [List.getD_cons_zero]; exact gd_zero h, fun i hi => absurd hi (by omega)⟩
  | d + 1, a, h => by
    have hr := gd_rng (ps := ps) (N := N) (a := a) (b := b) (by omega)
    obtain ⟨n, rfl⟩ : ∃ n : Nat, N = n := ⟨N.toNat, by omega⟩
    obtain ⟨a, rfl⟩ : ∃ k : Nat, a = k := ⟨a.toNat, by omega⟩
    obtain ⟨b, rfl⟩ : ∃ k : Nat, b = k := ⟨b.toNat, by omega⟩
    obtain ⟨x, hx1, hx2, hx3, hx4⟩ := nxt_ok (by omega) (by omega) (by omega) (by omega) h
    rw [pS_step hx1]
    obtain ⟨i1, i2⟩ := pS_law d (x : Int) hx4
    refine ⟨by rw [List.getD_cons_succ]; exact i1, ?_⟩
    intro i hi
    rcases i with _ | i
    · exact ⟨(a : Int), (x : Int), rfl, rfl, hx3, by rw [hx4]; omega⟩
    · obtain ⟨u, v, j1, j2, j3, j4⟩ := i2 i (by omega)
      refine ⟨u, v, j1, j2, j3, by rw [j4]; omega⟩
theorem spath_law {ps : List (Int × Int)} {N a b : Int} {d : Nat} (h : gd ps N a b = d) : (spath ps N a b).length = d + 1 ∧ (spath ps N a b)[0]? = some a ∧ (spath ps N a b)[d]? = some b ∧ ∀ i, i < d → ∃ x y, (spath ps N a b)[i]? = some x ∧ (spath ps N a b)[i + 1]? = some y ∧ coup ps x y = true ∧ gd ps N y b = (d : Int) - (i + 1 : Nat) := by
  have e : spath ps N a b = a :: pS ps N b d a := by unfold spath; rw [if_neg (by omega), h, Int.toNat_natCast]
  obtain ⟨i1, i2⟩ := pS_law d a h
  have hl : (a :: pS ps N b d a).length = d + 1 := by rw [List.length_cons, spath_len]
  rw [e]
  refine ⟨hl, rfl, ?_, i2⟩
  rw [List.getD_eq_getElem?_getD, List.getElem?_eq_getElem (by omega), Option.getD_some] at i1
  rw [List.getElem?_eq_getElem (by omega), i1]
end Go.Proofs.YtgnallcfahpjmaaR
