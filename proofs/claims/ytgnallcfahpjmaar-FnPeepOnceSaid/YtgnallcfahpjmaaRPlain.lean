/- Plain functions on gates: what the program's small functions compute. No program in sight; nothing is asked. -/
import Derived.Test.YtgnallcfahpjmaaRBase
namespace Go.Proofs.YtgnallcfahpjmaaR

def inB (n lo hi : Int) : Bool := decide (lo ≤ n) && decide (n ≤ hi)
theorem inB_t {n lo hi : Int} (h1 : lo ≤ n) (h2 : n ≤ hi) : inB n lo hi = true := by simp [inB, h1, h2]
theorem inB_f {n lo hi : Int} (h : n < lo ∨ hi < n) : inB n lo hi = false := by simp only [inB, Bool.and_eq_false_iff, decide_eq_false_iff_not]; omega
theorem inB_iff {n lo hi : Int} : inB n lo hi = true ↔ lo ≤ n ∧ n ≤ hi := by simp [inB]
def arity (k : Int) : Int := if 1 ≤ k ∧ k ≤ 8 then 1 else if 9 ≤ k ∧ k ≤ 11 then 2 else if k = 12 then 3 else 0
theorem arity_cases (k : Int) : (1 ≤ k ∧ k ≤ 8 ∧ arity k = 1) ∨ (9 ≤ k ∧ k ≤ 11 ∧ arity k = 2) ∨ (k = 12 ∧ arity k = 3) ∨ ((k < 1 ∨ 12 < k) ∧ arity k = 0) := by
  unfold arity
  by_cases h1 : 1 ≤ k ∧ k ≤ 8
  · rw [if_pos h1]; exact .inl ⟨h1.1, h1.2, rfl⟩
  · rw [if_neg h1]
    by_cases h2 : 9 ≤ k ∧ k ≤ 11
    · rw [if_pos h2]; exact .inr (.inl ⟨h2.1, h2.2, rfl⟩)
    · rw [if_neg h2]
      by_cases h3 : k = 12
      · rw [if_pos h3]; exact .inr (.inr (.inl ⟨h3, rfl⟩))
      · rw [if_neg h3]; exact .inr (.inr (.inr ⟨by omega, rfl⟩))
theorem arity_bd (k : Int) : 0 ≤ arity k ∧ arity k ≤ 3 := by rcases arity_cases k with h | h | h | h <;> omega
def units (k : Int) : Int := if k = 7 then 1 else if k = 5 then 2 else if k = 3 then 4 else if k = 6 then 6 else if k = 8 then 7 else 0
theorem units_cases (k : Int) : (k = 7 ∧ units k = 1) ∨ (k = 5 ∧ units k = 2) ∨ (k = 3 ∧ units k = 4) ∨ (k = 6 ∧ units k = 6) ∨ (k = 8 ∧ units k = 7) ∨ (k ≠ 7 ∧ k ≠ 5 ∧ k ≠ 3 ∧ k ≠ 6 ∧ k ≠ 8 ∧ units k = 0) := by
  unfold units
  by_cases h1 : k = 7
  · simp [h1]
  · by_cases h2 : k = 5
    · simp [h2]
    · by_cases h3 : k = 3
      · simp [h3]
      · by_cases h4 : k = 6
        · simp [h4]
        · by_cases h5 : k = 8
          · simp [h5]
          · simp [h1, h2, h3, h4, h5]
theorem units_bd (k : Int) : 0 ≤ units k ∧ units k ≤ 7 := by rcases units_cases k with h | h | h | h | h | h <;> omega
def cliff (k : Int) : Bool := decide (1 ≤ k) && decide (k ≤ 11) && !(k == 7) && !(k == 8)
theorem cliff_t {k : Int} (h1 : 1 ≤ k) (h2 : k ≤ 11) (h3 : k ≠ 7) (h4 : k ≠ 8) : cliff k = true := by simp [cliff, h1, h2, h3, h4]
theorem cliff_f {k : Int} (h : k < 1 ∨ 11 < k ∨ k = 7 ∨ k = 8) : cliff k = false := by
  rcases h with h | h | h | h
  · have : ¬ 1 ≤ k := by omega
    simp [cliff, this]
  · have : ¬ k ≤ 11 := by omega
    simp [cliff, this]
  · subst h; rfl
  · subst h; rfl
theorem cliff_cases (k : Int) : (1 ≤ k ∧ k ≤ 11 ∧ k ≠ 7 ∧ k ≠ 8 ∧ cliff k = true) ∨ ((k < 1 ∨ 11 < k ∨ k = 7 ∨ k = 8) ∧ cliff k = false) := by
  by_cases h : 1 ≤ k ∧ k ≤ 11 ∧ k ≠ 7 ∧ k ≠ 8
  · exact .inl ⟨h.1, h.2.1, h.2.2.1, h.2.2.2, cliff_t h.1 h.2.1 h.2.2.1 h.2.2.2⟩
  · exact .inr ⟨by omega, cliff_f (by omega)⟩
end Go.Proofs.YtgnallcfahpjmaaR
