/- Plain: when a list of numbers is a permutation. Nothing is asked. -/
import Derived.Test.YtibhikngiceeeaaPerm
namespace Go.Proofs.Ytibhikngiceeeaa

theorem permOk_iff (n : Int) : ∀ (r pre : List Int), permOk n pre r = true ↔ (∀ y ∈ r, 0 ≤ y ∧ y ≤ n - 1) ∧ (∀ y ∈ r, y ∉ pre) ∧ r.Nodup
  | [], pre => by simp [permOk]
  | x :: r, pre => by
    rw [permOk, Bool.and_eq_true, Bool.and_eq_true, inB_iff, permOk_iff n r (pre ++ [x])]
    have hh : (!hasI pre x) = true ↔ x ∉ pre := by
      simp [hasI]
      exact ⟨fun h hx => h x hx rfl, fun h y hy e => h (e ▸ hy)⟩
    rw [hh]
    simp only [List.mem_cons, List.nodup_cons, List.mem_append, not_or, List.not_mem_nil, or_false]
    constructor
    · rintro ⟨h1, h2, h3, h4, h5⟩
      refine ⟨?_, ?_, ?_, h5⟩
      · rintro y (rfl | hy)
        · exact h1
        · exact h3 y hy
      · rintro y (rfl | hy)
        · exact h2
        · exact (h4 y hy).1
      · exact fun hx => (h4 x hx).2 rfl
    · rintro ⟨h1, h2, h3, h4⟩
      exact ⟨h1 x (.inl rfl), h2 x (.inl rfl), fun y hy => h1 y (.inr hy), fun y hy => ⟨h2 y (.inr hy), fun e => h3 (e ▸ hy)⟩, h4⟩
theorem isPerm_iff (z : List Int) : isPerm z = true ↔ (∀ y ∈ z, 0 ≤ y ∧ y ≤ (z.length : Int) - 1) ∧ z.Nodup ∧ 1 ≤ z.length ∧ z.length ≤ 4 := by
  unfold isPerm
  rw [Bool.and_eq_true, inB_iff, permOk_iff]
  simp only [List.not_mem_nil, not_false_eq_true, implies_true, true_and]
  constructor
  · rintro ⟨h1, h2⟩
    first | exact ⟨h1.1, h1.2, by omega, by omega⟩ | exact ⟨h2.1, h2.2, by omega, by omega⟩
  · rintro ⟨h1, h2, h3, h4⟩
    first | exact ⟨⟨h1, h2⟩, by omega, by omega⟩ | exact ⟨⟨by omega, by omega⟩, h1, h2⟩
end Go.Proofs.Ytibhikngiceeeaa
