/- Plain: the chosen layout costs least. Nothing is asked. -/
import Derived.Test.YtgnallcfahpjmaaRChoose
namespace Go.Proofs.YtgnallcfahpjmaaR

theorem pick_law (f : List Int → Int) : ∀ (l : List (List Int)) (best : List Int) (least : Int), (least < 0 → best = []) → (0 ≤ least → best ≠ [] ∧ f best = least ∧ isPerm best = true) → (∀ p ∈ l, p ≠ [] ∧ isPerm p = true) →
    (pick f l best least = [] ∨ isPerm (pick f l best least) = true) ∧ (∀ p ∈ l, 0 ≤ f p → pick f l best least ≠ [] ∧ f (pick f l best least) ≤ f p) ∧ (0 ≤ least → pick f l best least ≠ [] ∧ f (pick f l best least) ≤ least)
  | [], best, least, h1, h2, _ => by
    rw [pick]
    refine ⟨?_, fun p hp => absurd hp (by simp), fun h => ⟨(h2 h).1, by rw [(h2 h).2.1]; omega⟩⟩
    by_cases h : least < 0
    · exact .inl (h1 h)
    · exact .inr (h2 (by omega)).2.2
  | p :: r, best, least, h1, h2, h3 => by
    have hp := h3 p (by simp)
    have hr : ∀ q ∈ r, q ≠ [] ∧ isPerm q = true := fun q hq => h3 q (by simp [hq])
    rw [pick]
    by_cases hc : 0 ≤ f p ∧ (least < 0 ∨ f p < least)
    · rw [if_pos hc]
      obtain ⟨i1, i2, i3⟩ := pick_law f r p (f p) (fun h => absurd hc.1 (by omega)) (fun _ => ⟨hp.1, rfl, hp.2⟩) hr
      have i4 := i3 hc.1
      refine ⟨i1, ?_, fun h => ⟨i4.1, by omega⟩⟩
      intro q hq h0
      rcases List.mem_cons.1 hq with rfl | hq
      · exact i4
      · exact i2 q hq h0
    · rw [if_neg hc]
      obtain ⟨i1, i2, i3⟩ := pick_law f r best least h1 h2 hr
      refine ⟨i1, ?_, i3⟩
      intro q hq h0
      rcases List.mem_cons.1 hq with rfl | hq
      · have : 0 ≤ least ∧ least ≤ f q := by
          by_cases h4 : least < 0
          · exact absurd ⟨h0, .inl h4⟩ hc
          · exact ⟨by omega, by
              by_cases h5 : f q < least
              · exact absurd ⟨h0, .inr h5⟩ hc
              · omega⟩
        have := i3 this.1
        exact ⟨this.1, by omega⟩
      · exact i2 q hq h0
theorem choose_law (ps : List (Int × Int)) (N : Int) (gs : List Gt) :
    (choose ps N gs = [] ∨ isPerm (choose ps N gs) = true) ∧ ∀ p ∈ perms N, 0 ≤ layCost ps N p gs → choose ps N gs ≠ [] ∧ layCost ps N (choose ps N gs) gs ≤ layCost ps N p gs := by
  have h := pick_law (fun z => layCost ps N z gs) (perms N) [] (-1) (fun _ => rfl) (fun h => absurd h (by omega)) (fun p hp => ⟨by
    rintro rfl
    have := perms_ok N [] hp
    revert this
    decide, perms_ok N p hp⟩)
  exact ⟨h.1, h.2.1⟩
end Go.Proofs.YtgnallcfahpjmaaR
