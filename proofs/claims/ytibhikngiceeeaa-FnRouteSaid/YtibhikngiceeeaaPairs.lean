/- Plain lemmas on rows of pairs that are filled place by place. Nothing is asked. Plain: the marks on a row of pairs; rows of two types lie apart. Nothing is asked. -/
import Derived.Test.YtibhikngiceeeaaBase
namespace Go.Proofs.Ytibhikngiceeeaa
open Go.RowKit
theorem setP {gs : List (Int × Int)} {k n : Nat} (hk : k < n) (xs : List Value) (hx : xs.length = n * 2) (g : Int × Int) (hd : gs.drop k = g :: gs.drop (k + 1)) (ht : xs.take (k * 2) = cellsP (gs.take k)) :
    ((xs.set (k * 2) (.int .i64 g.1)).set (k * 2 + 1) (.int .i64 g.2)).take ((k + 1) * 2) = cellsP (gs.take (k + 1)) := by
  have e : gs.take (k + 1) = gs.take k ++ [g] := by
    have hl : k < gs.length := by
      rcases Nat.lt_or_ge k gs.length with h | h
      · exact h
      · rw [List.drop_eq_nil_of_le h] at hd; cases hd
    rw [List.take_succ_eq_append_getElem hl]
    rw [drop_cons hl] at hd
    injection hd with h1 _
    rw [h1]
  rw [e, cellsP_append, ← ht]
  have e1 : ((xs.set (k * 2) (.int .i64 g.1)).set (k * 2 + 1) (.int .i64 g.2)) = xs.take (k * 2) ++ (cellsP [g] ++ xs.drop (k * 2 + 2)) := by
    obtain ⟨l, m, hl, hm⟩ : ∃ l m, l.length = k * 2 ∧ xs = l ++ m := ⟨xs.take (k * 2), xs.drop (k * 2), by rw [List.length_take, hx]; omega, by simp⟩
    subst hm
    obtain ⟨m0, m1, r, rfl⟩ : ∃ m0 m1 r, m = m0 :: m1 :: r := by
      have : 2 ≤ m.length := by simp at hx; omega
      match m, this with
      | m0 :: m1 :: r, _ => exact ⟨m0, m1, r, rfl⟩
    rw [← hl]
    simp [cellsP]
  rw [e1, show (k + 1) * 2 = (xs.take (k * 2)).length + 2 by rw [List.length_take, hx]; omega, List.take_length_add_append]
  simp [cellsP]
theorem own2 {w : World} {base : Nat} {e : TypeId} {g n c : Nat} {xs : List Value} (h : w.ownsRow base e 2 (.slice (some ⟨g, 0, none⟩) n c) n xs) {k : Nat} (hk : k < n) :
    (∃ v, w.cell? ⟨g, k * 2, none⟩ = some v) ∧ (∃ v, w.cell? ⟨g, k * 2 + 1, none⟩ = some v) ∧ w.frozen? ⟨g, k * 2, none⟩ = false ∧ w.frozen? ⟨g, k * 2 + 1, none⟩ = false := by
  have hl := h.1
  have f : ∀ j, j < n * 2 → ∃ v, w.cell? ⟨g, j, none⟩ = some v := fun j hj => ⟨_, (h.cellAt j hj).trans (List.getElem?_eq_getElem (by omega))⟩
  exact ⟨f _ (by omega), f _ (by omega), h.frozenAt _, h.frozenAt _⟩
end Go.Proofs.Ytibhikngiceeeaa
namespace Go.Proofs.Ytibhikngiceeeaa
open Go.RowKit

def markP (n : Nat) (j : Int) : List (Int × Int) := (List.range n).map fun (i : Nat) => (j + 2 * i, j + 2 * i + 1)
theorem markP_take (n k : Nat) (j : Int) (h : k ≤ n) : (markP n j).take k = markP k j := by
  simp [markP, ← List.map_take, List.take_range, Nat.min_eq_left h]
theorem markP_drop (n k : Nat) (j : Int) (h : k < n) : (markP n j).drop k = (j + 2 * k, j + 2 * k + 1) :: (markP n j).drop (k + 1) := by
  rw [drop_cons (by simpa [markP] using h)]
  simp [markP]
theorem own_types {w : World} {b1 b2 : Nat} {e1 e2 : TypeId} {s1 s2 n1 n2 : Nat} {v1 v2 : Value} {x1 x2 : List Value} (h1 : w.ownsRow b1 e1 s1 v1 n1 x1) (h2 : w.ownsRow b2 e2 s2 v2 n2 x2) (hne : e1 ≠ e2) :
    v1.ownBlock = none ∨ v1.ownBlock ≠ v2.ownBlock := by
  rcases h1.2 with ⟨rfl, _⟩ | ⟨g, cap, cur, rfl, _, hh, _⟩
  · exact .inl rfl
  · rcases h2.2 with ⟨rfl, _⟩ | ⟨g', cap', cur', rfl, _, hh', _⟩
    · exact .inr (by simp [Value.ownBlock])
    · refine .inr fun he => ?_
      have : g = g' := by simpa [Value.ownBlock] using he
      subst this
      rw [hh] at hh'
      injection hh' with hh'
      injection hh' with _ ht
      exact hne ht
end Go.Proofs.Ytibhikngiceeeaa
