/- Contracts of the laws' helpers on slices of gates: szGateS, toGate, toGateS, eqGate, eqGateS, markGateS, heldGateS. The slices have at most 2^20 gates where gates are made. -/
import Derived.Test.YtgnallcfahpjmaaRProg
import Derived.Test.YtgnallcfahpjmaaRBase
import Derived.StillTailTactics
import Derived.Outline
namespace Go.Proofs.YtgnallcfahpjmaaR
open Go.RowKit

theorem infoGate : (Try.prog.info? 63).map (fun i => (i.zero, i.size, i.bytes)) = some (some (.agg #[.int .i64 0, .int .i64 0, .int .i64 0, .int .i64 0]), 4, 32) := by kernel_rfl




theorem setG {gs : List Gt} {k n : Nat} (hk : k < n) (xs : List Value) (hx : xs.length = n * 4) (g : Gt) (hd : gs.drop k = g :: gs.drop (k + 1)) (ht : xs.take (k * 4) = cellsG (gs.take k)) :
    ((((xs.set (k * 4) (.int .i64 g.k)).set (k * 4 + 1) (.int .i64 g.a)).set (k * 4 + 2) (.int .i64 g.b)).set (k * 4 + 3) (.int .i64 g.c)).take ((k + 1) * 4) = cellsG (gs.take (k + 1)) := by
  have e : gs.take (k + 1) = gs.take k ++ [g] := by
    have hl : k < gs.length := by
      rcases Nat.lt_or_ge k gs.length with h | h
      · exact h
      · rw [List.drop_eq_nil_of_le h] at hd; cases hd
    rw [List.take_succ_eq_append_getElem hl]
    rw [drop_cons hl] at hd
    injection hd with h1 _
    rw [h1]
  rw [e, cellsG_append, ← ht]
  have e1 : ((((xs.set (k * 4) (.int .i64 g.k)).set (k * 4 + 1) (.int .i64 g.a)).set (k * 4 + 2) (.int .i64 g.b)).set (k * 4 + 3) (.int .i64 g.c)) = xs.take (k * 4) ++ (cellsG [g] ++ xs.drop (k * 4 + 4)) := by
    obtain ⟨l, m, hl, hm⟩ : ∃ l m, l.length = k * 4 ∧ xs = l ++ m := ⟨xs.take (k * 4), xs.drop (k * 4), by rw [List.length_take, hx]; omega, by simp⟩
    subst hm
    obtain ⟨m0, m1, m2, m3, r, rfl⟩ : ∃ m0 m1 m2 m3 r, m = m0 :: m1 :: m2 :: m3 :: r := by
      have : 4 ≤ m.length := by simp at hx; omega
      match m, this with
      | m0 :: m1 :: m2 :: m3 :: r, _ => exact ⟨m0, m1, m2, m3, r, rfl⟩
    rw [← hl]
    simp [cellsG, Gt.cells]
  rw [e1, show (k + 1) * 4 = (xs.take (k * 4)).length + 4 by rw [List.length_take, hx]; omega, List.take_length_add_append]
  simp [cellsG, Gt.cells]

theorem own4 {w : World} {base : Nat} {e : TypeId} {g n c : Nat} {xs : List Value} (h : w.ownsRow base e 4 (.slice (some ⟨g, 0, none⟩) n c) n xs) {k : Nat} (hk : k < n) :
    (∃ v, w.cell? ⟨g, k * 4, none⟩ = some v) ∧ (∃ v, w.cell? ⟨g, k * 4 + 1, none⟩ = some v) ∧ (∃ v, w.cell? ⟨g, k * 4 + 2, none⟩ = some v) ∧ (∃ v, w.cell? ⟨g, k * 4 + 3, none⟩ = some v) ∧
    w.frozen? ⟨g, k * 4, none⟩ = false ∧ w.frozen? ⟨g, k * 4 + 1, none⟩ = false ∧ w.frozen? ⟨g, k * 4 + 2, none⟩ = false ∧ w.frozen? ⟨g, k * 4 + 3, none⟩ = false := by
  have hl := h.1
  have f : ∀ j, j < n * 4 → ∃ v, w.cell? ⟨g, j, none⟩ = some v := fun j hj => ⟨_, (h.cellAt j hj).trans (List.getElem?_eq_getElem (by omega))⟩
  exact ⟨f _ (by omega), f _ (by omega), f _ (by omega), f _ (by omega), h.frozenAt _, h.frozenAt _, h.frozenAt _, h.frozenAt _⟩

end Go.Proofs.YtgnallcfahpjmaaR
