/- Plain: single steps of the loops over distances, and the matrix of a graph. No program in sight; nothing is asked. -/
import Derived.Test.YtibhikngiceeeaaGraphP
import Derived.Test.YtibhikngiceeeaaHasEdge
import Derived.Test.YtibhikngiceeeaaQubits
namespace Go.Proofs.Ytibhikngiceeeaa
open Go.RowKit

def mat (ps : List (Int × Int)) : List Bool := sym (coup ps 0 0) (coup ps 0 1) (coup ps 0 2) (coup ps 0 3) (coup ps 1 1) (coup ps 1 2) (coup ps 1 3) (coup ps 2 2) (coup ps 2 3) (coup ps 3 3)
theorem coup_symm (ps : List (Int × Int)) (a b : Int) : coup ps a b = coup ps b a := by unfold coup; rw [Bool.or_comm]
theorem mat_at (ps : List (Int × Int)) (x y : Nat) (hx : x < 4) (hy : y < 4) : mAt (mat ps) x y = coup ps x y := by
  have h0 : x = 0 ∨ x = 1 ∨ x = 2 ∨ x = 3 := by omega
  have h1 : y = 0 ∨ y = 1 ∨ y = 2 ∨ y = 3 := by omega
  rcases h0 with rfl | rfl | rfl | rfl <;> rcases h1 with rfl | rfl | rfl | rfl <;> first | rfl | (rw [coup_symm]; rfl)
theorem lY_step (l : List Bool) (n s x y m : Nat) (f : List Int) (h : y + m = n) (hy : y < n) : lY l n s x m f = lY l n s x (m - 1) (upd l s x y f) := by
  obtain ⟨k, rfl⟩ : ∃ k, m = k + 1 := ⟨m - 1, by omega⟩
  rw [lY, Nat.add_sub_cancel, show (n : Int) - ((k + 1 : Nat) : Int) = (y : Int) by omega]
theorem lX_step (l : List Bool) (n s x m : Nat) (f : List Int) (h : x + m = n) (hy : x < n) : lX l n s m f = lX l n s (m - 1) (lY l n s x n f) := by
  obtain ⟨k, rfl⟩ : ∃ k, m = k + 1 := ⟨m - 1, by omega⟩
  rw [lX, Nat.add_sub_cancel, show (n : Int) - ((k + 1 : Nat) : Int) = (x : Int) by omega, show ((n : Int)).toNat = n by omega]
theorem lS_step (l : List Bool) (n s m : Nat) (f : List Int) (h : s + m = n) (hy : s < n) : lS l n m f = lS l n (m - 1) (lX l n s n f) := by
  obtain ⟨k, rfl⟩ : ∃ k, m = k + 1 := ⟨m - 1, by omega⟩
  rw [lS, Nat.add_sub_cancel, show (n : Int) - ((k + 1 : Nat) : Int) = (s : Int) by omega, show ((n : Int)).toNat = n by omega]
theorem upd_len (l : List Bool) (s x y : Int) (f : List Int) : (upd l s x y f).length = f.length := by unfold upd; split <;> simp
theorem upd_no1 {l : List Bool} {s x y : Nat} {f : List Int} {fx : Int} (h : f.getD x 0 = fx) (h2 : (fx == (s : Int)) = false) : upd l s x y f = f := by
  unfold upd
  rw [show ((x : Int)).toNat = x by omega, h, h2]
  rfl
theorem upd_no2 {l : List Bool} {s x y : Nat} {f : List Int} {fy : Int} (h : f.getD y 0 = fy) (h2 : 0 ≤ fy) : upd l s x y f = f := by
  unfold upd
  rw [show ((y : Int)).toNat = y by omega, h, decide_eq_false (by omega), Bool.false_and, Bool.and_false]
  rfl
theorem upd_no3 {l : List Bool} {s x y : Nat} {f : List Int} (h : mAt l x y = false) : upd l s x y f = f := by
  unfold upd
  rw [h, Bool.and_false, Bool.and_false]
  rfl
theorem upd_yes {l : List Bool} {s x y : Nat} {f : List Int} {fx fy : Int} (h : f.getD x 0 = fx) (h2 : (fx == (s : Int)) = true) (h3 : f.getD y 0 = fy) (h4 : fy < 0) (h5 : mAt l x y = true) : upd l s x y f = f.set y ((s : Int) + 1) := by
  unfold upd
  rw [show ((x : Int)).toNat = x by omega, show ((y : Int)).toNat = y by omega, h, h2, h3, decide_eq_true h4, h5]
  rfl
theorem cell_list {w : World} {g : Nat} {t : TypeId} {f : List Int} (h : Bx w g t (cellsI f).toArray) {k : Nat} (hk : k < f.length) : w.cell? ⟨g, k, none⟩ = some (.int .i64 (f.getD k 0)) := by
  rw [h.cell k]
  simp [cellsI, hk]
theorem set_list {w : World} {g : Nat} {t : TypeId} {f : List Int} (h : Bx w g t (cellsI f).toArray) (k : Nat) (v : Int) : Bx (w.setCell ⟨g, k, none⟩ (.int .i64 v)) g t (cellsI (f.set k v)).toArray := by
  have := h.set_ k (.int .i64 v)
  simpa [cellsI, List.map_set] using this
def gd (ps : List (Int × Int)) (N a b : Int) : Int := if inB N 1 4 && (inB a 0 (N - 1) && inB b 0 (N - 1)) then gdI (mat ps) N a b else -1
end Go.Proofs.Ytibhikngiceeeaa
