/- Contracts of the laws' helpers on slices of gates: szGateS, toGate, toGateS, eqGate, eqGateS, markGateS, heldGateS. The slices have at most 2^20 gates where gates are made. -/
import Derived.Test.YthfacfnknpomcaaProg
import Derived.Test.YthfacfnknpomcaaBase
import Derived.StillTailTactics
import Derived.Outline
namespace Go.Proofs.Ythfacfnknpomcaa
open Go.RowKit

theorem infoGate : (Try.prog.info? 38).map (fun i => (i.zero, i.size, i.bytes)) = some (some (.agg #[.int .i64 0, .int .i64 0, .int .i64 0, .int .i64 0]), 4, 32) := by kernel_rfl

theorem l_szGateS (A : Option Addr) (n cap : Nat) (hn : n ≤ 9223372036854775807) (w : World) :
    Calls Try.prog 27 #[.slice A n cap, .int .i64 1048576] w fun e w' => e = .returned (.int .i64 (if n ≤ 1048576 then 1048576 - n else -1)) ∧ w = w' := by
  by_cases h : n ≤ 1048576
  · go_enter Try.func27, Try.ntmps27
    go_wp2
    go_ret
    exact ⟨ret_int (by simp), rfl⟩
  · go_enter Try.func27, Try.ntmps27
    go_wp2
    go_ret
    exact ⟨ret_int (by simp), rfl⟩

theorem l_toGate (k a b c : Int) (w : World) :
    Calls Try.prog 21 #[.agg #[.int .i64 k, .int .i64 a, .int .i64 b, .int .i64 c]] w fun e w' =>
      e = .returned (.agg #[.int .i64 k, .int .i64 a, .int .i64 b, .int .i64 c]) ∧ Below w.heap.size w w' := by
  go_enter Try.func21, Try.ntmps21
  go_wp2
  exact bodyPost_ret (v := .agg #[.int .i64 k, .int .i64 a, .int .i64 b, .int .i64 c]) (by simp [results, Try.results21, go_sem]) rfl ⟨rfl, (by repeat (first | exact Below.refl _ _ | assumption | refine Below.drew ?_ | refine Below.alloc ?_ (by simp <;> omega) _))⟩

theorem l_eqGate_same (k a b c : Int) (w : World) :
    Calls Try.prog 100 #[.agg #[.int .i64 k, .int .i64 a, .int .i64 b, .int .i64 c], .agg #[.int .i64 k, .int .i64 a, .int .i64 b, .int .i64 c]] w fun e w' =>
      e = .returned (.bool true) ∧ Below w.heap.size w w' := by
  go_enter Try.func100, Try.ntmps100
  go_wp2
  go_ret
  exact ⟨rfl, (by repeat (first | exact Below.refl _ _ | assumption | refine Below.drew ?_ | refine Below.alloc ?_ (by simp <;> omega) _))⟩

theorem setG {gs : List Gt} {k n : Nat} (hk : k < n) (xs : List Value) (hx : xs.length = n * 4) (g : Gt) (hd : gs.drop k = g :: gs.drop (k + 1)) (ht : xs.take (k * 4) = cellsG (gs.take k)) :
    ((((xs.set (k * 4) (.int .i64 g.k)).set (k * 4 + 1) (.int .i64 g.a)).set (k * 4 + 2) (.int .i64 g.b)).set (k * 4 + 3) (.int .i64 g.c)).take ((k + 1) * 4) = cellsG (gs.take (k + 1)) := by
  have e : gs.take (k + 1) = gs.take k ++ [g] := by
    have hl : k < gs.length := by
      rcases Nat.lt_or_ge k gs.length with h | h
      · exact h
      · rw [List.drop_eq_nil_of_le h] at hd; cases hd
    rw [List.take_succ_eq_append_getElem hl]
    rw [drop_cons hl] at hd
    injection hd with h1 _
    rw [h1]
  rw [e, cellsG_append, ← ht]
  have e1 : ((((xs.set (k * 4) (.int .i64 g.k)).set (k * 4 + 1) (.int .i64 g.a)).set (k * 4 + 2) (.int .i64 g.b)).set (k * 4 + 3) (.int .i64 g.c)) = xs.take (k * 4) ++ (cellsG [g] ++ xs.drop (k * 4 + 4)) := by
    obtain ⟨l, m, hl, hm⟩ : ∃ l m, l.length = k * 4 ∧ xs = l ++ m := ⟨xs.take (k * 4), xs.drop (k * 4), by rw [List.length_take, hx]; omega, by simp⟩
    subst hm
    obtain ⟨m0, m1, m2, m3, r, rfl⟩ : ∃ m0 m1 m2 m3 r, m = m0 :: m1 :: m2 :: m3 :: r := by
      have : 4 ≤ m.length := by simp at hx; omega
      match m, this with
      | m0 :: m1 :: m2 :: m3 :: r, _ => exact ⟨m0, m1, m2, m3, r, rfl⟩
    rw [← hl]
    simp [cellsG, Gt.cells]
  rw [e1, show (k + 1) * 4 = (xs.take (k * 4)).length + 4 by rw [List.length_take, hx]; omega, List.take_length_add_append]
  simp [cellsG, Gt.cells]

theorem own4 {w : World} {base : Nat} {e : TypeId} {g n c : Nat} {xs : List Value} (h : w.ownsRow base e 4 (.slice (some ⟨g, 0, none⟩) n c) n xs) {k : Nat} (hk : k < n) :
    (∃ v, w.cell? ⟨g, k * 4, none⟩ = some v) ∧ (∃ v, w.cell? ⟨g, k * 4 + 1, none⟩ = some v) ∧ (∃ v, w.cell? ⟨g, k * 4 + 2, none⟩ = some v) ∧ (∃ v, w.cell? ⟨g, k * 4 + 3, none⟩ = some v) ∧
    w.frozen? ⟨g, k * 4, none⟩ = false ∧ w.frozen? ⟨g, k * 4 + 1, none⟩ = false ∧ w.frozen? ⟨g, k * 4 + 2, none⟩ = false ∧ w.frozen? ⟨g, k * 4 + 3, none⟩ = false := by
  have hl := h.1
  have f : ∀ j, j < n * 4 → ∃ v, w.cell? ⟨g, j, none⟩ = some v := fun j hj => ⟨_, (h.cellAt j hj).trans (List.getElem?_eq_getElem (by omega))⟩
  exact ⟨f _ (by omega), f _ (by omega), f _ (by omega), f _ (by omega), h.frozenAt _, h.frozenAt _, h.frozenAt _, h.frozenAt _⟩

set_option maxHeartbeats 400000 in
theorem l_toGateS (A : Option Addr) (n cap : Nat) (gs : List Gt) (w : World) (h : RdG w A n gs) (hn : n ≤ 1048576) :
    Calls Try.prog 29 #[.slice A n cap] w (Ret 38 4 (cellsG gs) n w) := by
  have hmk := run_makeN (P := Try.prog) Try.underlying47 infoGate n (by omega) (by omega)
  have H := Lib.hid h
  clear h
  go_enter Try.func29, Try.ntmps29
  go_wp2
  clear hmk
  go_loopg [4] n (fun m i wr => ∃ k : Nat, k + m = n ∧ i = .int .i64 k ∧ Below w.heap.size w wr ∧ ∃ xs, wr.ownsRow w.heap.size 38 4 (.slice (some ⟨w.heap.size, 0, none⟩) n n) n xs ∧ xs.take (k * 4) = cellsG (gs.take k))
  case atStart =>
    refine ⟨0, by omega, rfl, (Below.refl _ _).alloc (Nat.le_refl _) _, _, World.ownsRow_lit w _ n (Nat.le_refl _) (by unfold maxLen; omega) (by rw [size_madeCells]), by simp [cellsG]⟩
  case round =>
    obtain ⟨k, hk, rfl, hb, xs, hown, ht⟩ := hrel
    have HT := Lib.hid ht
    clear ht
    by_cases hlt : k < n
    · obtain ⟨b, off, g, rfl, hB, hd, c0, c1, c2, c3⟩ := (H.out.below hb).at_ hlt
      have HD := Lib.hid hd
      clear hd
      have hoff : k * 4 + 3 < n * 4 := by omega
      go_wp2_with (go_at_call 21; refine (l_toGate _ _ _ _ _).mono ?_; rintro e w1 ⟨rfl, hb1⟩; obtain ⟨⟨x0, q0⟩, ⟨x1, q1⟩, ⟨x2, q2⟩, ⟨x3, q3⟩, z0, z1, z2, z3⟩ := own4 (ownsRow_below hown hb1) hlt)
      go_roundg (gk - 1)
      case measure => omega
      case rel =>
        have s1 := (ownsRow_below hown hb1).stored (k * 4) (.int .i64 g.k)
        have s2 := s1.1.stored (k * 4 + 1) (.int .i64 g.a)
        have s3 := s2.1.stored (k * 4 + 2) (.int .i64 g.b)
        have s4 := s3.1.stored (k * 4 + 3) (.int .i64 g.c)
        refine ⟨k + 1, by omega, by go_num, ?_, _, s4.1, setG hlt xs hown.1 g HD.out HT.out⟩
        exact ((((hb.trans (hb1.mono hb.size)).setCell (Nat.le_refl _) _).setCell (Nat.le_refl _) _).setCell (Nat.le_refl _) _).setCell (Nat.le_refl _) _
    · go_wp2
      go_ret
      have e : xs = cellsG gs := by
        have h1 := HT.out
        have h2 := H.out.1
        have h3 := hown.1
        obtain rfl : k = n := by omega
        rwa [List.take_of_length_le (by omega), List.take_of_length_le (by omega)] at h1
      exact ⟨_, _, rfl, e ▸ hown, hb⟩
end Go.Proofs.Ythfacfnknpomcaa
