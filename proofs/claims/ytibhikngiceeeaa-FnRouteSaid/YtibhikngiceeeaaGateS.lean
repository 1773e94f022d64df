/- Contracts of the laws' helpers on slices of gates: szGateS, toGate, toGateS, eqGate, eqGateS, markGateS, heldGateS. The slices have at most 2^20 gates where gates are made. Plain functions on gates: what the program's small functions compute. No program in sight; nothing is asked. Contracts of the small functions on numbers and gates (spec and impl): in, Arity, RotationUnits, one, cx, copyGates. Nothing is asked; copyGates: at most 2^40 gates. -/
import Derived.Test.YtibhikngiceeeaaProg
import Derived.Test.YtibhikngiceeeaaBase
import Derived.StillTailTactics
import Derived.Outline
namespace Go.Proofs.Ytibhikngiceeeaa
open Go.RowKit

theorem infoGate : (Try.prog.info? 55).map (fun i => (i.zero, i.size, i.bytes)) = some (some (.agg #[.int .i64 0, .int .i64 0, .int .i64 0, .int .i64 0]), 4, 32) := by kernel_rfl




theorem setG {gs : List Gt} {k n : Nat} (hk : k < n) (xs : List Value) (hx : xs.length = n * 4) (g : Gt) (hd : gs.drop k = g :: gs.drop (k + 1)) (ht : xs.take (k * 4) = cellsG (gs.take k)) :
    ((((xs.set (k * 4) (.int .i64 g.k)).set (k * 4 + 1) (.int .i64 g.a)).set (k * 4 + 2) (.int .i64 g.b)).set (k * 4 + 3) (.int .i64 g.c)).take ((k + 1) * 4) = cellsG (gs.take (k + 1)) := by
  have e : gs.take (k + 1) = gs.take k ++ [g] := by
    have hl : k < gs.length := by
      rcases Nat.lt_or_ge k gs.length with h | h
      · exact h
      · rw [List.drop_eq_nil_of_le h] at hd; cases hd
    rw [List.take_succ_eq_append_getElem hl]
    rw [drop_cons hl] at hd
    injection hd with h1 _
    rw [h1]
  rw [e, cellsG_append, ← ht]
  have e1 : ((((xs.set (k * 4) (.int .i64 g.k)).set (k * 4 + 1) (.int .i64 g.a)).set (k * 4 + 2) (.int .i64 g.b)).set (k * 4 + 3) (.int .i64 g.c)) = xs.take (k * 4) ++ (cellsG [g] ++ xs.drop (k * 4 + 4)) := by
    obtain ⟨l, m, hl, hm⟩ : ∃ l m, l.length = k * 4 ∧ xs = l ++ m := ⟨xs.take (k * 4), xs.drop (k * 4), by rw [List.length_take, hx]; omega, by simp⟩
    subst hm
    obtain ⟨m0, m1, m2, m3, r, rfl⟩ : ∃ m0 m1 m2 m3 r, m = m0 :: m1 :: m2 :: m3 :: r := by
      have : 4 ≤ m.length := by simp at hx; omega
      match m, this with
      | m0 :: m1 :: m2 :: m3 :: r, _ => exact ⟨m0, m1, m2, m3, r, rfl⟩
    rw [← hl]
    simp [cellsG, Gt.cells]
  rw [e1, show (k + 1) * 4 = (xs.take (k * 4)).length + 4 by rw [List.length_take, hx]; omega, List.take_length_add_append]
  simp [cellsG, Gt.cells]

theorem own4 {w : World} {base : Nat} {e : TypeId} {g n c : Nat} {xs : List Value} (h : w.ownsRow base e 4 (.slice (some ⟨g, 0, none⟩) n c) n xs) {k : Nat} (hk : k < n) :
    (∃ v, w.cell? ⟨g, k * 4, none⟩ = some v) ∧ (∃ v, w.cell? ⟨g, k * 4 + 1, none⟩ = some v) ∧ (∃ v, w.cell? ⟨g, k * 4 + 2, none⟩ = some v) ∧ (∃ v, w.cell? ⟨g, k * 4 + 3, none⟩ = some v) ∧
    w.frozen? ⟨g, k * 4, none⟩ = false ∧ w.frozen? ⟨g, k * 4 + 1, none⟩ = false ∧ w.frozen? ⟨g, k * 4 + 2, none⟩ = false ∧ w.frozen? ⟨g, k * 4 + 3, none⟩ = false := by
  have hl := h.1
  have f : ∀ j, j < n * 4 → ∃ v, w.cell? ⟨g, j, none⟩ = some v := fun j hj => ⟨_, (h.cellAt j hj).trans (List.getElem?_eq_getElem (by omega))⟩
  exact ⟨f _ (by omega), f _ (by omega), f _ (by omega), f _ (by omega), h.frozenAt _, h.frozenAt _, h.frozenAt _, h.frozenAt _⟩

end Go.Proofs.Ytibhikngiceeeaa
namespace Go.Proofs.Ytibhikngiceeeaa

def inB (n lo hi : Int) : Bool := decide (lo ≤ n) && decide (n ≤ hi)
theorem inB_t {n lo hi : Int} (h1 : lo ≤ n) (h2 : n ≤ hi) : inB n lo hi = true := by simp [inB, h1, h2]
theorem inB_f {n lo hi : Int} (h : n < lo ∨ hi < n) : inB n lo hi = false := by simp only [inB, Bool.and_eq_false_iff, decide_eq_false_iff_not]; omega
theorem inB_iff {n lo hi : Int} : inB n lo hi = true ↔ lo ≤ n ∧ n ≤ hi := by simp [inB]
def arity (k : Int) : Int := if 1 ≤ k ∧ k ≤ 8 then 1 else if 9 ≤ k ∧ k ≤ 11 then 2 else if k = 12 then 3 else 0
theorem arity_cases (k : Int) : (1 ≤ k ∧ k ≤ 8 ∧ arity k = 1) ∨ (9 ≤ k ∧ k ≤ 11 ∧ arity k = 2) ∨ (k = 12 ∧ arity k = 3) ∨ ((k < 1 ∨ 12 < k) ∧ arity k = 0) := by
  unfold arity
  by_cases h1 : 1 ≤ k ∧ k ≤ 8
  · rw [if_pos h1]; exact .inl ⟨h1.1, h1.2, rfl⟩
  · rw [if_neg h1]
    by_cases h2 : 9 ≤ k ∧ k ≤ 11
    · rw [if_pos h2]; exact .inr (.inl ⟨h2.1, h2.2, rfl⟩)
    · rw [if_neg h2]
      by_cases h3 : k = 12
      · rw [if_pos h3]; exact .inr (.inr (.inl ⟨h3, rfl⟩))
      · rw [if_neg h3]; exact .inr (.inr (.inr ⟨by omega, rfl⟩))
theorem arity_bd (k : Int) : 0 ≤ arity k ∧ arity k ≤ 3 := by rcases arity_cases k with h | h | h | h <;> omega
def units (k : Int) : Int := if k = 7 then 1 else if k = 5 then 2 else if k = 3 then 4 else if k = 6 then 6 else if k = 8 then 7 else 0
theorem units_cases (k : Int) : (k = 7 ∧ units k = 1) ∨ (k = 5 ∧ units k = 2) ∨ (k = 3 ∧ units k = 4) ∨ (k = 6 ∧ units k = 6) ∨ (k = 8 ∧ units k = 7) ∨ (k ≠ 7 ∧ k ≠ 5 ∧ k ≠ 3 ∧ k ≠ 6 ∧ k ≠ 8 ∧ units k = 0) := by
  unfold units
  by_cases h1 : k = 7
  · simp [h1]
  · by_cases h2 : k = 5
    · simp [h2]
    · by_cases h3 : k = 3
      · simp [h3]
      · by_cases h4 : k = 6
        · simp [h4]
        · by_cases h5 : k = 8
          · simp [h5]
          · simp [h1, h2, h3, h4, h5]
theorem units_bd (k : Int) : 0 ≤ units k ∧ units k ≤ 7 := by rcases units_cases k with h | h | h | h | h | h <;> omega
def cliff (k : Int) : Bool := decide (1 ≤ k) && decide (k ≤ 11) && !(k == 7) && !(k == 8)
theorem cliff_t {k : Int} (h1 : 1 ≤ k) (h2 : k ≤ 11) (h3 : k ≠ 7) (h4 : k ≠ 8) : cliff k = true := by simp [cliff, h1, h2, h3, h4]
theorem cliff_f {k : Int} (h : k < 1 ∨ 11 < k ∨ k = 7 ∨ k = 8) : cliff k = false := by
  rcases h with h | h | h | h
  · have : ¬ 1 ≤ k := by omega
    simp [cliff, this]
  · have : ¬ k ≤ 11 := by omega
    simp [cliff, this]
  · subst h; rfl
  · subst h; rfl
theorem cliff_cases (k : Int) : (1 ≤ k ∧ k ≤ 11 ∧ k ≠ 7 ∧ k ≠ 8 ∧ cliff k = true) ∨ ((k < 1 ∨ 11 < k ∨ k = 7 ∨ k = 8) ∧ cliff k = false) := by
  by_cases h : 1 ≤ k ∧ k ≤ 11 ∧ k ≠ 7 ∧ k ≠ 8
  · exact .inl ⟨h.1, h.2.1, h.2.2.1, h.2.2.2, cliff_t h.1 h.2.1 h.2.2.1 h.2.2.2⟩
  · exact .inr ⟨by omega, cliff_f (by omega)⟩
end Go.Proofs.Ytibhikngiceeeaa
namespace Go.Proofs.Ytibhikngiceeeaa
open Go.RowKit

theorem s_in (n lo hi : Int) (w : World) : Calls Try.prog 43 #[.int .i64 n, .int .i64 lo, .int .i64 hi] w fun e w' => e = .returned (.bool (inB n lo hi)) ∧ w = w' := by
  by_cases h1 : lo ≤ n
  · by_cases h2 : n ≤ hi
    · rw [inB_t h1 h2]
      go_enter Try.func43, Try.ntmps43
      go_wp2
      go_ret
      exact ⟨rfl, rfl⟩
    · rw [inB_f (.inr (by omega))]
      go_enter Try.func43, Try.ntmps43
      go_wp2
      go_ret
      exact ⟨rfl, rfl⟩
  · rw [inB_f (.inl (by omega))]
    go_enter Try.func43, Try.ntmps43
    go_wp2
    go_ret
    exact ⟨rfl, rfl⟩

theorem i_in (n lo hi : Int) (w : World) : Calls Try.prog 50 #[.int .i64 n, .int .i64 lo, .int .i64 hi] w fun e w' => e = .returned (.bool (inB n lo hi)) ∧ w = w' := by
  by_cases h1 : lo ≤ n
  · by_cases h2 : n ≤ hi
    · rw [inB_t h1 h2]
      go_enter Try.func50, Try.ntmps50
      go_wp2
      go_ret
      exact ⟨rfl, rfl⟩
    · rw [inB_f (.inr (by omega))]
      go_enter Try.func50, Try.ntmps50
      go_wp2
      go_ret
      exact ⟨rfl, rfl⟩
  · rw [inB_f (.inl (by omega))]
    go_enter Try.func50, Try.ntmps50
    go_wp2
    go_ret
    exact ⟨rfl, rfl⟩

theorem s_Arity (k : Int) (w : World) : Calls Try.prog 128 #[.int .i64 k] w fun e w' => e = .returned (.int .i64 (arity k)) ∧ w = w' := by
  rcases arity_cases k with ⟨h1, h2, h3⟩ | ⟨h1, h2, h3⟩ | ⟨h1, h3⟩ | ⟨h1, h3⟩
  · rw [h3]
    clear h3
    go_enter Try.func128, Try.ntmps128
    go_wp2_with fail
    refine (s_in _ _ _ _).mono ?_
    rintro e w' ⟨rfl, rfl⟩
    rw [inB_t h1 h2]
    go_wp2_with fail
    go_ret
    exact ⟨rfl, rfl⟩
  · rw [h3]
    clear h3
    go_enter Try.func128, Try.ntmps128
    go_wp2_with fail
    refine (s_in _ _ _ _).mono ?_
    rintro e w' ⟨rfl, rfl⟩
    rw [inB_f (.inr (by omega))]
    go_wp2_with fail
    refine (s_in _ _ _ _).mono ?_
    rintro e w' ⟨rfl, rfl⟩
    rw [inB_t h1 h2]
    go_wp2_with fail
    go_ret
    exact ⟨rfl, rfl⟩
  · rw [h3]
    clear h3
    subst h1
    go_enter Try.func128, Try.ntmps128
    go_wp2_with fail
    refine (s_in _ _ _ _).mono ?_
    rintro e w' ⟨rfl, rfl⟩
    rw [inB_f (.inr (by omega))]
    go_wp2_with fail
    refine (s_in _ _ _ _).mono ?_
    rintro e w' ⟨rfl, rfl⟩
    rw [inB_f (.inr (by omega))]
    go_wp2_with fail
    go_ret
    exact ⟨rfl, rfl⟩
  · rw [h3]
    clear h3
    have h4 : (k == 12) = false := by simp; omega
    go_enter Try.func128, Try.ntmps128
    go_wp2_with fail
    refine (s_in _ _ _ _).mono ?_
    rintro e w' ⟨rfl, rfl⟩
    rw [inB_f (by omega)]
    go_wp2_with fail
    refine (s_in _ _ _ _).mono ?_
    rintro e w' ⟨rfl, rfl⟩
    rw [inB_f (by omega)]
    go_wp2_with fail
    go_ret
    exact ⟨rfl, rfl⟩

theorem i_Arity (k : Int) (w : World) : Calls Try.prog 97 #[.int .i64 k] w fun e w' => e = .returned (.int .i64 (arity k)) ∧ w = w' := by
  rcases arity_cases k with ⟨h1, h2, h3⟩ | ⟨h1, h2, h3⟩ | ⟨h1, h3⟩ | ⟨h1, h3⟩
  · rw [h3]
    clear h3
    go_enter Try.func97, Try.ntmps97
    go_wp2_with fail
    refine (i_in _ _ _ _).mono ?_
    rintro e w' ⟨rfl, rfl⟩
    rw [inB_t h1 h2]
    go_wp2_with fail
    go_ret
    exact ⟨rfl, rfl⟩
  · rw [h3]
    clear h3
    go_enter Try.func97, Try.ntmps97
    go_wp2_with fail
    refine (i_in _ _ _ _).mono ?_
    rintro e w' ⟨rfl, rfl⟩
    rw [inB_f (.inr (by omega))]
    go_wp2_with fail
    refine (i_in _ _ _ _).mono ?_
    rintro e w' ⟨rfl, rfl⟩
    rw [inB_t h1 h2]
    go_wp2_with fail
    go_ret
    exact ⟨rfl, rfl⟩
  · rw [h3]
    clear h3
    subst h1
    go_enter Try.func97, Try.ntmps97
    go_wp2_with fail
    refine (i_in _ _ _ _).mono ?_
    rintro e w' ⟨rfl, rfl⟩
    rw [inB_f (.inr (by omega))]
    go_wp2_with fail
    refine (i_in _ _ _ _).mono ?_
    rintro e w' ⟨rfl, rfl⟩
    rw [inB_f (.inr (by omega))]
    go_wp2_with fail
    go_ret
    exact ⟨rfl, rfl⟩
  · rw [h3]
    clear h3
    have h4 : (k == 12) = false := by simp; omega
    go_enter Try.func97, Try.ntmps97
    go_wp2_with fail
    refine (i_in _ _ _ _).mono ?_
    rintro e w' ⟨rfl, rfl⟩
    rw [inB_f (by omega)]
    go_wp2_with fail
    refine (i_in _ _ _ _).mono ?_
    rintro e w' ⟨rfl, rfl⟩
    rw [inB_f (by omega)]
    go_wp2_with fail
    go_ret
    exact ⟨rfl, rfl⟩

theorem s_RotationUnits (k : Int) (w : World) : Calls Try.prog 117 #[.int .i64 k] w fun e w' => e = .returned (.int .i64 (units k)) ∧ w = w' := by
  rcases units_cases k with ⟨h, h3⟩ | ⟨h, h3⟩ | ⟨h, h3⟩ | ⟨h, h3⟩ | ⟨h, h3⟩ | ⟨h7, h5, h33, h6, h8, h3⟩
  iterate 5
    · rw [h3]
      clear h3
      subst h
      go_enter Try.func117, Try.ntmps117
      go_wp2
      go_ret
      exact ⟨rfl, rfl⟩
  · rw [h3]
    clear h3
    have e7 : (k == 7) = false := by simpa using h7
    have e5 : (k == 5) = false := by simpa using h5
    have e3 : (k == 3) = false := by simpa using h33
    have e6 : (k == 6) = false := by simpa using h6
    have e8 : (k == 8) = false := by simpa using h8
    go_enter Try.func117, Try.ntmps117
    go_wp2
    go_ret
    exact ⟨rfl, rfl⟩

theorem i_RotationUnits (k : Int) (w : World) : Calls Try.prog 114 #[.int .i64 k] w fun e w' => e = .returned (.int .i64 (units k)) ∧ w = w' := by
  rcases units_cases k with ⟨h, h3⟩ | ⟨h, h3⟩ | ⟨h, h3⟩ | ⟨h, h3⟩ | ⟨h, h3⟩ | ⟨h7, h5, h33, h6, h8, h3⟩
  iterate 5
    · rw [h3]
      clear h3
      subst h
      go_enter Try.func114, Try.ntmps114
      go_wp2
      go_ret
      exact ⟨rfl, rfl⟩
  · rw [h3]
    clear h3
    have e7 : (k == 7) = false := by simpa using h7
    have e5 : (k == 5) = false := by simpa using h5
    have e3 : (k == 3) = false := by simpa using h33
    have e6 : (k == 6) = false := by simpa using h6
    have e8 : (k == 8) = false := by simpa using h8
    go_enter Try.func114, Try.ntmps114
    go_wp2
    go_ret
    exact ⟨rfl, rfl⟩

theorem s_one (k a : Int) (w : World) : Calls Try.prog 147 #[.int .i64 k, .int .i64 a] w fun e w' => e = .returned (.agg #[.int .i64 k, .int .i64 a, .int .i64 0, .int .i64 0]) ∧ Below w.heap.size w w' := by
  go_enter Try.func147, Try.ntmps147
  go_wp2
  exact bodyPost_ret (v := .agg #[.int .i64 k, .int .i64 a, .int .i64 0, .int .i64 0]) (by simp [results, Try.results147, go_sem]) rfl ⟨rfl, (by repeat (first | exact Below.refl _ _ | assumption | refine Below.drew ?_ | refine Below.alloc ?_ (by simp <;> omega) _))⟩

theorem i_one (k a : Int) (w : World) : Calls Try.prog 140 #[.int .i64 k, .int .i64 a] w fun e w' => e = .returned (.agg #[.int .i64 k, .int .i64 a, .int .i64 0, .int .i64 0]) ∧ Below w.heap.size w w' := by
  go_enter Try.func140, Try.ntmps140
  go_wp2
  exact bodyPost_ret (v := .agg #[.int .i64 k, .int .i64 a, .int .i64 0, .int .i64 0]) (by simp [results, Try.results140, go_sem]) rfl ⟨rfl, (by repeat (first | exact Below.refl _ _ | assumption | refine Below.drew ?_ | refine Below.alloc ?_ (by simp <;> omega) _))⟩

theorem s_cx (k a : Int) (w : World) : Calls Try.prog 151 #[.int .i64 k, .int .i64 a] w fun e w' => e = .returned (.agg #[.int .i64 9, .int .i64 k, .int .i64 a, .int .i64 0]) ∧ Below w.heap.size w w' := by
  go_enter Try.func151, Try.ntmps151
  go_wp2
  exact bodyPost_ret (v := .agg #[.int .i64 9, .int .i64 k, .int .i64 a, .int .i64 0]) (by simp [results, Try.results151, go_sem]) rfl ⟨rfl, (by repeat (first | exact Below.refl _ _ | assumption | refine Below.drew ?_ | refine Below.alloc ?_ (by simp <;> omega) _))⟩

theorem i_cx (k a : Int) (w : World) : Calls Try.prog 144 #[.int .i64 k, .int .i64 a] w fun e w' => e = .returned (.agg #[.int .i64 9, .int .i64 k, .int .i64 a, .int .i64 0]) ∧ Below w.heap.size w w' := by
  go_enter Try.func144, Try.ntmps144
  go_wp2
  exact bodyPost_ret (v := .agg #[.int .i64 9, .int .i64 k, .int .i64 a, .int .i64 0]) (by simp [results, Try.results144, go_sem]) rfl ⟨rfl, (by repeat (first | exact Below.refl _ _ | assumption | refine Below.drew ?_ | refine Below.alloc ?_ (by simp <;> omega) _))⟩

theorem i_copyGates (A : Option Addr) (n cap : Nat) (gs : List Gt) (w : World) (h : RdG w A n gs) (hn : n ≤ 1099511627776) :
    Calls Try.prog 122 #[.slice A n cap] w (Ret 55 4 (cellsG gs) n w) := by
  have H := Lib.hid h
  clear h
  go_enter Try.func122, Try.ntmps122
  go_wp2_with (at_builtin; refine wpList_app rfl (.tmp 3) (.tmp 4) 41 rfl Try.underlying41 infoGate rfl (by decide) rfl (World.ownsRow_lit w #[] 0 (Nat.le_refl _) (by simp [maxLen]) rfl) rfl (H.out.2.alloc _) one_cellsG (by omega) (by decide) (by simp) ?_; intro A2 c2 w2 o2 g2)
  go_ret
  try rw [Nat.zero_add] at o2
  refine ⟨A2, c2, rfl, by simpa using o2, ?_⟩
  exact below_grown (a := w) ((Below.refl _ _).alloc (Nat.le_refl _) _) (by simp) (World.ownsRow_lit w #[] 0 (size := 4) (e := 55) (Nat.le_refl _) (by simp [maxLen]) rfl) (Nat.le_refl _) g2
end Go.Proofs.Ytibhikngiceeeaa
