/- Contracts of the small functions on numbers and gates (spec and impl): in, Arity, RotationUnits, one, cx, copyGates. Nothing is asked; copyGates: at most 2^40 gates. -/
import Derived.Test.YtgnallcfahpjmaaRProg
import Derived.Test.YtgnallcfahpjmaaRGateS
import Derived.Test.YtgnallcfahpjmaaRPlain
namespace Go.Proofs.YtgnallcfahpjmaaR
open Go.RowKit

theorem s_in (n lo hi : Int) (w : World) : Calls Try.prog 92 #[.int .i64 n, .int .i64 lo, .int .i64 hi] w fun e w' => e = .returned (.bool (inB n lo hi)) ∧ w = w' := by
  by_cases h1 : lo ≤ n
  · by_cases h2 : n ≤ hi
    · rw [inB_t h1 h2]
      go_enter Try.func92, Try.ntmps92
      go_wp2
      go_ret
      exact ⟨rfl, rfl⟩
    · rw [inB_f (.inr (by omega))]
      go_enter Try.func92, Try.ntmps92
      go_wp2
      go_ret
      exact ⟨rfl, rfl⟩
  · rw [inB_f (.inl (by omega))]
    go_enter Try.func92, Try.ntmps92
    go_wp2
    go_ret
    exact ⟨rfl, rfl⟩

theorem i_in (n lo hi : Int) (w : World) : Calls Try.prog 89 #[.int .i64 n, .int .i64 lo, .int .i64 hi] w fun e w' => e = .returned (.bool (inB n lo hi)) ∧ w = w' := by
  by_cases h1 : lo ≤ n
  · by_cases h2 : n ≤ hi
    · rw [inB_t h1 h2]
      go_enter Try.func89, Try.ntmps89
      go_wp2
      go_ret
      exact ⟨rfl, rfl⟩
    · rw [inB_f (.inr (by omega))]
      go_enter Try.func89, Try.ntmps89
      go_wp2
      go_ret
      exact ⟨rfl, rfl⟩
  · rw [inB_f (.inl (by omega))]
    go_enter Try.func89, Try.ntmps89
    go_wp2
    go_ret
    exact ⟨rfl, rfl⟩

theorem s_Arity (k : Int) (w : World) : Calls Try.prog 103 #[.int .i64 k] w fun e w' => e = .returned (.int .i64 (arity k)) ∧ w = w' := by
  rcases arity_cases k with ⟨h1, h2, h3⟩ | ⟨h1, h2, h3⟩ | ⟨h1, h3⟩ | ⟨h1, h3⟩
  · rw [h3]
    clear h3
    go_enter Try.func103, Try.ntmps103
    go_wp2_with fail
    refine (s_in _ _ _ _).mono ?_
    rintro e w' ⟨rfl, rfl⟩
    rw [inB_t h1 h2]
    go_wp2_with fail
    go_ret
    exact ⟨rfl, rfl⟩
  · rw [h3]
    clear h3
    go_enter Try.func103, Try.ntmps103
    go_wp2_with fail
    refine (s_in _ _ _ _).mono ?_
    rintro e w' ⟨rfl, rfl⟩
    rw [inB_f (.inr (by omega))]
    go_wp2_with fail
    refine (s_in _ _ _ _).mono ?_
    rintro e w' ⟨rfl, rfl⟩
    rw [inB_t h1 h2]
    go_wp2_with fail
    go_ret
    exact ⟨rfl, rfl⟩
  · rw [h3]
    clear h3
    subst h1
    go_enter Try.func103, Try.ntmps103
    go_wp2_with fail
    refine (s_in _ _ _ _).mono ?_
    rintro e w' ⟨rfl, rfl⟩
    rw [inB_f (.inr (by omega))]
    go_wp2_with fail
    refine (s_in _ _ _ _).mono ?_
    rintro e w' ⟨rfl, rfl⟩
    rw [inB_f (.inr (by omega))]
    go_wp2_with fail
    go_ret
    exact ⟨rfl, rfl⟩
  · rw [h3]
    clear h3
    have h4 : (k == 12) = false := by simp; omega
    go_enter Try.func103, Try.ntmps103
    go_wp2_with fail
    refine (s_in _ _ _ _).mono ?_
    rintro e w' ⟨rfl, rfl⟩
    rw [inB_f (by omega)]
    go_wp2_with fail
    refine (s_in _ _ _ _).mono ?_
    rintro e w' ⟨rfl, rfl⟩
    rw [inB_f (by omega)]
    go_wp2_with fail
    go_ret
    exact ⟨rfl, rfl⟩

theorem i_Arity (k : Int) (w : World) : Calls Try.prog 101 #[.int .i64 k] w fun e w' => e = .returned (.int .i64 (arity k)) ∧ w = w' := by
  rcases arity_cases k with ⟨h1, h2, h3⟩ | ⟨h1, h2, h3⟩ | ⟨h1, h3⟩ | ⟨h1, h3⟩
  · rw [h3]
    clear h3
    go_enter Try.func101, Try.ntmps101
    go_wp2_with fail
    refine (i_in _ _ _ _).mono ?_
    rintro e w' ⟨rfl, rfl⟩
    rw [inB_t h1 h2]
    go_wp2_with fail
    go_ret
    exact ⟨rfl, rfl⟩
  · rw [h3]
    clear h3
    go_enter Try.func101, Try.ntmps101
    go_wp2_with fail
    refine (i_in _ _ _ _).mono ?_
    rintro e w' ⟨rfl, rfl⟩
    rw [inB_f (.inr (by omega))]
    go_wp2_with fail
    refine (i_in _ _ _ _).mono ?_
    rintro e w' ⟨rfl, rfl⟩
    rw [inB_t h1 h2]
    go_wp2_with fail
    go_ret
    exact ⟨rfl, rfl⟩
  · rw [h3]
    clear h3
    subst h1
    go_enter Try.func101, Try.ntmps101
    go_wp2_with fail
    refine (i_in _ _ _ _).mono ?_
    rintro e w' ⟨rfl, rfl⟩
    rw [inB_f (.inr (by omega))]
    go_wp2_with fail
    refine (i_in _ _ _ _).mono ?_
    rintro e w' ⟨rfl, rfl⟩
    rw [inB_f (.inr (by omega))]
    go_wp2_with fail
    go_ret
    exact ⟨rfl, rfl⟩
  · rw [h3]
    clear h3
    have h4 : (k == 12) = false := by simp; omega
    go_enter Try.func101, Try.ntmps101
    go_wp2_with fail
    refine (i_in _ _ _ _).mono ?_
    rintro e w' ⟨rfl, rfl⟩
    rw [inB_f (by omega)]
    go_wp2_with fail
    refine (i_in _ _ _ _).mono ?_
    rintro e w' ⟨rfl, rfl⟩
    rw [inB_f (by omega)]
    go_wp2_with fail
    go_ret
    exact ⟨rfl, rfl⟩

theorem s_RotationUnits (k : Int) (w : World) : Calls Try.prog 84 #[.int .i64 k] w fun e w' => e = .returned (.int .i64 (units k)) ∧ w = w' := by
  rcases units_cases k with ⟨h, h3⟩ | ⟨h, h3⟩ | ⟨h, h3⟩ | ⟨h, h3⟩ | ⟨h, h3⟩ | ⟨h7, h5, h33, h6, h8, h3⟩
  iterate 5
    · rw [h3]
      clear h3
      subst h
      go_enter Try.func84, Try.ntmps84
      go_wp2
      go_ret
      exact ⟨rfl, rfl⟩
  · rw [h3]
    clear h3
    have e7 : (k == 7) = false := by simpa using h7
    have e5 : (k == 5) = false := by simpa using h5
    have e3 : (k == 3) = false := by simpa using h33
    have e6 : (k == 6) = false := by simpa using h6
    have e8 : (k == 8) = false := by simpa using h8
    go_enter Try.func84, Try.ntmps84
    go_wp2
    go_ret
    exact ⟨rfl, rfl⟩

theorem i_RotationUnits (k : Int) (w : World) : Calls Try.prog 77 #[.int .i64 k] w fun e w' => e = .returned (.int .i64 (units k)) ∧ w = w' := by
  rcases units_cases k with ⟨h, h3⟩ | ⟨h, h3⟩ | ⟨h, h3⟩ | ⟨h, h3⟩ | ⟨h, h3⟩ | ⟨h7, h5, h33, h6, h8, h3⟩
  iterate 5
    · rw [h3]
      clear h3
      subst h
      go_enter Try.func77, Try.ntmps77
      go_wp2
      go_ret
      exact ⟨rfl, rfl⟩
  · rw [h3]
    clear h3
    have e7 : (k == 7) = false := by simpa using h7
    have e5 : (k == 5) = false := by simpa using h5
    have e3 : (k == 3) = false := by simpa using h33
    have e6 : (k == 6) = false := by simpa using h6
    have e8 : (k == 8) = false := by simpa using h8
    go_enter Try.func77, Try.ntmps77
    go_wp2
    go_ret
    exact ⟨rfl, rfl⟩

theorem s_one (k a : Int) (w : World) : Calls Try.prog 154 #[.int .i64 k, .int .i64 a] w fun e w' => e = .returned (.agg #[.int .i64 k, .int .i64 a, .int .i64 0, .int .i64 0]) ∧ Below w.heap.size w w' := by
  go_enter Try.func154, Try.ntmps154
  go_wp2
  exact bodyPost_ret (v := .agg #[.int .i64 k, .int .i64 a, .int .i64 0, .int .i64 0]) (by simp [results, Try.results154, go_sem]) rfl ⟨rfl, (by repeat (first | exact Below.refl _ _ | assumption | refine Below.drew ?_ | refine Below.alloc ?_ (by simp <;> omega) _))⟩

theorem i_one (k a : Int) (w : World) : Calls Try.prog 149 #[.int .i64 k, .int .i64 a] w fun e w' => e = .returned (.agg #[.int .i64 k, .int .i64 a, .int .i64 0, .int .i64 0]) ∧ Below w.heap.size w w' := by
  go_enter Try.func149, Try.ntmps149
  go_wp2
  exact bodyPost_ret (v := .agg #[.int .i64 k, .int .i64 a, .int .i64 0, .int .i64 0]) (by simp [results, Try.results149, go_sem]) rfl ⟨rfl, (by repeat (first | exact Below.refl _ _ | assumption | refine Below.drew ?_ | refine Below.alloc ?_ (by simp <;> omega) _))⟩

theorem s_cx (k a : Int) (w : World) : Calls Try.prog 126 #[.int .i64 k, .int .i64 a] w fun e w' => e = .returned (.agg #[.int .i64 9, .int .i64 k, .int .i64 a, .int .i64 0]) ∧ Below w.heap.size w w' := by
  go_enter Try.func126, Try.ntmps126
  go_wp2
  exact bodyPost_ret (v := .agg #[.int .i64 9, .int .i64 k, .int .i64 a, .int .i64 0]) (by simp [results, Try.results126, go_sem]) rfl ⟨rfl, (by repeat (first | exact Below.refl _ _ | assumption | refine Below.drew ?_ | refine Below.alloc ?_ (by simp <;> omega) _))⟩

theorem i_cx (k a : Int) (w : World) : Calls Try.prog 125 #[.int .i64 k, .int .i64 a] w fun e w' => e = .returned (.agg #[.int .i64 9, .int .i64 k, .int .i64 a, .int .i64 0]) ∧ Below w.heap.size w w' := by
  go_enter Try.func125, Try.ntmps125
  go_wp2
  exact bodyPost_ret (v := .agg #[.int .i64 9, .int .i64 k, .int .i64 a, .int .i64 0]) (by simp [results, Try.results125, go_sem]) rfl ⟨rfl, (by repeat (first | exact Below.refl _ _ | assumption | refine Below.drew ?_ | refine Below.alloc ?_ (by simp <;> omega) _))⟩

theorem i_copyGates (A : Option Addr) (n cap : Nat) (gs : List Gt) (w : World) (h : RdG w A n gs) (hn : n ≤ 1099511627776) :
    Calls Try.prog 75 #[.slice A n cap] w (Ret 63 4 (cellsG gs) n w) := by
  have H := Lib.hid h
  clear h
  go_enter Try.func75, Try.ntmps75
  go_wp2_with (at_builtin; refine wpList_app rfl (.tmp 3) (.tmp 4) 24 rfl Try.underlying24 infoGate rfl (by decide) rfl (World.ownsRow_lit w #[] 0 (Nat.le_refl _) (by simp [maxLen]) rfl) rfl (H.out.2.alloc _) one_cellsG (by omega) (by decide) (by simp) ?_; intro A2 c2 w2 o2 g2)
  go_ret
  try rw [Nat.zero_add] at o2
  refine ⟨A2, c2, rfl, by simpa using o2, ?_⟩
  exact below_grown (a := w) ((Below.refl _ _).alloc (Nat.le_refl _) _) (by simp) (World.ownsRow_lit w #[] 0 (size := 4) (e := 63) (Nat.le_refl _) (by simp [maxLen]) rfl) (Nat.le_refl _) g2
end Go.Proofs.YtgnallcfahpjmaaR
