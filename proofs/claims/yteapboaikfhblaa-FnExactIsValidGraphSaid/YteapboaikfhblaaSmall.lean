/- Contracts of the small functions on numbers and gates (spec and impl): in, Arity, RotationUnits, one, cx, copyGates. Nothing is asked; copyGates: at most 2^40 gates. -/
import Derived.Test.YteapboaikfhblaaProg
import Derived.Test.YteapboaikfhblaaGateS
import Derived.Test.YteapboaikfhblaaPlain
namespace Go.Proofs.Yteapboaikfhblaa
open Go.RowKit

theorem s_in (n lo hi : Int) (w : World) : Calls Try.prog 66 #[.int .i64 n, .int .i64 lo, .int .i64 hi] w fun e w' => e = .returned (.bool (inB n lo hi)) ∧ w = w' := by
  by_cases h1 : lo ≤ n
  · by_cases h2 : n ≤ hi
    · rw [inB_t h1 h2]
      go_enter Try.func66, Try.ntmps66
      go_wp2
      go_ret
      exact ⟨rfl, rfl⟩
    · rw [inB_f (.inr (by omega))]
      go_enter Try.func66, Try.ntmps66
      go_wp2
      go_ret
      exact ⟨rfl, rfl⟩
  · rw [inB_f (.inl (by omega))]
    go_enter Try.func66, Try.ntmps66
    go_wp2
    go_ret
    exact ⟨rfl, rfl⟩

theorem i_in (n lo hi : Int) (w : World) : Calls Try.prog 70 #[.int .i64 n, .int .i64 lo, .int .i64 hi] w fun e w' => e = .returned (.bool (inB n lo hi)) ∧ w = w' := by
  by_cases h1 : lo ≤ n
  · by_cases h2 : n ≤ hi
    · rw [inB_t h1 h2]
      go_enter Try.func70, Try.ntmps70
      go_wp2
      go_ret
      exact ⟨rfl, rfl⟩
    · rw [inB_f (.inr (by omega))]
      go_enter Try.func70, Try.ntmps70
      go_wp2
      go_ret
      exact ⟨rfl, rfl⟩
  · rw [inB_f (.inl (by omega))]
    go_enter Try.func70, Try.ntmps70
    go_wp2
    go_ret
    exact ⟨rfl, rfl⟩

theorem s_Arity (k : Int) (w : World) : Calls Try.prog 103 #[.int .i64 k] w fun e w' => e = .returned (.int .i64 (arity k)) ∧ w = w' := by
  rcases arity_cases k with ⟨h1, h2, h3⟩ | ⟨h1, h2, h3⟩ | ⟨h1, h3⟩ | ⟨h1, h3⟩
  · rw [h3]
    clear h3
    go_enter Try.func103, Try.ntmps103
    go_wp2_with fail
    refine (s_in _ _ _ _).mono ?_
    rintro e w' ⟨rfl, rfl⟩
    rw [inB_t h1 h2]
    go_wp2_with fail
    go_ret
    exact ⟨rfl, rfl⟩
  · rw [h3]
    clear h3
    go_enter Try.func103, Try.ntmps103
    go_wp2_with fail
    refine (s_in _ _ _ _).mono ?_
    rintro e w' ⟨rfl, rfl⟩
    rw [inB_f (.inr (by omega))]
    go_wp2_with fail
    refine (s_in _ _ _ _).mono ?_
    rintro e w' ⟨rfl, rfl⟩
    rw [inB_t h1 h2]
    go_wp2_with fail
    go_ret
    exact ⟨rfl, rfl⟩
  · rw [h3]
    clear h3
    subst h1
    go_enter Try.func103, Try.ntmps103
    go_wp2_with fail
    refine (s_in _ _ _ _).mono ?_
    rintro e w' ⟨rfl, rfl⟩
    rw [inB_f (.inr (by omega))]
    go_wp2_with fail
    refine (s_in _ _ _ _).mono ?_
    rintro e w' ⟨rfl, rfl⟩
    rw [inB_f (.inr (by omega))]
    go_wp2_with fail
    go_ret
    exact ⟨rfl, rfl⟩
  · rw [h3]
    clear h3
    have h4 : (k == 12) = false := by simp; omega
    go_enter Try.func103, Try.ntmps103
    go_wp2_with fail
    refine (s_in _ _ _ _).mono ?_
    rintro e w' ⟨rfl, rfl⟩
    rw [inB_f (by omega)]
    go_wp2_with fail
    refine (s_in _ _ _ _).mono ?_
    rintro e w' ⟨rfl, rfl⟩
    rw [inB_f (by omega)]
    go_wp2_with fail
    go_ret
    exact ⟨rfl, rfl⟩

theorem i_Arity (k : Int) (w : World) : Calls Try.prog 106 #[.int .i64 k] w fun e w' => e = .returned (.int .i64 (arity k)) ∧ w = w' := by
  rcases arity_cases k with ⟨h1, h2, h3⟩ | ⟨h1, h2, h3⟩ | ⟨h1, h3⟩ | ⟨h1, h3⟩
  · rw [h3]
    clear h3
    go_enter Try.func106, Try.ntmps106
    go_wp2_with fail
    refine (i_in _ _ _ _).mono ?_
    rintro e w' ⟨rfl, rfl⟩
    rw [inB_t h1 h2]
    go_wp2_with fail
    go_ret
    exact ⟨rfl, rfl⟩
  · rw [h3]
    clear h3
    go_enter Try.func106, Try.ntmps106
    go_wp2_with fail
    refine (i_in _ _ _ _).mono ?_
    rintro e w' ⟨rfl, rfl⟩
    rw [inB_f (.inr (by omega))]
    go_wp2_with fail
    refine (i_in _ _ _ _).mono ?_
    rintro e w' ⟨rfl, rfl⟩
    rw [inB_t h1 h2]
    go_wp2_with fail
    go_ret
    exact ⟨rfl, rfl⟩
  · rw [h3]
    clear h3
    subst h1
    go_enter Try.func106, Try.ntmps106
    go_wp2_with fail
    refine (i_in _ _ _ _).mono ?_
    rintro e w' ⟨rfl, rfl⟩
    rw [inB_f (.inr (by omega))]
    go_wp2_with fail
    refine (i_in _ _ _ _).mono ?_
    rintro e w' ⟨rfl, rfl⟩
    rw [inB_f (.inr (by omega))]
    go_wp2_with fail
    go_ret
    exact ⟨rfl, rfl⟩
  · rw [h3]
    clear h3
    have h4 : (k == 12) = false := by simp; omega
    go_enter Try.func106, Try.ntmps106
    go_wp2_with fail
    refine (i_in _ _ _ _).mono ?_
    rintro e w' ⟨rfl, rfl⟩
    rw [inB_f (by omega)]
    go_wp2_with fail
    refine (i_in _ _ _ _).mono ?_
    rintro e w' ⟨rfl, rfl⟩
    rw [inB_f (by omega)]
    go_wp2_with fail
    go_ret
    exact ⟨rfl, rfl⟩

theorem s_RotationUnits (k : Int) (w : World) : Calls Try.prog 105 #[.int .i64 k] w fun e w' => e = .returned (.int .i64 (units k)) ∧ w = w' := by
  rcases units_cases k with ⟨h, h3⟩ | ⟨h, h3⟩ | ⟨h, h3⟩ | ⟨h, h3⟩ | ⟨h, h3⟩ | ⟨h7, h5, h33, h6, h8, h3⟩
  iterate 5
    · rw [h3]
      clear h3
      subst h
      go_enter Try.func105, Try.ntmps105
      go_wp2
      go_ret
      exact ⟨rfl, rfl⟩
  · rw [h3]
    clear h3
    have e7 : (k == 7) = false := by simpa using h7
    have e5 : (k == 5) = false := by simpa using h5
    have e3 : (k == 3) = false := by simpa using h33
    have e6 : (k == 6) = false := by simpa using h6
    have e8 : (k == 8) = false := by simpa using h8
    go_enter Try.func105, Try.ntmps105
    go_wp2
    go_ret
    exact ⟨rfl, rfl⟩

theorem i_RotationUnits (k : Int) (w : World) : Calls Try.prog 45 #[.int .i64 k] w fun e w' => e = .returned (.int .i64 (units k)) ∧ w = w' := by
  rcases units_cases k with ⟨h, h3⟩ | ⟨h, h3⟩ | ⟨h, h3⟩ | ⟨h, h3⟩ | ⟨h, h3⟩ | ⟨h7, h5, h33, h6, h8, h3⟩
  iterate 5
    · rw [h3]
      clear h3
      subst h
      go_enter Try.func45, Try.ntmps45
      go_wp2
      go_ret
      exact ⟨rfl, rfl⟩
  · rw [h3]
    clear h3
    have e7 : (k == 7) = false := by simpa using h7
    have e5 : (k == 5) = false := by simpa using h5
    have e3 : (k == 3) = false := by simpa using h33
    have e6 : (k == 6) = false := by simpa using h6
    have e8 : (k == 8) = false := by simpa using h8
    go_enter Try.func45, Try.ntmps45
    go_wp2
    go_ret
    exact ⟨rfl, rfl⟩





end Go.Proofs.Yteapboaikfhblaa
