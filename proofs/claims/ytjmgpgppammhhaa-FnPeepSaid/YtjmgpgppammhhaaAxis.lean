/- Contracts of CommutationAxis (spec and impl). Nothing is asked. -/
import Derived.Test.YtjmgpgppammhhaaQubits
namespace Go.Proofs.Ytjmgpgppammhhaa
open Go.RowKit

def axis (k a b c q : Int) : Int :=
  if acts k a b c q = false then 0 else if units k ≠ 0 ∨ k = 10 ∨ k = 9 ∧ q = a ∨ k = 12 ∧ q ≠ c then 3 else if k = 1 ∨ k = 9 ∨ k = 12 then 1 else 2
theorem axis_no {k a b c q : Int} (h : acts k a b c q = false) : axis k a b c q = 0 := by unfold axis; rw [if_pos h]
theorem axis_3 {k a b c q : Int} (h : acts k a b c q = true) (h2 : units k ≠ 0 ∨ k = 10 ∨ k = 9 ∧ q = a ∨ k = 12 ∧ q ≠ c) : axis k a b c q = 3 := by unfold axis; rw [if_neg (by simp [h]), if_pos h2]
theorem axis_1 {k a b c q : Int} (h : acts k a b c q = true) (h2 : ¬ (units k ≠ 0 ∨ k = 10 ∨ k = 9 ∧ q = a ∨ k = 12 ∧ q ≠ c)) (h3 : k = 1 ∨ k = 9 ∨ k = 12) : axis k a b c q = 1 := by
  unfold axis; rw [if_neg (by simp [h]), if_neg h2, if_pos h3]
theorem axis_2 {k a b c q : Int} (h : acts k a b c q = true) (h2 : ¬ (units k ≠ 0 ∨ k = 10 ∨ k = 9 ∧ q = a ∨ k = 12 ∧ q ≠ c)) (h3 : ¬ (k = 1 ∨ k = 9 ∨ k = 12)) : axis k a b c q = 2 := by
  unfold axis; rw [if_neg (by simp [h]), if_neg h2, if_neg h3]
theorem axis_bd (k a b c q : Int) : 0 ≤ axis k a b c q ∧ axis k a b c q ≤ 3 := by
  unfold axis
  split
  · omega
  · split
    · omega
    · split <;> omega

set_option maxHeartbeats 1000000 in
theorem s_CommutationAxis (k a b c q : Int) (w : World) : Calls Try.prog 186 #[.agg #[.int .i64 k, .int .i64 a, .int .i64 b, .int .i64 c], .int .i64 q] w fun e w' => e = .returned (.int .i64 (axis k a b c q)) ∧ Below w.heap.size w w' := by
  cases hA : acts k a b c q
  · have HA := Lib.hid hA
    have HF := Lib.hid (axis_no hA)
    clear hA
    go_enter Try.func186, Try.ntmps186
    go_wp2_with fail
    refine (s_ActsOn _ _ _ _ _ _).mono ?_
    rintro e w1 ⟨rfl, b1⟩
    rw [HA.out]
    obtain ⟨q0, q1, q2, q3, _, _, _, _⟩ := ((Bx.new w 33 #[.int .i64 k, .int .i64 a, .int .i64 b, .int .i64 c]).below b1).four
    go_wp2_with fail
    go_ret
    exact ⟨ret_int HF.out.symm, below_alloc b1⟩
  · have HA := Lib.hid hA
    by_cases hu : units k = 0
    · have HU := Lib.hid hu
      by_cases h10 : k = 10
      · subst h10
        have HF := Lib.hid (axis_3 hA (.inr (.inl rfl)))
        clear hA hu
        go_enter Try.func186, Try.ntmps186
        go_wp2_with fail
        refine (s_ActsOn _ _ _ _ _ _).mono ?_
        rintro e w1 ⟨rfl, b1⟩
        rw [HA.out]
        obtain ⟨q0, q1, q2, q3, _, _, _, _⟩ := ((Bx.new w 33 #[.int .i64 10, .int .i64 a, .int .i64 b, .int .i64 c]).below b1).four
        go_wp2_with fail
        refine (s_RotationUnits _ _).mono ?_
        rintro e w2 ⟨rfl, rfl⟩
        rw [HU.out]
        go_wp2_with fail
        go_ret
        exact ⟨ret_int HF.out.symm, below_alloc b1⟩
      by_cases h9 : k = 9
      · subst h9
        by_cases hq : q = a
        · subst hq
          have HF := Lib.hid (axis_3 hA (.inr (.inr (.inl ⟨rfl, rfl⟩))))
          clear hA hu h10
          go_enter Try.func186, Try.ntmps186
          go_wp2_with fail
          refine (s_ActsOn _ _ _ _ _ _).mono ?_
          rintro e w1 ⟨rfl, b1⟩
          rw [HA.out]
          obtain ⟨q0, q1, q2, q3, _, _, _, _⟩ := ((Bx.new w 33 #[.int .i64 9, .int .i64 q, .int .i64 b, .int .i64 c]).below b1).four
          go_wp2_with fail
          refine (s_RotationUnits _ _).mono ?_
          rintro e w2 ⟨rfl, rfl⟩
          rw [HU.out]
          go_wp2_with fail
          go_ret
          exact ⟨ret_int HF.out.symm, below_alloc b1⟩
        · have HF := Lib.hid (axis_1 hA (by omega) (.inr (.inl rfl)))
          have e1 : (q == a) = false := by simpa using hq
          clear hA hu h10 hq
          go_enter Try.func186, Try.ntmps186
          go_wp2_with fail
          refine (s_ActsOn _ _ _ _ _ _).mono ?_
          rintro e w1 ⟨rfl, b1⟩
          rw [HA.out]
          obtain ⟨q0, q1, q2, q3, _, _, _, _⟩ := ((Bx.new w 33 #[.int .i64 9, .int .i64 a, .int .i64 b, .int .i64 c]).below b1).four
          go_wp2_with fail
          refine (s_RotationUnits _ _).mono ?_
          rintro e w2 ⟨rfl, rfl⟩
          rw [HU.out]
          go_wp2_with fail
          go_ret
          exact ⟨ret_int HF.out.symm, below_alloc b1⟩
      by_cases h12 : k = 12
      · subst h12
        by_cases hq : q = c
        · subst hq
          have HF := Lib.hid (axis_1 hA (by omega) (.inr (.inr rfl)))
          clear hA hu h10 h9
          go_enter Try.func186, Try.ntmps186
          go_wp2_with fail
          refine (s_ActsOn _ _ _ _ _ _).mono ?_
          rintro e w1 ⟨rfl, b1⟩
          rw [HA.out]
          obtain ⟨q0, q1, q2, q3, _, _, _, _⟩ := ((Bx.new w 33 #[.int .i64 12, .int .i64 a, .int .i64 b, .int .i64 q]).below b1).four
          go_wp2_with fail
          refine (s_RotationUnits _ _).mono ?_
          rintro e w2 ⟨rfl, rfl⟩
          rw [HU.out]
          go_wp2_with fail
          go_ret
          exact ⟨ret_int HF.out.symm, below_alloc b1⟩
        · have HF := Lib.hid (axis_3 hA (.inr (.inr (.inr ⟨rfl, hq⟩))))
          have e1 : (q != c) = true := by simpa using hq
          clear hA hu h10 h9 hq
          go_enter Try.func186, Try.ntmps186
          go_wp2_with fail
          refine (s_ActsOn _ _ _ _ _ _).mono ?_
          rintro e w1 ⟨rfl, b1⟩
          rw [HA.out]
          obtain ⟨q0, q1, q2, q3, _, _, _, _⟩ := ((Bx.new w 33 #[.int .i64 12, .int .i64 a, .int .i64 b, .int .i64 c]).below b1).four
          go_wp2_with fail
          refine (s_RotationUnits _ _).mono ?_
          rintro e w2 ⟨rfl, rfl⟩
          rw [HU.out]
          go_wp2_with fail
          go_ret
          exact ⟨ret_int HF.out.symm, below_alloc b1⟩
      by_cases h1 : k = 1
      · subst h1
        have HF := Lib.hid (axis_1 hA (by omega) (.inl rfl))
        clear hA hu h10 h9 h12
        go_enter Try.func186, Try.ntmps186
        go_wp2_with fail
        refine (s_ActsOn _ _ _ _ _ _).mono ?_
        rintro e w1 ⟨rfl, b1⟩
        rw [HA.out]
        obtain ⟨q0, q1, q2, q3, _, _, _, _⟩ := ((Bx.new w 33 #[.int .i64 1, .int .i64 a, .int .i64 b, .int .i64 c]).below b1).four
        go_wp2_with fail
        refine (s_RotationUnits _ _).mono ?_
        rintro e w2 ⟨rfl, rfl⟩
        rw [HU.out]
        go_wp2_with fail
        go_ret
        exact ⟨ret_int HF.out.symm, below_alloc b1⟩
      have HF := Lib.hid (axis_2 hA (by omega) (by omega))
      have e10 : (k == 10) = false := by simpa using h10
      have e9 : (k == 9) = false := by simpa using h9
      have e12 : (k == 12) = false := by simpa using h12
      have e1 : (k == 1) = false := by simpa using h1
      clear hA hu h10 h9 h12 h1
      go_enter Try.func186, Try.ntmps186
      go_wp2_with fail
      refine (s_ActsOn _ _ _ _ _ _).mono ?_
      rintro e w1 ⟨rfl, b1⟩
      rw [HA.out]
      obtain ⟨q0, q1, q2, q3, _, _, _, _⟩ := ((Bx.new w 33 #[.int .i64 k, .int .i64 a, .int .i64 b, .int .i64 c]).below b1).four
      go_wp2_with fail
      refine (s_RotationUnits _ _).mono ?_
      rintro e w2 ⟨rfl, rfl⟩
      rw [HU.out]
      go_wp2_with fail
      go_ret
      exact ⟨ret_int HF.out.symm, below_alloc b1⟩
    · have HF := Lib.hid (axis_3 hA (.inl hu))
      have hub := units_bd k
      have hu1 : 1 ≤ units k := by omega
      have hu2 : (units k != 0) = true := by simpa using hu
      clear hA hu hub
      go_enter Try.func186, Try.ntmps186
      go_wp2_with fail
      refine (s_ActsOn _ _ _ _ _ _).mono ?_
      rintro e w1 ⟨rfl, b1⟩
      rw [HA.out]
      obtain ⟨q0, q1, q2, q3, _, _, _, _⟩ := ((Bx.new w 33 #[.int .i64 k, .int .i64 a, .int .i64 b, .int .i64 c]).below b1).four
      go_wp2_with fail
      refine (s_RotationUnits _ _).mono ?_
      rintro e w2 ⟨rfl, rfl⟩
      go_wp2_with fail
      go_ret
      exact ⟨ret_int HF.out.symm, below_alloc b1⟩

set_option maxHeartbeats 1000000 in
theorem i_CommutationAxis (k a b c q : Int) (w : World) : Calls Try.prog 120 #[.agg #[.int .i64 k, .int .i64 a, .int .i64 b, .int .i64 c], .int .i64 q] w fun e w' => e = .returned (.int .i64 (axis k a b c q)) ∧ Below w.heap.size w w' := by
  cases hA : acts k a b c q
  · have HA := Lib.hid hA
    have HF := Lib.hid (axis_no hA)
    clear hA
    go_enter Try.func120, Try.ntmps120
    go_wp2_with fail
    refine (i_ActsOn _ _ _ _ _ _).mono ?_
    rintro e w1 ⟨rfl, b1⟩
    rw [HA.out]
    obtain ⟨q0, q1, q2, q3, _, _, _, _⟩ := ((Bx.new w 33 #[.int .i64 k, .int .i64 a, .int .i64 b, .int .i64 c]).below b1).four
    go_wp2_with fail
    go_ret
    exact ⟨ret_int HF.out.symm, below_alloc b1⟩
  · have HA := Lib.hid hA
    by_cases hu : units k = 0
    · have HU := Lib.hid hu
      by_cases h10 : k = 10
      · subst h10
        have HF := Lib.hid (axis_3 hA (.inr (.inl rfl)))
        clear hA hu
        go_enter Try.func120, Try.ntmps120
        go_wp2_with fail
        refine (i_ActsOn _ _ _ _ _ _).mono ?_
        rintro e w1 ⟨rfl, b1⟩
        rw [HA.out]
        obtain ⟨q0, q1, q2, q3, _, _, _, _⟩ := ((Bx.new w 33 #[.int .i64 10, .int .i64 a, .int .i64 b, .int .i64 c]).below b1).four
        go_wp2_with fail
        refine (i_RotationUnits _ _).mono ?_
        rintro e w2 ⟨rfl, rfl⟩
        rw [HU.out]
        go_wp2_with fail
        go_ret
        exact ⟨ret_int HF.out.symm, below_alloc b1⟩
      by_cases h9 : k = 9
      · subst h9
        by_cases hq : q = a
        · subst hq
          have HF := Lib.hid (axis_3 hA (.inr (.inr (.inl ⟨rfl, rfl⟩))))
          clear hA hu h10
          go_enter Try.func120, Try.ntmps120
          go_wp2_with fail
          refine (i_ActsOn _ _ _ _ _ _).mono ?_
          rintro e w1 ⟨rfl, b1⟩
          rw [HA.out]
          obtain ⟨q0, q1, q2, q3, _, _, _, _⟩ := ((Bx.new w 33 #[.int .i64 9, .int .i64 q, .int .i64 b, .int .i64 c]).below b1).four
          go_wp2_with fail
          refine (i_RotationUnits _ _).mono ?_
          rintro e w2 ⟨rfl, rfl⟩
          rw [HU.out]
          go_wp2_with fail
          go_ret
          exact ⟨ret_int HF.out.symm, below_alloc b1⟩
        · have HF := Lib.hid (axis_1 hA (by omega) (.inr (.inl rfl)))
          have e1 : (q == a) = false := by simpa using hq
          clear hA hu h10 hq
          go_enter Try.func120, Try.ntmps120
          go_wp2_with fail
          refine (i_ActsOn _ _ _ _ _ _).mono ?_
          rintro e w1 ⟨rfl, b1⟩
          rw [HA.out]
          obtain ⟨q0, q1, q2, q3, _, _, _, _⟩ := ((Bx.new w 33 #[.int .i64 9, .int .i64 a, .int .i64 b, .int .i64 c]).below b1).four
          go_wp2_with fail
          refine (i_RotationUnits _ _).mono ?_
          rintro e w2 ⟨rfl, rfl⟩
          rw [HU.out]
          go_wp2_with fail
          go_ret
          exact ⟨ret_int HF.out.symm, below_alloc b1⟩
      by_cases h12 : k = 12
      · subst h12
        by_cases hq : q = c
        · subst hq
          have HF := Lib.hid (axis_1 hA (by omega) (.inr (.inr rfl)))
          clear hA hu h10 h9
          go_enter Try.func120, Try.ntmps120
          go_wp2_with fail
          refine (i_ActsOn _ _ _ _ _ _).mono ?_
          rintro e w1 ⟨rfl, b1⟩
          rw [HA.out]
          obtain ⟨q0, q1, q2, q3, _, _, _, _⟩ := ((Bx.new w 33 #[.int .i64 12, .int .i64 a, .int .i64 b, .int .i64 q]).below b1).four
          go_wp2_with fail
          refine (i_RotationUnits _ _).mono ?_
          rintro e w2 ⟨rfl, rfl⟩
          rw [HU.out]
          go_wp2_with fail
          go_ret
          exact ⟨ret_int HF.out.symm, below_alloc b1⟩
        · have HF := Lib.hid (axis_3 hA (.inr (.inr (.inr ⟨rfl, hq⟩))))
          have e1 : (q != c) = true := by simpa using hq
          clear hA hu h10 h9 hq
          go_enter Try.func120, Try.ntmps120
          go_wp2_with fail
          refine (i_ActsOn _ _ _ _ _ _).mono ?_
          rintro e w1 ⟨rfl, b1⟩
          rw [HA.out]
          obtain ⟨q0, q1, q2, q3, _, _, _, _⟩ := ((Bx.new w 33 #[.int .i64 12, .int .i64 a, .int .i64 b, .int .i64 c]).below b1).four
          go_wp2_with fail
          refine (i_RotationUnits _ _).mono ?_
          rintro e w2 ⟨rfl, rfl⟩
          rw [HU.out]
          go_wp2_with fail
          go_ret
          exact ⟨ret_int HF.out.symm, below_alloc b1⟩
      by_cases h1 : k = 1
      · subst h1
        have HF := Lib.hid (axis_1 hA (by omega) (.inl rfl))
        clear hA hu h10 h9 h12
        go_enter Try.func120, Try.ntmps120
        go_wp2_with fail
        refine (i_ActsOn _ _ _ _ _ _).mono ?_
        rintro e w1 ⟨rfl, b1⟩
        rw [HA.out]
        obtain ⟨q0, q1, q2, q3, _, _, _, _⟩ := ((Bx.new w 33 #[.int .i64 1, .int .i64 a, .int .i64 b, .int .i64 c]).below b1).four
        go_wp2_with fail
        refine (i_RotationUnits _ _).mono ?_
        rintro e w2 ⟨rfl, rfl⟩
        rw [HU.out]
        go_wp2_with fail
        go_ret
        exact ⟨ret_int HF.out.symm, below_alloc b1⟩
      have HF := Lib.hid (axis_2 hA (by omega) (by omega))
      have e10 : (k == 10) = false := by simpa using h10
      have e9 : (k == 9) = false := by simpa using h9
      have e12 : (k == 12) = false := by simpa using h12
      have e1 : (k == 1) = false := by simpa using h1
      clear hA hu h10 h9 h12 h1
      go_enter Try.func120, Try.ntmps120
      go_wp2_with fail
      refine (i_ActsOn _ _ _ _ _ _).mono ?_
      rintro e w1 ⟨rfl, b1⟩
      rw [HA.out]
      obtain ⟨q0, q1, q2, q3, _, _, _, _⟩ := ((Bx.new w 33 #[.int .i64 k, .int .i64 a, .int .i64 b, .int .i64 c]).below b1).four
      go_wp2_with fail
      refine (i_RotationUnits _ _).mono ?_
      rintro e w2 ⟨rfl, rfl⟩
      rw [HU.out]
      go_wp2_with fail
      go_ret
      exact ⟨ret_int HF.out.symm, below_alloc b1⟩
    · have HF := Lib.hid (axis_3 hA (.inl hu))
      have hub := units_bd k
      have hu1 : 1 ≤ units k := by omega
      have hu2 : (units k != 0) = true := by simpa using hu
      clear hA hu hub
      go_enter Try.func120, Try.ntmps120
      go_wp2_with fail
      refine (i_ActsOn _ _ _ _ _ _).mono ?_
      rintro e w1 ⟨rfl, b1⟩
      rw [HA.out]
      obtain ⟨q0, q1, q2, q3, _, _, _, _⟩ := ((Bx.new w 33 #[.int .i64 k, .int .i64 a, .int .i64 b, .int .i64 c]).below b1).four
      go_wp2_with fail
      refine (i_RotationUnits _ _).mono ?_
      rintro e w2 ⟨rfl, rfl⟩
      go_wp2_with fail
      go_ret
      exact ⟨ret_int HF.out.symm, below_alloc b1⟩

end Go.Proofs.Ytjmgpgppammhhaa
