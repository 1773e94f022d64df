/- Contracts of IsClifford, AllClifford, GateCost (spec and impl). The lists have at most 2^40 gates. -/
import Derived.Test.YthfacfnknpomcaaSmall
namespace Go.Proofs.Ythfacfnknpomcaa
open Go.RowKit

def allCl (gs : List Gt) : Bool := gs.all fun g => cliff g.k
def costK (k : Int) : Int := if k = 7 ∨ k = 8 then 1000 else if 9 ≤ k ∧ k ≤ 12 then 10 else 1
def cost : List Gt → Int
  | [] => 0
  | g :: r => costK g.k + cost r
theorem costK_cases (k : Int) : ((k = 7 ∨ k = 8) ∧ costK k = 1000) ∨ ((9 ≤ k ∧ k ≤ 12) ∧ costK k = 10) ∨ ((k ≠ 7 ∧ k ≠ 8 ∧ (k < 9 ∨ 12 < k)) ∧ costK k = 1) := by
  unfold costK
  by_cases h : k = 7 ∨ k = 8
  · rw [if_pos h]; exact .inl ⟨h, rfl⟩
  · rw [if_neg h]
    by_cases h2 : 9 ≤ k ∧ k ≤ 12
    · rw [if_pos h2]; exact .inr (.inl ⟨h2, rfl⟩)
    · rw [if_neg h2]; exact .inr (.inr ⟨by omega, rfl⟩)
theorem cost_bd (l : List Gt) : 0 ≤ cost l ∧ cost l ≤ 1000 * l.length := by
  induction l with
  | nil => simp [cost]
  | cons g r ih => simp only [cost, List.length_cons]; rcases costK_cases g.k with ⟨_, h⟩ | ⟨_, h⟩ | ⟨_, h⟩ <;> omega
theorem cost_nil {l : List Gt} {k : Nat} (h : l.length ≤ k) : cost (l.drop k) = 0 := by rw [List.drop_eq_nil_of_le h]; rfl

theorem s_IsClifford (k a b c : Int) (w : World) :
    Calls Try.prog 125 #[.agg #[.int .i64 k, .int .i64 a, .int .i64 b, .int .i64 c]] w fun e w' => e = .returned (.bool (cliff k)) ∧ Below w.heap.size w w' := by
  rcases arity_cases k with ⟨h1, h2, ha⟩ | ⟨h1, h2, ha⟩ | ⟨h1, ha⟩ | ⟨h1, ha⟩
  · have HA := Lib.hid ha
    clear ha
    by_cases h7 : k = 7
    · subst h7
      go_enter Try.func125, Try.ntmps125
      go_wp2_with fail
      refine (s_Arity _ _).mono ?_
      rintro e w' ⟨rfl, rfl⟩
      rw [HA.out]
      go_wp2_with fail
      go_ret
      exact ⟨ret_bool rfl, (Below.refl _ _).alloc (Nat.le_refl _) _⟩
    by_cases h8 : k = 8
    · subst h8
      go_enter Try.func125, Try.ntmps125
      go_wp2_with fail
      refine (s_Arity _ _).mono ?_
      rintro e w' ⟨rfl, rfl⟩
      rw [HA.out]
      go_wp2_with fail
      go_ret
      exact ⟨ret_bool rfl, (Below.refl _ _).alloc (Nat.le_refl _) _⟩
    have e7 : (k != 7) = true := by simpa using h7
    have e8 : (k != 8) = true := by simpa using h8
    have e12 : (k != 12) = true := by simp; omega
    have hv := Lib.hid (cliff_t h1 (by omega) h7 h8)
    clear h7 h8
    go_enter Try.func125, Try.ntmps125
    go_wp2_with fail
    refine (s_Arity _ _).mono ?_
    rintro e w' ⟨rfl, rfl⟩
    rw [HA.out]
    go_wp2_with fail
    go_ret
    exact ⟨ret_bool hv.out.symm, (Below.refl _ _).alloc (Nat.le_refl _) _⟩
  · have HA := Lib.hid ha
    clear ha
    have e7 : (k != 7) = true := by simp; omega
    have e8 : (k != 8) = true := by simp; omega
    have e12 : (k != 12) = true := by simp; omega
    have hv := Lib.hid (cliff_t (k := k) (by omega) h2 (by omega) (by omega))
    go_enter Try.func125, Try.ntmps125
    go_wp2_with fail
    refine (s_Arity _ _).mono ?_
    rintro e w' ⟨rfl, rfl⟩
    rw [HA.out]
    go_wp2_with fail
    go_ret
    exact ⟨ret_bool hv.out.symm, (Below.refl _ _).alloc (Nat.le_refl _) _⟩
  · have HA := Lib.hid ha
    clear ha
    subst h1
    go_enter Try.func125, Try.ntmps125
    go_wp2_with fail
    refine (s_Arity _ _).mono ?_
    rintro e w' ⟨rfl, rfl⟩
    rw [HA.out]
    go_wp2_with fail
    go_ret
    exact ⟨ret_bool rfl, (Below.refl _ _).alloc (Nat.le_refl _) _⟩
  · have HA := Lib.hid ha
    clear ha
    have hv := Lib.hid (cliff_f (k := k) (by omega))
    go_enter Try.func125, Try.ntmps125
    go_wp2_with fail
    refine (s_Arity _ _).mono ?_
    rintro e w' ⟨rfl, rfl⟩
    rw [HA.out]
    go_wp2_with fail
    go_ret
    exact ⟨ret_bool hv.out.symm, (Below.refl _ _).alloc (Nat.le_refl _) _⟩

theorem i_IsClifford (k a b c : Int) (w : World) :
    Calls Try.prog 124 #[.agg #[.int .i64 k, .int .i64 a, .int .i64 b, .int .i64 c]] w fun e w' => e = .returned (.bool (cliff k)) ∧ Below w.heap.size w w' := by
  rcases arity_cases k with ⟨h1, h2, ha⟩ | ⟨h1, h2, ha⟩ | ⟨h1, ha⟩ | ⟨h1, ha⟩
  · have HA := Lib.hid ha
    clear ha
    by_cases h7 : k = 7
    · subst h7
      go_enter Try.func124, Try.ntmps124
      go_wp2_with fail
      refine (i_Arity _ _).mono ?_
      rintro e w' ⟨rfl, rfl⟩
      rw [HA.out]
      go_wp2_with fail
      go_ret
      exact ⟨ret_bool rfl, (Below.refl _ _).alloc (Nat.le_refl _) _⟩
    by_cases h8 : k = 8
    · subst h8
      go_enter Try.func124, Try.ntmps124
      go_wp2_with fail
      refine (i_Arity _ _).mono ?_
      rintro e w' ⟨rfl, rfl⟩
      rw [HA.out]
      go_wp2_with fail
      go_ret
      exact ⟨ret_bool rfl, (Below.refl _ _).alloc (Nat.le_refl _) _⟩
    have e7 : (k != 7) = true := by simpa using h7
    have e8 : (k != 8) = true := by simpa using h8
    have e12 : (k != 12) = true := by simp; omega
    have hv := Lib.hid (cliff_t h1 (by omega) h7 h8)
    clear h7 h8
    go_enter Try.func124, Try.ntmps124
    go_wp2_with fail
    refine (i_Arity _ _).mono ?_
    rintro e w' ⟨rfl, rfl⟩
    rw [HA.out]
    go_wp2_with fail
    go_ret
    exact ⟨ret_bool hv.out.symm, (Below.refl _ _).alloc (Nat.le_refl _) _⟩
  · have HA := Lib.hid ha
    clear ha
    have e7 : (k != 7) = true := by simp; omega
    have e8 : (k != 8) = true := by simp; omega
    have e12 : (k != 12) = true := by simp; omega
    have hv := Lib.hid (cliff_t (k := k) (by omega) h2 (by omega) (by omega))
    go_enter Try.func124, Try.ntmps124
    go_wp2_with fail
    refine (i_Arity _ _).mono ?_
    rintro e w' ⟨rfl, rfl⟩
    rw [HA.out]
    go_wp2_with fail
    go_ret
    exact ⟨ret_bool hv.out.symm, (Below.refl _ _).alloc (Nat.le_refl _) _⟩
  · have HA := Lib.hid ha
    clear ha
    subst h1
    go_enter Try.func124, Try.ntmps124
    go_wp2_with fail
    refine (i_Arity _ _).mono ?_
    rintro e w' ⟨rfl, rfl⟩
    rw [HA.out]
    go_wp2_with fail
    go_ret
    exact ⟨ret_bool rfl, (Below.refl _ _).alloc (Nat.le_refl _) _⟩
  · have HA := Lib.hid ha
    clear ha
    have hv := Lib.hid (cliff_f (k := k) (by omega))
    go_enter Try.func124, Try.ntmps124
    go_wp2_with fail
    refine (i_Arity _ _).mono ?_
    rintro e w' ⟨rfl, rfl⟩
    rw [HA.out]
    go_wp2_with fail
    go_ret
    exact ⟨ret_bool hv.out.symm, (Below.refl _ _).alloc (Nat.le_refl _) _⟩

set_option maxHeartbeats 400000 in
theorem s_AllClifford (A : Option Addr) (n cap : Nat) (gs : List Gt) (w : World) (h : RdG w A n gs) (hn : n ≤ 1099511627776) :
    Calls Try.prog 68 #[.slice A n cap] w fun e w' => e = .returned (.bool (allCl gs)) ∧ Below w.heap.size w w' := by
  have H := Lib.hid h
  clear h
  go_enter Try.func68, Try.ntmps68
  go_wp2
  go_loopg [3] n (fun m i wr => ∃ (k : Nat), k + m = n ∧ i = .int .i64 k ∧ allCl (gs.drop k) = allCl gs ∧ Below w.heap.size w wr)
  case atStart => exact ⟨0, by omega, rfl, by simp, Below.refl _ _⟩
  case round =>
    obtain ⟨k, hk, rfl, hx, hb⟩ := hrel
    have HX := Lib.hid hx
    clear hx
    by_cases hlt : k < n
    · obtain ⟨b, off, g, rfl, hB, hd, c0, c1, c2, c3⟩ := (H.out.below hb).at_ hlt
      have HD := Lib.hid hd
      clear hd
      cases hc : cliff g.k
      · have HC := Lib.hid hc
        clear hc
        go_wp2_with fail
        refine (s_IsClifford _ _ _ _ _).mono ?_
        rintro e w1 ⟨rfl, hb1⟩
        rw [HC.out]
        go_wp2_with fail
        go_ret
        exact ⟨ret_bool (by rw [← HX.out, HD.out]; simp [allCl, HC.out]), hb.trans (hb1.mono hb.size)⟩
      · have HC := Lib.hid hc
        clear hc
        go_wp2_with fail
        refine (s_IsClifford _ _ _ _ _).mono ?_
        rintro e w1 ⟨rfl, hb1⟩
        rw [HC.out]
        go_wp2_with fail
        go_roundg (gk - 1)
        case measure => omega
        case rel => exact ⟨k + 1, by omega, by go_num, by rw [← HX.out, HD.out]; simp [allCl, HC.out], hb.trans (hb1.mono hb.size)⟩
    · go_wp2_with fail
      go_ret
      exact ⟨ret_bool (by rw [← HX.out, List.drop_eq_nil_of_le (by have := H.out.1; omega)]; rfl), hb⟩

set_option maxHeartbeats 400000 in
theorem i_AllClifford (A : Option Addr) (n cap : Nat) (gs : List Gt) (w : World) (h : RdG w A n gs) (hn : n ≤ 1099511627776) :
    Calls Try.prog 67 #[.slice A n cap] w fun e w' => e = .returned (.bool (allCl gs)) ∧ Below w.heap.size w w' := by
  have H := Lib.hid h
  clear h
  go_enter Try.func67, Try.ntmps67
  go_wp2
  go_loopg [7] n (fun m i wr => ∃ (k : Nat), k + m = n ∧ i = .int .i64 k ∧ allCl (gs.drop k) = allCl gs ∧ Below w.heap.size w wr)
  case atStart => exact ⟨0, by omega, rfl, by simp, Below.refl _ _⟩
  case round =>
    obtain ⟨k, hk, rfl, hx, hb⟩ := hrel
    have HX := Lib.hid hx
    clear hx
    by_cases hlt : k < n
    · obtain ⟨b, off, g, rfl, hB, hd, c0, c1, c2, c3⟩ := (H.out.below hb).at_ hlt
      have HD := Lib.hid hd
      clear hd
      cases hc : cliff g.k
      · have HC := Lib.hid hc
        clear hc
        go_wp2_with fail
        refine (i_IsClifford _ _ _ _ _).mono ?_
        rintro e w1 ⟨rfl, hb1⟩
        rw [HC.out]
        go_wp2_with fail
        go_ret
        exact ⟨ret_bool (by rw [← HX.out, HD.out]; simp [allCl, HC.out]), hb.trans ((below_alloc hb1).mono hb.size)⟩
      · have HC := Lib.hid hc
        clear hc
        go_wp2_with fail
        refine (i_IsClifford _ _ _ _ _).mono ?_
        rintro e w1 ⟨rfl, hb1⟩
        rw [HC.out]
        go_wp2_with fail
        go_roundg (gk - 1)
        case measure => omega
        case rel => exact ⟨k + 1, by omega, by go_num, by rw [← HX.out, HD.out]; simp [allCl, HC.out], hb.trans ((below_alloc hb1).mono hb.size)⟩
    · go_wp2_with fail
      go_ret
      exact ⟨ret_bool (by rw [← HX.out, List.drop_eq_nil_of_le (by have := H.out.1; omega)]; rfl), hb⟩

set_option maxHeartbeats 1000000 in
theorem s_GateCost (A : Option Addr) (n cap : Nat) (gs : List Gt) (w : World) (h : RdG w A n gs) (hn : n ≤ 1099511627776) :
    Calls Try.prog 66 #[.slice A n cap] w fun e w' => e = .returned (.int .i64 (cost gs)) ∧ Below w.heap.size w w' := by
  have H := Lib.hid h
  clear h
  go_enter Try.func66, Try.ntmps66
  go_wp2
  go_loopg [3, 4] n (fun m s i wr => ∃ (k : Nat) (x : Int), k + m = n ∧ i = .int .i64 k ∧ s = .int .i64 x ∧ 0 ≤ x ∧ x ≤ 1000 * k ∧ x + cost (gs.drop k) = cost gs ∧ Below w.heap.size w wr)
  case atStart => exact ⟨0, 0, by omega, rfl, rfl, by omega, by omega, by simp, Below.refl _ _⟩
  case round =>
    obtain ⟨k, x, hk, rfl, rfl, h0, h1, hx, hb⟩ := hrel
    have HX := Lib.hid hx
    clear hx
    by_cases hlt : k < n
    · obtain ⟨b, off, g, rfl, hB, hd, c0, c1, c2, c3⟩ := (H.out.below hb).at_ hlt
      have HD := Lib.hid hd
      clear hd
      rcases costK_cases g.k with ⟨hc, hv⟩ | ⟨hc, hv⟩ | ⟨hc, hv⟩
      · have HC := Lib.hid hv
        clear hv
        by_cases h7 : (g.k == 7) = true
        · clear hc
          go_wp2_with fail
          go_roundg (gk - 1)
          case measure => omega
          case rel =>
            have := HX.out
            rw [HD.out, cost, HC.out] at this
            exact ⟨k + 1, x + 1000, by omega, by go_num, by go_num, by omega, by omega, by omega, hb⟩
        · have h7' : (g.k == 7) = false := by simpa using h7
          have h8 : (g.k == 8) = true := by simp at h7 ⊢; omega
          clear hc h7
          go_wp2_with fail
          go_roundg (gk - 1)
          case measure => omega
          case rel =>
            have := HX.out
            rw [HD.out, cost, HC.out] at this
            exact ⟨k + 1, x + 1000, by omega, by go_num, by go_num, by omega, by omega, by omega, hb⟩
      · have HC := Lib.hid hv
        have h7 : (g.k == 7) = false := by simp; omega
        have h8 : (g.k == 8) = false := by simp; omega
        have ha : 2 ≤ arity g.k := by rcases arity_cases g.k with h | h | h | h <;> omega
        have hb3 := (arity_bd g.k).2
        clear hv hc
        go_wp2_with fail
        refine (s_Arity _ _).mono ?_
        rintro e w' ⟨rfl, rfl⟩
        go_wp2_with fail
        go_roundg (gk - 1)
        case measure => omega
        case rel =>
          have := HX.out
          rw [HD.out, cost, HC.out] at this
          exact ⟨k + 1, x + 10, by omega, by go_num, by go_num, by omega, by omega, by omega, hb⟩
      · have HC := Lib.hid hv
        have h7 : (g.k == 7) = false := by simp; omega
        have h8 : (g.k == 8) = false := by simp; omega
        have ha : arity g.k ≤ 1 := by rcases arity_cases g.k with h | h | h | h <;> omega
        clear hv hc
        go_wp2_with fail
        refine (s_Arity _ _).mono ?_
        rintro e w' ⟨rfl, rfl⟩
        go_wp2_with fail
        go_roundg (gk - 1)
        case measure => omega
        case rel =>
          have := HX.out
          rw [HD.out, cost, HC.out] at this
          exact ⟨k + 1, x + 1, by omega, by go_num, by go_num, by omega, by omega, by omega, hb⟩
    · go_wp2_with fail
      go_ret
      have := HX.out
      rw [cost_nil (by have := H.out.1; omega)] at this
      exact ⟨ret_int (by omega), hb⟩

set_option maxHeartbeats 1000000 in
theorem i_GateCost (A : Option Addr) (n cap : Nat) (gs : List Gt) (w : World) (h : RdG w A n gs) (hn : n ≤ 1099511627776) :
    Calls Try.prog 65 #[.slice A n cap] w fun e w' => e = .returned (.int .i64 (cost gs)) ∧ Below w.heap.size w w' := by
  have H := Lib.hid h
  clear h
  go_enter Try.func65, Try.ntmps65
  go_wp2
  go_loopg [3, 8] n (fun m s i wr => ∃ (k : Nat) (x : Int), k + m = n ∧ i = .int .i64 k ∧ s = .int .i64 x ∧ 0 ≤ x ∧ x ≤ 1000 * k ∧ x + cost (gs.drop k) = cost gs ∧ Below w.heap.size w wr)
  case atStart => exact ⟨0, 0, by omega, rfl, rfl, by omega, by omega, by simp, Below.refl _ _⟩
  case round =>
    obtain ⟨k, x, hk, rfl, rfl, h0, h1, hx, hb⟩ := hrel
    have HX := Lib.hid hx
    clear hx
    by_cases hlt : k < n
    · obtain ⟨b, off, g, rfl, hB, hd, c0, c1, c2, c3⟩ := (H.out.below hb).at_ hlt
      have HD := Lib.hid hd
      clear hd
      rcases costK_cases g.k with ⟨hc, hv⟩ | ⟨hc, hv⟩ | ⟨hc, hv⟩
      · have HC := Lib.hid hv
        clear hv
        by_cases h7 : (g.k == 7) = true
        · clear hc
          go_wp2_with fail
          go_roundg (gk - 1)
          case measure => omega
          case rel =>
            have := HX.out
            rw [HD.out, cost, HC.out] at this
            exact ⟨k + 1, x + 1000, by omega, by go_num, by go_num, by omega, by omega, by omega, hb.alloc hb.size _⟩
        · have h7' : (g.k == 7) = false := by simpa using h7
          have h8 : (g.k == 8) = true := by simp at h7 ⊢; omega
          clear hc h7
          go_wp2_with fail
          go_roundg (gk - 1)
          case measure => omega
          case rel =>
            have := HX.out
            rw [HD.out, cost, HC.out] at this
            exact ⟨k + 1, x + 1000, by omega, by go_num, by go_num, by omega, by omega, by omega, hb.alloc hb.size _⟩
      · have HC := Lib.hid hv
        have h7 : (g.k == 7) = false := by simp; omega
        have h8 : (g.k == 8) = false := by simp; omega
        have ha : 2 ≤ arity g.k := by rcases arity_cases g.k with h | h | h | h <;> omega
        have hb3 := (arity_bd g.k).2
        clear hv hc
        go_wp2_with fail
        refine (i_Arity _ _).mono ?_
        rintro e w' ⟨rfl, rfl⟩
        go_wp2_with fail
        go_roundg (gk - 1)
        case measure => omega
        case rel =>
          have := HX.out
          rw [HD.out, cost, HC.out] at this
          exact ⟨k + 1, x + 10, by omega, by go_num, by go_num, by omega, by omega, by omega, hb.alloc hb.size _⟩
      · have HC := Lib.hid hv
        have h7 : (g.k == 7) = false := by simp; omega
        have h8 : (g.k == 8) = false := by simp; omega
        have ha : arity g.k ≤ 1 := by rcases arity_cases g.k with h | h | h | h <;> omega
        clear hv hc
        go_wp2_with fail
        refine (i_Arity _ _).mono ?_
        rintro e w' ⟨rfl, rfl⟩
        go_wp2_with fail
        go_roundg (gk - 1)
        case measure => omega
        case rel =>
          have := HX.out
          rw [HD.out, cost, HC.out] at this
          exact ⟨k + 1, x + 1, by omega, by go_num, by go_num, by omega, by omega, by omega, hb.alloc hb.size _⟩
    · go_wp2_with fail
      go_ret
      have := HX.out
      rw [cost_nil (by have := H.out.1; omega)] at this
      exact ⟨ret_int (by omega), hb⟩

end Go.Proofs.Ythfacfnknpomcaa
