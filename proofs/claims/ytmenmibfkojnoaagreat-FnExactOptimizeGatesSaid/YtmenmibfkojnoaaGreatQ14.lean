/- Plain: images of Clifford gates are valid operators; what a Clifford gate looks like. No program in sight; nothing is asked. Contracts of IsClifford, AllClifford, GateCost (spec and impl). The lists have at most 2^40 gates. Contract of ConjugatePauli (impl), for valid operators and Clifford gates. -/
import Derived.Test.YtmenmibfkojnoaaGreatQ13
import Derived.Test.YtmenmibfkojnoaaGreatQ01
import Derived.Test.YtmenmibfkojnoaaGreatQ06
import Derived.Test.YtmenmibfkojnoaaGreatQ07
set_option maxHeartbeats 16000000
namespace Go.Proofs.YtmenmibfkojnoaaGreat
set_option linter.unusedVariables false
def shp1 (g : Gt) : Bool := decide (0 <= g.a) && (decide (g.a < 4) && (decide (0 <= g.b) && (decide (g.b < 4) && (decide (g.c = 0) && (decide (arity g.k = 1 /\ (g.k = 1 ∨ g.k = 2 ∨ g.k = 3 ∨ g.k = 4 ∨ g.k = 5 ∨ g.k = 6)) || decide (arity g.k = 2 /\ g.a ≠ g.b /\ (g.k = 9 ∨ g.k = 10 ∨ g.k = 11)))))))
def chkIm (n : Nat) : Bool := (clN n).all fun g => shp1 g && (List.range n).all fun q => okQn n (imX g q) && okQn n (imZ g q)
theorem chkIm1 : chkIm 1 = true := by decide +kernel
theorem chkIm2 : chkIm 2 = true := by decide +kernel
theorem chkIm3 : chkIm 3 = true := by decide +kernel
theorem chkIm4 : chkIm 4 = true := by decide +kernel
theorem chkIm_all {n : Nat} (h : 1 <= n /\ n <= 4) : chkIm n = true := by
 obtain rfl | rfl | rfl | rfl : n = 1 ∨ n = 2 ∨ n = 3 ∨ n = 4 := by omega
 ·exact chkIm1
 ·exact chkIm2
 ·exact chkIm3
 ·exact chkIm4
theorem im_ok {n q : Nat} {g : Gt} (hg : okN n g = true) (hc : cliff g.k = true) (hq : q < n) : okQn n (imX g q) = true /\ okQn n (imZ g q) = true := by
 have h := List.all_eq_true.1 (chkIm_all (okN_in hg)) g (List.mem_filter.2 ⟨okN_mem hg, hc⟩)
 rw [Bool.and_eq_true] at h
 have h2 := List.all_eq_true.1 h.2 q (List.mem_range.2 hq)
 rw [Bool.and_eq_true] at h2
 exact h2
theorem cl_shape {n : Nat} {g : Gt} (hg : okN n g = true) (hc : cliff g.k = true) : ∃ A B : Nat, g = ⟨g.k, A, B, 0⟩ /\ A < 4 /\ B < 4 /\ ((arity g.k = 1 /\ (g.k = 1 ∨ g.k = 2 ∨ g.k = 3 ∨ g.k = 4 ∨ g.k = 5 ∨ g.k = 6)) ∨ (arity g.k = 2 /\ A ≠ B /\ (g.k = 9 ∨ g.k = 10 ∨ g.k = 11))) := by
 have h := List.all_eq_true.1 (chkIm_all (okN_in hg)) g (List.mem_filter.2 ⟨okN_mem hg, hc⟩)
 rw [Bool.and_eq_true] at h
 have h1 := h.1
 unfold shp1 at h1
 simp only [Bool.and_eq_true, Bool.or_eq_true, decide_eq_true_eq] at h1
 obtain ⟨a0, a1, b0, b1, c0, h2⟩ := h1
 obtain ⟨k, a, b, c⟩ := g
 simp only at a0 a1 b0 b1 c0 h2 ⊢
 refine ⟨a.toNat, b.toNat, ?_, by omega, by omega, ?_⟩
 ·rw [c0, Int.toNat_of_nonneg a0, Int.toNat_of_nonneg b0]
 ·rcases h2 with h2 | ⟨h3, h4, h5⟩
  ·exact Or.inl h2
  ·exact Or.inr ⟨h3, by omega, h5⟩
theorem mulQ_ok {n : Nat} {a b : Pq} (ha : okQn n a = true) (hb : okQn n b = true) : okQn n (mulQ a b) = true := by
 obtain ⟨a1, a2, a3⟩ := okQn_iff.1 ha
 obtain ⟨b1, b2, b3⟩ := okQn_iff.1 hb
 exact okQn_iff.2 ⟨Nat.xor_lt_two_pow a1 b1, Nat.xor_lt_two_pow a2 b2, by show _ % 4 < 4; omega⟩
theorem conjStep_ok {n q : Nat} {g : Gt} {a o : Pq} (hg : okN n g = true) (hc : cliff g.k = true) (hq : q < n) (ho : okQn n o = true) : okQn n (conjStep g a o q) = true := by
 obtain ⟨i1, i2⟩ := im_ok hg hc hq
 have h1 : okQn n (if bitB a.x q = true then mulQ o (imX g q) else o) = true := by
  split
  ·exact mulQ_ok ho i1
  ·exact ho
 unfold conjStep
 simp only
 split
 ·exact mulQ_ok h1 i2
 ·exact h1
theorem range_drop {n k : Nat} (h : k < n) : (List.range n).drop k = k :: (List.range n).drop (k + 1) := by
 rw [drop_cons (l := List.range n) (k := k) (by simpa using h)]
 simp
open Go.RowKit
def allCl (gs : List Gt) : Bool := gs.all fun g => cliff g.k
def costK (k : Int) : Int := if k = 7 ∨ k = 8 then 1000 else if 9 <= k /\ k <= 12 then 10 else 1
def cost : List Gt -> Int
 |[] => 0
 |g :: r => costK g.k + cost r
theorem costK_cases (k : Int) : ((k = 7 ∨ k = 8) /\ costK k = 1000) ∨ ((9 <= k /\ k <= 12) /\ costK k = 10) ∨ ((k ≠ 7 /\ k ≠ 8 /\ (k < 9 ∨ 12 < k)) /\ costK k = 1) := by
 unfold costK
 by_cases h : k = 7 ∨ k = 8
 ·rw [if_pos h]; exact .inl ⟨h, rfl⟩
 ·rw [if_neg h]
  by_cases h2 : 9 <= k /\ k <= 12
  ·rw [if_pos h2]; exact .inr (.inl ⟨h2, rfl⟩)
  ·rw [if_neg h2]; exact .inr (.inr ⟨by omega, rfl⟩)
theorem cost_bd (l : List Gt) : 0 <= cost l /\ cost l <= 1000 * l.length := by
 induction l with
 |nil => simp [cost]
 |cons g r ih => simp only [cost, List.length_cons]; rcases costK_cases g.k with ⟨_, h⟩ | ⟨_, h⟩ | ⟨_, h⟩ <;> omega
theorem cost_nil {l : List Gt} {k : Nat} (h : l.length <= k) : cost (l.drop k) = 0 := by rw [List.drop_eq_nil_of_le h]; rfl
theorem s_IsClifford (k a b c : Int) (w : World) :
  Calls Tryz.prog 62 #[.agg #[.int .i64 k, .int .i64 a, .int .i64 b, .int .i64 c]] w fun e w' => e = .returned (.bool (cliff k)) /\ Below w.heap.size w w' := by
 rcases arity_cases k with ⟨h1, h2, ha⟩ | ⟨h1, h2, ha⟩ | ⟨h1, ha⟩ | ⟨h1, ha⟩
 ·have HA := zH ha
  clear ha
  by_cases h7 : k = 7
  ·subst h7
   go_enter Tryz.func62, Tryz.ntmps62
   go_wp2_with fail
   refine (s_Arity _ _).mono ?_
   rintro e w' ⟨rfl, rfl⟩
   rw [HA.out]
   go_wp2_with fail
   go_ret
   exact ⟨ret_bool rfl, (zW).alloc zR _⟩
  by_cases h8 : k = 8
  ·subst h8
   go_enter Tryz.func62, Tryz.ntmps62
   go_wp2_with fail
   refine (s_Arity _ _).mono ?_
   rintro e w' ⟨rfl, rfl⟩
   rw [HA.out]
   go_wp2_with fail
   go_ret
   exact ⟨ret_bool rfl, (zW).alloc zR _⟩
  have e7 : (k != 7) = true := by simpa using h7
  have e8 : (k != 8) = true := by simpa using h8
  have e12 : (k != 12) = true := by simp; omega
  have hv := zH (cliff_t h1 (by omega) h7 h8)
  clear h7 h8
  go_enter Tryz.func62, Tryz.ntmps62
  go_wp2_with fail
  refine (s_Arity _ _).mono ?_
  rintro e w' ⟨rfl, rfl⟩
  rw [HA.out]
  go_wp2_with fail
  go_ret
  exact ⟨ret_bool hv.out.symm, (zW).alloc zR _⟩
 ·have HA := zH ha
  clear ha
  have e7 : (k != 7) = true := by simp; omega
  have e8 : (k != 8) = true := by simp; omega
  have e12 : (k != 12) = true := by simp; omega
  have hv := zH (cliff_t (k := k) (by omega) h2 (by omega) (by omega))
  go_enter Tryz.func62, Tryz.ntmps62
  go_wp2_with fail
  refine (s_Arity _ _).mono ?_
  rintro e w' ⟨rfl, rfl⟩
  rw [HA.out]
  go_wp2_with fail
  go_ret
  exact ⟨ret_bool hv.out.symm, (zW).alloc zR _⟩
 ·have HA := zH ha
  clear ha
  subst h1
  go_enter Tryz.func62, Tryz.ntmps62
  go_wp2_with fail
  refine (s_Arity _ _).mono ?_
  rintro e w' ⟨rfl, rfl⟩
  rw [HA.out]
  go_wp2_with fail
  go_ret
  exact ⟨ret_bool rfl, (zW).alloc zR _⟩
 ·have HA := zH ha
  clear ha
  have hv := zH (cliff_f (k := k) (by omega))
  go_enter Tryz.func62, Tryz.ntmps62
  go_wp2_with fail
  refine (s_Arity _ _).mono ?_
  rintro e w' ⟨rfl, rfl⟩
  rw [HA.out]
  go_wp2_with fail
  go_ret
  exact ⟨ret_bool hv.out.symm, (zW).alloc zR _⟩
theorem i_IsClifford (k a b c : Int) (w : World) :
  Calls Tryz.prog 66 #[.agg #[.int .i64 k, .int .i64 a, .int .i64 b, .int .i64 c]] w fun e w' => e = .returned (.bool (cliff k)) /\ Below w.heap.size w w' := by
 rcases arity_cases k with ⟨h1, h2, ha⟩ | ⟨h1, h2, ha⟩ | ⟨h1, ha⟩ | ⟨h1, ha⟩
 ·have HA := zH ha
  clear ha
  by_cases h7 : k = 7
  ·subst h7
   go_enter Tryz.func66, Tryz.ntmps66
   go_wp2_with fail
   refine (i_Arity _ _).mono ?_
   rintro e w' ⟨rfl, rfl⟩
   rw [HA.out]
   go_wp2_with fail
   go_ret
   exact ⟨ret_bool rfl, (zW).alloc zR _⟩
  by_cases h8 : k = 8
  ·subst h8
   go_enter Tryz.func66, Tryz.ntmps66
   go_wp2_with fail
   refine (i_Arity _ _).mono ?_
   rintro e w' ⟨rfl, rfl⟩
   rw [HA.out]
   go_wp2_with fail
   go_ret
   exact ⟨ret_bool rfl, (zW).alloc zR _⟩
  have e7 : (k != 7) = true := by simpa using h7
  have e8 : (k != 8) = true := by simpa using h8
  have e12 : (k != 12) = true := by simp; omega
  have hv := zH (cliff_t h1 (by omega) h7 h8)
  clear h7 h8
  go_enter Tryz.func66, Tryz.ntmps66
  go_wp2_with fail
  refine (i_Arity _ _).mono ?_
  rintro e w' ⟨rfl, rfl⟩
  rw [HA.out]
  go_wp2_with fail
  go_ret
  exact ⟨ret_bool hv.out.symm, (zW).alloc zR _⟩
 ·have HA := zH ha
  clear ha
  have e7 : (k != 7) = true := by simp; omega
  have e8 : (k != 8) = true := by simp; omega
  have e12 : (k != 12) = true := by simp; omega
  have hv := zH (cliff_t (k := k) (by omega) h2 (by omega) (by omega))
  go_enter Tryz.func66, Tryz.ntmps66
  go_wp2_with fail
  refine (i_Arity _ _).mono ?_
  rintro e w' ⟨rfl, rfl⟩
  rw [HA.out]
  go_wp2_with fail
  go_ret
  exact ⟨ret_bool hv.out.symm, (zW).alloc zR _⟩
 ·have HA := zH ha
  clear ha
  subst h1
  go_enter Tryz.func66, Tryz.ntmps66
  go_wp2_with fail
  refine (i_Arity _ _).mono ?_
  rintro e w' ⟨rfl, rfl⟩
  rw [HA.out]
  go_wp2_with fail
  go_ret
  exact ⟨ret_bool rfl, (zW).alloc zR _⟩
 ·have HA := zH ha
  clear ha
  have hv := zH (cliff_f (k := k) (by omega))
  go_enter Tryz.func66, Tryz.ntmps66
  go_wp2_with fail
  refine (i_Arity _ _).mono ?_
  rintro e w' ⟨rfl, rfl⟩
  rw [HA.out]
  go_wp2_with fail
  go_ret
  exact ⟨ret_bool hv.out.symm, (zW).alloc zR _⟩
theorem s_AllClifford (A : Option Addr) (n cap : Nat) (gs : List Gt) (w : World) (h : RdG w A n gs) (hn : n <= 1099511627776) :
  Calls Tryz.prog 31 #[.slice A n cap] w fun e w' => e = .returned (.bool (allCl gs)) /\ Below w.heap.size w w' := by
 have H := zH h
 clear h
 go_enter Tryz.func31, Tryz.ntmps31
 go_wp2
 go_loopg [3] n (fun m i wr => ∃ (k : Nat), k + m = n /\ i = .int .i64 k /\ allCl (gs.drop k) = allCl gs /\ Below w.heap.size w wr)
 case atStart => exact ⟨0, by omega, rfl, by simp, zW⟩
 case round =>
  obtain ⟨k, hk, rfl, hx, hb⟩ := hrel
  have HX := zH hx
  clear hx
  by_cases hlt : k < n
  ·obtain ⟨b, off, g, rfl, hB, hd, c0, c1, c2, c3⟩ := (H.out.below hb).at_ hlt
   have HD := zH hd
   clear hd
   cases hc : cliff g.k
   ·have HC := zH hc
    clear hc
    go_wp2_with fail
    refine (s_IsClifford _ _ _ _ _).mono ?_
    rintro e w1 ⟨rfl, hb1⟩
    rw [HC.out]
    go_wp2_with fail
    go_ret
    exact ⟨ret_bool (by rw [<- HX.out, HD.out]; simp [allCl, HC.out]), hb.trans (hb1.mono hb.size)⟩
   ·have HC := zH hc
    clear hc
    go_wp2_with fail
    refine (s_IsClifford _ _ _ _ _).mono ?_
    rintro e w1 ⟨rfl, hb1⟩
    rw [HC.out]
    go_wp2_with fail
    go_roundg (gk - 1)
    case measure => omega
    case rel => exact ⟨k + 1, by omega, by go_num, by rw [<- HX.out, HD.out]; simp [allCl, HC.out], hb.trans (hb1.mono hb.size)⟩
  ·go_wp2_with fail
   go_ret
   exact ⟨ret_bool (by rw [<- HX.out, List.drop_eq_nil_of_le (by have := H.out.1; omega)]; rfl), hb⟩
theorem i_AllClifford (A : Option Addr) (n cap : Nat) (gs : List Gt) (w : World) (h : RdG w A n gs) (hn : n <= 1099511627776) :
  Calls Tryz.prog 36 #[.slice A n cap] w fun e w' => e = .returned (.bool (allCl gs)) /\ Below w.heap.size w w' := by
 have H := zH h
 clear h
 go_enter Tryz.func36, Tryz.ntmps36
 go_wp2
 go_loopg [7] n (fun m i wr => ∃ (k : Nat), k + m = n /\ i = .int .i64 k /\ allCl (gs.drop k) = allCl gs /\ Below w.heap.size w wr)
 case atStart => exact ⟨0, by omega, rfl, by simp, zW⟩
 case round =>
  obtain ⟨k, hk, rfl, hx, hb⟩ := hrel
  have HX := zH hx
  clear hx
  by_cases hlt : k < n
  ·obtain ⟨b, off, g, rfl, hB, hd, c0, c1, c2, c3⟩ := (H.out.below hb).at_ hlt
   have HD := zH hd
   clear hd
   cases hc : cliff g.k
   ·have HC := zH hc
    clear hc
    go_wp2_with fail
    refine (i_IsClifford _ _ _ _ _).mono ?_
    rintro e w1 ⟨rfl, hb1⟩
    rw [HC.out]
    go_wp2_with fail
    go_ret
    exact ⟨ret_bool (by rw [<- HX.out, HD.out]; simp [allCl, HC.out]), hb.trans ((below_alloc hb1).mono hb.size)⟩
   ·have HC := zH hc
    clear hc
    go_wp2_with fail
    refine (i_IsClifford _ _ _ _ _).mono ?_
    rintro e w1 ⟨rfl, hb1⟩
    rw [HC.out]
    go_wp2_with fail
    go_roundg (gk - 1)
    case measure => omega
    case rel => exact ⟨k + 1, by omega, by go_num, by rw [<- HX.out, HD.out]; simp [allCl, HC.out], hb.trans ((below_alloc hb1).mono hb.size)⟩
  ·go_wp2_with fail
   go_ret
   exact ⟨ret_bool (by rw [<- HX.out, List.drop_eq_nil_of_le (by have := H.out.1; omega)]; rfl), hb⟩
theorem s_GateCost (A : Option Addr) (n cap : Nat) (gs : List Gt) (w : World) (h : RdG w A n gs) (hn : n <= 1099511627776) :
  Calls Tryz.prog 33 #[.slice A n cap] w fun e w' => e = .returned (.int .i64 (cost gs)) /\ Below w.heap.size w w' := by
 have H := zH h
 clear h
 go_enter Tryz.func33, Tryz.ntmps33
 go_wp2
 go_loopg [3, 4] n (fun m s i wr => ∃ (k : Nat) (x : Int), k + m = n /\ i = .int .i64 k /\ s = .int .i64 x /\ 0 <= x /\ x <= 1000 * k /\ x + cost (gs.drop k) = cost gs /\ Below w.heap.size w wr)
 case atStart => exact ⟨0, 0, by omega, rfl, rfl, by omega, by omega, by simp, zW⟩
 case round =>
  obtain ⟨k, x, hk, rfl, rfl, h0, h1, hx, hb⟩ := hrel
  have HX := zH hx
  clear hx
  by_cases hlt : k < n
  ·obtain ⟨b, off, g, rfl, hB, hd, c0, c1, c2, c3⟩ := (H.out.below hb).at_ hlt
   have HD := zH hd
   clear hd
   rcases costK_cases g.k with ⟨hc, hv⟩ | ⟨hc, hv⟩ | ⟨hc, hv⟩
   ·have HC := zH hv
    clear hv
    by_cases h7 : (g.k == 7) = true
    ·clear hc
     go_wp2_with fail
     go_roundg (gk - 1)
     case measure => omega
     case rel =>
      have := HX.out
      rw [HD.out, cost, HC.out] at this
      exact ⟨k + 1, x + 1000, by omega, by go_num, by go_num, by omega, by omega, by omega, hb⟩
    ·have h7' : (g.k == 7) = false := by simpa using h7
     have h8 : (g.k == 8) = true := by simp at h7 ⊢; omega
     clear hc h7
     go_wp2_with fail
     go_roundg (gk - 1)
     case measure => omega
     case rel =>
      have := HX.out
      rw [HD.out, cost, HC.out] at this
      exact ⟨k + 1, x + 1000, by omega, by go_num, by go_num, by omega, by omega, by omega, hb⟩
   ·have HC := zH hv
    have h7 : (g.k == 7) = false := by simp; omega
    have h8 : (g.k == 8) = false := by simp; omega
    have ha : 2 <= arity g.k := by rcases arity_cases g.k with h | h | h | h <;> omega
    have hb3 := (arity_bd g.k).2
    clear hv hc
    go_wp2_with fail
    refine (s_Arity _ _).mono ?_
    rintro e w' ⟨rfl, rfl⟩
    go_wp2_with fail
    go_roundg (gk - 1)
    case measure => omega
    case rel =>
     have := HX.out
     rw [HD.out, cost, HC.out] at this
     exact ⟨k + 1, x + 10, by omega, by go_num, by go_num, by omega, by omega, by omega, hb⟩
   ·have HC := zH hv
    have h7 : (g.k == 7) = false := by simp; omega
    have h8 : (g.k == 8) = false := by simp; omega
    have ha : arity g.k <= 1 := by rcases arity_cases g.k with h | h | h | h <;> omega
    clear hv hc
    go_wp2_with fail
    refine (s_Arity _ _).mono ?_
    rintro e w' ⟨rfl, rfl⟩
    go_wp2_with fail
    go_roundg (gk - 1)
    case measure => omega
    case rel =>
     have := HX.out
     rw [HD.out, cost, HC.out] at this
     exact ⟨k + 1, x + 1, by omega, by go_num, by go_num, by omega, by omega, by omega, hb⟩
  ·go_wp2_with fail
   go_ret
   have := HX.out
   rw [cost_nil (by have := H.out.1; omega)] at this
   exact ⟨ret_int (by omega), hb⟩
theorem i_GateCost (A : Option Addr) (n cap : Nat) (gs : List Gt) (w : World) (h : RdG w A n gs) (hn : n <= 1099511627776) :
  Calls Tryz.prog 21 #[.slice A n cap] w fun e w' => e = .returned (.int .i64 (cost gs)) /\ Below w.heap.size w w' := by
 have H := zH h
 clear h
 go_enter Tryz.func21, Tryz.ntmps21
 go_wp2
 go_loopg [3, 8] n (fun m s i wr => ∃ (k : Nat) (x : Int), k + m = n /\ i = .int .i64 k /\ s = .int .i64 x /\ 0 <= x /\ x <= 1000 * k /\ x + cost (gs.drop k) = cost gs /\ Below w.heap.size w wr)
 case atStart => exact ⟨0, 0, by omega, rfl, rfl, by omega, by omega, by simp, zW⟩
 case round =>
  obtain ⟨k, x, hk, rfl, rfl, h0, h1, hx, hb⟩ := hrel
  have HX := zH hx
  clear hx
  by_cases hlt : k < n
  ·obtain ⟨b, off, g, rfl, hB, hd, c0, c1, c2, c3⟩ := (H.out.below hb).at_ hlt
   have HD := zH hd
   clear hd
   rcases costK_cases g.k with ⟨hc, hv⟩ | ⟨hc, hv⟩ | ⟨hc, hv⟩
   ·have HC := zH hv
    clear hv
    by_cases h7 : (g.k == 7) = true
    ·clear hc
     go_wp2_with fail
     go_roundg (gk - 1)
     case measure => omega
     case rel =>
      have := HX.out
      rw [HD.out, cost, HC.out] at this
      exact ⟨k + 1, x + 1000, by omega, by go_num, by go_num, by omega, by omega, by omega, hb.alloc hb.size _⟩
    ·have h7' : (g.k == 7) = false := by simpa using h7
     have h8 : (g.k == 8) = true := by simp at h7 ⊢; omega
     clear hc h7
     go_wp2_with fail
     go_roundg (gk - 1)
     case measure => omega
     case rel =>
      have := HX.out
      rw [HD.out, cost, HC.out] at this
      exact ⟨k + 1, x + 1000, by omega, by go_num, by go_num, by omega, by omega, by omega, hb.alloc hb.size _⟩
   ·have HC := zH hv
    have h7 : (g.k == 7) = false := by simp; omega
    have h8 : (g.k == 8) = false := by simp; omega
    have ha : 2 <= arity g.k := by rcases arity_cases g.k with h | h | h | h <;> omega
    have hb3 := (arity_bd g.k).2
    clear hv hc
    go_wp2_with fail
    refine (i_Arity _ _).mono ?_
    rintro e w' ⟨rfl, rfl⟩
    go_wp2_with fail
    go_roundg (gk - 1)
    case measure => omega
    case rel =>
     have := HX.out
     rw [HD.out, cost, HC.out] at this
     exact ⟨k + 1, x + 10, by omega, by go_num, by go_num, by omega, by omega, by omega, hb.alloc hb.size _⟩
   ·have HC := zH hv
    have h7 : (g.k == 7) = false := by simp; omega
    have h8 : (g.k == 8) = false := by simp; omega
    have ha : arity g.k <= 1 := by rcases arity_cases g.k with h | h | h | h <;> omega
    clear hv hc
    go_wp2_with fail
    refine (i_Arity _ _).mono ?_
    rintro e w' ⟨rfl, rfl⟩
    go_wp2_with fail
    go_roundg (gk - 1)
    case measure => omega
    case rel =>
     have := HX.out
     rw [HD.out, cost, HC.out] at this
     exact ⟨k + 1, x + 1, by omega, by go_num, by go_num, by omega, by omega, by omega, hb.alloc hb.size _⟩
  ·go_wp2_with fail
   go_ret
   have := HX.out
   rw [cost_nil (by have := H.out.1; omega)] at this
   exact ⟨ret_int (by omega), hb⟩
open Go.RowKit
def CB (w : World) (n : Nat) (a : Pq) (g : Gt) (O : Nat) (o : Pq) (wx : World) : Prop :=
 QB w w.heap.size n a wx /\ Bx wx (w.heap.size + 1) 39 #[.int .i64 g.k, .int .i64 g.a, .int .i64 g.b, .int .i64 g.c] /\ Bx wx (w.heap.size + 1 + 1) 151 #[.int .i64 0, .int .i64 0, .int .i64 0, .int .i64 0] /\ Bx wx O 151 #[.int .i64 (n : Nat), .int .i64 (o.x : Nat), .int .i64 (o.z : Nat), .int .i64 (o.p : Nat)] /\ w.heap.size + 1 + 1 < O
section
variable {w wx w' : World} {n O : Nat} {a o : Pq} {g : Gt}
theorem CB.below (h : CB w n a g O o wx) (hb : Below wx.heap.size wx w') : CB w n a g O o w' := ⟨h.1.below hb, h.2.1.below hb, h.2.2.1.below hb, h.2.2.2.1.below hb, h.2.2.2.2⟩
theorem CB.alloc (h : CB w n a g O o wx) (u : Obj) : CB w n a g O o (wx.alloc u) := h.below ((zW).alloc zR _)
theorem CB.drew (h : CB w n a g O o wx) : CB w n a g O o wx.drew := h.below (zW).drew
theorem CB.set (h : CB w n a g O o wx) (b : Pq) : CB w n a g O b (S4 wx O (.int .i64 (n : Nat)) (.int .i64 (b.x : Nat)) (.int .i64 (b.z : Nat)) (.int .i64 (b.p : Nat))) := by
 have hO := h.2.2.2.2
 exact ⟨h.1.set4 (by omega) (by omega) _ _ _ _, h.2.1.far4 (by omega) _ _ _ _, h.2.2.1.far4 (by omega) _ _ _ _, h.2.2.2.1.set4 _ _ _ _, hO⟩
theorem CB.gcells (h : CB w n a g O o wx) : wx.cell? ⟨w.heap.size + 1, 0, none⟩ = some (.int .i64 g.k) /\ wx.cell? ⟨w.heap.size + 1, 1, none⟩ = some (.int .i64 g.a) /\ wx.cell? ⟨w.heap.size + 1, 2, none⟩ = some (.int .i64 g.b) /\ wx.cell? ⟨w.heap.size + 1, 3, none⟩ = some (.int .i64 g.c) := ⟨h.2.1.cell 0, h.2.1.cell 1, h.2.1.cell 2, h.2.1.cell 3⟩
end
theorem conj_start {n : Nat} {g : Gt} {a c : Pq} (hc : conjQ n g a = c) : conjL g a ((List.range n).drop 0) ⟨0, 0, a.p⟩ = c := hc
theorem conj_next {n k : Nat} {g : Gt} {a o c : Pq} (hk : k < n) (h : conjL g a ((List.range n).drop k) o = c) : conjL g a ((List.range n).drop (k + 1)) (conjStep g a o k) = c := by
 rw [range_drop hk] at h
 exact h
theorem conj_end {n : Nat} {g : Gt} {a o c : Pq} (h : conjL g a ((List.range n).drop n) o = c) : o = c := by
 rw [List.drop_eq_nil_of_le (by simp)] at h
 exact h
set_option maxRecDepth 100000 in
theorem i_ConjPau (n : Nat) (a c : Pq) (g : Gt) (w : World) (hn : 1 <= n /\ n <= 4) (ha : okQn n a = true) (hg : okN n g = true) (hcl : cliff g.k = true) (hc : conjQ n g a = c) : Calls Tryz.prog 156 #[.agg #[.int .i64 (n : Nat), .int .i64 (a.x : Nat), .int .i64 (a.z : Nat), .int .i64 (a.p : Nat)], .agg #[.int .i64 g.k, .int .i64 g.a, .int .i64 g.b, .int .i64 g.c]] w fun e w' => e = .returned (.tuple #[.agg #[.int .i64 (n : Nat), .int .i64 (c.x : Nat), .int .i64 (c.z : Nat), .int .i64 (c.p : Nat)], .bool true]) /\ Below w.heap.size w w' := by
 obtain ⟨A, B, eg, hA, hB, hsh⟩ := cl_shape hg hcl
 obtain ⟨kd, ga, gb, gc⟩ := g
 simp only at eg hsh hcl
 simp only [Gt.mk.injEq, true_and] at eg
 obtain ⟨rfl, rfl, rfl⟩ := eg
 have HA := zH ha
 have HG := zH hg
 have HG2 := zH (show okG kd (A : Int) (B : Int) 0 (n : Int) = true from hg)
 have HL := zH hcl
 have HC := zH (conj_start hc)
 have HS := zH hsh
 have okp := zH (show okQn n ⟨0, 0, a.p⟩ = true from okQn_iff.2 ⟨Nat.pow_pos (by omega), Nat.pow_pos (by omega), (okQn_iff.1 ha).2.2⟩)
 have hx4 := (okQ16 hn.2 ha).1
 have hz4 := (okQ16 hn.2 ha).2.1
 have X0 := zH (show QB w w.heap.size n a (((w.alloc (.cells #[.int .i64 (n : Nat), .int .i64 (a.x : Nat), .int .i64 (a.z : Nat), .int .i64 (a.p : Nat)] 151)).alloc (.cells #[.int .i64 kd, .int .i64 (A : Nat), .int .i64 (B : Nat), .int .i64 0] 39)).alloc (.cells #[.int .i64 0, .int .i64 0, .int .i64 0, .int .i64 0] 151)) from ⟨((Bx.new w _ _).alloc _).alloc _, (((zW).alloc zR _).alloc (by simp) _).alloc (by simp <;> omega) _, zR⟩)
 have G0 := zH (show Bx (((w.alloc (.cells #[.int .i64 (n : Nat), .int .i64 (a.x : Nat), .int .i64 (a.z : Nat), .int .i64 (a.p : Nat)] 151)).alloc (.cells #[.int .i64 kd, .int .i64 (A : Nat), .int .i64 (B : Nat), .int .i64 0] 39)).alloc (.cells #[.int .i64 0, .int .i64 0, .int .i64 0, .int .i64 0] 151)) (w.heap.size + 1) 39 #[.int .i64 kd, .int .i64 (A : Nat), .int .i64 (B : Nat), .int .i64 0] from (Bx.new' (by simp)).alloc _)
 have R0 := zH (show Bx (((w.alloc (.cells #[.int .i64 (n : Nat), .int .i64 (a.x : Nat), .int .i64 (a.z : Nat), .int .i64 (a.p : Nat)] 151)).alloc (.cells #[.int .i64 kd, .int .i64 (A : Nat), .int .i64 (B : Nat), .int .i64 0] 39)).alloc (.cells #[.int .i64 0, .int .i64 0, .int .i64 0, .int .i64 0] 151)) (w.heap.size + 1 + 1) 151 #[.int .i64 0, .int .i64 0, .int .i64 0, .int .i64 0] from Bx.new' (by simp))
 clear ha hg hcl hc hsh
 go_enter Tryz.func156, Tryz.ntmps156
 go_wp2_with fail
 refine (i_IsPau n a _ hn HA.out).mono ?_
 rintro e w1 ⟨rfl, b1⟩
 have X1 := zH (X0.out.below b1)
 have G1 := zH (G0.out.below b1)
 have R1 := zH (R0.out.below b1)
 clear b1 X0 G0 R0
 obtain ⟨p0, p1, p2, p3⟩ := X1.out.cells
 obtain ⟨g0, g1, g2, g3, _⟩ := G1.out.four
 go_wp2_with fail
 refine (i_IsValidGate _ _ _ _ _ _).mono ?_
 rintro e w2 ⟨rfl, b2⟩
 rw [HG2.out]
 have X2 := zH (X1.out.below b2)
 have G2 := zH (G1.out.below b2)
 have R2 := zH (R1.out.below b2)
 clear b2 X1 G1 R1 p0 p1 p2 p3 g0 g1 g2 g3
 obtain ⟨g0, g1, g2, g3, _⟩ := G2.out.four
 go_wp2_with fail
 refine (i_IsClifford _ _ _ _ _).mono ?_
 rintro e w3 ⟨rfl, b3⟩
 rw [HL.out]
 have B0 := zH (show CB w n a ⟨kd, A, B, 0⟩ w3.heap.size ⟨0, 0, a.p⟩ (w3.alloc (.cells #[.int .i64 (n : Nat), .int .i64 0, .int .i64 0, .int .i64 (a.p : Nat)] 151)) from ⟨(X2.out.below b3).alloc _, (G2.out.below b3).alloc _, (R2.out.below b3).alloc _, Bx.new _ _ _, (R2.out.below b3).lt⟩)
 obtain ⟨p0, p1, p2, p3⟩ := (X2.out.below b3).cells
 clear b3 X2 G2 R2 g0 g1 g2 g3
 go_wp2_with fail
 go_loopg [7] n (fun r i wr => ∃ (k : Nat) (o : Pq), k + r = n /\ i = .int .i64 k /\ okQn n o = true /\ conjL ⟨kd, A, B, 0⟩ a ((List.range n).drop k) o = c /\ CB w n a ⟨kd, A, B, 0⟩ w3.heap.size o wr)
 case atStart => exact ⟨0, ⟨0, 0, a.p⟩, by omega, rfl, okp.out, HC.out, B0.out⟩
 case round =>
  clear B0 HC okp p0 p1 p2 p3
  obtain ⟨k, o, hk, rfl, ho, he, hB⟩ := hrel
  have HO := zH ho
  have HE := zH he
  have HB := zH hB
  clear ho he hB
  obtain ⟨p0, p1, p2, p3⟩ := HB.out.1.cells
  obtain ⟨g0, g1, g2, g3⟩ := HB.out.gcells
  by_cases hlt : k < n
  ·obtain ⟨cx, hcx⟩ : ∃ c, imX ⟨kd, A, B, 0⟩ k = c := ⟨_, rfl⟩
   obtain ⟨cz, hcz⟩ : ∃ c, imZ ⟨kd, A, B, 0⟩ k = c := ⟨_, rfl⟩
   have okx := zH (show okQn n cx = true from hcx ▸ (im_ok HG.out HL.out hlt).1)
   have okz := zH (show okQn n cz = true from hcz ▸ (im_ok HG.out HL.out hlt).2)
   have MI := fun w => i_images n k A B kd w (by omega) hA hB HS.out
   simp only [hcx, hcz] at MI
   have NX := zH (conj_next hlt HE.out)
   have NO := zH (conjStep_ok (a := a) HG.out HL.out hlt HO.out)
   obtain ⟨o2, ho2⟩ : ∃ o2, conjStep ⟨kd, A, B, 0⟩ a o k = o2 := ⟨_, rfl⟩
   have HS2 := zH (show o2 = (if bitB a.z k = true then mulQ (if bitB a.x k = true then mulQ o cx else o) cz else (if bitB a.x k = true then mulQ o cx else o)) by rw [<- ho2, <- hcx, <- hcz]; rfl)
   rw [ho2] at NX NO
   have BX := bitT hx4 (show k < 4 by omega)
   have BZ := bitT hz4 (show k < 4 by omega)
   clear ho2 hcx hcz HE
   go_wp2_with fail
   refine (MI _).mono ?_
   rintro e w5 ⟨rfl, b5⟩
   have B5 := zH (((HB.out.below b5).alloc (.cells #[.int .i64 (n : Nat), .int .i64 (cx.x : Nat), .int .i64 (cx.z : Nat), .int .i64 (cx.p : Nat)] 151)).alloc (.cells #[.int .i64 (n : Nat), .int .i64 (cz.x : Nat), .int .i64 (cz.z : Nat), .int .i64 (cz.p : Nat)] 151))
   have X5 := zH ((Bx.new w5 151 #[.int .i64 (n : Nat), .int .i64 (cx.x : Nat), .int .i64 (cx.z : Nat), .int .i64 (cx.p : Nat)]).alloc (.cells #[.int .i64 (n : Nat), .int .i64 (cz.x : Nat), .int .i64 (cz.z : Nat), .int .i64 (cz.p : Nat)] 151))
   have Z5 := zH (show Bx ((w5.alloc (.cells #[.int .i64 (n : Nat), .int .i64 (cx.x : Nat), .int .i64 (cx.z : Nat), .int .i64 (cx.p : Nat)] 151)).alloc (.cells #[.int .i64 (n : Nat), .int .i64 (cz.x : Nat), .int .i64 (cz.z : Nat), .int .i64 (cz.p : Nat)] 151)) (w5.heap.size + 1) 151 #[.int .i64 (n : Nat), .int .i64 (cz.x : Nat), .int .i64 (cz.z : Nat), .int .i64 (cz.p : Nat)] from Bx.new' (by simp))
   have n5 : w3.heap.size < w5.heap.size := (HB.out.below b5).2.2.2.1.lt
   clear b5 HB MI p0 p1 p2 p3 g0 g1 g2 g3
   obtain ⟨p0, p1, p2, p3⟩ := B5.out.1.cells
   cases hx : bitB a.x k
   ·cases hz : bitB a.z k
    ·obtain rfl : o2 = o := by rw [HS2.out, hx, hz]; rfl
     go_wp2_with fail
     go_roundg (gk - 1)
     all_goals first
      |omega
      |exact ⟨k + 1, o2, by omega, by go_num, NO.out, NX.out, B5.out⟩
    ·have HM := zH (show mulQ o cz = o2 by rw [HS2.out, hx, hz]; rfl)
     obtain ⟨q0, q1, q2, q3, _⟩ := B5.out.2.2.2.1.four
     obtain ⟨x0, x1, x2, x3, _⟩ := Z5.out.four
     go_wp2_with fail
     refine (i_MulPau n o cz o2 _ hn HO.out okz.out HM.out).mono ?_
     rintro e w6 ⟨rfl, b6⟩
     have Bw6 := zH ((B5.out.below b6).set o2)
     obtain ⟨q0', q1', q2', q3', q4', q5', q6', q7'⟩ := (B5.out.below b6).2.2.2.1.four
     obtain ⟨p0', p1', p2', p3'⟩ := Bw6.out.1.cells
     clear b6 B5 p0 p1 p2 p3 q0 q1 q2 q3 x0 x1 x2 x3
     go_wp2_with fail
     go_roundg (gk - 1)
     all_goals first
      |omega
      |exact ⟨k + 1, o2, by omega, by go_num, NO.out, NX.out, Bw6.out⟩
   ·cases hz : bitB a.z k
    ·have HM := zH (show mulQ o cx = o2 by rw [HS2.out, hx, hz]; rfl)
     obtain ⟨q0, q1, q2, q3, _⟩ := B5.out.2.2.2.1.four
     obtain ⟨x0, x1, x2, x3, _⟩ := X5.out.four
     go_wp2_with fail
     refine (i_MulPau n o cx o2 _ hn HO.out okx.out HM.out).mono ?_
     rintro e w6 ⟨rfl, b6⟩
     have Bw6 := zH ((B5.out.below b6).set o2)
     obtain ⟨q0', q1', q2', q3', q4', q5', q6', q7'⟩ := (B5.out.below b6).2.2.2.1.four
     obtain ⟨p0', p1', p2', p3'⟩ := Bw6.out.1.cells
     clear b6 B5 p0 p1 p2 p3 q0 q1 q2 q3 x0 x1 x2 x3
     go_wp2_with fail
     go_roundg (gk - 1)
     all_goals first
      |omega
      |exact ⟨k + 1, o2, by omega, by go_num, NO.out, NX.out, Bw6.out⟩
    ·obtain ⟨om, hom⟩ : ∃ m, mulQ o cx = m := ⟨_, rfl⟩
     have OM := zH (mulQ_ok HO.out okx.out)
     rw [hom] at OM
     have HM := zH hom
     have HM2 := zH (show mulQ om cz = o2 by rw [HS2.out, hx, hz, <- hom]; rfl)
     clear hom
     obtain ⟨q0, q1, q2, q3, _⟩ := B5.out.2.2.2.1.four
     obtain ⟨x0, x1, x2, x3, _⟩ := X5.out.four
     go_wp2_with fail
     refine (i_MulPau n o cx om _ hn HO.out okx.out HM.out).mono ?_
     rintro e w6 ⟨rfl, b6⟩
     have Bw6 := zH ((B5.out.below b6).set om)
     have Zw6 := zH ((Z5.out.below b6).far4 (show w5.heap.size + 1 ≠ w3.heap.size by omega) (.int .i64 (n : Nat)) (.int .i64 (om.x : Nat)) (.int .i64 (om.z : Nat)) (.int .i64 (om.p : Nat)))
     obtain ⟨q0', q1', q2', q3', q4', q5', q6', q7'⟩ := (B5.out.below b6).2.2.2.1.four
     obtain ⟨p0', p1', p2', p3'⟩ := Bw6.out.1.cells
     clear b6 B5 p0 p1 p2 p3 q0 q1 q2 q3 x0 x1 x2 x3
     obtain ⟨p0, p1, p2, p3⟩ := Bw6.out.1.cells
     obtain ⟨q0, q1, q2, q3, _⟩ := Bw6.out.2.2.2.1.four
     obtain ⟨x0, x1, x2, x3, _⟩ := Zw6.out.four
     go_wp2_with fail
     refine (i_MulPau n om cz o2 _ hn OM.out okz.out HM2.out).mono ?_
     rintro e w7 ⟨rfl, b6⟩
     have Bw7 := zH ((Bw6.out.below b6).set o2)
     obtain ⟨q0'', q1'', q2'', q3'', q4', q5', q6', q7'⟩ := (Bw6.out.below b6).2.2.2.1.four
     obtain ⟨p0', p1', p2', p3'⟩ := Bw7.out.1.cells
     clear b6 Bw6 p0 p1 p2 p3 q0 q1 q2 q3 x0 x1 x2 x3
     go_wp2_with fail
     go_roundg (gk - 1)
     all_goals first
      |omega
      |exact ⟨k + 1, o2, by omega, by go_num, NO.out, NX.out, Bw7.out⟩
  ·obtain rfl : k = n := by omega
   obtain rfl := conj_end HE.out
   obtain ⟨o0, o1, o2, o3, _⟩ := HB.out.2.2.2.1.four
   obtain ⟨r0, r1, r2, r3, r4, r5, r6, r7⟩ := HB.out.2.2.1.four
   go_wp2_with fail
   have RB := HB.out.2.2.1
   with_reducible refine ret_S4 RB ?_ ?_ ⟨rfl, ?_⟩
   ·intro wS z0 z1 z2 z3; simp [results, Tryz.results156, go_sem, z0, z1, z2, z3]
   ·rfl
   ·exact belowS4 HB.out.1.2.1 (by omega) _ _ _ _
end Go.Proofs.YtmenmibfkojnoaaGreat
