/- Contracts of ones (impl), l25Ones (spec). Nothing is asked. -/
import Derived.Test.YtibhikngiceeeaaProg
import Derived.Test.YtibhikngiceeeaaBase
import Derived.Test.YtibhikngiceeeaaPop
import Derived.Test.YtibhikngiceeeaaDraw
import Derived.Outline
namespace Go.Proofs.Ytibhikngiceeeaa
open Go.RowKit

/-- The number of ones of x as 64 bits. -/
def onesI (x : Int) : Int := (popN 64 (x % 18446744073709551616).toNat : Nat)
theorem u64_wrap (n : Nat) (h : n < 18446744073709551616) : IntKind.u64.wrap (n : Int) = n := by
  have : IntKind.u64.wrap (n : Int) = (n : Int) % 18446744073709551616 := by rfl
  rw [this]; omega
theorem u64_and (a b : Nat) (ha : a < 18446744073709551616) (hb : b < 18446744073709551616) : bits .and .u64 (a : Int) (b : Int) = ((a &&& b : Nat) : Int) := by
  have h : bits .and .u64 (a : Int) (b : Int) = IntKind.u64.wrap (((BitVec.ofInt 64 (a : Int) &&& BitVec.ofInt 64 (b : Int)).toNat : Nat) : Int) := rfl
  have h2 : (BitVec.ofInt 64 (a : Int) &&& BitVec.ofInt 64 (b : Int)).toNat = a &&& b := by
    rw [BitVec.toNat_and, BitVec.ofInt_natCast, BitVec.ofInt_natCast, BitVec.toNat_ofNat, BitVec.toNat_ofNat, Nat.mod_eq_of_lt ha, Nat.mod_eq_of_lt hb]
  rw [h, h2, u64_wrap]
  exact Nat.lt_of_le_of_lt Nat.and_le_left ha
theorem i64_low (n : Nat) : bits .and .i64 (n : Int) 127 = ((n % 128 : Nat) : Int) := by
  have h : bits .and .i64 (n : Int) 127 = IntKind.i64.wrap (((BitVec.ofInt 64 (n : Int) &&& BitVec.ofInt 64 (127 : Int)).toNat : Nat) : Int) := rfl
  have h2 : (BitVec.ofInt 64 (n : Int) &&& BitVec.ofInt 64 (127 : Int)).toNat = n % 128 := by
    have h3 : (BitVec.ofInt 64 (127 : Int)).toNat = 127 := by decide
    rw [BitVec.toNat_and, h3, BitVec.ofInt_natCast, BitVec.toNat_ofNat]
    have := Nat.and_two_pow_sub_one_eq_mod (n % 2 ^ 64) 7
    rw [show (2 : Nat) ^ 7 - 1 = 127 by decide] at this
    rw [this]
    omega
  rw [h, h2, IntKind.wrap_i64]
  omega
theorem divN (a b : Nat) : (a : Int) / (b : Int) = ((a / b : Nat) : Int) := (Int.natCast_ediv a b).symm
theorem s64A (x : Nat) (hx : x < 18446744073709551616) : IntKind.u64.wrap (bits .and .u64 ((x : Int) / 2) 6148914691236517205 + bits .and .u64 (x : Int) 6148914691236517205) = (swarA x : Nat) := by
  obtain ⟨p0, p1, p2, p3, p4, p5, p6, p7, _, _, _, _, _, _, _, _, hA, _⟩ := swar_bytes x hx
  have e1 := u64_and (x / 2) 6148914691236517205 (by omega) (by omega)
  have e2 := u64_and x 6148914691236517205 hx (by omega)
  rw [show ((6148914691236517205 : Nat) : Int) = 6148914691236517205 from rfl] at e1 e2
  rw [show (x : Int) / 2 = ((x / 2 : Nat) : Int) from divN x 2, e1, e2, ← Int.natCast_add, ← swarA_eq, u64_wrap _ hA]
theorem s64B (y : Nat) (hy : y < 18446744073709551616) (hB : swarB y < 18446744073709551616) : IntKind.u64.wrap (bits .and .u64 ((y : Int) / 4) 3689348814741910323 + bits .and .u64 (y : Int) 3689348814741910323) = (swarB y : Nat) := by
  have e1 := u64_and (y / 4) 3689348814741910323 (by omega) (by omega)
  have e2 := u64_and y 3689348814741910323 hy (by omega)
  rw [show ((3689348814741910323 : Nat) : Int) = 3689348814741910323 from rfl] at e1 e2
  rw [show (y : Int) / 4 = ((y / 4 : Nat) : Int) from divN y 4, e1, e2, ← Int.natCast_add, ← swarB_eq, u64_wrap _ hB]
theorem s64C (z : Nat) (hz : z / 16 + z < 18446744073709551616) : bits .and .u64 (IntKind.u64.wrap ((z : Int) / 16 + (z : Int))) 1085102592571150095 = (swarC z : Nat) := by
  have e1 := u64_and (z / 16 + z) 1085102592571150095 hz (by omega)
  rw [show ((1085102592571150095 : Nat) : Int) = 1085102592571150095 from rfl] at e1
  rw [show (z : Int) / 16 = ((z / 16 : Nat) : Int) from divN z 16, ← Int.natCast_add, u64_wrap _ hz, e1, ← swarC_eq]
theorem s64s (z d : Nat) (h : z + z / d < 18446744073709551616) : IntKind.u64.wrap ((z : Int) + (z : Int) / (d : Int)) = ((z + z / d : Nat) : Int) := by
  rw [divN, ← Int.natCast_add, u64_wrap _ h]
theorem s64_end (x : Nat) (hx : x < 18446744073709551616) (c a b e : Nat) (hc : c = swarC (swarB (swarA x))) (ha : a = c + c / 256) (hb : b = a + a / 65536) (he : e = b + b / 4294967296) :
    a < 9223372036854775808 ∧ b < 9223372036854775808 ∧ e < 9223372036854775808 ∧ e % 128 = popN 64 x := by
  obtain ⟨p0, p1, p2, p3, p4, p5, p6, p7, h0, h1, h2, h3, h4, h5, h6, h7, hA, hB, hS, hC, hP⟩ := swar_bytes x hx
  rw [hP]
  exact swar_tail p0 p1 p2 p3 p4 p5 p6 p7 h0 h1 h2 h3 h4 h5 h6 h7 c a b e (by rw [hc, hC]) ha hb he
set_option maxHeartbeats 800000 in
theorem b_Ones64 (x : Nat) (w : World) (hx : x < 18446744073709551616) : Calls Try.prog 170 #[.int .u64 x] w fun e w' => e = .returned (.int .i64 (popN 64 x : Nat)) ∧ w = w' := by
  have HX := Lib.hid hx
  clear hx
  go_enter Try.func170, Try.ntmps170
  go_wp2_with fail
  go_ret
  refine ⟨ret_int ?_, rfl⟩
  have hx := HX.out
  obtain ⟨p0, p1, p2, p3, p4, p5, p6, p7, _, _, _, _, _, _, _, _, hA, hB, hS, _, _⟩ := swar_bytes x hx
  obtain ⟨k1, k2, k3, k4⟩ := s64_end x hx _ _ _ _ rfl rfl rfl rfl
  have hC : swarC (swarB (swarA x)) < 18446744073709551616 := by omega
  have t1 := s64s (swarC (swarB (swarA x))) 256 (by omega)
  have t2 := s64s (swarC (swarB (swarA x)) + swarC (swarB (swarA x)) / 256) 65536 (by omega)
  have t3 := s64s (swarC (swarB (swarA x)) + swarC (swarB (swarA x)) / 256 + (swarC (swarB (swarA x)) + swarC (swarB (swarA x)) / 256) / 65536) 4294967296 (by omega)
  rw [show ((256 : Nat) : Int) = 256 from rfl] at t1
  rw [show ((65536 : Nat) : Int) = 65536 from rfl] at t2
  rw [show ((4294967296 : Nat) : Int) = 4294967296 from rfl] at t3
  rw [s64A x hx, s64B _ hA hB, s64C _ hS, t1, t2, t3]
  generalize swarC (swarB (swarA x)) + swarC (swarB (swarA x)) / 256 + (swarC (swarB (swarA x)) + swarC (swarB (swarA x)) / 256) / 65536 + (swarC (swarB (swarA x)) + swarC (swarB (swarA x)) / 256 + (swarC (swarB (swarA x)) + swarC (swarB (swarA x)) / 256) / 65536) / 4294967296 = e at k3 k4
  have hw : wrap64 (e : Int) = e := by unfold wrap64; omega
  rw [hw, i64_low, k4]
set_option maxHeartbeats 800000 in
theorem b_Ones (x : Nat) (w : World) (hx : x < 18446744073709551616) : Calls Try.prog 154 #[.int .u64 x] w fun e w' => e = .returned (.int .i64 (popN 64 x : Nat)) ∧ w = w' := by
  have HX := Lib.hid hx
  clear hx
  go_enter Try.func154, Try.ntmps154
  go_wp2_with fail
  refine (b_Ones64 x _ HX.out).mono ?_
  rintro e w' ⟨rfl, rfl⟩
  go_wp2_with fail
  go_ret
  exact ⟨rfl, rfl⟩
set_option maxHeartbeats 800000 in
theorem i_ones (x : Int) (w : World) : Calls Try.prog 106 #[.int .i64 x] w fun e w' => e = .returned (.int .i64 (onesI x)) ∧ w = w' := by
  obtain ⟨n, hn, hw⟩ : ∃ n : Nat, n < 18446744073709551616 ∧ IntKind.u64.wrap x = n ∧ popN 64 n = popN 64 (x % 18446744073709551616).toNat := by
    refine ⟨(x % 18446744073709551616).toNat, by omega, ?_, rfl⟩
    have : IntKind.u64.wrap x = x % 18446744073709551616 := by rfl
    rw [this]; omega
  obtain ⟨hw, he⟩ := hw
  have HN := Lib.hid hn
  have HE := Lib.hid he
  clear hn he
  go_enter Try.func106, Try.ntmps106
  go_wp2_with fail
  refine (b_Ones n _ HN.out).mono ?_
  rintro e w' ⟨rfl, rfl⟩
  go_wp2_with fail
  go_ret
  exact ⟨ret_int (by rw [HE.out]; rfl), rfl⟩
theorem and_one (a : Int) : bits .and .i64 a 1 = a % 2 := by
  have h : bits .and .i64 a 1 = IntKind.i64.wrap (((BitVec.ofInt 64 a &&& BitVec.ofInt 64 (1 : Int)).toNat : Nat) : Int) := rfl
  have h2 : (BitVec.ofInt 64 (1 : Int)).toNat = 1 := by decide
  have h3 : (BitVec.ofInt 64 a &&& BitVec.ofInt 64 (1 : Int)).toNat = (BitVec.ofInt 64 a).toNat % 2 := by
    rw [BitVec.toNat_and, h2, Nat.and_one_is_mod]
  have h4 : (BitVec.ofInt 64 a).toNat = (a % 18446744073709551616).toNat := by
    rw [BitVec.toNat_ofInt]; rfl
  rw [h, IntKind.wrap_i64, h3, h4]
  omega
theorem shr_bit (x : Int) (k f : Nat) : ((popN (f + 1) ((x % 18446744073709551616).toNat / 2 ^ k) : Nat) : Int) = ((x % 18446744073709551616).toNat / 2 ^ k % 2 : Nat) + (popN f ((x % 18446744073709551616).toNat / 2 ^ (k + 1)) : Nat) := by
  rw [popN_bit]; omega
/-- Bit k of x, below bit 64. -/
theorem bit_of (x : Int) (k : Nat) (hk : k < 64) : (x / 2 ^ k) % 2 = (((x % 18446744073709551616).toNat / 2 ^ k % 2 : Nat) : Int) := by
  obtain ⟨r, q, hr, h1⟩ : ∃ (r : Nat) (q : Int), (x % 18446744073709551616).toNat = r ∧ x = r + 18446744073709551616 * q := ⟨_, x / 18446744073709551616, rfl, by omega⟩
  rw [hr]
  have h2 : (18446744073709551616 : Int) = 2 * 2 ^ (63 - k) * 2 ^ k := by
    rw [Int.mul_assoc, ← Int.pow_add, show 63 - k + k = 63 by omega]; rfl
  have h3 : x = r + (2 * (2 ^ (63 - k) * q)) * 2 ^ k := by
    rw [h1, h2]
    congr 1
    rw [Int.mul_assoc, Int.mul_assoc, Int.mul_assoc, Int.mul_comm (2 ^ k) q]
    rw [Int.mul_assoc]
  rw [h3, Int.add_mul_ediv_right _ _ (Int.pow_ne_zero (by omega)), Int.natCast_emod, Int.natCast_ediv, Int.natCast_pow]
  have h4 : ((2 : Nat) : Int) = 2 := rfl
  rw [h4]
  omega
def cntTo (x : Int) : Nat → Int
  | 0 => 0
  | k + 1 => cntTo x k + (x / 2 ^ k) % 2
theorem cntTo_pop (x : Int) : ∀ k : Nat, k ≤ 64 → cntTo x k + (popN (64 - k) ((x % 18446744073709551616).toNat / 2 ^ k) : Nat) = onesI x
  | 0, _ => by simp [cntTo, onesI]
  | k + 1, h => by
    have ih := cntTo_pop x k (by omega)
    obtain ⟨f, hf⟩ : ∃ f, 64 - k = f + 1 := ⟨63 - k, by omega⟩
    rw [hf, shr_bit, ← bit_of x k (by omega)] at ih
    rw [show 64 - (k + 1) = f by omega, cntTo]
    omega
theorem cntTo_bd (x : Int) : ∀ k : Nat, 0 ≤ cntTo x k ∧ cntTo x k ≤ k
  | 0 => by simp [cntTo]
  | k + 1 => by
    have := cntTo_bd x k
    rw [cntTo]
    omega
theorem onesI_bd (x : Int) : 0 ≤ onesI x ∧ onesI x ≤ 64 := by
  have := popN_le 64 (x % 18446744073709551616).toNat
  unfold onesI
  omega
set_option maxHeartbeats 800000 in
theorem s_ones (x : Int) (w : World) : Calls Try.prog 103 #[.int .i64 x] w fun e w' => e = .returned (.int .i64 (onesI x)) ∧ w = w' := by
  go_enter Try.func103, Try.ntmps103
  go_wp2_with fail
  go_loop [3, 4] (fun n i => ∃ k : Nat, k ≤ 64 ∧ i = .int .i64 k ∧ n = .int .i64 (cntTo x k)) (fun _ i => 64 - (intOf i).toNat)
  case atStart => exact ⟨0, by omega, rfl, rfl⟩
  case round =>
    obtain ⟨k, hk, rfl, rfl⟩ := hrel
    have hb := cntTo_bd x k
    by_cases hlt : k < 64
    · have h1 := and_one (x / 2 ^ k)
      have h2 : 0 ≤ (x / 2 ^ k) % 2 ∧ (x / 2 ^ k) % 2 ≤ 1 := by omega
      have HC : Hid (cntTo x (k + 1) = cntTo x k + (x / 2 ^ k) % 2) := Lib.hid rfl
      generalize (x / 2 ^ k) % 2 = z at h1 h2 HC
      go_wp2_with fail
      go_round
      case rel => exact ⟨k + 1, by omega, by go_num, by rw [HC.out]⟩
      case measure => simp [intOf]; omega
    · obtain rfl : k = 64 := by omega
      have HC : Hid (cntTo x 64 = onesI x) := Lib.hid (by have := cntTo_pop x 64 (by omega); simpa [popN] using this)
      go_wp2_with fail
      go_ret
      exact ⟨ret_int HC.out, rfl⟩
end Go.Proofs.Ytibhikngiceeeaa
