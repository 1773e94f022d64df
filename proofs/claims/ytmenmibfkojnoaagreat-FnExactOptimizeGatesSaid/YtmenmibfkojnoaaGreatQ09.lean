/- Contracts of InverseGate, mod8 and l32Rest. -/
import Derived.Test.YtmenmibfkojnoaaGreatQ01
set_option maxHeartbeats 16000000
namespace Go.Proofs.YtmenmibfkojnoaaGreat
open Go.RowKit
def invK (k : Int) : Int := if k = 5 then 6 else if k = 6 then 5 else if k = 7 then 8 else if k = 8 then 7 else k
theorem invK_cases (k : Int) : (k = 5 /\ invK k = 6) ∨ (k = 6 /\ invK k = 5) ∨ (k = 7 /\ invK k = 8) ∨ (k = 8 /\ invK k = 7) ∨ (k ≠ 5 /\ k ≠ 6 /\ k ≠ 7 /\ k ≠ 8 /\ invK k = k) := by
 unfold invK
 by_cases h5 : k = 5
 ·simp [h5]
 ·by_cases h6 : k = 6
  ·simp [h6]
  ·by_cases h7 : k = 7
   ·simp [h7]
   ·by_cases h8 : k = 8
    ·simp [h8]
    ·simp [h5, h6, h7, h8]
theorem s_InverseGate (k a b c : Int) (w : World) : Calls Tryz.prog 154 #[.agg #[.int .i64 k, .int .i64 a, .int .i64 b, .int .i64 c]] w fun e w' => e = .returned (.agg #[.int .i64 (invK k), .int .i64 a, .int .i64 b, .int .i64 c]) /\ Below w.heap.size w w' := by
 rcases invK_cases k with ⟨rfl, h⟩ | ⟨rfl, h⟩ | ⟨rfl, h⟩ | ⟨rfl, h⟩ | ⟨h5, h6, h7, h8, h⟩
 ·rw [h]
  clear h
  go_enter Tryz.func154, Tryz.ntmps154
  go_wp2
  exact bodyPost_ret (v := .agg #[.int .i64 6, .int .i64 a, .int .i64 b, .int .i64 c]) (by simp [results, Tryz.results154, go_sem]) rfl ⟨rfl, (by repeat (first | exact zW | assumption | refine Below.drew ?_ | refine Below.alloc ?_ (by simp <;> omega) _))⟩
 ·rw [h]
  clear h
  go_enter Tryz.func154, Tryz.ntmps154
  go_wp2
  exact bodyPost_ret (v := .agg #[.int .i64 5, .int .i64 a, .int .i64 b, .int .i64 c]) (by simp [results, Tryz.results154, go_sem]) rfl ⟨rfl, (by repeat (first | exact zW | assumption | refine Below.drew ?_ | refine Below.alloc ?_ (by simp <;> omega) _))⟩
 ·rw [h]
  clear h
  go_enter Tryz.func154, Tryz.ntmps154
  go_wp2
  exact bodyPost_ret (v := .agg #[.int .i64 8, .int .i64 a, .int .i64 b, .int .i64 c]) (by simp [results, Tryz.results154, go_sem]) rfl ⟨rfl, (by repeat (first | exact zW | assumption | refine Below.drew ?_ | refine Below.alloc ?_ (by simp <;> omega) _))⟩
 ·rw [h]
  clear h
  go_enter Tryz.func154, Tryz.ntmps154
  go_wp2
  exact bodyPost_ret (v := .agg #[.int .i64 7, .int .i64 a, .int .i64 b, .int .i64 c]) (by simp [results, Tryz.results154, go_sem]) rfl ⟨rfl, (by repeat (first | exact zW | assumption | refine Below.drew ?_ | refine Below.alloc ?_ (by simp <;> omega) _))⟩
 ·rw [h]
  clear h
  go_enter Tryz.func154, Tryz.ntmps154
  go_wp2
  exact bodyPost_ret (v := .agg #[.int .i64 k, .int .i64 a, .int .i64 b, .int .i64 c]) (by simp [results, Tryz.results154, go_sem]) rfl ⟨rfl, (by repeat (first | exact zW | assumption | refine Below.drew ?_ | refine Below.alloc ?_ (by simp <;> omega) _))⟩
theorem i_InverseGate (k a b c : Int) (w : World) : Calls Tryz.prog 126 #[.agg #[.int .i64 k, .int .i64 a, .int .i64 b, .int .i64 c]] w fun e w' => e = .returned (.agg #[.int .i64 (invK k), .int .i64 a, .int .i64 b, .int .i64 c]) /\ Below w.heap.size w w' := by
 rcases invK_cases k with ⟨rfl, h⟩ | ⟨rfl, h⟩ | ⟨rfl, h⟩ | ⟨rfl, h⟩ | ⟨h5, h6, h7, h8, h⟩
 ·rw [h]
  clear h
  go_enter Tryz.func126, Tryz.ntmps126
  go_wp2
  exact bodyPost_ret (v := .agg #[.int .i64 6, .int .i64 a, .int .i64 b, .int .i64 c]) (by simp [results, Tryz.results126, go_sem]) rfl ⟨rfl, (by repeat (first | exact zW | assumption | refine Below.drew ?_ | refine Below.alloc ?_ (by simp <;> omega) _))⟩
 ·rw [h]
  clear h
  go_enter Tryz.func126, Tryz.ntmps126
  go_wp2
  exact bodyPost_ret (v := .agg #[.int .i64 5, .int .i64 a, .int .i64 b, .int .i64 c]) (by simp [results, Tryz.results126, go_sem]) rfl ⟨rfl, (by repeat (first | exact zW | assumption | refine Below.drew ?_ | refine Below.alloc ?_ (by simp <;> omega) _))⟩
 ·rw [h]
  clear h
  go_enter Tryz.func126, Tryz.ntmps126
  go_wp2
  exact bodyPost_ret (v := .agg #[.int .i64 8, .int .i64 a, .int .i64 b, .int .i64 c]) (by simp [results, Tryz.results126, go_sem]) rfl ⟨rfl, (by repeat (first | exact zW | assumption | refine Below.drew ?_ | refine Below.alloc ?_ (by simp <;> omega) _))⟩
 ·rw [h]
  clear h
  go_enter Tryz.func126, Tryz.ntmps126
  go_wp2
  exact bodyPost_ret (v := .agg #[.int .i64 7, .int .i64 a, .int .i64 b, .int .i64 c]) (by simp [results, Tryz.results126, go_sem]) rfl ⟨rfl, (by repeat (first | exact zW | assumption | refine Below.drew ?_ | refine Below.alloc ?_ (by simp <;> omega) _))⟩
 ·rw [h]
  clear h
  go_enter Tryz.func126, Tryz.ntmps126
  go_wp2
  exact bodyPost_ret (v := .agg #[.int .i64 k, .int .i64 a, .int .i64 b, .int .i64 c]) (by simp [results, Tryz.results126, go_sem]) rfl ⟨rfl, (by repeat (first | exact zW | assumption | refine Below.drew ?_ | refine Below.alloc ?_ (by simp <;> omega) _))⟩
theorem tmod8 (n : Int) : -8 < n.tmod 8 /\ n.tmod 8 < 8 /\ (0 <= n.tmod 8 -> n.tmod 8 = n % 8) /\ (n.tmod 8 < 0 -> n.tmod 8 + 8 = n % 8) := by
 have h := Int.tmod_eq_emod (a := n) (b := 8)
 have h1 := Int.emod_nonneg n (show (8 : Int) ≠ 0 by omega)
 have h2 := Int.emod_lt_of_pos n (show (0 : Int) < 8 by omega)
 split at h <;> simp at h <;> omega
theorem s_l32Rest (n : Int) (w : World) : Calls Tryz.prog 58 #[.int .i64 n] w fun e w' => e = .returned (.int .i64 (n % 8)) /\ w = w' := by
 obtain ⟨h1, h2, h3, h4⟩ := tmod8 n
 obtain ⟨r, hr⟩ : ∃ r, n.tmod 8 = r := ⟨_, rfl⟩
 rw [hr] at h1 h2 h3 h4
 by_cases h : r < 0
 ·go_enter Tryz.func58, Tryz.ntmps58
  go_wp2
  go_ret
  exact ⟨ret_int (by omega), rfl⟩
 ·go_enter Tryz.func58, Tryz.ntmps58
  go_wp2
  go_ret
  exact ⟨ret_int (by omega), rfl⟩
theorem i_mod8 (n : Int) (w : World) : Calls Tryz.prog 43 #[.int .i64 n] w fun e w' => e = .returned (.int .i64 (n % 8)) /\ w = w' := by
 obtain ⟨h1, h2, h3, h4⟩ := tmod8 n
 obtain ⟨r, hr⟩ : ∃ r, n.tmod 8 = r := ⟨_, rfl⟩
 rw [hr] at h1 h2 h3 h4
 go_enter Tryz.func43, Tryz.ntmps43
 go_wp2
 go_ret
 exact ⟨ret_int (by omega), rfl⟩
end Go.Proofs.YtmenmibfkojnoaaGreat
