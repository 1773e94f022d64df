/- Contracts of IsPermutation (spec and impl). At most 2^40 numbers. -/
import Derived.Test.YtibhikngiceeeaaQubits
import Derived.Test.YtibhikngiceeeaaBase
import Derived.Deep.QuietTactic
import Derived.BigQuiet
namespace Go.Proofs.Ytibhikngiceeeaa
open Go.RowKit

def permOk (n : Int) : List Int → List Int → Bool
  | _, [] => true
  | pre, x :: r => inB x 0 (n - 1) && (!hasI pre x && permOk n (pre ++ [x]) r)
def isPerm (zs : List Int) : Bool := permOk zs.length [] zs && inB zs.length 1 4
theorem permOk_step {n : Int} {zs : List Int} {k : Nat} {x : Int} (hd : zs.drop k = x :: zs.drop (k + 1)) : permOk n (zs.take k) (zs.drop k) = (inB x 0 (n - 1) && (!hasI (zs.take k) x && permOk n (zs.take (k + 1)) (zs.drop (k + 1)))) := by
  rw [hd, permOk, take_snoc hd]
theorem hasI_snoc (zs : List Int) (x y : Int) : hasI (zs ++ [x]) y = (hasI zs y || x == y) := by simp [hasI]

set_option maxHeartbeats 1600000 in
theorem s_IsPermutation (A : Option Addr) (n cap : Nat) (zs : List Int) (w : World) (h : RdI w A n zs) (hnc : n ≤ cap) (hn : n ≤ 1099511627776) :
    Calls Try.prog 93 #[.slice A n cap] w fun e w' => e = .returned (.bool (isPerm zs)) ∧ Below w.heap.size w w' := by
  have H := Lib.hid h
  have HP : Hid (isPerm zs = (permOk n [] zs && inB n 1 4)) := by rw [← h.1]; rfl
  clear h
  go_enter Try.func93, Try.ntmps93
  go_wp2_with fail
  go_loopg [3] n (fun m i wr => ∃ (k : Nat), k + m = n ∧ i = .int .i64 k ∧ permOk n (zs.take k) (zs.drop k) = permOk n [] zs ∧ Below w.heap.size w wr)
  case atStart => exact ⟨0, by omega, rfl, by simp, Below.refl _ _⟩
  case round =>
    obtain ⟨k, hk, rfl, hx, hb⟩ := hrel
    have HX := Lib.hid hx
    clear hx
    by_cases hlt : k < n
    · have Hr := H.out.below hb
      obtain ⟨b, off, x, rfl, hB, hd, c0⟩ := Hr.at_ hlt
      have HR := Lib.hid (Hr.pre (k := k) (by omega))
      have HD := Lib.hid hd
      have HS := Lib.hid (permOk_step (n := n) hd)
      clear hd Hr
      have hi0 : (0 : Int) ≤ (k : Int) := by omega
      have hi1 : (k : Int) < (n : Int) := by omega
      have hi2 : (k : Int) ≤ (cap : Int) := by omega
      cases hin : inB x 0 (n - 1)
      · go_wp2_with fail
        go_quiet ((go_at_call 43; exact quiet_left (s_in _ _ _ _)))
        go_wp2_with fail
        go_ret
        exact ⟨ret_bool (by rw [HP.out, ← HX.out, HS.out, hin]; rfl), below_drewN hb _⟩
      · cases hhas : hasI (zs.take k) x
        · go_wp2_with fail
          go_quiet (first | (go_at_call 43; exact quiet_left (s_in _ _ _ _)) | (go_at_call 45; exact quiet_left (s_hasI _ _ _ (zs.take k) _ _ HR.out (by omega))))
          go_wp2_with fail
          go_roundg (gk - 1)
          case measure => omega
          case rel => exact ⟨k + 1, by omega, by go_num, by rw [← HX.out, HS.out, hin, hhas]; rfl, below_drewN hb _⟩
        · go_wp2_with fail
          go_quiet (first | (go_at_call 43; exact quiet_left (s_in _ _ _ _)) | (go_at_call 45; exact quiet_left (s_hasI _ _ _ (zs.take k) _ _ HR.out (by omega))))
          go_wp2_with fail
          go_ret
          exact ⟨ret_bool (by rw [HP.out, ← HX.out, HS.out, hin, hhas]; rfl), below_drewN hb _⟩
    · go_wp2_with fail
      refine (s_in _ _ _ _).mono ?_
      rintro e w' ⟨rfl, rfl⟩
      go_wp2_with fail
      go_ret
      refine ⟨ret_bool ?_, hb⟩
      have h1 := H.out.1
      rw [HP.out, ← HX.out, List.drop_eq_nil_of_le (by omega)]
      rfl

set_option maxHeartbeats 3200000 in
theorem i_IsPermutation (A : Option Addr) (n cap : Nat) (zs : List Int) (w : World) (h : RdI w A n zs) (hn : n ≤ 1099511627776) :
    Calls Try.prog 38 #[.slice A n cap] w fun e w' => e = .returned (.bool (isPerm zs)) ∧ Below w.heap.size w w' := by
  have H := Lib.hid h
  have HP : Hid (isPerm zs = (permOk n [] zs && inB n 1 4)) := by rw [← h.1]; rfl
  clear h
  by_cases h14 : 1 ≤ n ∧ n ≤ 4
  · have h1 := h14.1
    have h4 := h14.2
    clear h14
    go_enter Try.func38, Try.ntmps38
    go_wp2_with fail
    refine (i_in _ _ _ _).mono ?_
    rintro e w' ⟨rfl, rfl⟩
    rw [inB_t (by omega) (by omega)]
    go_wp2_with fail
    go_loopg [13] n (fun m i wr => ∃ (k : Nat) (s0 s1 s2 s3 : Bool), k + m = n ∧ i = .int .i64 k ∧ permOk n (zs.take k) (zs.drop k) = permOk n [] zs ∧ s0 = hasI (zs.take k) 0 ∧ s1 = hasI (zs.take k) 1 ∧ s2 = hasI (zs.take k) 2 ∧ s3 = hasI (zs.take k) 3 ∧ wr = w.alloc (.cells #[.bool s0, .bool s1, .bool s2, .bool s3] 126))
    case atStart => exact ⟨0, false, false, false, false, by omega, rfl, by simp, by simp [hasI], by simp [hasI], by simp [hasI], by simp [hasI], rfl⟩
    case round =>
      obtain ⟨k, s0, s1, s2, s3, hk, rfl, hx, e0, e1, e2, e3, rfl⟩ := hrel
      have HX := Lib.hid hx
      have E0 := Lib.hid e0
      have E1 := Lib.hid e1
      have E2 := Lib.hid e2
      have E3 := Lib.hid e3
      clear hx e0 e1 e2 e3
      by_cases hlt : k < n
      · obtain ⟨b, off, x, rfl, hB, hd, c0⟩ := H.out.at_ hlt
        have HD := Lib.hid hd
        have HS := Lib.hid (permOk_step (n := n) hd)
        clear hd
        have hne : b ≠ w.heap.size := by omega
        by_cases hin : 0 ≤ x ∧ x ≤ (n : Int) - 1
        · obtain ⟨hx0, hxn⟩ := hin
          have HI := Lib.hid (inB_t hx0 hxn)
          by_cases hx0 : x = 0
          · subst hx0
            cases s0
            · go_wp2_with fail
              refine (i_in _ _ _ _).mono ?_
              rintro e w' ⟨rfl, rfl⟩
              rw [HI.out]
              go_wp2_with fail
              go_roundg (gk - 1)
              case measure => omega
              case rel =>
                refine ⟨k + 1, true, s1, s2, s3, by omega, by go_num, by rw [← HX.out, HS.out, HI.out, ← E0.out]; rfl, by rw [take_snoc HD.out, hasI_snoc, ← E0.out]; simp, by rw [take_snoc HD.out, hasI_snoc, ← E1.out]; simp, by rw [take_snoc HD.out, hasI_snoc, ← E2.out]; simp, by rw [take_snoc HD.out, hasI_snoc, ← E3.out]; simp, rfl⟩
            · go_wp2_with fail
              refine (i_in _ _ _ _).mono ?_
              rintro e w' ⟨rfl, rfl⟩
              rw [HI.out]
              go_wp2_with fail
              go_ret
              exact ⟨ret_bool (by rw [HP.out, ← HX.out, HS.out, HI.out, ← E0.out]; rfl), (Below.refl _ _).alloc (Nat.le_refl _) _⟩
          by_cases hx1 : x = 1
          · subst hx1
            cases s1
            · go_wp2_with fail
              refine (i_in _ _ _ _).mono ?_
              rintro e w' ⟨rfl, rfl⟩
              rw [HI.out]
              go_wp2_with fail
              go_roundg (gk - 1)
              case measure => omega
              case rel =>
                refine ⟨k + 1, s0, true, s2, s3, by omega, by go_num, by rw [← HX.out, HS.out, HI.out, ← E1.out]; rfl, by rw [take_snoc HD.out, hasI_snoc, ← E0.out]; simp, by rw [take_snoc HD.out, hasI_snoc, ← E1.out]; simp, by rw [take_snoc HD.out, hasI_snoc, ← E2.out]; simp, by rw [take_snoc HD.out, hasI_snoc, ← E3.out]; simp, rfl⟩
            · go_wp2_with fail
              refine (i_in _ _ _ _).mono ?_
              rintro e w' ⟨rfl, rfl⟩
              rw [HI.out]
              go_wp2_with fail
              go_ret
              exact ⟨ret_bool (by rw [HP.out, ← HX.out, HS.out, HI.out, ← E1.out]; rfl), (Below.refl _ _).alloc (Nat.le_refl _) _⟩
          by_cases hx2 : x = 2
          · subst hx2
            cases s2
            · go_wp2_with fail
              refine (i_in _ _ _ _).mono ?_
              rintro e w' ⟨rfl, rfl⟩
              rw [HI.out]
              go_wp2_with fail
              go_roundg (gk - 1)
              case measure => omega
              case rel =>
                refine ⟨k + 1, s0, s1, true, s3, by omega, by go_num, by rw [← HX.out, HS.out, HI.out, ← E2.out]; rfl, by rw [take_snoc HD.out, hasI_snoc, ← E0.out]; simp, by rw [take_snoc HD.out, hasI_snoc, ← E1.out]; simp, by rw [take_snoc HD.out, hasI_snoc, ← E2.out]; simp, by rw [take_snoc HD.out, hasI_snoc, ← E3.out]; simp, rfl⟩
            · go_wp2_with fail
              refine (i_in _ _ _ _).mono ?_
              rintro e w' ⟨rfl, rfl⟩
              rw [HI.out]
              go_wp2_with fail
              go_ret
              exact ⟨ret_bool (by rw [HP.out, ← HX.out, HS.out, HI.out, ← E2.out]; rfl), (Below.refl _ _).alloc (Nat.le_refl _) _⟩
          by_cases hx3 : x = 3
          · subst hx3
            cases s3
            · go_wp2_with fail
              refine (i_in _ _ _ _).mono ?_
              rintro e w' ⟨rfl, rfl⟩
              rw [HI.out]
              go_wp2_with fail
              go_roundg (gk - 1)
              case measure => omega
              case rel =>
                refine ⟨k + 1, s0, s1, s2, true, by omega, by go_num, by rw [← HX.out, HS.out, HI.out, ← E3.out]; rfl, by rw [take_snoc HD.out, hasI_snoc, ← E0.out]; simp, by rw [take_snoc HD.out, hasI_snoc, ← E1.out]; simp, by rw [take_snoc HD.out, hasI_snoc, ← E2.out]; simp, by rw [take_snoc HD.out, hasI_snoc, ← E3.out]; simp, rfl⟩
            · go_wp2_with fail
              refine (i_in _ _ _ _).mono ?_
              rintro e w' ⟨rfl, rfl⟩
              rw [HI.out]
              go_wp2_with fail
              go_ret
              exact ⟨ret_bool (by rw [HP.out, ← HX.out, HS.out, HI.out, ← E3.out]; rfl), (Below.refl _ _).alloc (Nat.le_refl _) _⟩
          exact absurd hx3 (by omega)
        · have HI := Lib.hid (inB_f (n := x) (lo := 0) (hi := (n : Int) - 1) (by omega))
          go_wp2_with fail
          refine (i_in _ _ _ _).mono ?_
          rintro e w' ⟨rfl, rfl⟩
          rw [HI.out]
          go_wp2_with fail
          go_ret
          exact ⟨ret_bool (by rw [HP.out, ← HX.out, HS.out, HI.out]; rfl), (Below.refl _ _).alloc (Nat.le_refl _) _⟩
      · go_wp2_with fail
        go_ret
        refine ⟨ret_bool ?_, (Below.refl _ _).alloc (Nat.le_refl _) _⟩
        have h1 := H.out.1
        rw [HP.out, ← HX.out, List.drop_eq_nil_of_le (by omega), inB_t (by omega) (by omega)]
        rfl
  · go_enter Try.func38, Try.ntmps38
    go_wp2_with fail
    refine (i_in _ _ _ _).mono ?_
    rintro e w' ⟨rfl, rfl⟩
    rw [inB_f (by omega)]
    go_wp2_with fail
    go_ret
    exact ⟨ret_bool (by rw [HP.out, inB_f (n := n) (by omega)]; simp), (Below.refl _ _).alloc (Nat.le_refl _) _⟩
end Go.Proofs.Ytibhikngiceeeaa
