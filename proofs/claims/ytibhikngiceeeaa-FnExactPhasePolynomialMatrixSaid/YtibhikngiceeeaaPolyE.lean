/- Contracts of same at terms and outputs, and of EqualPhasePolynomial (impl and spec). At most 2^40 terms and outputs. -/
import Derived.Test.YtibhikngiceeeaaPolyC
import Derived.Deep.QuietTactic
import Derived.BigQuiet
namespace Go.Proofs.Ytibhikngiceeeaa
open Go.RowKit

def sameP (a b : List (Int × Int)) : Bool := decide (a = b)
theorem sameP_len {a b : List (Int × Int)} (h : a.length ≠ b.length) : sameP a b = false := by
  unfold sameP
  rw [decide_eq_false_iff_not]
  rintro rfl
  exact h rfl
theorem sameP_ne {a b : List (Int × Int)} {k : Nat} {x y : Int × Int} {r s : List (Int × Int)} (h1 : a.drop k = x :: r) (h2 : b.drop k = y :: s) (h : x ≠ y) : sameP a b = false := by
  unfold sameP
  rw [decide_eq_false_iff_not]
  rintro rfl
  rw [h1] at h2
  injection h2 with h2 _
  exact h h2
theorem dnn (w : World) (a b : Nat) : (w.drewN a).drewN b = w.drewN (a + b) := by simp [World.drewN, Nat.add_assoc]
theorem RdP.drewNN {w : World} {n : Nat} {A : Option Addr} {gs : List (Int × Int)} (h : RdP w A n gs) (q : Nat) : RdP (w.drewN q) A n gs := ⟨h.1, h.2.drewN q⟩
theorem sameP_self (a : List (Int × Int)) : sameP a a = true := by simp [sameP]

set_option maxRecDepth 100000 in
set_option maxHeartbeats 1600000 in
theorem i_samePT (A A' : Option Addr) (n n' c c' : Nat) (a b : List (Int × Int)) (w : World) (h : RdP w A n a) (h' : RdP w A' n' b) (hn : n ≤ 1099511627776) (hn' : n' ≤ 1099511627776) :
    Calls Try.prog 74 #[.slice A n c, .slice A' n' c'] w fun e w' => e = .returned (.bool (sameP a b)) ∧ ∃ m, w' = w.drewN m := by
  have H := Lib.hid h
  have H' := Lib.hid h'
  have hl := h.1
  have hl' := h'.1
  clear h h'
  by_cases hnn : n = n'
  · subst hnn
    clear hl hl'
    go_enter Try.func74, Try.ntmps74
    go_wp2_with fail
    go_loopg [13] n (fun m i wr => ∃ (k q : Nat), k + m = n ∧ i = .int .i64 k ∧ a.take k = b.take k ∧ wr = w.drewN q)
    case atStart => exact ⟨0, 0, by omega, rfl, rfl, rfl⟩
    case round =>
      obtain ⟨k, q, hk, rfl, he, rfl⟩ := hrel
      have HE := Lib.hid he
      clear he
      by_cases hlt : k < n
      · obtain ⟨g, off, x, y, hA, hB, hd, c0, c1⟩ := H.out.at_ hlt
        obtain ⟨g', off', x', y', hA', hB', hd', c0', c1'⟩ := H'.out.at_ hlt
        subst hA hA'
        have HD := Lib.hid hd
        have HD' := Lib.hid hd'
        clear hd hd'
        have hkI : (k : Int) < (n : Int) := by omega
        have hk0 : (0 : Int) ≤ (k : Int) := by omega
        by_cases hx : x = x'
        · subst hx
          by_cases hy : y = y'
          · subst hy
            go_wp2_with fail
            go_quiet (fail)
            go_wp2_with fail
            go_roundg (gk - 1)
            case measure => omega
            case rel => exact ⟨k + 1, _, by omega, by go_num, by rw [take_snoc HD.out, take_snoc HD'.out, HE.out], rfl⟩
          · have hy1 : (y == y') = false := by simpa using hy
            go_wp2_with fail
            go_quiet (fail)
            go_wp2_with fail
            go_ret
            exact ⟨ret_bool (sameP_ne HD.out HD'.out (by simpa using hy)).symm, _, dnn _ _ _⟩
        · have hx1 : (x == x') = false := by simpa using hx
          go_wp2_with fail
          go_quiet (fail)
          go_wp2_with fail
          go_ret
          exact ⟨ret_bool (sameP_ne HD.out HD'.out (by intro h; injection h; contradiction)).symm, _, dnn _ _ _⟩
      · go_wp2_with fail
        go_ret
        obtain rfl : k = n := by omega
        refine ⟨ret_bool ?_, _, rfl⟩
        have e := HE.out
        rw [List.take_of_length_le (by have := H.out.1; omega), List.take_of_length_le (by have := H'.out.1; omega)] at e
        rw [e, sameP_self]
  · have hnn' : ((n : Int) != (n' : Int)) = true := by simp; omega
    go_enter Try.func74, Try.ntmps74
    go_wp2_with fail
    go_ret
    exact ⟨ret_bool (sameP_len (by omega)).symm, 0, rfl⟩
set_option maxRecDepth 100000 in
set_option maxHeartbeats 1600000 in
theorem i_samePA (A A' : Option Addr) (n n' c c' : Nat) (a b : List (Int × Int)) (w : World) (h : RdP w A n a) (h' : RdP w A' n' b) (hn : n ≤ 1099511627776) (hn' : n' ≤ 1099511627776) :
    Calls Try.prog 75 #[.slice A n c, .slice A' n' c'] w fun e w' => e = .returned (.bool (sameP a b)) ∧ ∃ m, w' = w.drewN m := by
  have H := Lib.hid h
  have H' := Lib.hid h'
  have hl := h.1
  have hl' := h'.1
  clear h h'
  by_cases hnn : n = n'
  · subst hnn
    clear hl hl'
    go_enter Try.func75, Try.ntmps75
    go_wp2_with fail
    go_loopg [13] n (fun m i wr => ∃ (k q : Nat), k + m = n ∧ i = .int .i64 k ∧ a.take k = b.take k ∧ wr = w.drewN q)
    case atStart => exact ⟨0, 0, by omega, rfl, rfl, rfl⟩
    case round =>
      obtain ⟨k, q, hk, rfl, he, rfl⟩ := hrel
      have HE := Lib.hid he
      clear he
      by_cases hlt : k < n
      · obtain ⟨g, off, x, y, hA, hB, hd, c0, c1⟩ := H.out.at_ hlt
        obtain ⟨g', off', x', y', hA', hB', hd', c0', c1'⟩ := H'.out.at_ hlt
        subst hA hA'
        have HD := Lib.hid hd
        have HD' := Lib.hid hd'
        clear hd hd'
        have hkI : (k : Int) < (n : Int) := by omega
        have hk0 : (0 : Int) ≤ (k : Int) := by omega
        by_cases hx : x = x'
        · subst hx
          by_cases hy : y = y'
          · subst hy
            go_wp2_with fail
            go_quiet (fail)
            go_wp2_with fail
            go_roundg (gk - 1)
            case measure => omega
            case rel => exact ⟨k + 1, _, by omega, by go_num, by rw [take_snoc HD.out, take_snoc HD'.out, HE.out], rfl⟩
          · have hy1 : (y == y') = false := by simpa using hy
            go_wp2_with fail
            go_quiet (fail)
            go_wp2_with fail
            go_ret
            exact ⟨ret_bool (sameP_ne HD.out HD'.out (by simpa using hy)).symm, _, dnn _ _ _⟩
        · have hx1 : (x == x') = false := by simpa using hx
          go_wp2_with fail
          go_quiet (fail)
          go_wp2_with fail
          go_ret
          exact ⟨ret_bool (sameP_ne HD.out HD'.out (by intro h; injection h; contradiction)).symm, _, dnn _ _ _⟩
      · go_wp2_with fail
        go_ret
        obtain rfl : k = n := by omega
        refine ⟨ret_bool ?_, _, rfl⟩
        have e := HE.out
        rw [List.take_of_length_le (by have := H.out.1; omega), List.take_of_length_le (by have := H'.out.1; omega)] at e
        rw [e, sameP_self]
  · have hnn' : ((n : Int) != (n' : Int)) = true := by simp; omega
    go_enter Try.func75, Try.ntmps75
    go_wp2_with fail
    go_ret
    exact ⟨ret_bool (sameP_len (by omega)).symm, 0, rfl⟩
end Go.Proofs.Ytibhikngiceeeaa
