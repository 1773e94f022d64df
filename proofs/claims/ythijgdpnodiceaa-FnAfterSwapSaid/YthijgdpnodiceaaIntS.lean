/- Contracts of the laws' helpers on slices of numbers: toIntS, eqIntS, sameInts, markIntS, heldIntS. At most 2^20 numbers where they are made, 2^40 else. -/
import Derived.Test.YthijgdpnodiceaaProg
import Derived.Test.YthijgdpnodiceaaBase
import Derived.Deep.QuietTactic
import Derived.BigQuiet
namespace Go.Proofs.Ythijgdpnodiceaa
open Go.RowKit

theorem infoInt1 : (Try.prog.info? 3).map (fun i => (i.zero, i.size, i.bytes)) = some (some (.int .i64 0), 1, 8) := by kernel_rfl

theorem setI {gs : List Int} {k n : Nat} (hk : k < n) (xs : List Value) (hx : xs.length = n) (g : Int) (hd : gs.drop k = g :: gs.drop (k + 1)) (ht : xs.take k = cellsI (gs.take k)) :
    (xs.set k (.int .i64 g)).take (k + 1) = cellsI (gs.take (k + 1)) := by
  have hl : k < gs.length := by
    rcases Nat.lt_or_ge k gs.length with h | h
    · exact h
    · rw [List.drop_eq_nil_of_le h] at hd; cases hd
  have e : gs.take (k + 1) = gs.take k ++ [g] := by
    rw [List.take_succ_eq_append_getElem hl]
    rw [drop_cons hl] at hd
    injection hd with h1 _
    rw [h1]
  rw [e, cellsI_append, ← ht]
  rw [List.take_succ_eq_append_getElem (by simp; omega)]
  simp [cellsI, List.take_set_of_le]
theorem own1 {w : World} {base : Nat} {e : TypeId} {g n c : Nat} {xs : List Value} (h : w.ownsRow base e 1 (.slice (some ⟨g, 0, none⟩) n c) n xs) {k : Nat} (hk : k < n) :
    (∃ v, w.cell? ⟨g, k, none⟩ = some v) ∧ w.frozen? ⟨g, k, none⟩ = false := by
  have hl := h.1
  exact ⟨⟨_, (h.cellAt k (by omega)).trans (List.getElem?_eq_getElem (by omega))⟩, h.frozenAt _⟩

set_option maxHeartbeats 400000 in
theorem l_toIntS (A : Option Addr) (n cap : Nat) (gs : List Int) (w : World) (h : RdI w A n gs) (hn : n ≤ 1048576) :
    Calls Try.prog 49 #[.slice A n cap] w (Ret 3 1 (cellsI gs) n w) := by
  have hmk := run_makeN (P := Try.prog) Try.underlying31 infoInt1 n (by omega) (by omega)
  have H := Lib.hid h
  clear h
  go_enter Try.func49, Try.ntmps49
  go_wp2
  clear hmk
  go_loopg [4] n (fun m i wr => ∃ k : Nat, k + m = n ∧ i = .int .i64 k ∧ Below w.heap.size w wr ∧ ∃ xs, wr.ownsRow w.heap.size 3 1 (.slice (some ⟨w.heap.size, 0, none⟩) n n) n xs ∧ xs.take k = cellsI (gs.take k))
  case atStart =>
    refine ⟨0, by omega, rfl, (Below.refl _ _).alloc (Nat.le_refl _) _, _, World.ownsRow_lit w _ n (Nat.le_refl _) (by unfold maxLen; omega) (by simp [size_madeCells]), by simp [cellsI]⟩
  case round =>
    obtain ⟨k, hk, rfl, hb, xs, hown, ht⟩ := hrel
    have HT := Lib.hid ht
    clear ht
    by_cases hlt : k < n
    · obtain ⟨b, off, x, rfl, hB, hd, c0⟩ := (H.out.below hb).at_ hlt
      have HD := Lib.hid hd
      clear hd
      obtain ⟨⟨x0, q0⟩, z0⟩ := own1 hown hlt
      go_wp2
      go_roundg (gk - 1)
      case measure => omega
      case rel =>
        have s1 := hown.stored k (.int .i64 x)
        exact ⟨k + 1, by omega, by go_num, hb.setCell (Nat.le_refl _) _, _, s1.1, setI hlt xs (by have := hown.1; omega) x HD.out HT.out⟩
    · go_wp2
      go_ret
      have e : xs = cellsI gs := by
        have h1 := HT.out
        have h2 := H.out.1
        have h3 := hown.1
        obtain rfl : k = n := by omega
        rwa [List.take_of_length_le (by omega), List.take_of_length_le (by omega)] at h1
      exact ⟨_, _, rfl, e ▸ hown, hb⟩

set_option maxHeartbeats 400000 in
theorem l_eqIntS_same (A A' : Option Addr) (n c c' : Nat) (gs : List Int) (w : World) (h : RdI w A n gs) (h' : RdI w A' n gs) (hn : n ≤ 1099511627776) :
    Calls Try.prog 51 #[.slice A n c, .slice A' n c'] w fun e w' => e = .returned (.bool true) ∧ Below w.heap.size w w' := by
  have H := Lib.hid h
  have H' := Lib.hid h'
  clear h h'
  go_enter Try.func51, Try.ntmps51
  go_wp2
  go_loopg [5] n (fun m i wr => ∃ k : Nat, k + m = n ∧ i = .int .i64 k ∧ Below w.heap.size w wr)
  case atStart => exact ⟨0, by omega, rfl, Below.refl _ _⟩
  case round =>
    obtain ⟨k, hk, rfl, hb⟩ := hrel
    by_cases hlt : k < n
    · obtain ⟨b, off, x, rfl, hB, hd, c0⟩ := (H.out.below hb).at_ hlt
      obtain ⟨b', off', x', rfl, hB', hd', c0'⟩ := (H'.out.below hb).at_ hlt
      obtain rfl : x = x' := by rw [hd] at hd'; injection hd'
      clear hd hd'
      have hi0 : (0 : Int) ≤ (k : Int) := by omega
      have hi1 : (k : Int) < (n : Int) := by omega
      go_wp2_with fail
      go_quiet (fail)
      go_wp2
      go_roundg (gk - 1)
      case measure => omega
      case rel => exact ⟨k + 1, by omega, by go_num, ⟨hb.os, hb.tape, hb.output, hb.size, hb.block⟩⟩
    · go_wp2
      go_ret
      exact ⟨rfl, hb⟩

theorem drop_eq_cons {α : Type} {a b : List α} {k : Nat} {x y : α} (ha : a.drop k = x :: a.drop (k + 1)) (hb : b.drop k = y :: b.drop (k + 1)) (h : a.take k = b.take k) : (a = b ↔ x = y ∧ a.drop (k + 1) = b.drop (k + 1)) := by
  constructor
  · rintro rfl
    rw [ha] at hb
    injection hb with h1 _
    exact ⟨h1, rfl⟩
  · rintro ⟨rfl, h2⟩
    rw [← List.take_append_drop k a, ← List.take_append_drop k b, h, ha, hb, h2]

set_option maxHeartbeats 800000 in
theorem l_sameInts (A A' : Option Addr) (n n' c c' : Nat) (zs ys : List Int) (w : World) (h : RdI w A n zs) (h' : RdI w A' n' ys) (hn : n ≤ 1099511627776) (hn' : n' ≤ 1099511627776) :
    Calls Try.prog 22 #[.slice A n c, .slice A' n' c'] w fun e w' => e = .returned (.bool (decide (zs = ys))) ∧ Below w.heap.size w w' := by
  have H := Lib.hid h
  have H' := Lib.hid h'
  clear h h'
  by_cases hnn : n = n'
  · subst hnn
    go_enter Try.func22, Try.ntmps22
    go_wp2
    go_loopg [5] n (fun m i wr => ∃ k : Nat, k + m = n ∧ i = .int .i64 k ∧ zs.take k = ys.take k ∧ Below w.heap.size w wr)
    case atStart => exact ⟨0, by omega, rfl, by simp, Below.refl _ _⟩
    case round =>
      obtain ⟨k, hk, rfl, ht, hb⟩ := hrel
      have HT := Lib.hid ht
      clear ht
      by_cases hlt : k < n
      · obtain ⟨b, off, x, rfl, hB, hd, c0⟩ := (H.out.below hb).at_ hlt
        obtain ⟨b', off', x', rfl, hB', hd', c0'⟩ := (H'.out.below hb).at_ hlt
        have HD := Lib.hid hd
        have HD' := Lib.hid hd'
        clear hd hd'
        have hi0 : (0 : Int) ≤ (k : Int) := by omega
        have hi1 : (k : Int) < (n : Int) := by omega
        have bq : ∀ nq, Below w.heap.size w (wr.drewN nq) := fun nq => ⟨hb.os, hb.tape, hb.output, hb.size, hb.block⟩
        by_cases hx : x = x'
        · subst hx
          go_wp2_with fail
          go_quiet (fail)
          go_wp2
          go_roundg (gk - 1)
          case measure => omega
          case rel =>
            refine ⟨k + 1, by omega, by go_num, ?_, bq _⟩
            have hl := H.out.1
            have hl' := H'.out.1
            have h1 := HD.out
            have h2 := HD'.out
            rw [drop_cons (by omega)] at h1 h2
            injection h1 with h1 _
            injection h2 with h2 _
            rw [List.take_succ_eq_append_getElem (by omega), List.take_succ_eq_append_getElem (by omega), HT.out, h1, h2]
        · have hx' : (x != x') = true := by simpa using hx
          have HN := Lib.hid (show ¬ zs = ys from fun e => hx ((drop_eq_cons HD.out HD'.out HT.out).1 e).1)
          clear hx
          go_wp2_with fail
          go_quiet (fail)
          go_wp2
          go_ret
          exact ⟨ret_bool (by simp [HN.out]), bq _⟩
      · go_wp2
        go_ret
        refine ⟨ret_bool ?_, hb⟩
        have h1 := HT.out
        have hl := H.out.1
        have hl' := H'.out.1
        rw [List.take_of_length_le (by omega), List.take_of_length_le (by omega)] at h1
        simp [h1]
  · have hne : ((n : Int) != (n' : Int)) = true := by simp; omega
    have HN := Lib.hid (show ¬ zs = ys from fun e => hnn (by have h1 := H.out.1; have h2 := H'.out.1; subst e; omega))
    clear hnn
    go_enter Try.func22, Try.ntmps22
    go_wp2
    go_ret
    exact ⟨ret_bool (by simp [HN.out]), Below.refl _ _⟩

def markI (n : Nat) (j : Int) : List Int := (List.range n).map fun (i : Nat) => j + i
theorem markI_take (n k : Nat) (j : Int) (h : k ≤ n) : (markI n j).take k = markI k j := by
  simp [markI, ← List.map_take, List.take_range, Nat.min_eq_left h]
theorem markI_drop (n k : Nat) (j : Int) (h : k < n) : (markI n j).drop k = (j + k) :: (markI n j).drop (k + 1) := by
  rw [drop_cons (by simpa [markI] using h)]
  simp [markI]

set_option maxHeartbeats 400000 in
theorem l_markIntS_some (base e g n c : Nat) (j0 : Int) (xs : List Value) (w : World) (h : w.ownsRow base e 1 (.slice (some ⟨g, 0, none⟩) n c) n xs) (hn : n ≤ 1099511627776) (hj : 0 ≤ j0) (hj2 : j0 ≤ 1125899906842624) :
    Calls Try.prog 56 #[.slice (some ⟨g, 0, none⟩) n c, .int .i64 j0] w fun e' w' => e' = .returned (.int .i64 (j0 + n)) ∧ w'.ownsRow base e 1 (.slice (some ⟨g, 0, none⟩) n c) n (cellsI (markI n j0)) ∧ w.grownBy w' (some g) := by
  have H := Lib.hid h
  clear h
  go_enter Try.func56, Try.ntmps56
  go_wp2
  go_loopg [1, 5] n (fun m j i wr => ∃ k : Nat, k + m = n ∧ i = .int .i64 k ∧ j = .int .i64 (j0 + k) ∧ w.grownBy wr (some g) ∧ ∃ xs, wr.ownsRow base e 1 (.slice (some ⟨g, 0, none⟩) n c) n xs ∧ xs.take k = cellsI (markI k j0))
  case atStart => exact ⟨0, by omega, rfl, by simp, World.grownBy.refl _ _, _, H.out, by simp [cellsI, markI]⟩
  case round =>
    obtain ⟨k, hk, rfl, rfl, hg, xs, hown, ht⟩ := hrel
    have HT := Lib.hid ht
    clear ht
    by_cases hlt : k < n
    · obtain ⟨⟨x0, q0⟩, z0⟩ := own1 hown hlt
      go_wp2
      go_roundg (gk - 1)
      case measure => omega
      case rel =>
        have s1 := hown.stored k (.int .i64 (j0 + k))
        refine ⟨k + 1, by omega, by go_num, by go_num, hg.trans s1.2, _, s1.1, ?_⟩
        have hm := setI hlt xs (by have := hown.1; omega) (j0 + k) (markI_drop n k j0 hlt) (by rw [markI_take n k j0 (by omega)]; exact HT.out)
        rwa [markI_take n (k + 1) j0 (by omega)] at hm
    · go_wp2
      go_ret
      obtain rfl : k = n := by omega
      have e1 : xs = cellsI (markI k j0) := by
        have h1 := HT.out
        have h3 := hown.1
        rwa [List.take_of_length_le (by omega)] at h1
      exact ⟨rfl, e1 ▸ hown, hg⟩

theorem l_markIntS (base e n c : Nat) (A : Option Addr) (j0 : Int) (xs : List Value) (w : World) (h : w.ownsRow base e 1 (.slice A n c) n xs) (hn : n ≤ 1099511627776) (hj : 0 ≤ j0) (hj2 : j0 ≤ 1125899906842624) :
    Calls Try.prog 56 #[.slice A n c, .int .i64 j0] w fun e' w' => e' = .returned (.int .i64 (j0 + n)) ∧ w'.ownsRow base e 1 (.slice A n c) n (cellsI (markI n j0)) ∧ w.grownBy w' (Value.slice A n c).ownBlock := by
  rcases h.2 with ⟨h0, h1⟩ | ⟨g, cap, cur, hv, _⟩
  · injection h0 with hA _ hc
    subst hA hc h1
    clear h
    go_enter Try.func56, Try.ntmps56
    go_wp2
    refine wp_loop_rounds 1 ?_
    rw [rounds_succ]
    go_wp2
    go_ret
    exact ⟨ret_int (by simp), World.ownsRow_nil _ _ _ _, World.grownBy.refl _ _⟩
  · injection hv with hA _ hc
    subst hA hc
    exact l_markIntS_some base e g n c j0 xs w h hn hj hj2

set_option maxHeartbeats 400000 in
theorem l_heldIntS (A : Option Addr) (n c : Nat) (j0 : Int) (w : World) (h : RdI w A n (markI n j0)) (hn : n ≤ 1099511627776) (hj : 0 ≤ j0) (hj2 : j0 ≤ 1125899906842624) :
    Calls Try.prog 57 #[.slice A n c, .int .i64 j0] w fun e' w' => e' = .returned (.int .i64 (j0 + n)) ∧ w = w' := by
  have H := Lib.hid h
  clear h
  go_enter Try.func57, Try.ntmps57
  go_wp2
  go_loop [1, 5] (fun j i => ∃ k : Nat, k ≤ n ∧ i = .int .i64 k ∧ j = .int .i64 (j0 + k)) (fun _ i => n - (intOf i).toNat)
  case atStart => exact ⟨0, by omega, rfl, by simp⟩
  case round =>
    obtain ⟨k, hk, rfl, rfl⟩ := hrel
    by_cases hlt : k < n
    · obtain ⟨b, off, g, rfl, hB, hd, c0⟩ := H.out.at_ hlt
      rw [markI_drop n k j0 hlt] at hd
      injection hd with hd _
      subst hd
      go_wp2
      go_round
      case rel => exact ⟨k + 1, by omega, by go_num, by go_num⟩
      case measure => simp [intOf]; omega
    · go_wp2
      go_ret
      obtain rfl : k = n := by omega
      exact ⟨rfl, rfl⟩
end Go.Proofs.Ythijgdpnodiceaa
