/- Contracts of the laws' helpers on slices of numbers: toIntS, eqIntS, sameInts, markIntS, heldIntS. At most 2^20 numbers where they are made, 2^40 else. -/
import Derived.Test.YtibhikngiceeeaaProg
import Derived.Test.YtibhikngiceeeaaBase
import Derived.Deep.QuietTactic
import Derived.BigQuiet
namespace Go.Proofs.Ytibhikngiceeeaa
open Go.RowKit

theorem infoInt1 : (Try.prog.info? 3).map (fun i => (i.zero, i.size, i.bytes)) = some (some (.int .i64 0), 1, 8) := by kernel_rfl

theorem setI {gs : List Int} {k n : Nat} (hk : k < n) (xs : List Value) (hx : xs.length = n) (g : Int) (hd : gs.drop k = g :: gs.drop (k + 1)) (ht : xs.take k = cellsI (gs.take k)) :
    (xs.set k (.int .i64 g)).take (k + 1) = cellsI (gs.take (k + 1)) := by
  have hl : k < gs.length := by
    rcases Nat.lt_or_ge k gs.length with h | h
    · exact h
    · rw [List.drop_eq_nil_of_le h] at hd; cases hd
  have e : gs.take (k + 1) = gs.take k ++ [g] := by
    rw [List.take_succ_eq_append_getElem hl]
    rw [drop_cons hl] at hd
    injection hd with h1 _
    rw [h1]
  rw [e, cellsI_append, ← ht]
  rw [List.take_succ_eq_append_getElem (by simp; omega)]
  simp [cellsI, List.take_set_of_le]
theorem own1 {w : World} {base : Nat} {e : TypeId} {g n c : Nat} {xs : List Value} (h : w.ownsRow base e 1 (.slice (some ⟨g, 0, none⟩) n c) n xs) {k : Nat} (hk : k < n) :
    (∃ v, w.cell? ⟨g, k, none⟩ = some v) ∧ w.frozen? ⟨g, k, none⟩ = false := by
  have hl := h.1
  exact ⟨⟨_, (h.cellAt k (by omega)).trans (List.getElem?_eq_getElem (by omega))⟩, h.frozenAt _⟩



theorem drop_eq_cons {α : Type} {a b : List α} {k : Nat} {x y : α} (ha : a.drop k = x :: a.drop (k + 1)) (hb : b.drop k = y :: b.drop (k + 1)) (h : a.take k = b.take k) : (a = b ↔ x = y ∧ a.drop (k + 1) = b.drop (k + 1)) := by
  constructor
  · rintro rfl
    rw [ha] at hb
    injection hb with h1 _
    exact ⟨h1, rfl⟩
  · rintro ⟨rfl, h2⟩
    rw [← List.take_append_drop k a, ← List.take_append_drop k b, h, ha, hb, h2]

set_option maxHeartbeats 800000 in
theorem l_sameInts (A A' : Option Addr) (n n' c c' : Nat) (zs ys : List Int) (w : World) (h : RdI w A n zs) (h' : RdI w A' n' ys) (hn : n ≤ 1099511627776) (hn' : n' ≤ 1099511627776) :
    Calls Try.prog 36 #[.slice A n c, .slice A' n' c'] w fun e w' => e = .returned (.bool (decide (zs = ys))) ∧ Below w.heap.size w w' := by
  have H := Lib.hid h
  have H' := Lib.hid h'
  clear h h'
  by_cases hnn : n = n'
  · subst hnn
    go_enter Try.func36, Try.ntmps36
    go_wp2
    go_loopg [5] n (fun m i wr => ∃ k : Nat, k + m = n ∧ i = .int .i64 k ∧ zs.take k = ys.take k ∧ Below w.heap.size w wr)
    case atStart => exact ⟨0, by omega, rfl, by simp, Below.refl _ _⟩
    case round =>
      obtain ⟨k, hk, rfl, ht, hb⟩ := hrel
      have HT := Lib.hid ht
      clear ht
      by_cases hlt : k < n
      · obtain ⟨b, off, x, rfl, hB, hd, c0⟩ := (H.out.below hb).at_ hlt
        obtain ⟨b', off', x', rfl, hB', hd', c0'⟩ := (H'.out.below hb).at_ hlt
        have HD := Lib.hid hd
        have HD' := Lib.hid hd'
        clear hd hd'
        have hi0 : (0 : Int) ≤ (k : Int) := by omega
        have hi1 : (k : Int) < (n : Int) := by omega
        have bq : ∀ nq, Below w.heap.size w (wr.drewN nq) := fun nq => ⟨hb.os, hb.tape, hb.output, hb.size, hb.block⟩
        by_cases hx : x = x'
        · subst hx
          go_wp2_with fail
          go_quiet (fail)
          go_wp2
          go_roundg (gk - 1)
          case measure => omega
          case rel =>
            refine ⟨k + 1, by omega, by go_num, ?_, bq _⟩
            have hl := H.out.1
            have hl' := H'.out.1
            have h1 := HD.out
            have h2 := HD'.out
            rw [drop_cons (by omega)] at h1 h2
            injection h1 with h1 _
            injection h2 with h2 _
            rw [List.take_succ_eq_append_getElem (by omega), List.take_succ_eq_append_getElem (by omega), HT.out, h1, h2]
        · have hx' : (x != x') = true := by simpa using hx
          have HN := Lib.hid (show ¬ zs = ys from fun e => hx ((drop_eq_cons HD.out HD'.out HT.out).1 e).1)
          clear hx
          go_wp2_with fail
          go_quiet (fail)
          go_wp2
          go_ret
          exact ⟨ret_bool (by simp [HN.out]), bq _⟩
      · go_wp2
        go_ret
        refine ⟨ret_bool ?_, hb⟩
        have h1 := HT.out
        have hl := H.out.1
        have hl' := H'.out.1
        rw [List.take_of_length_le (by omega), List.take_of_length_le (by omega)] at h1
        simp [h1]
  · have hne : ((n : Int) != (n' : Int)) = true := by simp; omega
    have HN := Lib.hid (show ¬ zs = ys from fun e => hnn (by have h1 := H.out.1; have h2 := H'.out.1; subst e; omega))
    clear hnn
    go_enter Try.func36, Try.ntmps36
    go_wp2
    go_ret
    exact ⟨ret_bool (by simp [HN.out]), Below.refl _ _⟩

def markI (n : Nat) (j : Int) : List Int := (List.range n).map fun (i : Nat) => j + i
theorem markI_take (n k : Nat) (j : Int) (h : k ≤ n) : (markI n j).take k = markI k j := by
  simp [markI, ← List.map_take, List.take_range, Nat.min_eq_left h]
theorem markI_drop (n k : Nat) (j : Int) (h : k < n) : (markI n j).drop k = (j + k) :: (markI n j).drop (k + 1) := by
  rw [drop_cons (by simpa [markI] using h)]
  simp [markI]

end Go.Proofs.Ytibhikngiceeeaa
