/- Contracts of the laws' helpers on slices of slices (Gate): eqGateSS, markGateSS, heldGateSS. At most 2^20 rows, of 2^20 elements in all. -/
import Derived.Test.YtbjpghgnginabaaProg
import Derived.Test.YtbjpghgnginabaaSS
import Derived.Test.YtbjpghgnginabaaGateT
import Derived.StillTailTactics
import Derived.Outline
namespace Go.Proofs.Ytbjpghgnginabaa
open Go.RowKit

set_option maxRecDepth 100000 in
set_option maxHeartbeats 800000 in
theorem l_eqGateSS_same (A A' : Option Addr) (n c c' : Nat) (l : List (List Gt)) (w : World) (h : RdSS cellsG w 4 A n l) (h' : RdSS cellsG w 4 A' n l) (hn : n ≤ 1099511627776) (hl : ∀ x ∈ l, x.length ≤ 1099511627776) :
    Calls Try.prog 32 #[.slice A n c, .slice A' n c'] w fun e w' => e = .returned (.bool true) ∧ Below w.heap.size w w' := by
  have H := Lib.hid h
  have H' := Lib.hid h'
  have HL := Lib.hid hl
  clear h h' hl
  go_enter Try.func32, Try.ntmps32
  go_wp2
  go_loopg [5] n (fun m i wr => ∃ k : Nat, k + m = n ∧ i = .int .i64 k ∧ Below w.heap.size w wr)
  case atStart => exact ⟨0, by omega, rfl, Below.refl _ _⟩
  case round =>
    obtain ⟨k, hk, rfl, hb⟩ := hrel
    by_cases hlt : k < n
    · obtain ⟨b, off, x, B, d, rfl, hB, hd, c0, hxc, hx⟩ := (H.out.below hb).at_ hlt
      obtain ⟨b', off', x', B', d', rfl, hB', hd', c0', hxc', hx'⟩ := (H'.out.below hb).at_ hlt
      obtain rfl : x = x' := by rw [hd] at hd'; injection hd'
      have hxl := HL.out x (by have := List.mem_of_mem_drop (l := l) (i := k) (a := x) (by rw [hd]; simp); exact this)
      have HX := Lib.hid hx
      have HX' := Lib.hid hx'
      clear hd hd' hx hx'
      have hi0 : (0 : Int) ≤ (k : Int) := by omega
      have hi1 : (k : Int) < (n : Int) := by omega
      obtain ⟨nx, hnx⟩ : ∃ nx, nx = x.length := ⟨_, rfl⟩
      rw [← hnx] at c0 c0' hxc hxc' hxl
      have HN := Lib.hid hnx
      clear hnx
      go_wp2_with fail
      go_still_tail 8, (by kernel_rfl)
      go_wp2_with (go_at_call 33; refine (l_eqGateS_same _ _ _ _ _ x _ ⟨HN.out.symm, by rw [HN.out]; exact HX.out⟩ ⟨HN.out.symm, by rw [HN.out]; exact HX'.out⟩ hxl).mono ?_; rintro e w1 ⟨rfl, hb1⟩)
      go_roundg (gk - 1)
      case measure => omega
      case rel => exact ⟨k + 1, by omega, by go_num, hb.drew.trans (Below.mono hb1 hb.size)⟩
    · go_wp2
      go_ret
      exact ⟨rfl, hb⟩

def lensGate (l : List (List Gt)) : List Nat := l.map List.length

set_option maxRecDepth 100000 in
set_option maxHeartbeats 1600000 in
theorem l_markGateSS (base eo ei n c : Nat) (A : Option Addr) (j0 : Int) (l : List (List Gt)) (w : World) (hne : eo ≠ ei) (hbase : base ≤ w.heap.size) (h : OwnSS cellsG w base eo ei 4 (.slice A n c) l) (hln : l.length = n) (hn : n ≤ 1099511627776) (ht : tot (lensGate l) ≤ 1099511627776) (hj : 0 ≤ j0) (hj2 : j0 ≤ 1099511627776) :
    Calls Try.prog 35 #[.slice A n c, .int .i64 j0] w fun e' w' => e' = .returned (.int .i64 (j0 + 4 * tot (lensGate l))) ∧ OwnSS cellsG w' base eo ei 4 (.slice A n c) (marksL markG 4 (lensGate l) j0) ∧ Below base w w' := by
  have H := Lib.hid h
  have HT := Lib.hid ht
  clear h
  obtain ⟨L, hL⟩ : ∃ L, L = lensGate l := ⟨_, rfl⟩
  rw [← hL]
  have HLn := Lib.hid hln
  have HLL := Lib.hid hL
  clear hL hln
  have hLl : L.length = n := by rw [HLL.out, lensGate, List.length_map, HLn.out]
  have HLl := Lib.hid hLl
  clear hLl ht
  go_enter Try.func35, Try.ntmps35
  go_wp2
  go_loopg [1, 5] n (fun m j i wr => ∃ (k : Nat) (jj : Int), k + m = n ∧ i = .int .i64 k ∧ j = .int .i64 jj ∧ jj = j0 + 4 * (tot (L.take k) : Nat) ∧ OwnSS cellsG wr base eo ei 4 (.slice A n c) ((marksL markG 4 L j0).take k ++ l.drop k) ∧ Below base w wr)
  case atStart => exact ⟨0, j0, by omega, rfl, rfl, by simp [tot], by simpa using H.out, Below.refl _ _⟩
  case round =>
    obtain ⟨k, jj, hk, rfl, rfl, hjj, ho, hb⟩ := hrel
    by_cases hlt : k < n
    · have hll : ((marksL markG 4 L j0).take k ++ l.drop k).length = n := by rw [List.length_append, List.length_take, List.length_drop, marksL_len, HLl.out, HLn.out]; omega
      obtain ⟨g, cap, x, D, d, hv, hd, c0, f0, ox, ht⟩ := OwnSS.at_ hne ho (k := k) (by omega)
      have hmk : ((marksL markG 4 L j0).take k).length = k := by rw [List.length_take, marksL_len, HLl.out]; omega
      have hlx : l.drop k = x :: l.drop (k + 1) := by
        rw [List.drop_append_of_le_length (by omega), List.drop_of_length_le (by omega), List.nil_append] at hd
        have h1 := drop_cons (l := l) (k := k) (by have := HLn.out; omega)
        rw [h1] at hd ⊢
        injection hd with h2 _
        rw [h2]
      have hLx : L.drop k = x.length :: L.drop (k + 1) := by
        rw [HLL.out, lensGate, ← List.map_drop, hlx, List.map_cons, List.map_drop]
      have hxt : tot (L.take (k + 1)) = tot (L.take k) + x.length := tot_take hLx
      have hle := tot_take_le L (k + 1)
      have hle2 : tot L ≤ 1099511627776 := by rw [HLL.out]; exact HT.out
      rw [hll] at hv
      have hA : A = some ⟨g, 0, none⟩ := by injection hv
      have HLX := Lib.hid hlx
      have HLLX := Lib.hid hLx
      have HTK := Lib.hid ht
      have OX := Lib.hid ox
      have HMK := Lib.hid hmk
      obtain ⟨t0, h0⟩ : ∃ t0, tot (L.take k) = t0 := ⟨_, rfl⟩
      obtain ⟨nx, h1⟩ : ∃ nx, x.length = nx := ⟨_, rfl⟩
      rw [h0] at hxt
      rw [h1] at hxt c0
      rw [h0] at hjj
      have HH0 := Lib.hid h0
      have HH1 := Lib.hid h1
      have HXT := Lib.hid hxt
      have hbd : t0 + nx ≤ 1099511627776 := by omega
      have hj1 : 0 ≤ jj := by omega
      have hj3 : jj ≤ 5497558138880 := by omega
      have hj4 : jj + 4 * nx ≤ 10995116277760 := by omega
      have HJ := Lib.hid hjj
      clear hlx hLx ht ox hmk hxt hle hle2 h0 h1 hll hd ho hv hjj
      subst hA
      have hi0 : (0 : Int) ≤ (k : Int) := by omega
      have hi1 : (k : Int) < (n : Int) := by omega
      go_wp2_with fail
      refine (l_markGateS base ei nx d D _ _ _ (by have := OX.out; rw [HH1.out] at this; exact this) (by omega) (by omega) (by omega)).mono ?_
      rintro e w1 ⟨rfl, om, gm⟩
      have O1 := Lib.hid (HTK.out w1 (markG nx jj) (by rw [HH1.out]; simp [markG]) (by rw [HH1.out]; exact gm) (by rw [HH1.out]; exact om))
      have hbm : Below base w w1 := by
        refine hb.trans ⟨gm.os, gm.tape, gm.output, gm.size, fun j hj => gm.block j ?_ ?_⟩
        · have := hb.size; omega
        · intro he
          have := (OX.out.lt j (by rw [HH1.out]; exact he.symm)).1
          omega
      clear om gm
      go_wp2_with fail
      go_roundg (gk - 1)
      case measure => omega
      case rel =>
        refine ⟨k + 1, jj + 4 * nx, by omega, by go_num, by first | rfl | (simp only [Int.one_mul]), ?_, ?_, hbm⟩
        · rw [HXT.out, HJ.out, Int.natCast_add]; omega
        · have h2 := O1.out
          have h3 := marksL_drop markG 4 L k x.length j0 HLLX.out
          rw [HH0.out, HH1.out, show (j0 + ((4 : Nat) : Int) * (t0 : Int)) = jj from by rw [HJ.out]; rfl] at h3
          have h4 : (marksL markG 4 L j0).take (k + 1) = (marksL markG 4 L j0).take k ++ [markG nx jj] := by
            have h5 := List.getElem?_eq_some_iff.1 h3
            obtain ⟨h6, h7⟩ := h5
            rw [List.take_succ_eq_append_getElem h6, h7]
          rw [h4, List.append_assoc]
          rw [HLX.out, List.set_append_right _ _ (by rw [HMK.out]; omega)] at h2
          simpa [HMK.out] using h2
    · have HJ := Lib.hid hjj
      clear hjj
      go_wp2
      go_ret
      obtain rfl : k = n := by omega
      have hjj := HJ.out
      have h1 : (marksL markG 4 L j0).take k ++ l.drop k = marksL markG 4 L j0 := by
        rw [List.take_of_length_le (by rw [marksL_len, HLl.out]; omega), List.drop_of_length_le (by rw [HLn.out]; omega), List.append_nil]
      rw [h1] at ho
      rw [List.take_of_length_le (by rw [HLl.out]; omega)] at hjj
      exact ⟨ret_int (by omega), ho, hb⟩

set_option maxRecDepth 100000 in
set_option maxHeartbeats 800000 in
theorem l_heldGateSS (A : Option Addr) (n c : Nat) (j0 : Int) (L : List Nat) (w : World) (h : RdSS cellsG w 4 A n (marksL markG 4 L j0)) (hln : L.length = n) (hn : n ≤ 1099511627776) (ht : tot L ≤ 1099511627776) (hj : 0 ≤ j0) (hj2 : j0 ≤ 1099511627776) :
    Calls Try.prog 36 #[.slice A n c, .int .i64 j0] w fun e' w' => e' = .returned (.int .i64 (j0 + 4 * tot L)) ∧ w = w' := by
  have H := Lib.hid h
  have HT := Lib.hid ht
  have HLn := Lib.hid hln
  clear h ht hln
  go_enter Try.func36, Try.ntmps36
  go_wp2
  go_loop [1, 5] (fun j i => ∃ (k : Nat) (jj : Int), k ≤ n ∧ i = .int .i64 k ∧ j = .int .i64 jj ∧ jj = j0 + 4 * (tot (L.take k) : Nat)) (fun _ i => n - (intOf i).toNat)
  case atStart => exact ⟨0, j0, by omega, rfl, rfl, by simp [tot]⟩
  case round =>
    obtain ⟨k, jj, hk, rfl, rfl, hjj⟩ := hrel
    by_cases hlt : k < n
    · obtain ⟨b, off, x, B, d, rfl, hB, hd, c0, hxc, hx⟩ := H.out.at_ hlt
      have hLx := drop_cons (l := L) (k := k) (by have := HLn.out; omega)
      have h3 := marksL_drop markG 4 L k _ j0 hLx
      have h4 : (marksL markG 4 L j0)[k]? = some x := by
        have := congrArg (fun r => r[0]?) hd
        simpa using this
      rw [h4] at h3
      injection h3 with h3
      have hxt := tot_take hLx
      have hle := tot_take_le L (k + 1)
      have hle2 := HT.out
      obtain ⟨t0, h0⟩ : ∃ t0, tot (L.take k) = t0 := ⟨_, rfl⟩
      obtain ⟨nx, h1⟩ : ∃ nx, L[k]'(by have := HLn.out; omega) = nx := ⟨_, rfl⟩
      rw [h0, h1] at hxt h3
      rw [h0] at hjj
      rw [show (j0 + ((4 : Nat) : Int) * (t0 : Int)) = jj from by rw [hjj]; rfl] at h3
      have h5 : x.length = nx := by rw [h3]; simp [markG]
      rw [h5] at c0 hxc hx
      have hbd : t0 + nx ≤ 1099511627776 := by omega
      have HX := Lib.hid hx
      have H3 := Lib.hid h3
      have H5 := Lib.hid h5
      have HXT := Lib.hid hxt
      have hj1 : 0 ≤ jj := by omega
      have hj3 : jj ≤ 5497558138880 := by omega
      have hj4 : jj + 4 * nx ≤ 10995116277760 := by omega
      have HJ := Lib.hid hjj
      clear hx h3 h5 hxt hd hLx h4 hle hle2 h0 h1 hjj
      go_wp2_with fail
      refine (l_heldGateS _ nx _ _ _ ⟨by simp [markG], by rw [← H3.out]; exact HX.out⟩ (by omega) (by omega) (by omega)).mono ?_
      rintro e w1 ⟨rfl, rfl⟩
      go_wp2_with fail
      go_round
      case rel => exact ⟨k + 1, jj + 4 * nx, by omega, by go_num, by first | rfl | (simp only [Int.one_mul]), by rw [HXT.out, HJ.out, Int.natCast_add]; omega⟩
      case measure => simp [intOf]; omega
    · have HJ := Lib.hid hjj
      clear hjj
      go_wp2
      go_ret
      obtain rfl : k = n := by omega
      have hjj := HJ.out
      rw [List.take_of_length_le (by rw [HLn.out]; omega)] at hjj
      exact ⟨ret_int (by omega), rfl⟩
end Go.Proofs.Ytbjpghgnginabaa
