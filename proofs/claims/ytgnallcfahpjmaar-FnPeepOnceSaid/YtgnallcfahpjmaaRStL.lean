/- Contracts of IsValidMatrix, GlobalPhase of equal matrices (spec) and of apart (laws), where both lists do the same on every basis state. One to four qubits. -/
import Derived.Test.YtgnallcfahpjmaaRStK
import Derived.Test.YtgnallcfahpjmaaRSS
import Derived.Deep.AppendLies
namespace Go.Proofs.YtgnallcfahpjmaaR
open Go.RowKit
set_option linter.unusedVariables false

theorem infoDOmegaS : (Try.prog.info? 118).map (fun i => (i.zero, i.size, i.bytes)) = some (some (.slice none 0 0), 1, 24) := by kernel_rfl

set_option maxHeartbeats 3200000 in
theorem s_IsMatrix (A : Option Addr) (n cap q : Nat) (l : List (List Dw)) (w : World) (h : RdSS cellsD w 5 A n l) (h1 : 1 ≤ q) (h4 : q ≤ 4) (hn : n = 2 ^ q) (hl : ∀ x ∈ l, x.length = n ∧ ∀ v ∈ x, okD v = true) : Calls Try.prog 172 #[.slice A n cap] w fun e w' => e = .returned (.bool true) ∧ Below w.heap.size w w' := by
  have H := Lib.hid h
  have HN := Lib.hid hn
  have HL := Lib.hid hl
  have hn16 : n ≤ 16 ∧ 2 ≤ n := by rw [hn]; exact pow_16 h1 h4
  clear h hn hl
  go_enter Try.func172, Try.ntmps172
  go_wp2_with fail
  go_loopg [3] n (fun r v wr => ∃ k : Nat, k + r = n ∧ v = .int .i64 k ∧ Below w.heap.size w wr)
  case atStart => exact ⟨0, by omega, rfl, Below.refl _ _⟩
  case round =>
    obtain ⟨k, hk, rfl, hb⟩ := hrel
    by_cases hlt : k < n
    · obtain ⟨b, off, x, B, c, rfl, hB, hd, c0, hxc, hxr⟩ := (H.out.below hb).at_ hlt
      obtain ⟨hxl, hxv⟩ := HL.out x (List.mem_of_mem_drop (i := k) (by rw [hd]; simp))
      rw [hxl] at c0 hxc hxr
      have RX := Lib.hid (show RdD wr B n x from ⟨hxl, hxr⟩)
      have HXV := Lib.hid hxv
      clear hd hxl hxv hxr
      have hi0 : (0 : Int) ≤ (k : Int) := by omega
      have hi1 : (k : Int) < (n : Int) := by omega
      go_wp2_with fail
      refine (s_IsState _ n _ q x _ RX.out h1 h4 HN.out HXV.out).mono ?_
      rintro e w1 ⟨rfl, b1⟩
      have hb2 := hb.trans (b1.mono hb.size)
      clear c0 hb b1
      go_wp2_with fail
      go_roundg (gk - 1)
      case measure => omega
      case rel => exact ⟨k + 1, by omega, by go_num, hb2⟩
    · go_wp2_with fail
      go_ret
      exact ⟨ret_bool (by simp; omega), hb⟩

set_option maxRecDepth 100000 in
set_option maxHeartbeats 3200000 in
theorem s_GPhase (A : Option Addr) (n cap q : Nat) (B : Option Addr) (cb : Nat) (l : List (List Dw)) (w : World) (h : RdSS cellsD w 5 A n l) (h' : RdSS cellsD w 5 B n l) (h1 : 1 ≤ q) (h4 : q ≤ 4) (hn : n = 2 ^ q) (hl : ∀ x ∈ l, x.length = n ∧ ∀ v ∈ x, okD v = true) : Calls Try.prog 118 #[.slice A n cap, .slice B n cb] w fun e w' => e = .returned (.tuple #[.int .i64 0, .bool true]) ∧ Below w.heap.size w w' := by
  have H := Lib.hid h
  have H' := Lib.hid h'
  have HN := Lib.hid hn
  have HL := Lib.hid hl
  have hn16 : n ≤ 16 ∧ 2 ≤ n := by rw [hn]; exact pow_16 h1 h4
  clear h h' hn hl
  go_enter Try.func118, Try.ntmps118
  go_wp2_with fail
  refine (s_IsMatrix _ n _ q l _ H.out h1 h4 HN.out HL.out).mono ?_
  rintro e w1 ⟨rfl, b1⟩
  go_wp2_with fail
  refine (s_IsMatrix _ n _ q l _ (H'.out.below b1) h1 h4 HN.out HL.out).mono ?_
  rintro e w2 ⟨rfl, b2⟩
  have B2 := Lib.hid (below_trans b1 b2)
  clear b1 b2
  go_wp2_with fail
  go_loopg [6] 8 (fun r i wr => i = .int .i64 0 ∧ Below w.heap.size w wr)
  case atStart => exact ⟨rfl, B2.out⟩
  case round =>
    obtain ⟨rfl, hb0⟩ := hrel
    have HB0 := Lib.hid hb0
    clear hb0
    go_wp2_with fail
    obtain ⟨go, rfl⟩ : ∃ go, go = gk := ⟨_, rfl⟩
    go_loopg [7, 8] n (fun r s i wr => ∃ k : Nat, k + r = n ∧ s = .bool true ∧ i = .int .i64 k ∧ Below w.heap.size w wr)
    case atStart => exact ⟨0, by omega, rfl, rfl, HB0.out⟩
    case round =>
      obtain ⟨k, hk, rfl, rfl, hb⟩ := hrel
      by_cases hlt : k < n
      · obtain ⟨b, off, x, X, cx, rfl, hB, hd, c0, hxc, hxr⟩ := (H'.out.below hb).at_ hlt
        obtain ⟨b', off', x', X', cx', rfl, hB', hd', d0, hxc', hxr'⟩ := (H.out.below hb).at_ hlt
        obtain rfl : x = x' := by rw [hd] at hd'; injection hd'
        obtain ⟨hxl, hxv⟩ := HL.out x (List.mem_of_mem_drop (i := k) (by rw [hd]; simp))
        rw [hxl] at c0 d0 hxc hxc' hxr hxr'
        have RX := Lib.hid (show RdD wr X n x from ⟨hxl, hxr⟩)
        have RX' := Lib.hid (show RdD wr X' n x from ⟨hxl, hxr'⟩)
        have HXV := Lib.hid hxv
        clear hd hd' hxl hxv hxr hxr'
        have hi0 : (0 : Int) ≤ (k : Int) := by omega
        have hi1 : (k : Int) < (n : Int) := by omega
        go_upto_region 10 with fail
        go_cut [9, 10] (fun v9 v10 wx => v10 = .bool true ∧ ∃ Z cz, v9 = .slice Z n cz ∧ RdD wx Z n x ∧ Below wr.heap.size wr wx)
        case first =>
          have V0 : Below wr.heap.size wr wr.drew := (Below.refl _ _).drew
          go_region_held3 (fun w' => w'.cell? ⟨b, off + k, none⟩ = some (.slice X n cx)) (first | exact (V2.cell (p := ⟨b, off + k, none⟩) hB).trans c0 | exact (V1.cell (p := ⟨b, off + k, none⟩) hB).trans c0 | go_keep)
            (first
              | (go_at_call 132; refine (s_Phase 0 _ (by omega)).mono ?_; rintro e w5 ⟨rfl, b5⟩; rw [one_val]; have V1 := below_trans V0 b5)
              | (go_at_call 173; refine (s_Scale1 _ n _ q x _ (RX.out.below V1) h1 h4 HN.out HXV.out).mono ?_; rintro e w6 ⟨Z, cz, rfl, o6, b6⟩; have V2 := below_trans V1 b6; have Z6 := RdD.own o6)
              | fail)
          all_goals go_wp2_with fail
          all_goals go_meet
          all_goals exact ⟨rfl, Z, cz, rfl, Z6, V2⟩
        case rest =>
          obtain ⟨rfl, Z, cz, rfl, hz, bb⟩ := hcut
          have RZ := Lib.hid hz
          have RX7 := Lib.hid (RX'.out.below bb)
          have d7 := (bb.cell (p := ⟨b', off' + k, none⟩) hB').trans d0
          have B7 := Lib.hid (hb.trans (bb.mono hb.size))
          clear hz bb c0 d0 RX RX' hb HXV
          go_wp2_with fail
          refine (s_EqState _ n _ _ _ x _ RZ.out RX7.out (by omega)).mono ?_
          rintro e w8 ⟨rfl, b8⟩
          have B8 := Lib.hid (B7.out.trans (b8.mono B7.out.size))
          clear b8 B7
          go_wp2_with fail
          go_roundg (gk - 1)
          case measure => omega
          case rel => exact ⟨k + 1, by omega, rfl, by go_num, B8.out⟩
      · go_wp2_with fail
        exact bodyPost_ret (v := .tuple #[.int .i64 0, .bool true]) (by simp [results, Try.results118, go_sem]) rfl ⟨rfl, hb⟩
end Go.Proofs.YtgnallcfahpjmaaR
