/- The law FnTurnGates returns true for every code. No condition. -/
import Derived.Test.YtbmalgndjnaghaaRows
import Derived.Test.YtbmalgndjnaghaaTurn
import Derived.Test.YtbmalgndjnaghaaRot
import Derived.Test.YtbmalgndjnaghaaOpen
import Derived.ChangeOld
namespace Go.Proofs.Ytbmalgndjnaghaa.fnTurnGates
open Go.ChangeShapes Go.WideShapes Go.ChangeAt Go.RowKit
set_option linter.unusedVariables false

def sumU : List Gt → Int
  | [] => 0
  | g :: r => units g.k + sumU r
theorem sum_rot (c q : Int) (h0 : 0 ≤ c) (h7 : c ≤ 7) : sumU (rotG c q) = c ∧ tcnt (rotG c q) = c % 2 := by
  obtain h | h | h | h | h | h | h | h : c = 0 ∨ c = 1 ∨ c = 2 ∨ c = 3 ∨ c = 4 ∨ c = 5 ∨ c = 6 ∨ c = 7 := by omega
  all_goals subst h; exact ⟨rfl, rfl⟩

set_option maxHeartbeats 1600000 in
theorem walk (A : Option Addr) (n cap : Nat) (zs : List Int) (w : World) (h : zs.length = n ∧ Rd w 1 A n (zs.map (Value.int .u8))) (hnc : n ≤ cap) (hc : cap ≤ maxLen) (ok : ∀ z ∈ zs, 0 ≤ z ∧ z ≤ 255) :
    Calls Try.prog 7 #[.slice A n cap] w fun e w' => e = .returned (.bool true) ∧ Below w.heap.size w w' := by
  unfold maxLen at hc
  have H : Hid (RdB w A n zs) := h
  have OK := Lib.hid ok
  clear h ok
  by_cases hn : 1048576 < n
  · go_enter Try.func7, Try.ntmps7
    go_wp2_with fail
    refine (l_big _ _ _ _ (by omega)).mono ?_
    rintro e w1 ⟨rfl, rfl⟩
    rw [decide_eq_true hn]
    go_wp2_with fail
    go_ret
    exact ⟨rfl, Below.refl _ _⟩
  · go_enter Try.func7, Try.ntmps7
    go_wp2_with fail
    refine (l_big _ _ _ _ (by omega)).mono ?_
    rintro e w1 ⟨rfl, rfl⟩
    rw [decide_eq_false hn]
    go_wp2_with fail
    refine (s_DrawRotationGates _ _ _ _ _ H.out OK.out (by omega)).mono ?_
    rintro e w1 ⟨c, q, rfl, ⟨hc0, hc1, hq0, hq1⟩, b1⟩
    have hlen := rotK_len c
    obtain ⟨m, hm⟩ : ∃ m, (rotK c).length = m := ⟨_, rfl⟩
    have HM := Lib.hid hm
    rw [hm] at hlen
    clear hm
    go_wp2_with fail
    refine (i_RotationGates c q _).mono ?_
    rintro e w2 ⟨A2, c2, rfl, o2, b2⟩
    rw [HM.out] at o2
    rw [HM.out]
    go_wp2_with fail
    refine (s_RotationGates c q _).mono ?_
    rintro e w3 ⟨A3, c3, rfl, o3, b3⟩
    rw [HM.out] at o3
    rw [HM.out]
    go_wp2_with fail
    refine (l_sameGates_same _ _ _ _ _ _ _ (RdG.own (ownsRow_below o2 b3)) (RdG.own o3) (by omega)).mono ?_
    rintro e w4 ⟨rfl, b4⟩
    have R4 := Lib.hid (RdG.own (ownsRow_below (ownsRow_below o2 b3) b4))
    have b04 := below_trans (below_trans (below_trans b1 b2) b3) b4
    clear b1 b2 b3 b4 o2 o3
    obtain ⟨gs, hgs⟩ : ∃ gs, rotG c q = gs := ⟨_, rfl⟩
    have HGS := Lib.hid hgs
    clear hgs
    rw [HGS.out] at R4
    go_wp2_with fail
    go_loopg [6, 7] m (fun j s i wr => ∃ (k : Nat) (x : Int), k + j = m ∧ i = .int .i64 k ∧ s = .int .i64 x ∧ 0 ≤ x ∧ x ≤ 7 * k ∧ x + sumU (gs.drop k) = sumU gs ∧ w4 = wr)
    case atStart => exact ⟨0, 0, by omega, rfl, rfl, by omega, by omega, by simp, rfl⟩
    case round =>
      obtain ⟨k, x, hk, rfl, rfl, hx0, hx1, hx, rfl⟩ := hrel
      have HX := Lib.hid hx
      clear hx
      by_cases hlt : k < m
      · obtain ⟨b, off, g, rfl, hB, hd, c0, cc1, cc2, cc3⟩ := R4.out.at_ hlt
        have HD := Lib.hid hd
        have hu := units_bd g.k
        clear hd
        go_wp2_with fail
        refine (i_RotationUnits _ _).mono ?_
        rintro e w5 ⟨rfl, rfl⟩
        go_wp2_with fail
        go_roundg (gk - 1)
        case measure => omega
        case rel =>
          have := HX.out
          rw [HD.out, sumU] at this
          exact ⟨k + 1, x + units g.k, by omega, by go_num, by go_num, by omega, by omega, by omega, rfl⟩
      · have hxs : x = sumU gs := by
          have h1 := HX.out
          rw [List.drop_eq_nil_of_le (by have := R4.out.1; omega), sumU] at h1
          omega
        by_cases hin : 0 ≤ c ∧ c ≤ 7
        · obtain ⟨h0, h7⟩ := hin
          have hp := sum_rot c q h0 h7
          rw [HGS.out] at hp
          obtain rfl : c = x := by omega
          have HT := Lib.hid hp.2
          clear hp hxs HX
          have e8 : (c % 8 == c) = true := by simp; omega
          go_wp2_with fail
          refine (l_tCount _ _ _ _ _ R4.out (by omega)).mono ?_
          rintro e w5 ⟨rfl, b5⟩
          rw [HT.out]
          go_wp2_with fail
          go_ret
          exact ⟨rfl, below_trans b04 b5⟩
        · have hm0 : m = 0 := by rw [← HM.out, rotK_out (by omega)]; rfl
          subst hm0
          clear hxs HX
          by_cases hneg : c < 0
          · go_wp2_with fail
            go_ret
            exact ⟨rfl, b04⟩
          · have h8 : 7 < c := by omega
            go_wp2_with fail
            go_ret
            exact ⟨rfl, b04⟩

theorem own : ownKnob Try.prog.godebug = none := by kernel_rfl
theorem laidOut : laidOutB Try.prog = true := by kernel_rfl
set_option maxRecDepth 100000 in
theorem lifted (os : Os) (started : os.Started) (H : Type) (enc : TypeId × Value → H) :
    ReturnsInHanded {} Try.checked os 7 .any (Rows.fnTurnGatesSpec.pre6 enc Try.prog Try.f7 Rows.fnTurnGatesRow.domain false) (Rows.fnTurnGatesSpec.post enc Try.prog Try.f7 false true false false) := by
  refine returnsInHanded_of_change (C := Try.checked) own started (by kernel_rfl) Try.func7
    (ChangeSpec.witness6 (enc := enc) (C := Try.checked) false ⟨#[], #[.slice none 0 0], []⟩ 8 (by kernel_rfl) (by kernel_rfl) (by kernel_rfl) (by kernel_rfl)) ?_
  intro W base args ds gs before hval0 hW hcnd _
  have hval : ∀ (j : Nat) t v, Try.f7.params[j]? = some t → args[j]? = some v → Value.okWide Try.prog W .any base t v := hval0
  have hW' := hW
  obtain ⟨p, q, hA0, hV, rfl, hfz, hnd⟩ := hW
  have hA : DataW.TrodAll enc Try.prog W 0 (fun _ => true) true Try.f7.params.toList args.toList ds p := hA0
  rw [Try.params7] at hA hval
  obtain ⟨v0, vs0, d0, ds0, p0, q0, hargs, rfl, rfl, h0, t0⟩ := trodAll_cons hA
  obtain ⟨rfl, rfl, rfl⟩ := trodAll_nil t0
  obtain rfl : args = #[v0] := by cases args; simp_all
  obtain ⟨rfl, rfl⟩ := trodVars_none hV
  have k0 := h0
  have lt0 : ∀ x ∈ p0, x.block < W.heap.size := by obtain ⟨m, hm⟩ := k0; exact DataW.trod_lt m _ _ _ hm
  obtain ⟨A0, n0, c0, rfl⟩ := okWide_slice Try.underlying43 (hval 0 43 v0 rfl rfl)
  obtain ⟨fu0, hf0⟩ := h0
  obtain ⟨_, _, _, x0, e0, r0, l0, m0, ok0⟩ := open_bytes Try.underlying43 Try.underlying5 (by kernel_rfl) hf0
  simp only [Value.slice.injEq] at e0
  obtain ⟨rfl, rfl, rfl⟩ := e0
  clear hA0 hval0
  refine (walk A0 n0 c0 x0 W r0 l0 m0 ok0).mono fun e W' ⟨he, bel⟩ => ?_
  subst he
  exact ⟨_, rfl, _, _, _, [], _, [], hW', trodAll_mk1 (shut_bool Try.underlying4 _), (trodAll_cons_mk (Below.trod laidOut (by kernel_rfl) (of_decide_eq_true (by kernel_rfl)) k0 bel lt0) trodAll_mk0), rfl, bel.frame _, fun h => by cases h⟩

theorem over : Rows.fnTurnGatesRow.holds Try.pinned (OpenSpec.ofChange Rows.fnTurnGatesSpec) :=
  OpenClaim.holds_of_wide 7 Try.f7 rfl rfl rfl rfl rfl rfl rfl ⟨rfl, rfl, rfl, rfl, rfl⟩ rfl rfl rfl rfl rfl (by kernel_rfl) Try.func7 (by kernel_rfl)
    (of_decide_eq_true (by kernel_rfl)) (by unfold Func.isWrapper; first | (rw [if_pos (by decide +kernel)]; kernel_rfl) | (rw [if_neg (by decide +kernel)]; exact ⟨rfl, rfl⟩))
    (fun os started H enc _ => lifted os started H enc)

theorem proved : Rows.FnTurnGatesSaid := over
#print axioms proved
end Go.Proofs.Ytbmalgndjnaghaa.fnTurnGates
