/- The law FnAfterSwap returns true for every code. No condition. -/
import Derived.Test.YthijgdpnodiceaaRows
import Derived.Test.YthijgdpnodiceaaDrawQ
import Derived.Test.YthijgdpnodiceaaSwapL
import Derived.Test.YthijgdpnodiceaaIntS
import Derived.Test.YthijgdpnodiceaaOpen
import Derived.ChangeOld
namespace Go.Proofs.Ythijgdpnodiceaa.fnAfterSwap
open Go.ChangeShapes Go.WideShapes Go.ChangeAt Go.RowKit
set_option linter.unusedVariables false

theorem swapL_eq {z : List Int} {a b : Int} (h : isPerm z = true) : swapL z a b = z.map (sw a b) := by unfold swapL; rw [if_pos h]
theorem swap_back {z : List Int} {a b : Int} (h : isPerm z = true) (ha : 0 ≤ a) (ha2 : a < z.length) (hb : 0 ≤ b) (hb2 : b < z.length) : swapL (swapL z a b) a b = z := by
  have h2 := (isPerm_swap h ha ha2 hb hb2).1
  rw [swapL_eq h2, swapL_eq h, List.map_map]
  have : (sw a b ∘ sw a b) = id := funext fun x => sw_sw a b x
  rw [this, List.map_id]

set_option maxRecDepth 100000 in
set_option maxHeartbeats 3200000 in
theorem walk (A : Option Addr) (n cap : Nat) (zs : List Int) (w : World) (h : zs.length = n ∧ Rd w 1 A n (zs.map (Value.int .u8))) (hnc : n ≤ cap) (hc : cap ≤ maxLen) (ok : ∀ z ∈ zs, 0 ≤ z ∧ z ≤ 255) :
    Calls Try.prog 5 #[.slice A n cap] w fun e w' => e = .returned (.bool true) ∧ Below w.heap.size w w' := by
  unfold maxLen at hc
  have H : Hid (RdB w A n zs) := h
  have OK := Lib.hid ok
  clear h ok
  by_cases hn : 1048576 < n
  · go_enter Try.func5, Try.ntmps5
    go_wp2_with fail
    refine (l_big _ _ _ _ (by omega)).mono ?_
    rintro e w1 ⟨rfl, rfl⟩
    rw [decide_eq_true hn]
    go_wp2_with fail
    go_ret
    exact ⟨rfl, Below.refl _ _⟩
  · go_enter Try.func5, Try.ntmps5
    go_wp2_with fail
    refine (l_big _ _ _ _ (by omega)).mono ?_
    rintro e w1 ⟨rfl, rfl⟩
    rw [decide_eq_false hn]
    go_wp2_with fail
    refine (s_DrawSwapLayout _ _ _ _ _ H.out OK.out (by omega)).mono ?_
    rintro e w1 ⟨A1, n1, c1, z, a, b, rfl, hl1, h5, o1, b1⟩
    have HL1 := Lib.hid hl1
    have hcap := ownsRow_cap o1
    obtain ⟨S, hS⟩ : ∃ S, swapL z a b = S := ⟨_, rfl⟩
    obtain ⟨q, hq⟩ : ∃ q, swapN z = q := ⟨_, rfl⟩
    have HS := Lib.hid hS
    have HQ := Lib.hid hq
    have hql : S.length = q := by rw [← hS, swapN_len, hq]
    have HQL := Lib.hid hql
    have hq5 : q ≤ 5 := by rw [← hq]; unfold swapN; split <;> omega
    clear hl1 hS hq hql
    go_wp2_with fail
    refine (i_SwapLayout _ _ _ z a b _ (RdI.own o1) (by omega)).mono ?_
    rintro e w2 ⟨A2, c2, rfl, o2, b2⟩
    rw [HS.out] at o2
    rw [HQ.out] at o2 ⊢
    have p1 := ownsRow_below o1 b2
    have b02 := below_trans b1 b2
    clear o1 b1 b2
    go_wp2_with fail
    refine (s_SwapLayout _ _ _ z a b _ (RdI.own p1) hcap (by omega)).mono ?_
    rintro e w3 ⟨A3, c3, rfl, o3, b3⟩
    rw [HS.out] at o3
    rw [HQ.out] at o3 ⊢
    have r1 := ownsRow_below p1 b3
    have r2 := ownsRow_below o2 b3
    have b03 := below_trans b02 b3
    clear p1 o2 b3 b02
    go_wp2_with fail
    refine (l_sameInts _ _ _ _ _ _ S S _ (RdI.own r2) (RdI.own o3) (by omega) (by omega)).mono ?_
    rintro e w4 ⟨rfl, b4⟩
    rw [decide_eq_true rfl]
    have t1 := Lib.hid (ownsRow_below r1 b4)
    have t2 := Lib.hid (ownsRow_below r2 b4)
    have b04 := below_trans b03 b4
    clear r1 r2 o3 b4 b03
    go_wp2_with fail
    refine (s_IsPermutation _ _ _ z _ (RdI.own t1.out) hcap (by omega)).mono ?_
    rintro e w5 ⟨rfl, b5⟩
    have u1 := Lib.hid (ownsRow_below t1.out b5)
    have u2 := Lib.hid (ownsRow_below t2.out b5)
    have b05 := below_trans b04 b5
    clear t1 t2 b5 b04
    cases hp : isPerm z
    · have hq0 : q = 0 := by rw [← HQ.out]; unfold swapN; rw [hp]; rfl
      subst hq0
      clear hp
      go_wp2_with fail
      go_ret
      exact ⟨rfl, b05⟩
    · have HP := Lib.hid hp
      have hq1 : q = n1 := by rw [← HQ.out]; unfold swapN; rw [if_pos hp, HL1.out]
      subst hq1
      clear hp
      by_cases ha0 : 0 ≤ a
      · by_cases ha1 : a < q
        · by_cases hb0 : 0 ≤ b
          · by_cases hb1 : b < q
            · have hsp := isPerm_swap HP.out ha0 (by rw [HL1.out]; exact ha1) hb0 (by rw [HL1.out]; exact hb1)
              have hsb := swap_back HP.out ha0 (by rw [HL1.out]; exact ha1) hb0 (by rw [HL1.out]; exact hb1)
              rw [HS.out] at hsp hsb
              have HSP := Lib.hid hsp.1
              have HSB := Lib.hid hsb
              have HSN := Lib.hid (show swapN S = q from by unfold swapN; rw [if_pos hsp.1, HQL.out])
              clear hsp hsb
              go_wp2_with fail
              refine (i_IsPermutation _ _ _ S _ (RdI.own u2.out) (by omega)).mono ?_
              rintro e w6 ⟨rfl, b6⟩
              rw [HSP.out]
              have v1 := Lib.hid (ownsRow_below u1.out b6)
              have v2 := Lib.hid (ownsRow_below u2.out b6)
              have b06 := below_trans b05 b6
              clear b6 b05 u1 u2
              go_wp2_with fail
              refine (i_SwapLayout _ _ _ S a b _ (RdI.own v2.out) (by omega)).mono ?_
              rintro e w7 ⟨A7, c7, rfl, o7, b7⟩
              rw [HSB.out] at o7
              rw [HSN.out] at o7 ⊢
              go_wp2_with fail
              refine (l_sameInts _ _ _ _ _ _ z z _ (RdI.own o7) (RdI.own (ownsRow_below v1.out b7)) (by omega) (by omega)).mono ?_
              rintro e w8 ⟨rfl, b8⟩
              rw [decide_eq_true rfl]
              go_wp2_with fail
              go_ret
              exact ⟨rfl, below_trans (below_trans b06 b7) b8⟩
            · go_wp2_with fail
              go_ret
              exact ⟨rfl, b05⟩
          · go_wp2_with fail
            go_ret
            exact ⟨rfl, b05⟩
        · go_wp2_with fail
          go_ret
          exact ⟨rfl, b05⟩
      · go_wp2_with fail
        go_ret
        exact ⟨rfl, b05⟩

theorem own : ownKnob Try.prog.godebug = none := by kernel_rfl
theorem laidOut : laidOutB Try.prog = true := by kernel_rfl
set_option maxRecDepth 100000 in
theorem lifted (os : Os) (started : os.Started) (H : Type) (enc : TypeId × Value → H) :
    ReturnsInHanded {} Try.checked os 5 .any (Rows.fnAfterSwapSpec.pre6 enc Try.prog Try.f5 Rows.fnAfterSwapRow.domain false) (Rows.fnAfterSwapSpec.post enc Try.prog Try.f5 false true false false) := by
  refine returnsInHanded_of_change (C := Try.checked) own started (by kernel_rfl) Try.func5
    (ChangeSpec.witness6 (enc := enc) (C := Try.checked) false ⟨#[], #[.slice none 0 0], []⟩ 8 (by kernel_rfl) (by kernel_rfl) (by kernel_rfl) (by kernel_rfl)) ?_
  intro W base args ds gs before hval0 hW hcnd _
  have hval : ∀ (j : Nat) t v, Try.f5.params[j]? = some t → args[j]? = some v → Value.okWide Try.prog W .any base t v := hval0
  have hW' := hW
  obtain ⟨p, q, hA0, hV, rfl, hfz, hnd⟩ := hW
  have hA : DataW.TrodAll enc Try.prog W 0 (fun _ => true) true Try.f5.params.toList args.toList ds p := hA0
  rw [Try.params5] at hA hval
  obtain ⟨v0, vs0, d0, ds0, p0, q0, hargs, rfl, rfl, h0, t0⟩ := trodAll_cons hA
  obtain ⟨rfl, rfl, rfl⟩ := trodAll_nil t0
  obtain rfl : args = #[v0] := by cases args; simp_all
  obtain ⟨rfl, rfl⟩ := trodVars_none hV
  have k0 := h0
  have lt0 : ∀ x ∈ p0, x.block < W.heap.size := by obtain ⟨m, hm⟩ := k0; exact DataW.trod_lt m _ _ _ hm
  obtain ⟨A0, n0, c0, rfl⟩ := okWide_slice Try.underlying27 (hval 0 27 v0 rfl rfl)
  obtain ⟨fu0, hf0⟩ := h0
  obtain ⟨_, _, _, x0, e0, r0, l0, m0, ok0⟩ := open_bytes Try.underlying27 Try.underlying5 (by kernel_rfl) hf0
  simp only [Value.slice.injEq] at e0
  obtain ⟨rfl, rfl, rfl⟩ := e0
  clear hA0 hval0
  refine (walk A0 n0 c0 x0 W r0 l0 m0 ok0).mono fun e W' ⟨he, bel⟩ => ?_
  subst he
  exact ⟨_, rfl, _, _, _, [], _, [], hW', trodAll_mk1 (shut_bool Try.underlying4 _), (trodAll_cons_mk (Below.trod laidOut (by kernel_rfl) (of_decide_eq_true (by kernel_rfl)) k0 bel lt0) trodAll_mk0), rfl, bel.frame _, fun h => by cases h⟩

theorem over : Rows.fnAfterSwapRow.holds Try.pinned (OpenSpec.ofChange Rows.fnAfterSwapSpec) :=
  OpenClaim.holds_of_wide 5 Try.f5 rfl rfl rfl rfl rfl rfl rfl ⟨rfl, rfl, rfl, rfl, rfl⟩ rfl rfl rfl rfl rfl (by kernel_rfl) Try.func5 (by kernel_rfl)
    (of_decide_eq_true (by kernel_rfl)) (by unfold Func.isWrapper; first | (rw [if_pos (by decide +kernel)]; kernel_rfl) | (rw [if_neg (by decide +kernel)]; exact ⟨rfl, rfl⟩))
    (fun os started H enc _ => lifted os started H enc)

theorem proved : Rows.FnAfterSwapSaid := over
#print axioms proved
end Go.Proofs.Ythijgdpnodiceaa.fnAfterSwap
