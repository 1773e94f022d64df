/- The law FnPeepOnce returns true for every code. No condition. -/
import Derived.Test.YtgnallcfahpjmaaRRows
import Derived.Test.YtgnallcfahpjmaaRDrawPL
import Derived.Test.YtgnallcfahpjmaaRStM
import Derived.Test.YtgnallcfahpjmaaRPeepI
import Derived.Test.YtgnallcfahpjmaaRPeepT
import Derived.Test.YtgnallcfahpjmaaRDomQ
import Derived.Test.YtgnallcfahpjmaaRSameG
import Derived.Test.YtgnallcfahpjmaaROpen
import Derived.ChangeOld
import Derived.Deep.DeepCutAuto
namespace Go.Proofs.YtgnallcfahpjmaaR.fnPeepOnce
open Go.ChangeShapes Go.WideShapes Go.ChangeAt Go.RowKit
set_option linter.unusedVariables false

theorem stepL_no {l : List Gt} (h : stepOk l = false) : stepL l = l := by
  unfold stepOk at h
  unfold stepL
  cases hf : findStep l 0 with
  | none => rfl
  | some x => rw [hf] at h; cases h
theorem stepL_yes {l : List Gt} (h : stepOk l = true) : ∃ i k, findStep l 0 = some (i, k) ∧ stepL l = outOf l i k := by
  unfold stepOk at h
  unfold stepL
  cases hf : findStep l 0 with
  | none => rw [hf] at h; cases h
  | some x => exact ⟨x.1, x.2, rfl, rfl⟩
theorem stepL_lt {l : List Gt} (h : stepOk l = true) : (stepL l).length < l.length := by
  obtain ⟨i, k, hf, he⟩ := stepL_yes h
  have hr := findStep_range hf
  have := out_len (l := l) hr.2.1 (by omega)
  rw [he]
  omega
theorem stepL_le (l : List Gt) : (stepL l).length ≤ l.length := by
  cases h : stepOk l
  · rw [stepL_no h]; exact Nat.le_refl _
  · exact Nat.le_of_lt (stepL_lt h)
theorem stepL_same {l : List Gt} (hv : ∀ g ∈ l, ok3 g = true) (h : stepOk l = true) (h30 : hcs l ≤ 30) : sameAll l (stepL l) 3 = true := by
  obtain ⟨i, k, hf, he⟩ := stepL_yes h
  rw [he]
  exact step_same hv hf h30

set_option maxRecDepth 100000 in
set_option maxHeartbeats 6400000 in
theorem walk (A : Option Addr) (n cap : Nat) (zs : List Int) (w : World) (h : zs.length = n ∧ Rd w 1 A n (zs.map (Value.int .u8))) (hnc : n ≤ cap) (hc : cap ≤ maxLen) (ok : ∀ z ∈ zs, 0 ≤ z ∧ z ≤ 255) :
    Calls Try.prog 11 #[.slice A n cap] w fun e w' => e = .returned (.bool true) ∧ Below w.heap.size w w' := by
  unfold maxLen at hc
  have H : Hid (RdB w A n zs) := h
  have OK := Lib.hid ok
  clear h ok
  by_cases hn : 1048576 < n
  · go_enter Try.func11, Try.ntmps11
    go_wp2_with fail
    refine (l_big _ _ _ _ (by omega)).mono ?_
    rintro e w1 ⟨rfl, rfl⟩
    rw [decide_eq_true hn]
    go_wp2_with fail
    go_ret
    exact ⟨rfl, Below.refl _ _⟩
  · go_enter Try.func11, Try.ntmps11
    go_wp2_with fail
    refine (l_big _ _ _ _ (by omega)).mono ?_
    rintro e w1 ⟨rfl, rfl⟩
    rw [decide_eq_false hn]
    go_wp2_with fail
    refine (s_DrawPeep _ _ _ _ _ H.out OK.out (by omega)).mono ?_
    rintro e w1 ⟨A1, m, c1, l, rfl, hlm, hmc, hm64, h30, hr, b1⟩
    have R1 := Lib.hid hr
    have B1 := Lib.hid b1
    have H30 := Lib.hid h30
    have HLM := Lib.hid hlm
    obtain ⟨o, ho⟩ : ∃ x, stepL l = x := ⟨_, rfl⟩
    obtain ⟨ok, hok⟩ : ∃ x, stepOk l = x := ⟨_, rfl⟩
    obtain ⟨L, hL⟩ : ∃ L, o.length = L := ⟨_, rfl⟩
    have hlen : L ≤ m := by rw [← hL, ← hlm, ← ho]; exact stepL_le l
    have HO := Lib.hid ho
    have HK := Lib.hid hok
    have HN := Lib.hid hL
    clear hr b1 h30 hlm ho hok hL
    go_wp2_with fail
    refine (i_PeepholeStep _ _ _ l _ R1.out hmc (by omega)).mono ?_
    rintro e w2 ⟨A2, c2, rfl, o2, b2⟩
    rw [HK.out]
    rw [HO.out] at o2 ⊢
    rw [HN.out] at o2 ⊢
    have Q2 := Lib.hid (RdG.own o2)
    have R2 := Lib.hid (R1.out.below b2)
    have B2 := Lib.hid (below_trans B1.out b2)
    clear o2 b2 R1 B1
    go_wp2_with fail
    refine (s_PeepholeStep _ _ _ l _ R2.out hmc (by omega)).mono ?_
    rintro e w3 ⟨A3, c3, rfl, o3, b3⟩
    rw [HK.out]
    rw [HO.out] at o3 ⊢
    rw [HN.out] at o3 ⊢
    have P3 := Lib.hid (RdG.own o3)
    have Q3 := Lib.hid (Q2.out.below b3)
    have R3 := Lib.hid (R2.out.below b3)
    have B3 := Lib.hid (below_trans B2.out b3)
    clear o3 b3 R2 B2 Q2
    go_wp2_with fail
    refine (l_sameGates_same _ _ _ _ _ o _ Q3.out P3.out (by omega)).mono ?_
    rintro e w4 ⟨rfl, b4⟩
    have Q4 := Lib.hid (Q3.out.below b4)
    have R4 := Lib.hid (R3.out.below b4)
    have B4 := Lib.hid (below_trans B3.out b4)
    clear b4 R3 B3 Q3 P3
    cases ok
    · have e1 : o = l := by rw [← HO.out]; exact stepL_no HK.out
      subst e1
      obtain rfl : L = m := by rw [← HN.out]; exact HLM.out
      go_wp2_with fail
      refine (l_sameGates_same _ _ _ _ _ o _ Q4.out R4.out (by omega)).mono ?_
      rintro e w5 ⟨rfl, b5⟩
      go_wp2_with fail
      go_ret
      exact ⟨rfl, below_trans B4.out b5⟩
    · have hlt2 : L < m := by rw [← HN.out, ← HLM.out, ← HO.out]; exact stepL_lt HK.out
      have hltI : (L : Int) < (m : Int) := by omega
      have LAW := Lib.hid (fun hv => stepL_same (l := l) hv HK.out H30.out)
      rw [HO.out] at LAW
      go_wp2_with fail
      go_loopg [8] m (fun r i wr => ∃ k : Nat, k + r = m ∧ i = .int .i64 k ∧ (∀ g ∈ l.take k, ok3 g = true) ∧ Below w4.heap.size w4 wr)
      case atStart => exact ⟨0, by omega, rfl, by simp, Below.refl _ _⟩
      case round =>
        obtain ⟨k, hk, rfl, hv, hb⟩ := hrel
        have HV := Lib.hid hv
        clear hv
        by_cases hlt : k < m
        · obtain ⟨b, off, g, rfl, hB, hd, p0, p1, p2, p3⟩ := (R4.out.below hb).at_ hlt
          obtain ⟨vg, hvg⟩ : ∃ x, okG g.k g.a g.b g.c 3 = x := ⟨_, rfl⟩
          have HG := Lib.hid hvg
          have HT := Lib.hid (take_snoc hd)
          clear hd hvg
          have hi0 : (0 : Int) ≤ (k : Int) := by omega
          have hi1 : (k : Int) < (m : Int) := by omega
          go_wp2_with fail
          refine (s_IsValidGate g.k g.a g.b g.c 3 _).mono ?_
          rintro e w5 ⟨rfl, b5⟩
          rw [HG.out]
          have hb2 := hb.trans (b5.mono hb.size)
          clear hb b5 p0 p1 p2 p3
          cases vg
          · go_wp2_with fail
            go_ret
            exact ⟨rfl, below_trans B4.out hb2⟩
          · go_wp2_with fail
            go_roundg (gk - 1)
            case measure => omega
            case rel =>
              refine ⟨k + 1, by omega, by go_num, fun x hx => ?_, hb2⟩
              rw [HT.out] at hx
              rcases List.mem_append.1 hx with hx | hx
              · exact HV.out x hx
              · rw [List.mem_singleton.1 hx]; exact HG.out
        · have hall : ∀ g ∈ l, ok3 g = true := by
            have e : l.take k = l := List.take_of_length_le (by rw [HLM.out]; omega)
            have := HV.out
            rwa [e] at this
          have HSA := Lib.hid (LAW.out hall)
          clear hall
          go_wp2_with fail
          refine (l_apart3 _ m _ l _ L _ o _ (R4.out.below hb) (Q4.out.below hb) (by omega) (by omega) HSA.out).mono ?_
          rintro e w9 ⟨rfl, b9⟩
          go_wp2_with fail
          go_ret
          exact ⟨rfl, below_trans B4.out (hb.trans (b9.mono hb.size))⟩

theorem own : ownKnob Try.prog.godebug = none := by kernel_rfl
theorem laidOut : laidOutB Try.prog = true := by kernel_rfl
set_option maxRecDepth 100000 in
theorem lifted (os : Os) (started : os.Started) (H : Type) (enc : TypeId × Value → H) :
    ReturnsInHanded {} Try.checked os 11 .any (Rows.fnPeepOnceSpec.pre6 enc Try.prog Try.f11 Rows.fnPeepOnceRow.domain false) (Rows.fnPeepOnceSpec.post enc Try.prog Try.f11 false true false false) := by
  refine returnsInHanded_of_change (C := Try.checked) own started (by kernel_rfl) Try.func11
    (ChangeSpec.witness6 (enc := enc) (C := Try.checked) false ⟨#[], #[.slice none 0 0], []⟩ 8 (by kernel_rfl) (by kernel_rfl) (by kernel_rfl) (by kernel_rfl)) ?_
  intro W base args ds gs before hval0 hW hcnd _
  have hval : ∀ (j : Nat) t v, Try.f11.params[j]? = some t → args[j]? = some v → Value.okWide Try.prog W .any base t v := hval0
  have hW' := hW
  obtain ⟨p, q, hA0, hV, rfl, hfz, hnd⟩ := hW
  have hA : DataW.TrodAll enc Try.prog W 0 (fun _ => true) true Try.f11.params.toList args.toList ds p := hA0
  rw [Try.params11] at hA hval
  obtain ⟨v0, vs0, d0, ds0, p0, q0, hargs, rfl, rfl, h0, t0⟩ := trodAll_cons hA
  obtain ⟨rfl, rfl, rfl⟩ := trodAll_nil t0
  obtain rfl : args = #[v0] := by cases args; simp_all
  obtain ⟨rfl, rfl⟩ := trodVars_none hV
  have k0 := h0
  have lt0 : ∀ x ∈ p0, x.block < W.heap.size := by obtain ⟨m, hm⟩ := k0; exact DataW.trod_lt m _ _ _ hm
  obtain ⟨A0, n0, c0, rfl⟩ := okWide_slice Try.underlying22 (hval 0 22 v0 rfl rfl)
  obtain ⟨fu0, hf0⟩ := h0
  obtain ⟨_, _, _, x0, e0, r0, l0, m0, ok0⟩ := open_bytes Try.underlying22 Try.underlying5 (by kernel_rfl) hf0
  simp only [Value.slice.injEq] at e0
  obtain ⟨rfl, rfl, rfl⟩ := e0
  clear hA0 hval0
  refine (walk A0 n0 c0 x0 W r0 l0 m0 ok0).mono fun e W' ⟨he, bel⟩ => ?_
  subst he
  exact ⟨_, rfl, _, _, _, [], _, [], hW', trodAll_mk1 (shut_bool Try.underlying4 _), (trodAll_cons_mk (Below.trod laidOut (by kernel_rfl) (of_decide_eq_true (by kernel_rfl)) k0 bel lt0) trodAll_mk0), rfl, bel.frame _, fun h => by cases h⟩

theorem over : Rows.fnPeepOnceRow.holds Try.pinned (OpenSpec.ofChange Rows.fnPeepOnceSpec) :=
  OpenClaim.holds_of_wide 11 Try.f11 rfl rfl rfl rfl rfl rfl rfl ⟨rfl, rfl, rfl, rfl, rfl⟩ rfl rfl rfl rfl rfl (by kernel_rfl) Try.func11 (by kernel_rfl)
    (of_decide_eq_true (by kernel_rfl)) (by unfold Func.isWrapper; first | (rw [if_pos (by decide +kernel)]; kernel_rfl) | (rw [if_neg (by decide +kernel)]; exact ⟨rfl, rfl⟩))
    (fun os started H enc _ => lifted os started H enc)

theorem proved : Rows.FnPeepOnceSaid := over
#print axioms proved
end Go.Proofs.YtgnallcfahpjmaaR.fnPeepOnce
