/- The law FnPeep returns true for every code. No condition. -/
import Derived.Test.YtjmgpgppammhhaaRows
import Derived.Test.YtjmgpgppammhhaaDrawPL
import Derived.Test.YtjmgpgppammhhaaStM
import Derived.Test.YtjmgpgppammhhaaDomS
import Derived.Test.YtjmgpgppammhhaaTurn
import Derived.Test.YtjmgpgppammhhaaOpen
import Derived.ChangeOld
import Derived.Deep.DeepCutAuto
namespace Go.Proofs.Ytjmgpgppammhhaa.fnPeep
open Go.ChangeShapes Go.WideShapes Go.ChangeAt Go.RowKit
set_option linter.unusedVariables false

set_option maxRecDepth 100000 in
set_option maxHeartbeats 6400000 in
theorem walk (A : Option Addr) (n cap : Nat) (zs : List Int) (w : World) (h : zs.length = n ∧ Rd w 1 A n (zs.map (Value.int .u8))) (hnc : n ≤ cap) (hc : cap ≤ maxLen) (ok : ∀ z ∈ zs, 0 ≤ z ∧ z ≤ 255) :
    Calls Try.prog 3 #[.slice A n cap] w fun e w' => e = .returned (.bool true) ∧ Below w.heap.size w w' := by
  unfold maxLen at hc
  have H : Hid (RdB w A n zs) := h
  have OK := Lib.hid ok
  clear h ok
  by_cases hn : 1048576 < n
  · go_enter Try.func3, Try.ntmps3
    go_wp2_with fail
    refine (l_big _ _ _ _ (by omega)).mono ?_
    rintro e w1 ⟨rfl, rfl⟩
    rw [decide_eq_true hn]
    go_wp2_with fail
    go_ret
    exact ⟨rfl, Below.refl _ _⟩
  · go_enter Try.func3, Try.ntmps3
    go_wp2_with fail
    refine (l_big _ _ _ _ (by omega)).mono ?_
    rintro e w1 ⟨rfl, rfl⟩
    rw [decide_eq_false hn]
    go_wp2_with fail
    refine (s_DrawPeepA _ _ _ _ _ H.out OK.out (by omega)).mono ?_
    rintro e w1 ⟨A1, m, c1, l, rfl, hlm, hmc, hm64, h30, hr, b1⟩
    have R1 := Lib.hid hr
    have B1 := Lib.hid b1
    have H30 := Lib.hid h30
    have HLM := Lib.hid hlm
    obtain ⟨o, ho⟩ : ∃ x, peepL l = x := ⟨_, rfl⟩
    obtain ⟨L, hL⟩ : ∃ L, o.length = L := ⟨_, rfl⟩
    have hlen : L ≤ m := by rw [← hL, ← hlm, ← ho]; exact peepL_len l
    have hlenI : (L : Int) ≤ (m : Int) := by omega
    have HS := Lib.hid (show stepOk o = false by rw [← ho]; exact peep_stop l)
    have HT := Lib.hid (show tcnt o ≤ tcnt l by rw [← ho]; exact tN_peep l)
    have HO := Lib.hid ho
    have HN := Lib.hid hL
    clear hr b1 h30 hlm ho hL
    go_wp2_with fail
    refine (i_Peephole _ _ _ l _ R1.out (by omega)).mono ?_
    rintro e w2 ⟨A2, c2, rfl, o2, b2⟩
    rw [HO.out] at o2 ⊢
    rw [HN.out] at o2 ⊢
    have hc2 := ownsRow_cap o2
    have Q2 := Lib.hid (RdG.own o2)
    have R2 := Lib.hid (R1.out.below b2)
    have B2 := Lib.hid (below_trans B1.out b2)
    clear o2 b2 R1 B1
    go_wp2_with fail
    refine (s_Peephole _ _ _ l _ R2.out (by omega)).mono ?_
    rintro e w3 ⟨A3, c3, rfl, o3, b3⟩
    rw [HO.out] at o3 ⊢
    rw [HN.out] at o3 ⊢
    have P3 := Lib.hid (RdG.own o3)
    have Q3 := Lib.hid (Q2.out.below b3)
    have R3 := Lib.hid (R2.out.below b3)
    have B3 := Lib.hid (below_trans B2.out b3)
    clear o3 b3 R2 B2 Q2
    go_wp2_with fail
    refine (l_sameGates_same _ _ _ _ _ o _ Q3.out P3.out (by omega)).mono ?_
    rintro e w4 ⟨rfl, b4⟩
    have Q4 := Lib.hid (Q3.out.below b4)
    have R4 := Lib.hid (R3.out.below b4)
    have B4 := Lib.hid (below_trans B3.out b4)
    clear b4 R3 B3 Q3 P3
    go_wp2_with fail
    refine (i_PeepholeStep _ _ _ o _ Q4.out hc2 (by omega)).mono ?_
    rintro e w5 ⟨A5, c5, rfl, o5, b5⟩
    rw [HS.out]
    have Q5 := Lib.hid (Q4.out.below b5)
    have R5 := Lib.hid (R4.out.below b5)
    have B5 := Lib.hid (below_trans B4.out b5)
    clear o5 b5 R4 B4 Q4
    obtain ⟨T1, hT1⟩ : ∃ k, tcnt o = k := ⟨_, rfl⟩
    obtain ⟨T2, hT2⟩ : ∃ k, tcnt l = k := ⟨_, rfl⟩
    have hTT : T1 ≤ T2 := by rw [← hT1, ← hT2]; exact HT.out
    have HT1 := Lib.hid hT1
    have HT2 := Lib.hid hT2
    clear hT1 hT2 HT
    go_wp2_with fail
    refine (l_tCount _ _ _ o _ Q5.out (by omega)).mono ?_
    rintro e w6 ⟨rfl, b6⟩
    rw [HT1.out]
    have Q6 := Lib.hid (Q5.out.below b6)
    have R6 := Lib.hid (R5.out.below b6)
    have B6 := Lib.hid (below_trans B5.out b6)
    clear b6 R5 B5 Q5
    go_wp2_with fail
    refine (l_tCount _ _ _ l _ R6.out (by omega)).mono ?_
    rintro e w7 ⟨rfl, b7⟩
    rw [HT2.out]
    have Q4 := Lib.hid (Q6.out.below b7)
    have R4 := Lib.hid (R6.out.below b7)
    have B4 := Lib.hid (below_trans B6.out b7)
    clear b7 R6 B6 Q6
    have LAW := Lib.hid (fun hv => peep_same (l := l) hv H30.out)
    rw [HO.out] at LAW
    go_wp2_with fail
    go_loopg [7] m (fun r i wr => ∃ k : Nat, k + r = m ∧ i = .int .i64 k ∧ (∀ g ∈ l.take k, ok3 g = true) ∧ Below w7.heap.size w7 wr)
    case atStart => exact ⟨0, by omega, rfl, by simp, Below.refl _ _⟩
    case round =>
      obtain ⟨k, hk, rfl, hv, hb⟩ := hrel
      have HV := Lib.hid hv
      clear hv
      by_cases hlt : k < m
      · obtain ⟨b, off, g, rfl, hB, hd, p0, p1, p2, p3⟩ := (R4.out.below hb).at_ hlt
        obtain ⟨vg, hvg⟩ : ∃ x, okG g.k g.a g.b g.c 3 = x := ⟨_, rfl⟩
        have HG := Lib.hid hvg
        have HT := Lib.hid (take_snoc hd)
        clear hd hvg
        have hi0 : (0 : Int) ≤ (k : Int) := by omega
        have hi1 : (k : Int) < (m : Int) := by omega
        go_wp2_with fail
        refine (s_IsValidGate g.k g.a g.b g.c 3 _).mono ?_
        rintro e w5 ⟨rfl, b5⟩
        rw [HG.out]
        have hb2 := hb.trans (b5.mono hb.size)
        clear hb b5 p0 p1 p2 p3
        cases vg
        · go_wp2_with fail
          go_ret
          exact ⟨rfl, below_trans B4.out hb2⟩
        · go_wp2_with fail
          go_roundg (gk - 1)
          case measure => omega
          case rel =>
            refine ⟨k + 1, by omega, by go_num, fun x hx => ?_, hb2⟩
            rw [HT.out] at hx
            rcases List.mem_append.1 hx with hx | hx
            · exact HV.out x hx
            · rw [List.mem_singleton.1 hx]; exact HG.out
      · have hall : ∀ g ∈ l, ok3 g = true := by
          have e : l.take k = l := List.take_of_length_le (by rw [HLM.out]; omega)
          have := HV.out
          rwa [e] at this
        have HSA := Lib.hid (LAW.out hall)
        clear hall
        go_wp2_with fail
        refine (l_apart3 _ m _ l _ L _ o _ (R4.out.below hb) (Q4.out.below hb) (by omega) (by omega) HSA.out).mono ?_
        rintro e w9 ⟨rfl, b9⟩
        go_wp2_with fail
        go_ret
        exact ⟨rfl, below_trans B4.out (hb.trans (b9.mono hb.size))⟩

theorem own : ownKnob Try.prog.godebug = none := by kernel_rfl
theorem laidOut : laidOutB Try.prog = true := by kernel_rfl
set_option maxRecDepth 100000 in
theorem lifted (os : Os) (started : os.Started) (H : Type) (enc : TypeId × Value → H) :
    ReturnsInHanded {} Try.checked os 3 .any (Rows.fnPeepSpec.pre6 enc Try.prog Try.f3 Rows.fnPeepRow.domain false) (Rows.fnPeepSpec.post enc Try.prog Try.f3 false true false false) := by
  refine returnsInHanded_of_change (C := Try.checked) own started (by kernel_rfl) Try.func3
    (ChangeSpec.witness6 (enc := enc) (C := Try.checked) false ⟨#[], #[.slice none 0 0], []⟩ 8 (by kernel_rfl) (by kernel_rfl) (by kernel_rfl) (by kernel_rfl)) ?_
  intro W base args ds gs before hval0 hW hcnd _
  have hval : ∀ (j : Nat) t v, Try.f3.params[j]? = some t → args[j]? = some v → Value.okWide Try.prog W .any base t v := hval0
  have hW' := hW
  obtain ⟨p, q, hA0, hV, rfl, hfz, hnd⟩ := hW
  have hA : DataW.TrodAll enc Try.prog W 0 (fun _ => true) true Try.f3.params.toList args.toList ds p := hA0
  rw [Try.params3] at hA hval
  obtain ⟨v0, vs0, d0, ds0, p0, q0, hargs, rfl, rfl, h0, t0⟩ := trodAll_cons hA
  obtain ⟨rfl, rfl, rfl⟩ := trodAll_nil t0
  obtain rfl : args = #[v0] := by cases args; simp_all
  obtain ⟨rfl, rfl⟩ := trodVars_none hV
  have k0 := h0
  have lt0 : ∀ x ∈ p0, x.block < W.heap.size := by obtain ⟨m, hm⟩ := k0; exact DataW.trod_lt m _ _ _ hm
  obtain ⟨A0, n0, c0, rfl⟩ := okWide_slice Try.underlying22 (hval 0 22 v0 rfl rfl)
  obtain ⟨fu0, hf0⟩ := h0
  obtain ⟨_, _, _, x0, e0, r0, l0, m0, ok0⟩ := open_bytes Try.underlying22 Try.underlying5 (by kernel_rfl) hf0
  simp only [Value.slice.injEq] at e0
  obtain ⟨rfl, rfl, rfl⟩ := e0
  clear hA0 hval0
  refine (walk A0 n0 c0 x0 W r0 l0 m0 ok0).mono fun e W' ⟨he, bel⟩ => ?_
  subst he
  exact ⟨_, rfl, _, _, _, [], _, [], hW', trodAll_mk1 (shut_bool Try.underlying4 _), (trodAll_cons_mk (Below.trod laidOut (by kernel_rfl) (of_decide_eq_true (by kernel_rfl)) k0 bel lt0) trodAll_mk0), rfl, bel.frame _, fun h => by cases h⟩

theorem over : Rows.fnPeepRow.holds Try.pinned (OpenSpec.ofChange Rows.fnPeepSpec) :=
  OpenClaim.holds_of_wide 3 Try.f3 rfl rfl rfl rfl rfl rfl rfl ⟨rfl, rfl, rfl, rfl, rfl⟩ rfl rfl rfl rfl rfl (by kernel_rfl) Try.func3 (by kernel_rfl)
    (of_decide_eq_true (by kernel_rfl)) (by unfold Func.isWrapper; first | (rw [if_pos (by decide +kernel)]; kernel_rfl) | (rw [if_neg (by decide +kernel)]; exact ⟨rfl, rfl⟩))
    (fun os started H enc _ => lifted os started H enc)

theorem proved : Rows.FnPeepSaid := over
#print axioms proved
end Go.Proofs.Ytjmgpgppammhhaa.fnPeep
