/- The law FnFoldAll returns true for every code. No condition. -/
import Derived.Test.YtibhikngiceeeaaRows
import Derived.Test.YtibhikngiceeeaaDrawPL
import Derived.Test.YtibhikngiceeeaaDomX
import Derived.Test.YtibhikngiceeeaaOpenBx
import Derived.BigQuiet
import Derived.ChangeOld
import Derived.Deep.DeepCutAuto
namespace Go.Proofs.Ytibhikngiceeeaa.fnFoldAll
open Go.ChangeShapes Go.WideShapes Go.ChangeAt Go.RowKit
set_option linter.unusedVariables false

def RetFA (w : World) (e : Ending) (w' : World) : Prop :=
  ∃ (A : Option Addr) (n c : Nat) (l : List Gt) (N : Int), e = .returned (.tuple #[.slice A n c, .int .i64 N]) ∧ l.length = n ∧ n ≤ c ∧ n ≤ 64 ∧ hcs l ≤ 30 ∧ RdG w' A n l ∧ Below w.heap.size w w'
set_option maxRecDepth 100000 in
set_option maxHeartbeats 1600000 in
theorem s_DrawFA (A : Option Addr) (n cap : Nat) (zs : List Int) (w : World) (h : RdB w A n zs) (hz : ∀ z ∈ zs, 0 ≤ z ∧ z ≤ 255) (hn : n ≤ 1048576) : Calls Try.prog 26 #[.slice A n cap] w (RetFA w) := by
  have H := Lib.hid h
  have HZ := Lib.hid hz
  clear h hz
  go_enter Try.func26, Try.ntmps26
  go_wp2_with fail
  refine (s_l1New _ _ _ _ _ H.out HZ.out hn).mono ?_
  rintro e w1 ⟨g, rfl, hc1, hg, b1⟩
  go_wp2_with fail
  refine (s_l11BentH g 14 _ hc1 (by omega)).mono ?_
  rintro e w2 ⟨N, A2, m, c2, l, rfl, hl, hm, hh, o2, hc2, g2⟩
  have O2 := Lib.hid o2
  have HL := Lib.hid hl
  have B2 := Lib.hid (b1.trans (below_of_grown g2 b1.size (fun k hk => by injection hk with hk; omega)))
  clear o2 hl hc1 hc2 g2 b1
  have X3 := Lib.hid (Bx.new w2 50 #[.int .i64 N, .slice A2 m c2])
  have B3 := Lib.hid (B2.out.alloc B2.out.size (.cells #[.int .i64 N, .slice A2 m c2] 50))
  have R3 := Lib.hid ((RdG.own O2.out).alloc (.cells #[.int .i64 N, .slice A2 m c2] 50))
  obtain ⟨q0, q1, _, _⟩ := X3.out.two
  go_wp2_with fail
  go_quiet (fail)
  go_wp2_with fail
  go_ret2
  exact ⟨A2, m, c2, l, N, rfl, HL.out, ownsRow_cap O2.out, hm, by omega, R3.out.below (below_drewN (Below.refl _ _) _), below_drewN B3.out _⟩

set_option maxRecDepth 100000 in
set_option maxHeartbeats 6400000 in
theorem walk (A : Option Addr) (n cap : Nat) (zs : List Int) (w : World) (h : zs.length = n ∧ Rd w 1 A n (zs.map (Value.int .u8))) (hnc : n ≤ cap) (hc : cap ≤ maxLen) (ok : ∀ z ∈ zs, 0 ≤ z ∧ z ≤ 255) :
    Calls Try.prog 6 #[.slice A n cap] w fun e w' => e = .returned (.bool true) ∧ Below w.heap.size w w' := by
  unfold maxLen at hc
  have H : Hid (RdB w A n zs) := h
  have OK := Lib.hid ok
  clear h ok
  by_cases hn : 1048576 < n
  · go_enter Try.func6, Try.ntmps6
    go_wp2_with fail
    refine (l_big _ _ _ _ (by omega)).mono ?_
    rintro e w1 ⟨rfl, rfl⟩
    rw [decide_eq_true hn]
    go_wp2_with fail
    go_ret
    exact ⟨rfl, Below.refl _ _⟩
  · go_enter Try.func6, Try.ntmps6
    go_wp2_with fail
    refine (l_big _ _ _ _ (by omega)).mono ?_
    rintro e w1 ⟨rfl, rfl⟩
    rw [decide_eq_false hn]
    go_wp2_with fail
    refine (s_DrawFA _ _ _ _ _ H.out OK.out (by omega)).mono ?_
    rintro e w1 ⟨A1, m, c1, l, N, rfl, hlm, hmc, hm64, h30, hr, b1⟩
    have R1 := Lib.hid hr
    have B1 := Lib.hid b1
    have H30 := Lib.hid h30
    have HLM := Lib.hid hlm
    obtain ⟨⟨o, x⟩, ho⟩ : ∃ x, foldAllP l N = x := ⟨_, rfl⟩
    obtain ⟨L, hL⟩ : ∃ L, o.length = L := ⟨_, rfl⟩
    have hlen : L ≤ 128 := by
      have := foldAllP_len l N
      rw [ho] at this
      rw [← hL]
      simp only at this
      omega
    have HO := Lib.hid ho
    have HN := Lib.hid hL
    clear hr b1 h30 hlm ho hL
    go_wp2_with fail
    refine (i_FoldAllP _ _ _ l N _ R1.out (by omega)).mono ?_
    rintro e w2 ⟨A2, c2, rfl, o2, b2⟩
    rw [HO.out] at o2 ⊢
    simp only at o2 ⊢
    rw [HN.out] at o2 ⊢
    have Q2 := Lib.hid (RdG.own o2)
    have R2 := Lib.hid (R1.out.below b2)
    have B2 := Lib.hid (below_trans B1.out b2)
    clear o2 b2 R1 B1
    go_wp2_with fail
    refine (s_FoldAllP _ _ _ l N _ R2.out (by omega)).mono ?_
    rintro e w3 ⟨A3, c3, rfl, o3, b3⟩
    rw [HO.out] at o3 ⊢
    simp only at o3 ⊢
    rw [HN.out] at o3 ⊢
    have P3 := Lib.hid (RdG.own o3)
    have Q3 := Lib.hid (Q2.out.below b3)
    have R3 := Lib.hid (R2.out.below b3)
    have B3 := Lib.hid (below_trans B2.out b3)
    clear o3 b3 R2 B2 Q2
    go_wp2_with fail
    refine (l_sameGates_same _ _ _ _ _ o _ Q3.out P3.out (by omega)).mono ?_
    rintro e w4 ⟨rfl, b4⟩
    have Q4 := Lib.hid (Q3.out.below b4)
    have R4 := Lib.hid (R3.out.below b4)
    have B4 := Lib.hid (below_trans B3.out b4)
    clear b4 R3 B3 Q3 P3
    go_wp2_with fail
    go_loopg [9] m (fun r i wr => ∃ k : Nat, k + r = m ∧ i = .int .i64 k ∧ (∀ g ∈ l.take k, okG g.k g.a g.b g.c N = true) ∧ Below w4.heap.size w4 wr)
    case atStart => exact ⟨0, by omega, rfl, by simp, Below.refl _ _⟩
    case round =>
      obtain ⟨k, hk, rfl, hv, hb⟩ := hrel
      have HV := Lib.hid hv
      clear hv
      by_cases hlt : k < m
      · obtain ⟨b, off, g, rfl, hB, hd, p0, p1, p2, p3⟩ := (R4.out.below hb).at_ hlt
        obtain ⟨vg, hvg⟩ : ∃ x, okG g.k g.a g.b g.c N = x := ⟨_, rfl⟩
        have HG := Lib.hid hvg
        have HT := Lib.hid (take_snoc hd)
        clear hd hvg
        have hi0 : (0 : Int) ≤ (k : Int) := by omega
        have hi1 : (k : Int) < (m : Int) := by omega
        go_wp2_with fail
        refine (s_IsValidGate g.k g.a g.b g.c N _).mono ?_
        rintro e w5 ⟨rfl, b5⟩
        rw [HG.out]
        have hb2 := hb.trans (b5.mono hb.size)
        clear hb b5 p0 p1 p2 p3
        cases vg
        · go_wp2_with fail
          go_ret
          exact ⟨rfl, below_trans B4.out hb2⟩
        · go_wp2_with fail
          go_roundg (gk - 1)
          case measure => omega
          case rel =>
            refine ⟨k + 1, by omega, by go_num, fun x hx => ?_, hb2⟩
            rw [HT.out] at hx
            rcases List.mem_append.1 hx with hx | hx
            · exact HV.out x hx
            · rw [List.mem_singleton.1 hx]; exact HG.out
      · have hall : ∀ g ∈ l, okG g.k g.a g.b g.c N = true := by
          have e : l.take k = l := List.take_of_length_le (by rw [HLM.out]; omega)
          have := HV.out
          rwa [e] at this
        by_cases hN : 1 ≤ N ∧ N ≤ 4
        · obtain ⟨q, rfl⟩ : ∃ q : Nat, N = (q : Int) := ⟨N.toNat, by omega⟩
          have hq : 1 ≤ q ∧ q ≤ 4 := by omega
          have hall' : ∀ g ∈ l, okN q g = true := hall
          obtain ⟨f1, f2, f3, j, f4, f5, f6⟩ := foldAll_law hall'
          rw [HO.out] at f1 f2 f3 f4 f6
          simp only at f1 f2 f3 f4 f6
          subst f4
          have AP := Lib.hid (apart_of hq hall' f1 H30.out f2 f5 f6)
          have HTT := Lib.hid f3
          clear hall hall' f1 f2 f3 f6 hN
          obtain ⟨T1, hT1⟩ : ∃ k, tcnt o = k := ⟨_, rfl⟩
          obtain ⟨T2, hT2⟩ : ∃ k, tcnt l = k := ⟨_, rfl⟩
          have hTT : T1 ≤ T2 := by rw [← hT1, ← hT2]; exact HTT.out
          have HT1 := Lib.hid hT1
          have HT2 := Lib.hid hT2
          clear hT1 hT2 HTT
          have Q5 := Lib.hid (Q4.out.below hb)
          have R5 := Lib.hid (R4.out.below hb)
          have B5 := Lib.hid (below_trans B4.out hb)
          clear hb Q4 R4 B4
          obtain rfl | rfl | rfl | rfl : q = 1 ∨ q = 2 ∨ q = 3 ∨ q = 4 := by omega
          · go_wp2_with fail
            refine (l_apartG1 j _ _ _ m _ l _ L _ o _ R5.out Q5.out (by omega) (by omega) AP.out).mono ?_
            rintro e w6 ⟨rfl, b6⟩
            have Q6 := Lib.hid (Q5.out.below b6)
            have R6 := Lib.hid (R5.out.below b6)
            have B6 := Lib.hid (below_trans B5.out b6)
            clear b6 Q5 R5 B5 AP
            go_wp2_with fail
            refine (l_tCount _ _ _ o _ Q6.out (by omega)).mono ?_
            rintro e w7 ⟨rfl, b7⟩
            rw [HT1.out]
            have R7 := Lib.hid (R6.out.below b7)
            have B7 := Lib.hid (below_trans B6.out b7)
            clear b7 R6 B6 Q6
            go_wp2_with fail
            refine (l_tCount _ _ _ l _ R7.out (by omega)).mono ?_
            rintro e w8 ⟨rfl, b8⟩
            rw [HT2.out]
            go_wp2_with fail
            go_ret
            exact ⟨ret_bool (by simp <;> omega), below_trans B7.out b8⟩
          · go_wp2_with fail
            refine (l_apartG2 j _ _ _ m _ l _ L _ o _ R5.out Q5.out (by omega) (by omega) AP.out).mono ?_
            rintro e w6 ⟨rfl, b6⟩
            have Q6 := Lib.hid (Q5.out.below b6)
            have R6 := Lib.hid (R5.out.below b6)
            have B6 := Lib.hid (below_trans B5.out b6)
            clear b6 Q5 R5 B5 AP
            go_wp2_with fail
            refine (l_tCount _ _ _ o _ Q6.out (by omega)).mono ?_
            rintro e w7 ⟨rfl, b7⟩
            rw [HT1.out]
            have R7 := Lib.hid (R6.out.below b7)
            have B7 := Lib.hid (below_trans B6.out b7)
            clear b7 R6 B6 Q6
            go_wp2_with fail
            refine (l_tCount _ _ _ l _ R7.out (by omega)).mono ?_
            rintro e w8 ⟨rfl, b8⟩
            rw [HT2.out]
            go_wp2_with fail
            go_ret
            exact ⟨ret_bool (by simp <;> omega), below_trans B7.out b8⟩
          · go_wp2_with fail
            refine (l_apartG3 j _ _ _ m _ l _ L _ o _ R5.out Q5.out (by omega) (by omega) AP.out).mono ?_
            rintro e w6 ⟨rfl, b6⟩
            have Q6 := Lib.hid (Q5.out.below b6)
            have R6 := Lib.hid (R5.out.below b6)
            have B6 := Lib.hid (below_trans B5.out b6)
            clear b6 Q5 R5 B5 AP
            go_wp2_with fail
            refine (l_tCount _ _ _ o _ Q6.out (by omega)).mono ?_
            rintro e w7 ⟨rfl, b7⟩
            rw [HT1.out]
            have R7 := Lib.hid (R6.out.below b7)
            have B7 := Lib.hid (below_trans B6.out b7)
            clear b7 R6 B6 Q6
            go_wp2_with fail
            refine (l_tCount _ _ _ l _ R7.out (by omega)).mono ?_
            rintro e w8 ⟨rfl, b8⟩
            rw [HT2.out]
            go_wp2_with fail
            go_ret
            exact ⟨ret_bool (by simp <;> omega), below_trans B7.out b8⟩
          · go_wp2_with fail
            refine (l_apartG4 j _ _ _ m _ l _ L _ o _ R5.out Q5.out (by omega) (by omega) AP.out).mono ?_
            rintro e w6 ⟨rfl, b6⟩
            have Q6 := Lib.hid (Q5.out.below b6)
            have R6 := Lib.hid (R5.out.below b6)
            have B6 := Lib.hid (below_trans B5.out b6)
            clear b6 Q5 R5 B5 AP
            go_wp2_with fail
            refine (l_tCount _ _ _ o _ Q6.out (by omega)).mono ?_
            rintro e w7 ⟨rfl, b7⟩
            rw [HT1.out]
            have R7 := Lib.hid (R6.out.below b7)
            have B7 := Lib.hid (below_trans B6.out b7)
            clear b7 R6 B6 Q6
            go_wp2_with fail
            refine (l_tCount _ _ _ l _ R7.out (by omega)).mono ?_
            rintro e w8 ⟨rfl, b8⟩
            rw [HT2.out]
            go_wp2_with fail
            go_ret
            exact ⟨ret_bool (by simp <;> omega), below_trans B7.out b8⟩
        · have hl0 : l = [] := by
            cases l with
            | nil => rfl
            | cons g r =>
              have := hall g (by simp)
              unfold okG at this
              simp only [Bool.and_eq_true] at this
              exact absurd (inB_iff.1 this.1) hN
          have hL0 : L = 0 := by
            have := HO.out
            rw [hl0] at this
            have h2 : o = [] := (congrArg Prod.fst this).symm
            rw [← HN.out, h2]
            rfl
          subst hL0
          clear hall hl0
          by_cases hN1 : N < 1
          · go_wp2_with fail
            go_ret
            exact ⟨rfl, below_trans B4.out hb⟩
          · have hN4 : 4 < N := by omega
            go_wp2_with fail
            go_ret
            exact ⟨rfl, below_trans B4.out hb⟩

theorem own : ownKnob Try.prog.godebug = none := by kernel_rfl
theorem laidOut : laidOutB Try.prog = true := by kernel_rfl
set_option maxRecDepth 100000 in
theorem lifted (os : Os) (started : os.Started) (H : Type) (enc : TypeId × Value → H) :
    ReturnsInHanded {} Try.checked os 6 .any (Rows.fnFoldAllSpec.pre6 enc Try.prog Try.f6 Rows.fnFoldAllRow.domain false) (Rows.fnFoldAllSpec.post enc Try.prog Try.f6 false true false false) := by
  refine returnsInHanded_of_change (C := Try.checked) own started (by kernel_rfl) Try.func6
    (ChangeSpec.witness6 (enc := enc) (C := Try.checked) false ⟨#[], #[.slice none 0 0], []⟩ 8 (by kernel_rfl) (by kernel_rfl) (by kernel_rfl) (by kernel_rfl)) ?_
  intro W base args ds gs before hval0 hW hcnd _
  have hval : ∀ (j : Nat) t v, Try.f6.params[j]? = some t → args[j]? = some v → Value.okWide Try.prog W .any base t v := hval0
  have hW' := hW
  obtain ⟨p, q, hA0, hV, rfl, hfz, hnd⟩ := hW
  have hA : DataW.TrodAll enc Try.prog W 0 (fun _ => true) true Try.f6.params.toList args.toList ds p := hA0
  rw [Try.params6] at hA hval
  obtain ⟨v0, vs0, d0, ds0, p0, q0, hargs, rfl, rfl, h0, t0⟩ := trodAll_cons hA
  obtain ⟨rfl, rfl, rfl⟩ := trodAll_nil t0
  obtain rfl : args = #[v0] := by cases args; simp_all
  obtain ⟨rfl, rfl⟩ := trodVars_none hV
  have k0 := h0
  have lt0 : ∀ x ∈ p0, x.block < W.heap.size := by obtain ⟨m, hm⟩ := k0; exact DataW.trod_lt m _ _ _ hm
  obtain ⟨A0, n0, c0, rfl⟩ := okWide_slice Try.underlying39 (hval 0 39 v0 rfl rfl)
  obtain ⟨fu0, hf0⟩ := h0
  obtain ⟨_, _, _, x0, e0, r0, l0, m0, ok0⟩ := open_bytes Try.underlying39 Try.underlying5 (by kernel_rfl) hf0
  simp only [Value.slice.injEq] at e0
  obtain ⟨rfl, rfl, rfl⟩ := e0
  clear hA0 hval0
  refine (walk A0 n0 c0 x0 W r0 l0 m0 ok0).mono fun e W' ⟨he, bel⟩ => ?_
  subst he
  exact ⟨_, rfl, _, _, _, [], _, [], hW', trodAll_mk1 (shut_bool Try.underlying4 _), (trodAll_cons_mk (Below.trod laidOut (by kernel_rfl) (of_decide_eq_true (by kernel_rfl)) k0 bel lt0) trodAll_mk0), rfl, bel.frame _, fun h => by cases h⟩

theorem over : Rows.fnFoldAllRow.holds Try.pinned (OpenSpec.ofChange Rows.fnFoldAllSpec) :=
  OpenClaim.holds_of_wide 6 Try.f6 rfl rfl rfl rfl rfl rfl rfl ⟨rfl, rfl, rfl, rfl, rfl⟩ rfl rfl rfl rfl rfl (by kernel_rfl) Try.func6 (by kernel_rfl)
    (of_decide_eq_true (by kernel_rfl)) (by unfold Func.isWrapper; first | (rw [if_pos (by decide +kernel)]; kernel_rfl) | (rw [if_neg (by decide +kernel)]; exact ⟨rfl, rfl⟩))
    (fun os started H enc _ => lifted os started H enc)

theorem proved : Rows.FnFoldAllSaid := over
#print axioms proved
end Go.Proofs.Ytibhikngiceeeaa.fnFoldAll
