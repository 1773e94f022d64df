/- The law FnSections returns true for every code. No condition. -/
import Derived.Test.YthfacfnknpomcaaRows
import Derived.Test.YthfacfnknpomcaaSectP
import Derived.Test.YthfacfnknpomcaaSameG
import Derived.Test.YthfacfnknpomcaaOpen
import Derived.ChangeOld
namespace Go.Proofs.Ythfacfnknpomcaa.fnSections
open Go.ChangeShapes Go.WideShapes Go.ChangeAt Go.RowKit
set_option linter.unusedVariables false

set_option maxRecDepth 100000 in
set_option maxHeartbeats 6400000 in
theorem walk (A : Option Addr) (n cap : Nat) (zs : List Int) (w : World) (h : zs.length = n ∧ Rd w 1 A n (zs.map (Value.int .u8))) (hnc : n ≤ cap) (hc : cap ≤ maxLen) (ok : ∀ z ∈ zs, 0 ≤ z ∧ z ≤ 255) :
    Calls Try.prog 9 #[.slice A n cap] w fun e w' => e = .returned (.bool true) ∧ Below w.heap.size w w' := by
  unfold maxLen at hc
  have H : Hid (RdB w A n zs) := h
  have OK := Lib.hid ok
  clear h ok
  have hz4 : (Value.agg #[.int .i64 0, .int .i64 0, .int .i64 0, .int .i64 0]).cells.size = 4 := rfl
  by_cases hn : 1048576 < n
  · skip
    go_enter Try.func9, Try.ntmps9
    go_wp2_with fail
    refine (l_big _ _ _ _ (by omega)).mono ?_
    rintro e w1 ⟨rfl, rfl⟩
    rw [decide_eq_true hn]
    go_wp2_with fail
    go_ret
    exact ⟨rfl, Below.refl _ _⟩
  · skip
    go_enter Try.func9, Try.ntmps9
    go_wp2_with fail
    refine (l_big _ _ _ _ (by omega)).mono ?_
    rintro e w1 ⟨rfl, rfl⟩
    rw [decide_eq_false hn]
    go_wp2_with fail
    refine (s_DrawSections _ _ _ _ _ H.out OK.out (by omega)).mono ?_
    rintro e w1 ⟨A1, n1, c1, gs, rfl, hl, h64, o1, b1⟩
    have O1 := Lib.hid o1
    have B1 := Lib.hid b1
    have HL := Lib.hid hl
    clear o1 b1 hl
    go_wp2_with fail
    refine (i_PhaseSections _ _ _ gs _ (RdG.own O1.out) (by omega)).mono ?_
    rintro e w2 ⟨A2, c2, rfl, o2, b2⟩
    have hcnt := secs_cntS gs
    have hgood := secs_good gs
    have hflat := secs_flatS gs
    obtain ⟨L, hL⟩ : ∃ L, secs gs = L := ⟨_, rfl⟩
    rw [hL] at o2 hcnt hgood hflat ⊢
    rw [HL.out] at hcnt
    obtain ⟨m, hm⟩ : ∃ m, L.length = m := ⟨_, rfl⟩
    rw [hm] at o2 hcnt ⊢
    have SS := Lib.hid (OwnSS.rd o2 hm)
    have O2 := Lib.hid (ownsRow_below O1.out b2)
    have B2 := Lib.hid (below_trans B1.out b2)
    have GOOD := Lib.hid hgood
    have FLAT := Lib.hid hflat
    have HLm := Lib.hid hm
    have hw2 : w.heap.size ≤ w2.heap.size := (below_trans B1.out b2).size
    have OG := Lib.hid (show (w2.alloc (.cells #[] 38)).ownsRow w2.heap.size 38 4 (.slice (some ⟨w2.heap.size, 0, none⟩) 0 0) 0 (cellsG []) from own0_bxS (Nat.le_refl _) (Bx.new w2 _ _))
    have BG := Lib.hid ((Below.refl w2.heap.size w2).alloc (Nat.le_refl _) (.cells #[] 38))
    clear hL o2 b2 hgood hflat hm
    go_wp2_with fail
    go_loopg [5, 6, 7] m (fun r s la i wr => ∃ (k : Nat) (A3 : Option Addr) (c3 : Nat) (acc : List Gt), k + r = m ∧ i = .int .i64 k ∧ s = .slice A3 acc.length c3 ∧ la = .bool (flagS false (L.take k)) ∧ acc = (L.take k).flatten ∧ acc.length ≤ n1 ∧ wr.ownsRow w2.heap.size 38 4 (.slice A3 acc.length c3) acc.length (cellsG acc) ∧ Below w2.heap.size w2 wr)
    case atStart => exact ⟨0, _, 0, [], by omega, rfl, rfl, rfl, rfl, by simp, OG.out, BG.out⟩
    case round =>
      clear OG BG
      obtain ⟨k, A3, c3, acc, hk, rfl, rfl, rfl, hacc, haln, ho, hb⟩ := hrel
      have HACC := Lib.hid hacc
      have HO := Lib.hid ho
      have HB := Lib.hid hb
      have hbs := hb.size
      clear hacc ho hb
      obtain ⟨la, hla⟩ : ∃ b, flagS false (L.take k) = b := ⟨_, rfl⟩
      have HLA := Lib.hid hla
      rw [hla]
      clear hla
      by_cases hlt : k < m
      · obtain ⟨b, off, x, B, c, rfl, hbb, hd, c0, hxc, hx⟩ := (SS.out.below HB.out).at_ hlt
        have HD := Lib.hid hd
        have HX := Lib.hid (show RdG wr B x.length x from ⟨rfl, hx⟩)
        have hok := goodS_at GOOD.out hd
        rw [HLA.out] at hok
        have HOK := Lib.hid hok
        have HC0 := Lib.hid c0
        have hxl : x.length + acc.length ≤ n1 := by
          have h1 := congrArg List.length FLAT.out
          have h2 : L = L.take k ++ x :: L.drop (k + 1) := by rw [← hd, List.take_append_drop]
          rw [h2, List.flatten_append, List.flatten_cons, List.length_append, List.length_append, ← HACC.out, HL.out] at h1
          omega
        have hkI : (k : Int) < (m : Int) := by omega
        clear hd hx hok c0
        obtain ⟨wo, rfl⟩ : ∃ wo : World, wo = wr := ⟨_, rfl⟩
        obtain ⟨gko, rfl⟩ : ∃ q : Nat, q = gk := ⟨_, rfl⟩
        go_wp2_with fail
        go_loopg [8, 9] x.length (fun r v i ws => ∃ j : Nat, j + r = x.length ∧ i = .int .i64 j ∧ v = .bool (allPh (x.take j)) ∧ Below wo.heap.size wo ws)
        case atStart => exact ⟨0, by omega, rfl, rfl, Below.refl _ _⟩
        case round =>
          obtain ⟨j, hj, rfl, rfl, hbw⟩ := hrel
          have HW := Lib.hid hbw
          have hws := hbw.size
          have c0 := (hbw.cell (p := ⟨b, off + k, none⟩) hbb).trans HC0.out
          clear hbw
          obtain ⟨bb, hbb2⟩ : ∃ q, allPh (x.take j) = q := ⟨_, rfl⟩
          have HBB := Lib.hid hbb2
          rw [hbb2]
          clear hbb2
          by_cases hjl : j < x.length
          · obtain ⟨b5, off5, g, rfl, hb5, hd5, d0, d1, d2, d3⟩ := (HX.out.below HW.out).at_ hjl
            have HSN := Lib.hid (allPh_snoc hd5)
            have hjI : (j : Int) < (x.length : Int) := by omega
            clear hd5
            cases bb
            · skip
              go_wp2_with fail
              go_roundg (gk - 1)
              case measure => omega
              case rel => exact ⟨j + 1, by omega, by go_num, by rw [HSN.out, HBB.out, Bool.false_and], HW.out.alloc hws _⟩
            · cases e1 : (g.k == 1)
              rotate_left
              · have HP := Lib.hid (show ph g.k = true from by unfold ph; rw [e1]; rfl)
                go_wp2_with fail
                go_roundg (gk - 1)
                case measure => omega
                case rel => exact ⟨j + 1, by omega, by go_num, by rw [HSN.out, HBB.out, Bool.true_and, HP.out], HW.out.alloc hws _⟩
              · cases e2 : (g.k == 9)
                rotate_left
                · have HP := Lib.hid (show ph g.k = true from by unfold ph; rw [e1, e2]; rfl)
                  go_wp2_with fail
                  go_roundg (gk - 1)
                  case measure => omega
                  case rel => exact ⟨j + 1, by omega, by go_num, by rw [HSN.out, HBB.out, Bool.true_and, HP.out], HW.out.alloc hws _⟩
                · cases e3 : (g.k == 11)
                  rotate_left
                  · have HP := Lib.hid (show ph g.k = true from by unfold ph; rw [e1, e2, e3]; rfl)
                    go_wp2_with fail
                    go_roundg (gk - 1)
                    case measure => omega
                    case rel => exact ⟨j + 1, by omega, by go_num, by rw [HSN.out, HBB.out, Bool.true_and, HP.out], HW.out.alloc hws _⟩
                  · have HP := Lib.hid (show ph g.k = decide (0 < units g.k) from by unfold ph; rw [e1, e2, e3, unitsZ]; rfl)
                    obtain ⟨u, hu⟩ : ∃ u, units g.k = u := ⟨_, rfl⟩
                    rw [hu] at HP
                    have HU := Lib.hid hu
                    clear hu
                    by_cases hup : 0 < u
                    · have HQ := Lib.hid (show decide (0 < u) = true from by simpa using hup)
                      go_wp2_with fail
                      refine (i_RotationUnits _ _).mono ?_
                      rintro e w' ⟨rfl, rfl⟩
                      rw [HU.out]
                      go_wp2_with fail
                      go_roundg (gk - 1)
                      case measure => omega
                      case rel => exact ⟨j + 1, by omega, by go_num, by rw [HSN.out, HBB.out, Bool.true_and, HP.out, HQ.out], HW.out.alloc hws _⟩
                    · have HQ := Lib.hid (show decide (0 < u) = false from by simpa using hup)
                      go_wp2_with fail
                      refine (i_RotationUnits _ _).mono ?_
                      rintro e w' ⟨rfl, rfl⟩
                      rw [HU.out]
                      go_wp2_with fail
                      go_roundg (gk - 1)
                      case measure => omega
                      case rel => exact ⟨j + 1, by omega, by go_num, by rw [HSN.out, HBB.out, Bool.true_and, HP.out, HQ.out], HW.out.alloc hws _⟩
          · obtain rfl : j = x.length := by omega
            have hM : allPh x = bb := by have := HBB.out; rwa [List.take_length] at this
            have HM := Lib.hid hM
            have hok := HOK.out
            unfold okSec at hok
            rw [hM] at hok
            clear hM
            have h0 : ((x.length : Int) == 0) = false := by
                  cases hx0 : (x.length == 0)
                  · simpa using hx0
                  · rw [hx0] at hok; cases hok
            have OW := Lib.hid (ownsRow_below HO.out HW.out)
            have XW := Lib.hid (HX.out.below HW.out)
            have BW := Lib.hid (HB.out.trans (HW.out.mono hbs))
            cases bb
            · have h1 : ((x.length : Int) != 1) = false := by
                    cases hx1 : (x.length == 1)
                    · rw [hx1] at hok; simp at hok
                    · simp at hx1 ⊢; omega
              clear hok
              cases la
              · skip
                go_wp2_with (at_builtin; refine wpList_app rfl (.tmp 87) (.tmp 91) 47 rfl Try.underlying47 infoGate hz4 (by decide) rfl OW.out rfl XW.out.2 one_cellsG (by omega) (by decide) (by omega) ?_; intro A7 c7 w7 o7 g7; have O7 := Lib.hid o7; have G7 := Lib.hid g7; clear o7 g7)
                go_roundg (gko - 1)
                case measure => omega
                case rel => exact ⟨k + 1, A7, c7, acc ++ x, by omega, by go_num, by rw [List.length_append], by rw [flagS_at HD.out, HM.out], by rw [take_snoc HD.out, List.flatten_append, ← HACC.out]; simp, by rw [List.length_append]; omega, by rw [List.length_append, cellsG_append]; exact O7.out, below_grown BW.out BW.out.size OW.out (Nat.le_refl _) G7.out⟩
              · skip
                go_wp2_with (at_builtin; refine wpList_app rfl (.tmp 87) (.tmp 91) 47 rfl Try.underlying47 infoGate hz4 (by decide) rfl OW.out rfl XW.out.2 one_cellsG (by omega) (by decide) (by omega) ?_; intro A7 c7 w7 o7 g7; have O7 := Lib.hid o7; have G7 := Lib.hid g7; clear o7 g7)
                go_roundg (gko - 1)
                case measure => omega
                case rel => exact ⟨k + 1, A7, c7, acc ++ x, by omega, by go_num, by rw [List.length_append], by rw [flagS_at HD.out, HM.out], by rw [take_snoc HD.out, List.flatten_append, ← HACC.out]; simp, by rw [List.length_append]; omega, by rw [List.length_append, cellsG_append]; exact O7.out, below_grown BW.out BW.out.size OW.out (Nat.le_refl _) G7.out⟩
            · cases la
              · clear hok
                go_wp2_with (at_builtin; refine wpList_app rfl (.tmp 87) (.tmp 91) 47 rfl Try.underlying47 infoGate hz4 (by decide) rfl OW.out rfl XW.out.2 one_cellsG (by omega) (by decide) (by omega) ?_; intro A7 c7 w7 o7 g7; have O7 := Lib.hid o7; have G7 := Lib.hid g7; clear o7 g7)
                go_roundg (gko - 1)
                case measure => omega
                case rel => exact ⟨k + 1, A7, c7, acc ++ x, by omega, by go_num, by rw [List.length_append], by rw [flagS_at HD.out, HM.out], by rw [take_snoc HD.out, List.flatten_append, ← HACC.out]; simp, by rw [List.length_append]; omega, by rw [List.length_append, cellsG_append]; exact O7.out, below_grown BW.out BW.out.size OW.out (Nat.le_refl _) G7.out⟩
              · simp at hok
      · have hE : acc = gs := by have := HACC.out; rw [List.take_of_length_le (by have := HLm.out; omega), FLAT.out] at this; exact this
        have HE := Lib.hid hE
        clear hE
        have hal : acc.length = n1 := by rw [HE.out, HL.out]
        have OA := Lib.hid (show RdG wr A3 n1 gs from by have := RdG.own HO.out; rw [HE.out, HL.out] at this; exact this)
        have OB := Lib.hid (RdG.own (ownsRow_below O2.out HB.out))
        rw [hal]
        clear hal
        go_wp2_with fail
        refine (l_sameGates_same _ _ _ _ _ _ _ OA.out OB.out (by omega)).mono ?_
        rintro e w4 ⟨rfl, b4⟩
        go_wp2_with fail
        go_ret
        exact ⟨rfl, below_trans (B2.out.trans (HB.out.mono hw2)) b4⟩

theorem own : ownKnob Try.prog.godebug = none := by kernel_rfl
theorem laidOut : laidOutB Try.prog = true := by kernel_rfl
set_option maxRecDepth 100000 in
theorem lifted (os : Os) (started : os.Started) (H : Type) (enc : TypeId × Value → H) :
    ReturnsInHanded {} Try.checked os 9 .any (Rows.fnSectionsSpec.pre6 enc Try.prog Try.f9 Rows.fnSectionsRow.domain false) (Rows.fnSectionsSpec.post enc Try.prog Try.f9 false true false false) := by
  refine returnsInHanded_of_change (C := Try.checked) own started (by kernel_rfl) Try.func9
    (ChangeSpec.witness6 (enc := enc) (C := Try.checked) false ⟨#[], #[.slice none 0 0], []⟩ 8 (by kernel_rfl) (by kernel_rfl) (by kernel_rfl) (by kernel_rfl)) ?_
  intro W base args ds gs before hval0 hW hcnd _
  have hval : ∀ (j : Nat) t v, Try.f9.params[j]? = some t → args[j]? = some v → Value.okWide Try.prog W .any base t v := hval0
  have hW' := hW
  obtain ⟨p, q, hA0, hV, rfl, hfz, hnd⟩ := hW
  have hA : DataW.TrodAll enc Try.prog W 0 (fun _ => true) true Try.f9.params.toList args.toList ds p := hA0
  rw [Try.params9] at hA hval
  obtain ⟨v0, vs0, d0, ds0, p0, q0, hargs, rfl, rfl, h0, t0⟩ := trodAll_cons hA
  obtain ⟨rfl, rfl, rfl⟩ := trodAll_nil t0
  obtain rfl : args = #[v0] := by cases args; simp_all
  obtain ⟨rfl, rfl⟩ := trodVars_none hV
  have k0 := h0
  have lt0 : ∀ x ∈ p0, x.block < W.heap.size := by obtain ⟨m, hm⟩ := k0; exact DataW.trod_lt m _ _ _ hm
  obtain ⟨A0, n0, c0, rfl⟩ := okWide_slice Try.underlying59 (hval 0 59 v0 rfl rfl)
  obtain ⟨fu0, hf0⟩ := h0
  obtain ⟨_, _, _, x0, e0, r0, l0, m0, ok0⟩ := open_bytes Try.underlying59 Try.underlying5 (by kernel_rfl) hf0
  simp only [Value.slice.injEq] at e0
  obtain ⟨rfl, rfl, rfl⟩ := e0
  clear hA0 hval0
  refine (walk A0 n0 c0 x0 W r0 l0 m0 ok0).mono fun e W' ⟨he, bel⟩ => ?_
  subst he
  exact ⟨_, rfl, _, _, _, [], _, [], hW', trodAll_mk1 (shut_bool Try.underlying4 _), (trodAll_cons_mk (Below.trod laidOut (by kernel_rfl) (of_decide_eq_true (by kernel_rfl)) k0 bel lt0) trodAll_mk0), rfl, bel.frame _, fun h => by cases h⟩

theorem over : Rows.fnSectionsRow.holds Try.pinned (OpenSpec.ofChange Rows.fnSectionsSpec) :=
  OpenClaim.holds_of_wide 9 Try.f9 rfl rfl rfl rfl rfl rfl rfl ⟨rfl, rfl, rfl, rfl, rfl⟩ rfl rfl rfl rfl rfl (by kernel_rfl) Try.func9 (by kernel_rfl)
    (of_decide_eq_true (by kernel_rfl)) (by unfold Func.isWrapper; first | (rw [if_pos (by decide +kernel)]; kernel_rfl) | (rw [if_neg (by decide +kernel)]; exact ⟨rfl, rfl⟩))
    (fun os started H enc _ => lifted os started H enc)

theorem proved : Rows.FnSectionsSaid := over
#print axioms proved
end Go.Proofs.Ythfacfnknpomcaa.fnSections
