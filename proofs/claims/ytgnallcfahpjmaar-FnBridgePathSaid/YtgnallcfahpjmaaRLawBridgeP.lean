/- The law FnBridgePath returns true for every code. No condition. -/
import Derived.Test.YtgnallcfahpjmaaRRows
import Derived.Test.YtgnallcfahpjmaaRDrawB
import Derived.Test.YtgnallcfahpjmaaRStM
import Derived.Test.YtgnallcfahpjmaaRDomB
import Derived.Test.YtgnallcfahpjmaaRSameG
import Derived.Test.YtgnallcfahpjmaaROpen
import Derived.Deep.DeepCutAuto
import Derived.Deep.RegionHeld3
import Derived.ChangeOld
namespace Go.Proofs.YtgnallcfahpjmaaR.fnBridgePath
open Go.ChangeShapes Go.WideShapes Go.ChangeAt Go.RowKit
set_option linter.unusedVariables false

theorem rdI_cell {w : World} {bb off n k : Nat} {zs : List Int} {x : Int} (h : RdI w (some ⟨bb, off, none⟩) n zs) (hk : zs[k]? = some x) : bb < w.heap.size ∧ w.cell? ⟨bb, off + k, none⟩ = some (.int .i64 x) := by
  have hl : k < zs.length := (List.getElem?_eq_some_iff.1 hk).1
  have hn : k < n := by have := h.1; omega
  obtain ⟨b', off', x', e, hb, hd, c0⟩ := h.at_ hn
  injection e with e
  injection e with e1 e2
  subst e1 e2
  have : zs[k]? = some x' := by
    have := congrArg (fun l => l[0]?) hd
    simpa using this
  rw [hk] at this
  injection this with this
  rw [this]
  exact ⟨hb, c0⟩
theorem long_le {z : List Int} (h : z.length ≤ 4) : (longCX z).length ≤ 10 := by
  unfold longCX
  split
  · rename_i hh
    match z, h, hh with
    | [a, b], _, _ => simp [lrc]
    | [a, b, c], _, _ => simp [lrc]
    | [a, b, c, d], _, _ => simp [lrc]
  · simp
theorem rdG_one {k : Nat} (w : World) (a b : Int) (hk : k = w.heap.size) : RdG (w.alloc (.cells #[.int .i64 9, .int .i64 a, .int .i64 b, .int .i64 0] 63)) (some ⟨k, 0, none⟩) 1 [⟨9, a, b, 0⟩] := by
  subst hk
  exact ⟨rfl, Rd.lit w 63 #[.int .i64 9, .int .i64 a, .int .i64 b, .int .i64 0] 1 4 rfl⟩

set_option maxRecDepth 100000 in
set_option maxHeartbeats 6400000 in
theorem walk (A : Option Addr) (n cap : Nat) (zs : List Int) (w : World) (h : zs.length = n ∧ Rd w 1 A n (zs.map (Value.int .u8))) (hnc : n ≤ cap) (hc : cap ≤ maxLen) (ok : ∀ z ∈ zs, 0 ≤ z ∧ z ≤ 255) :
    Calls Try.prog 10 #[.slice A n cap] w fun e w' => e = .returned (.bool true) ∧ Below w.heap.size w w' := by
  unfold maxLen at hc
  have H : Hid (RdB w A n zs) := h
  have OK := Lib.hid ok
  clear h ok
  by_cases hn : 1048576 < n
  · go_enter Try.func10, Try.ntmps10
    go_wp2_with fail
    refine (l_big _ _ _ _ (by omega)).mono ?_
    rintro e w1 ⟨rfl, rfl⟩
    rw [decide_eq_true hn]
    go_wp2_with fail
    go_ret
    exact ⟨rfl, Below.refl _ _⟩
  · go_enter Try.func10, Try.ntmps10
    go_wp2_with fail
    refine (l_big _ _ _ _ (by omega)).mono ?_
    rintro e w1 ⟨rfl, rfl⟩
    rw [decide_eq_false hn]
    go_wp2_with fail
    refine (s_DrawLong _ _ _ _ _ H.out OK.out (by omega)).mono ?_
    rintro e w1 ⟨A1, m, c1, z, rfl, hzl, hmc, hm5, hr, hway, b1⟩
    have R1 := Lib.hid hr
    have HW := Lib.hid hway
    have HZL := Lib.hid hzl
    have B1 := Lib.hid b1
    obtain ⟨l, hl⟩ : ∃ l, longCX z = l := ⟨_, rfl⟩
    have hl10 : l.length ≤ 10 := by
      rw [← hl]
      rcases Nat.lt_or_ge 4 z.length with h4 | h4
      · rw [longCX_out (.inr h4)]; simp
      · exact long_le h4
    obtain ⟨L, hL⟩ : ∃ L, l.length = L := ⟨_, rfl⟩
    rw [hL] at hl10
    have HL := Lib.hid hl
    have HN := Lib.hid hL
    clear hr hway hzl b1 hl hL
    go_wp2_with fail
    refine (i_LongRangeCX _ _ _ z _ R1.out hmc).mono ?_
    rintro e w2 ⟨A2, c2, rfl, o2, b2⟩
    rw [HL.out] at o2 ⊢
    rw [HN.out] at o2 ⊢
    have Q2 := Lib.hid (RdG.own o2)
    have R2 := Lib.hid (R1.out.below b2)
    have B2 := Lib.hid (below_trans B1.out b2)
    clear o2 b2 R1 B1
    go_wp2_with fail
    refine (s_LongRangeCX _ _ _ z _ R2.out hmc).mono ?_
    rintro e w3 ⟨A3, c3, rfl, o3, b3⟩
    rw [HL.out] at o3 ⊢
    rw [HN.out] at o3 ⊢
    have P3 := Lib.hid (RdG.own o3)
    have Q3 := Lib.hid (Q2.out.below b3)
    have R3 := Lib.hid (R2.out.below b3)
    have B3 := Lib.hid (below_trans B2.out b3)
    clear o3 b3 R2 B2 Q2
    go_wp2_with fail
    refine (l_sameGates_same _ _ _ _ _ l _ Q3.out P3.out (by omega)).mono ?_
    rintro e w4 ⟨rfl, b4⟩
    have Q4 := Lib.hid (Q3.out.below b4)
    have R4 := Lib.hid (R3.out.below b4)
    have B4 := Lib.hid (below_trans B3.out b4)
    clear b4 R3 B3 Q3 P3
    by_cases h2 : m < 2
    · obtain rfl : L = 0 := by rw [← HN.out, ← HL.out, longCX_out (.inl (by rw [HZL.out]; exact h2))]; rfl
      go_wp2_with fail
      go_ret
      exact ⟨rfl, B4.out⟩
    · by_cases h4 : 4 < m
      · obtain rfl : L = 0 := by rw [← HN.out, ← HL.out, longCX_out (.inr (by rw [HZL.out]; exact h4))]; rfl
        go_wp2_with fail
        go_ret
        exact ⟨rfl, B4.out⟩
      · obtain ⟨p, hp, hp4, hzp⟩ := HW.out (by omega)
        have hsame : sameAll l (endCX z) 4 = true := by
          rw [← HL.out, hzp]
          exact bridge_law hp hp4 (by omega) (by omega)
        obtain ⟨x, hx⟩ : ∃ x, z.getD 0 0 = x := ⟨_, rfl⟩
        obtain ⟨y, hy⟩ : ∃ y, z.getD (z.length - 1) 0 = y := ⟨_, rfl⟩
        have hx2 : z[0]? = some x := by
          have : 0 < z.length := by rw [HZL.out]; omega
          rw [← hx, List.getD_eq_getElem?_getD, List.getElem?_eq_getElem this]
          rfl
        have hy2 : z[m - 1]? = some y := by
          have : m - 1 < z.length := by rw [HZL.out]; omega
          rw [← hy, HZL.out, List.getD_eq_getElem?_getD, List.getElem?_eq_getElem this]
          rfl
        have he : endCX z = [⟨9, x, y, 0⟩] := by unfold endCX; rw [hx, hy]
        rw [he] at hsame
        obtain ⟨zb, zo, x0, hA, _, _, _⟩ := R4.out.at_ (show 0 < m by omega)
        subst hA
        have HS := Lib.hid hsame
        obtain ⟨hzb, k0⟩ := rdI_cell (k := 0) R4.out hx2
        obtain ⟨_, k1⟩ := rdI_cell R4.out hy2
        obtain ⟨j, rfl⟩ : ∃ j, m = j + 1 := ⟨m - 1, by omega⟩
        simp only [Nat.add_zero, Nat.add_sub_cancel] at k0 k1
        have hw1 : IntKind.i64.wrap (((j + 1 : Nat) : Int) - 1) = (j : Int) := by rw [IntKind.wrap_i64]; omega
        have hw2 : IntKind.i64.wrap ((j : Int) + 1 - 1) = (j : Int) := by rw [IntKind.wrap_i64]; omega
        have hw3 : IntKind.i64.wrap (j : Int) = (j : Int) := by rw [IntKind.wrap_i64]; omega
        have hi0 : (0 : Int) < ((j + 1 : Nat) : Int) := by omega
        have hi1 : (j : Int) < ((j + 1 : Nat) : Int) := by omega
        have hi2 : (0 : Int) < (j : Int) + 1 := by omega
        have hi3 : (j : Int) < (j : Int) + 1 := by omega
        have hi4 : (0 : Int) ≤ (j : Int) := by omega
        clear hp hp4 hzp hsame hx hy hx2 hy2 he
        go_upto_region 9 with fail
        go_cut [5, 6] (fun v5 v6 wx => v5 = .int .i64 0 ∧ v6 = .bool true ∧ Below w4.heap.size w4 wx)
        case first =>
          have V0 : Below w4.heap.size w4 w4.drew := (Below.refl _ _).drew
          have G1 := rdG_one w4.drew x y rfl
          have G2 := (Q4.out.below V0).alloc (.cells #[.int .i64 9, .int .i64 x, .int .i64 y, .int .i64 0] 63)
          have k0' := (V0.cell (p := ⟨zb, zo, none⟩) hzb).trans k0
          go_region_held3 (fun w' => w'.cell? ⟨zb, zo, none⟩ = some (.int .i64 x) ∧ w'.cell? ⟨zb, zo + j, none⟩ = some (.int .i64 y))
            (first | exact ⟨(V1.cell (p := ⟨zb, zo, none⟩) hzb).trans k0, (V1.cell (p := ⟨zb, zo + j, none⟩) hzb).trans k1⟩ | go_keep)
            (first
              | (go_at_call 52; refine (l_apart4 _ L _ l _ 1 _ [⟨9, x, y, 0⟩] _ G2 G1 (by omega) (by omega) HS.out).mono ?_; rintro e w9 ⟨rfl, b9⟩; have V1 := below_trans V0 (below_alloc b9))
              | fail)
          all_goals go_wp2_with fail
          all_goals go_meet
          all_goals exact ⟨rfl, rfl, V1⟩
        case rest =>
          obtain ⟨rfl, rfl, bb⟩ := hcut
          go_wp2_with fail
          go_ret
          exact ⟨rfl, below_trans B4.out bb⟩

theorem own : ownKnob Try.prog.godebug = none := by kernel_rfl
theorem laidOut : laidOutB Try.prog = true := by kernel_rfl
set_option maxRecDepth 100000 in
theorem lifted (os : Os) (started : os.Started) (H : Type) (enc : TypeId × Value → H) :
    ReturnsInHanded {} Try.checked os 10 .any (Rows.fnBridgePathSpec.pre6 enc Try.prog Try.f10 Rows.fnBridgePathRow.domain false) (Rows.fnBridgePathSpec.post enc Try.prog Try.f10 false true false false) := by
  refine returnsInHanded_of_change (C := Try.checked) own started (by kernel_rfl) Try.func10
    (ChangeSpec.witness6 (enc := enc) (C := Try.checked) false ⟨#[], #[.slice none 0 0], []⟩ 8 (by kernel_rfl) (by kernel_rfl) (by kernel_rfl) (by kernel_rfl)) ?_
  intro W base args ds gs before hval0 hW hcnd _
  have hval : ∀ (j : Nat) t v, Try.f10.params[j]? = some t → args[j]? = some v → Value.okWide Try.prog W .any base t v := hval0
  have hW' := hW
  obtain ⟨p, q, hA0, hV, rfl, hfz, hnd⟩ := hW
  have hA : DataW.TrodAll enc Try.prog W 0 (fun _ => true) true Try.f10.params.toList args.toList ds p := hA0
  rw [Try.params10] at hA hval
  obtain ⟨v0, vs0, d0, ds0, p0, q0, hargs, rfl, rfl, h0, t0⟩ := trodAll_cons hA
  obtain ⟨rfl, rfl, rfl⟩ := trodAll_nil t0
  obtain rfl : args = #[v0] := by cases args; simp_all
  obtain ⟨rfl, rfl⟩ := trodVars_none hV
  have k0 := h0
  have lt0 : ∀ x ∈ p0, x.block < W.heap.size := by obtain ⟨m, hm⟩ := k0; exact DataW.trod_lt m _ _ _ hm
  obtain ⟨A0, n0, c0, rfl⟩ := okWide_slice Try.underlying22 (hval 0 22 v0 rfl rfl)
  obtain ⟨fu0, hf0⟩ := h0
  obtain ⟨_, _, _, x0, e0, r0, l0, m0, ok0⟩ := open_bytes Try.underlying22 Try.underlying5 (by kernel_rfl) hf0
  simp only [Value.slice.injEq] at e0
  obtain ⟨rfl, rfl, rfl⟩ := e0
  clear hA0 hval0
  refine (walk A0 n0 c0 x0 W r0 l0 m0 ok0).mono fun e W' ⟨he, bel⟩ => ?_
  subst he
  exact ⟨_, rfl, _, _, _, [], _, [], hW', trodAll_mk1 (shut_bool Try.underlying4 _), (trodAll_cons_mk (Below.trod laidOut (by kernel_rfl) (of_decide_eq_true (by kernel_rfl)) k0 bel lt0) trodAll_mk0), rfl, bel.frame _, fun h => by cases h⟩

theorem over : Rows.fnBridgePathRow.holds Try.pinned (OpenSpec.ofChange Rows.fnBridgePathSpec) :=
  OpenClaim.holds_of_wide 10 Try.f10 rfl rfl rfl rfl rfl rfl rfl ⟨rfl, rfl, rfl, rfl, rfl⟩ rfl rfl rfl rfl rfl (by kernel_rfl) Try.func10 (by kernel_rfl)
    (of_decide_eq_true (by kernel_rfl)) (by unfold Func.isWrapper; first | (rw [if_pos (by decide +kernel)]; kernel_rfl) | (rw [if_neg (by decide +kernel)]; exact ⟨rfl, rfl⟩))
    (fun os started H enc _ => lifted os started H enc)

theorem proved : Rows.FnBridgePathSaid := over
#print axioms proved
end Go.Proofs.YtgnallcfahpjmaaR.fnBridgePath
