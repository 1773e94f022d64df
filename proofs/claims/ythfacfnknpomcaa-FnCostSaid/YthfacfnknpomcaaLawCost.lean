/- The law FnCost returns true for every code. No condition. -/
import Derived.Test.YthfacfnknpomcaaRows
import Derived.Test.YthfacfnknpomcaaDrawK
import Derived.Test.YthfacfnknpomcaaCost
import Derived.Test.YthfacfnknpomcaaTurn
import Derived.Test.YthfacfnknpomcaaReads
import Derived.Test.YthfacfnknpomcaaOpen
import Derived.Deep.RegionHeld3
import Derived.ChangeOld
namespace Go.Proofs.Ythfacfnknpomcaa.fnCost
open Go.ChangeShapes Go.WideShapes Go.ChangeAt Go.RowKit
set_option linter.unusedVariables false

theorem cost_app : ∀ (a b : List Gt), cost (a ++ b) = cost a + cost b
  | [], b => by simp [cost]
  | g :: r, b => by rw [List.cons_append, cost, cost, cost_app r b]; omega
theorem cl_tcnt : ∀ (l : List Gt), allCl l = true → tcnt l = 0
  | [], _ => rfl
  | g :: r, h => by
    unfold allCl at h
    rw [List.all_cons, Bool.and_eq_true] at h
    have ih := cl_tcnt r h.2
    unfold tcnt at ih ⊢
    rcases cliff_cases g.k with ⟨_, _, h7, h8, _⟩ | ⟨_, h2⟩
    · simp only [cnt]
      rw [if_neg (by simpa using h7), if_neg (by simpa using h8)]
      omega
    · rw [h.1] at h2; cases h2
def RetAt (w : World) (e : Ending) (w' : World) : Prop := ∃ x : Int, e = .returned (.int .i64 x) ∧ 0 ≤ x ∧ x ≤ 255 ∧ w = w'
theorem l_at0 (A : Option Addr) (n cap i : Nat) (zs : List Int) (w : World) (h : RdB w A n zs) (hz : ∀ z ∈ zs, 0 ≤ z ∧ z ≤ 255) (hn : n ≤ 1048576) (hi : i ≤ 100) :
    Calls Try.prog 52 #[.slice A n cap, .int .i64 i] w (RetAt w) := by
  have H := Lib.hid h
  have HZ := Lib.hid hz
  clear h hz
  by_cases hlt : i < n
  · obtain ⟨b, off, x, rfl, hb, hm, c0⟩ := H.out.at_ hlt
    have hx := HZ.out x hm
    have hiI : (i : Int) < (n : Int) := by omega
    clear hm
    go_enter Try.func52, Try.ntmps52
    go_wp2_with fail
    go_ret
    exact ⟨x, rfl, hx.1, hx.2, rfl⟩
  · go_enter Try.func52, Try.ntmps52
    go_wp2_with fail
    go_ret
    exact ⟨_, rfl, by omega, by omega, rfl⟩

set_option maxRecDepth 100000 in
set_option maxHeartbeats 6400000 in
theorem walk (A : Option Addr) (n cap : Nat) (zs : List Int) (w : World) (h : zs.length = n ∧ Rd w 1 A n (zs.map (Value.int .u8))) (hnc : n ≤ cap) (hc : cap ≤ maxLen) (ok : ∀ z ∈ zs, 0 ≤ z ∧ z ≤ 255) :
    Calls Try.prog 14 #[.slice A n cap] w fun e w' => e = .returned (.bool true) ∧ Below w.heap.size w w' := by
  unfold maxLen at hc
  have H : Hid (RdB w A n zs) := h
  have OK := Lib.hid ok
  clear h ok
  by_cases hn : 1048576 < n
  · go_enter Try.func14, Try.ntmps14
    go_wp2_with fail
    refine (l_big _ _ _ _ (by omega)).mono ?_
    rintro e w1 ⟨rfl, rfl⟩
    rw [decide_eq_true hn]
    go_wp2_with fail
    go_ret
    exact ⟨rfl, Below.refl _ _⟩
  · go_enter Try.func14, Try.ntmps14
    go_wp2_with fail
    refine (l_big _ _ _ _ (by omega)).mono ?_
    rintro e w1 ⟨rfl, rfl⟩
    rw [decide_eq_false hn]
    go_wp2_with fail
    refine (s_DrawGateCost _ _ _ _ _ H.out OK.out (by omega)).mono ?_
    rintro e w1 ⟨A2, n2, c2, gs, rfl, hl, h64, o1, b1⟩
    have hcap := ownsRow_cap o1
    have HR := Lib.hid (RdG.own o1)
    have HRB := Lib.hid (show RdB w1 A n zs from ⟨H.out.1, H.out.2.below b1⟩)
    have B1 := Lib.hid b1
    have HL := Lib.hid hl
    clear hl o1 b1
    go_wp2_with fail
    refine (l_at0 _ _ _ 2 _ _ HRB.out OK.out (by omega) (by omega)).mono ?_
    rintro e w' ⟨x, rfl, hx0, hx1, rfl⟩
    obtain ⟨k, hk⟩ : ∃ k : Nat, x % ((n2 : Int) + 1) = k := ⟨(x % ((n2 : Int) + 1)).toNat, by have := Int.emod_nonneg x (show ((n2 : Int) + 1) ≠ 0 by omega); omega⟩
    have hkn : k ≤ n2 := by have := Int.emod_lt_of_pos x (show (0 : Int) < (n2 : Int) + 1 by omega); omega
    obtain ⟨t0, ht0⟩ : ∃ t, cost gs = t := ⟨_, rfl⟩
    obtain ⟨t1, ht1⟩ : ∃ t, cost (gs.take k) = t := ⟨_, rfl⟩
    obtain ⟨t2, ht2⟩ : ∃ t, cost (gs.drop k) = t := ⟨_, rfl⟩
    obtain ⟨a0, ha0⟩ : ∃ t, allCl gs = t := ⟨_, rfl⟩
    obtain ⟨a1, ha1⟩ : ∃ t, allCl (gs.take k) = t := ⟨_, rfl⟩
    obtain ⟨a2, ha2⟩ : ∃ t, allCl (gs.drop k) = t := ⟨_, rfl⟩
    have hsum : t0 = t1 + t2 := by rw [← ht0, ← ht1, ← ht2, ← cost_app, List.take_append_drop]
    have hand : a0 = (a1 && a2) := by rw [← ha0, ← ha1, ← ha2]; unfold allCl; rw [← List.all_append, List.take_append_drop]
    have hb1 := cost_bd (gs.take k)
    have hb2 := cost_bd (gs.drop k)
    rw [ht1, List.length_take, HL.out] at hb1
    rw [ht2, List.length_drop, HL.out] at hb2
    have hT : a0 = true → tcnt gs = 0 := fun h => cl_tcnt gs (by rw [ha0, h])
    have T0 := Lib.hid ht0
    have T1 := Lib.hid ht1
    have T2 := Lib.hid ht2
    have A0 := Lib.hid ha0
    have A1 := Lib.hid ha1
    have A2' := Lib.hid ha2
    have hk1 : t1 ≤ 64000 := by omega
    have hk2 : t2 ≤ 64000 := by omega
    have ht10 := hb1.1
    have ht20 := hb2.1
    have HK := Lib.hid hk
    clear ht0 ht1 ht2 ha0 ha1 ha2 hb1 hb2 hk
    subst hsum
    go_wp2_with fail
    rw [HK.out]
    clear hx0 hx1
    refine (i_GateCost _ _ _ gs _ HR.out (by omega)).mono ?_
    rintro e w2 ⟨rfl, b2⟩
    rw [T0.out]
    have R2 := Lib.hid (HR.out.below b2)
    have B2 := Lib.hid (below_trans B1.out b2)
    clear b2
    go_wp2_with fail
    refine (s_GateCost _ _ _ gs _ R2.out (by omega)).mono ?_
    rintro e w3 ⟨rfl, b3⟩
    rw [T0.out]
    have R3 := Lib.hid (R2.out.below b3)
    have B3 := Lib.hid (below_trans B2.out b3)
    clear b3
    go_wp2_with fail
    refine (i_AllClifford _ _ _ gs _ R3.out (by omega)).mono ?_
    rintro e w4 ⟨rfl, b4⟩
    rw [A0.out]
    have R4 := Lib.hid (R3.out.below b4)
    have B4 := Lib.hid (below_trans B3.out b4)
    clear b4
    go_wp2_with fail
    refine (s_AllClifford _ _ _ gs _ R4.out (by omega)).mono ?_
    rintro e w5 ⟨rfl, b5⟩
    rw [A0.out]
    have R5 := Lib.hid (R4.out.below b5)
    have B5 := Lib.hid (below_trans B4.out b5)
    clear b5 R2 R3 R4 B2 B3 B4
    have P5 := Lib.hid (R5.out.pre (k := k) hkn)
    have Q5 := Lib.hid (R5.out.cut (k := k) (cap := c2) hkn hcap)
    have bz : Below w5.heap.size w5 w5.drew := (Below.refl _ _).drew
    have hs1 := fun w => sl_h A2 n2 c2 k (by omega) w
    have hs2 := fun w => sl_l A2 n2 c2 k hkn w
    have hw : IntKind.i64.wrap (t1 + t2) = t1 + t2 := by rw [IntKind.wrap_i64]; omega
    have hkI : (k : Int) ≤ (n2 : Int) := by omega
    have hkc : (k : Int) ≤ (c2 : Int) := by omega
    have hk0 : (0 : Int) ≤ (k : Int) := by omega
    have HAND := Lib.hid hand
    have HTT := Lib.hid hT
    clear hand hT
    cases a1
    · obtain rfl : a0 = false := by rw [HAND.out]; rfl
      go_wp2_with fail
      first
      | (go_region_law (first
        | (go_simp; go_at_call 65; (with_reducible refine (i_GateCost A2 n2 c2 gs _ (R5.out.below bz) (by omega)).mono ?_); rintro e w6 ⟨rfl, b6⟩; rw [T0.out]; have bz := below_trans bz b6)
        | (go_simp; go_at_call 65; (with_reducible refine (i_GateCost A2 k c2 (gs.take k) _ (P5.out.below bz) (by omega)).mono ?_); rintro e w6 ⟨rfl, b6⟩; rw [T1.out]; have bz := below_trans bz b6)
        | (go_simp; go_at_call 65; (with_reducible refine (i_GateCost (if c2 = k then A2 else A2.map (·.add (k * 4))) (n2 - k) (c2 - k) (gs.drop k) _ (Q5.out.below bz) (by omega)).mono ?_); rintro e w6 ⟨rfl, b6⟩; rw [T2.out]; have bz := below_trans bz b6)
        | (go_simp; go_at_call 67; (with_reducible refine (i_AllClifford A2 n2 c2 gs _ (R5.out.below bz) (by omega)).mono ?_); rintro e w6 ⟨rfl, b6⟩; rw [A0.out]; have bz := below_trans bz b6)
        | (go_simp; go_at_call 67; (with_reducible refine (i_AllClifford A2 k c2 (gs.take k) _ (P5.out.below bz) (by omega)).mono ?_); rintro e w6 ⟨rfl, b6⟩; rw [A1.out]; have bz := below_trans bz b6)
        | (go_simp; go_at_call 67; (with_reducible refine (i_AllClifford (if c2 = k then A2 else A2.map (·.add (k * 4))) (n2 - k) (c2 - k) (gs.drop k) _ (Q5.out.below bz) (by omega)).mono ?_); rintro e w6 ⟨rfl, b6⟩; rw [A2'.out]; have bz := below_trans bz b6)
        | (go_simp; go_at_call 50; (with_reducible refine (l_tCount A2 n2 c2 gs _ (R5.out.below bz) (by omega)).mono ?_); rintro e w6 ⟨rfl, b6⟩; rw [HT.out]; have bz := below_trans bz b6)
        | fail))
      | fail "region"
      all_goals go_wp2_with fail
      all_goals go_ret
      all_goals exact ⟨rfl, below_trans B5.out bz⟩
    · cases a2
      · obtain rfl : a0 = false := by rw [HAND.out]; rfl
        go_wp2_with fail
        first
        | (go_region_law (first
        | (go_simp; go_at_call 65; (with_reducible refine (i_GateCost A2 n2 c2 gs _ (R5.out.below bz) (by omega)).mono ?_); rintro e w6 ⟨rfl, b6⟩; rw [T0.out]; have bz := below_trans bz b6)
        | (go_simp; go_at_call 65; (with_reducible refine (i_GateCost A2 k c2 (gs.take k) _ (P5.out.below bz) (by omega)).mono ?_); rintro e w6 ⟨rfl, b6⟩; rw [T1.out]; have bz := below_trans bz b6)
        | (go_simp; go_at_call 65; (with_reducible refine (i_GateCost (if c2 = k then A2 else A2.map (·.add (k * 4))) (n2 - k) (c2 - k) (gs.drop k) _ (Q5.out.below bz) (by omega)).mono ?_); rintro e w6 ⟨rfl, b6⟩; rw [T2.out]; have bz := below_trans bz b6)
        | (go_simp; go_at_call 67; (with_reducible refine (i_AllClifford A2 n2 c2 gs _ (R5.out.below bz) (by omega)).mono ?_); rintro e w6 ⟨rfl, b6⟩; rw [A0.out]; have bz := below_trans bz b6)
        | (go_simp; go_at_call 67; (with_reducible refine (i_AllClifford A2 k c2 (gs.take k) _ (P5.out.below bz) (by omega)).mono ?_); rintro e w6 ⟨rfl, b6⟩; rw [A1.out]; have bz := below_trans bz b6)
        | (go_simp; go_at_call 67; (with_reducible refine (i_AllClifford (if c2 = k then A2 else A2.map (·.add (k * 4))) (n2 - k) (c2 - k) (gs.drop k) _ (Q5.out.below bz) (by omega)).mono ?_); rintro e w6 ⟨rfl, b6⟩; rw [A2'.out]; have bz := below_trans bz b6)
        | (go_simp; go_at_call 50; (with_reducible refine (l_tCount A2 n2 c2 gs _ (R5.out.below bz) (by omega)).mono ?_); rintro e w6 ⟨rfl, b6⟩; rw [HT.out]; have bz := below_trans bz b6)
        | fail))
        | fail "region"
        all_goals go_wp2_with fail
        all_goals go_ret
        all_goals exact ⟨rfl, below_trans B5.out bz⟩
      · obtain rfl : a0 = true := by rw [HAND.out]; rfl
        have HT := Lib.hid (HTT.out rfl)
        go_wp2_with fail
        (go_region_law (first
        | (go_simp; go_at_call 65; (with_reducible refine (i_GateCost A2 n2 c2 gs _ (R5.out.below bz) (by omega)).mono ?_); rintro e w6 ⟨rfl, b6⟩; rw [T0.out]; have bz := below_trans bz b6)
        | (go_simp; go_at_call 65; (with_reducible refine (i_GateCost A2 k c2 (gs.take k) _ (P5.out.below bz) (by omega)).mono ?_); rintro e w6 ⟨rfl, b6⟩; rw [T1.out]; have bz := below_trans bz b6)
        | (go_simp; go_at_call 65; (with_reducible refine (i_GateCost (if c2 = k then A2 else A2.map (·.add (k * 4))) (n2 - k) (c2 - k) (gs.drop k) _ (Q5.out.below bz) (by omega)).mono ?_); rintro e w6 ⟨rfl, b6⟩; rw [T2.out]; have bz := below_trans bz b6)
        | (go_simp; go_at_call 67; (with_reducible refine (i_AllClifford A2 n2 c2 gs _ (R5.out.below bz) (by omega)).mono ?_); rintro e w6 ⟨rfl, b6⟩; rw [A0.out]; have bz := below_trans bz b6)
        | (go_simp; go_at_call 67; (with_reducible refine (i_AllClifford A2 k c2 (gs.take k) _ (P5.out.below bz) (by omega)).mono ?_); rintro e w6 ⟨rfl, b6⟩; rw [A1.out]; have bz := below_trans bz b6)
        | (go_simp; go_at_call 67; (with_reducible refine (i_AllClifford (if c2 = k then A2 else A2.map (·.add (k * 4))) (n2 - k) (c2 - k) (gs.drop k) _ (Q5.out.below bz) (by omega)).mono ?_); rintro e w6 ⟨rfl, b6⟩; rw [A2'.out]; have bz := below_trans bz b6)
        | (go_simp; go_at_call 50; (with_reducible refine (l_tCount A2 n2 c2 gs _ (R5.out.below bz) (by omega)).mono ?_); rintro e w6 ⟨rfl, b6⟩; rw [HT.out]; have bz := below_trans bz b6)
        | fail))
        all_goals go_wp2_with fail
        all_goals go_ret
        all_goals exact ⟨rfl, below_trans B5.out bz⟩

theorem own : ownKnob Try.prog.godebug = none := by kernel_rfl
theorem laidOut : laidOutB Try.prog = true := by kernel_rfl
set_option maxRecDepth 100000 in
theorem lifted (os : Os) (started : os.Started) (H : Type) (enc : TypeId × Value → H) :
    ReturnsInHanded {} Try.checked os 14 .any (Rows.fnCostSpec.pre6 enc Try.prog Try.f14 Rows.fnCostRow.domain false) (Rows.fnCostSpec.post enc Try.prog Try.f14 false true false false) := by
  refine returnsInHanded_of_change (C := Try.checked) own started (by kernel_rfl) Try.func14
    (ChangeSpec.witness6 (enc := enc) (C := Try.checked) false ⟨#[], #[.slice none 0 0], []⟩ 8 (by kernel_rfl) (by kernel_rfl) (by kernel_rfl) (by kernel_rfl)) ?_
  intro W base args ds gs before hval0 hW hcnd _
  have hval : ∀ (j : Nat) t v, Try.f14.params[j]? = some t → args[j]? = some v → Value.okWide Try.prog W .any base t v := hval0
  have hW' := hW
  obtain ⟨p, q, hA0, hV, rfl, hfz, hnd⟩ := hW
  have hA : DataW.TrodAll enc Try.prog W 0 (fun _ => true) true Try.f14.params.toList args.toList ds p := hA0
  rw [Try.params14] at hA hval
  obtain ⟨v0, vs0, d0, ds0, p0, q0, hargs, rfl, rfl, h0, t0⟩ := trodAll_cons hA
  obtain ⟨rfl, rfl, rfl⟩ := trodAll_nil t0
  obtain rfl : args = #[v0] := by cases args; simp_all
  obtain ⟨rfl, rfl⟩ := trodVars_none hV
  have k0 := h0
  have lt0 : ∀ x ∈ p0, x.block < W.heap.size := by obtain ⟨m, hm⟩ := k0; exact DataW.trod_lt m _ _ _ hm
  obtain ⟨A0, n0, c0, rfl⟩ := okWide_slice Try.underlying59 (hval 0 59 v0 rfl rfl)
  obtain ⟨fu0, hf0⟩ := h0
  obtain ⟨_, _, _, x0, e0, r0, l0, m0, ok0⟩ := open_bytes Try.underlying59 Try.underlying5 (by kernel_rfl) hf0
  simp only [Value.slice.injEq] at e0
  obtain ⟨rfl, rfl, rfl⟩ := e0
  clear hA0 hval0
  refine (walk A0 n0 c0 x0 W r0 l0 m0 ok0).mono fun e W' ⟨he, bel⟩ => ?_
  subst he
  exact ⟨_, rfl, _, _, _, [], _, [], hW', trodAll_mk1 (shut_bool Try.underlying4 _), (trodAll_cons_mk (Below.trod laidOut (by kernel_rfl) (of_decide_eq_true (by kernel_rfl)) k0 bel lt0) trodAll_mk0), rfl, bel.frame _, fun h => by cases h⟩

theorem over : Rows.fnCostRow.holds Try.pinned (OpenSpec.ofChange Rows.fnCostSpec) :=
  OpenClaim.holds_of_wide 14 Try.f14 rfl rfl rfl rfl rfl rfl rfl ⟨rfl, rfl, rfl, rfl, rfl⟩ rfl rfl rfl rfl rfl (by kernel_rfl) Try.func14 (by kernel_rfl)
    (of_decide_eq_true (by kernel_rfl)) (by unfold Func.isWrapper; first | (rw [if_pos (by decide +kernel)]; kernel_rfl) | (rw [if_neg (by decide +kernel)]; exact ⟨rfl, rfl⟩))
    (fun os started H enc _ => lifted os started H enc)

theorem proved : Rows.FnCostSaid := over
#print axioms proved
end Go.Proofs.Ythfacfnknpomcaa.fnCost
