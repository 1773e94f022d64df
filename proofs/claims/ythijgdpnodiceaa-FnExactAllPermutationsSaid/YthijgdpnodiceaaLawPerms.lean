/- The law FnExactAllPermutations returns true for every number. No condition. -/
import Derived.Test.YthijgdpnodiceaaRows
import Derived.Test.YthijgdpnodiceaaPermJ
import Derived.Test.YthijgdpnodiceaaSSqInt
import Derived.Test.YthijgdpnodiceaaOpen
import Derived.ChangeOld
namespace Go.Proofs.Ythijgdpnodiceaa.fnExactAllPermutations
open Go.ChangeShapes Go.WideShapes Go.ChangeAt Go.RowKit
set_option linter.unusedVariables false

theorem perms_tot (N : Int) : tot (lensInt (perms N)) ≤ 1024 := by
  have h := tot_le (lensInt (perms N)) 4 (fun x hx => by
    simp only [lensInt, List.mem_map] at hx
    obtain ⟨y, hy, rfl⟩ := hx
    exact (perms_row N y hy).2)
  have h2 := perms_le N
  simp only [lensInt, List.length_map] at h
  simp only [lensInt]
  omega

set_option maxHeartbeats 1600000 in
theorem walk (N : Int) (w : World) (hN : I64 N) :
    Calls Try.prog 3 #[.int .i64 N] w fun e w' => e = .returned (.bool true) ∧ Below w.heap.size w w' := by
  obtain ⟨l, hl⟩ : ∃ l, perms N = l := ⟨_, rfl⟩
  have HL := Lib.hid hl
  have hle := perms_le N
  have ht := perms_tot N
  have hrow : ∀ x ∈ l, x.length ≤ 1099511627776 := fun x hx => by have := (perms_row N x (by rw [hl]; exact hx)).2; omega
  have HROW := Lib.hid hrow
  rw [hl] at hle ht
  obtain ⟨q, hq⟩ : ∃ q, l.length = q := ⟨_, rfl⟩
  obtain ⟨t, htt⟩ : ∃ t, tot (lensInt l) = t := ⟨_, rfl⟩
  rw [hq] at hle
  rw [htt] at ht
  have HQ := Lib.hid hq
  have HTT := Lib.hid htt
  clear hl hrow hq htt hN
  have hml : (marksL markI 1 (lensInt l) 1).length = q := by rw [marksL_len, lensInt, List.length_map, HQ.out]
  have HML := Lib.hid hml
  have hll : (lensInt l).length = q := by rw [lensInt, List.length_map, HQ.out]
  have HLL := Lib.hid hll
  clear hml hll
  go_enter Try.func3, Try.ntmps3
  go_wp2_with fail
  refine (s_AllPermutations _ _).mono ?_
  rintro e w1 ⟨A1, c1, rfl, o1, b1⟩
  rw [HL.out] at o1 ⊢
  rw [HQ.out] at o1 ⊢
  go_wp2_with fail
  refine (i_AllPermutations _ _).mono ?_
  rintro e w2 ⟨A2, c2, rfl, o2, b2⟩
  rw [HL.out] at o2 ⊢
  rw [HQ.out] at o2 ⊢
  go_wp2_with fail
  refine (l_eqIntSS_same _ _ _ _ _ l _ (o2.rd HQ.out) ((o1.below b2).rd HQ.out) (by omega) HROW.out).mono ?_
  rintro e w3 ⟨rfl, b3⟩
  have p2 := o2.below b3
  have b13 := below_trans b2 b3
  go_wp2_with fail
  refine (l_markIntSS _ _ _ _ _ _ 1 l _ (by decide) (by have := b13.size; omega) p2 HQ.out (by omega) (by rw [HTT.out]; omega) (by omega) (by omega)).mono ?_
  rintro e w4 ⟨rfl, o4, b4⟩
  rw [HTT.out]
  have b14 : Below w1.heap.size w1 w4 := b13.trans b4
  go_wp2_with fail
  refine (l_heldIntSS _ _ _ 1 _ _ (o4.rd HML.out) HLL.out (by omega) (by rw [HTT.out]; omega) (by omega) (by omega)).mono ?_
  rintro e w5 ⟨rfl, rfl⟩
  rw [HTT.out]
  go_wp2_with fail
  refine (i_AllPermutations _ _).mono ?_
  rintro e w6 ⟨A6, c6, rfl, o6, b6⟩
  rw [HL.out] at o6 ⊢
  rw [HQ.out] at o6 ⊢
  go_wp2_with fail
  refine (l_eqIntSS_same _ _ _ _ _ l _ (o6.rd HQ.out) ((o1.below (below_trans b14 b6)).rd HQ.out) (by omega) HROW.out).mono ?_
  rintro e w7 ⟨rfl, b7⟩
  go_wp2_with fail
  refine (l_heldIntSS _ _ _ 1 _ _ (((o4.below b6).below b7).rd HML.out) HLL.out (by omega) (by rw [HTT.out]; omega) (by omega) (by omega)).mono ?_
  rintro e w8 ⟨rfl, rfl⟩
  rw [HTT.out]
  go_wp2_with fail
  go_ret
  exact ⟨rfl, below_trans b1 (below_trans (below_trans b14 b6) b7)⟩

theorem own : ownKnob Try.prog.godebug = none := by kernel_rfl
theorem laidOut : laidOutB Try.prog = true := by kernel_rfl
set_option maxRecDepth 100000 in
theorem lifted (os : Os) (started : os.Started) (H : Type) (enc : TypeId × Value → H) :
    ReturnsInHanded {} Try.checked os 3 .any (Rows.fnExactAllPermutationsSpec.pre6 enc Try.prog Try.f3 Rows.fnExactAllPermutationsRow.domain false) (Rows.fnExactAllPermutationsSpec.post enc Try.prog Try.f3 false true false false) := by
  refine returnsInHanded_of_change (C := Try.checked) own started (by kernel_rfl) Try.func3
    (ChangeSpec.witness6 (enc := enc) (C := Try.checked) false ⟨#[], #[.int .i64 0], []⟩ 8 (by kernel_rfl) (by kernel_rfl) (by kernel_rfl) (by kernel_rfl)) ?_
  intro W base args ds gs before hval0 hW hcnd _
  have hval : ∀ (j : Nat) t v, Try.f3.params[j]? = some t → args[j]? = some v → Value.okWide Try.prog W .any base t v := hval0
  have hW' := hW
  obtain ⟨p, q, hA0, hV, rfl, hfz, hnd⟩ := hW
  have hA : DataW.TrodAll enc Try.prog W 0 (fun _ => true) true Try.f3.params.toList args.toList ds p := hA0
  rw [Try.params3] at hA hval
  obtain ⟨v0, vs0, d0, ds0, p0, q0, hargs, rfl, rfl, h0, t0⟩ := trodAll_cons hA
  obtain ⟨rfl, rfl, rfl⟩ := trodAll_nil t0
  obtain rfl : args = #[v0] := by cases args; simp_all
  obtain ⟨rfl, rfl⟩ := trodVars_none hV
  have k0 := h0
  have lt0 : ∀ x ∈ p0, x.block < W.heap.size := by obtain ⟨m, hm⟩ := k0; exact DataW.trod_lt m _ _ _ hm
  obtain ⟨a0, rfl, rfl, rfl, w0⟩ := open_int Try.underlying3 (hval 0 3 v0 rfl rfl) h0
  clear hA0 hval0
  refine (walk a0 W (i64_of_wf w0)).mono fun e W' ⟨he, bel⟩ => ?_
  subst he
  exact ⟨_, rfl, _, _, _, [], _, [], hW', trodAll_mk1 (shut_bool Try.underlying4 _), (trodAll_cons_mk (shut_int Try.underlying3 w0) trodAll_mk0), rfl, bel.frame _, fun h => by cases h⟩

theorem over : Rows.fnExactAllPermutationsRow.holds Try.pinned (OpenSpec.ofChange Rows.fnExactAllPermutationsSpec) :=
  OpenClaim.holds_of_wide 3 Try.f3 rfl rfl rfl rfl rfl rfl rfl ⟨rfl, rfl, rfl, rfl, rfl⟩ rfl rfl rfl rfl rfl (by kernel_rfl) Try.func3 (by kernel_rfl)
    (of_decide_eq_true (by kernel_rfl)) (by unfold Func.isWrapper; first | (rw [if_pos (by decide +kernel)]; kernel_rfl) | (rw [if_neg (by decide +kernel)]; exact ⟨rfl, rfl⟩))
    (fun os started H enc _ => lifted os started H enc)

theorem proved : Rows.FnExactAllPermutationsSaid := over
#print axioms proved
end Go.Proofs.Ythijgdpnodiceaa.fnExactAllPermutations
