/- The law FnExactPhaseSections returns true for every list of gates. No condition. -/
import Derived.Test.YtbjpghgnginabaaRows
import Derived.Test.YtbjpghgnginabaaSecS
import Derived.Test.YtbjpghgnginabaaSSqGate
import Derived.Test.YtbjpghgnginabaaGateT
import Derived.Test.YtbjpghgnginabaaOpen
import Derived.ChangeOld
namespace Go.Proofs.Ytbjpghgnginabaa.fnExactPhaseSections
open Go.ChangeShapes Go.WideShapes Go.ChangeAt Go.RowKit
set_option linter.unusedVariables false

theorem keptR {α : Type} {cs : List α → List Value} {w w' : World} {base eo ei sz : Nat} {v : Value} {l : List (List α)} {row : Option Nat} (h : OwnSS cs w base eo ei sz v l) (hg : w.grownBy w' row) (hr : ∀ b, row = some b → b < base) : OwnSS cs w' base eo ei sz v l := by
  have key : ∀ {e s n : Nat} {u : Value} {xs : List Value}, w.ownsRow base e s u n xs → w'.ownsRow base e s u n xs := fun {e s n u xs} hu => hu.kept hg (by
    cases hq : u.ownBlock with
    | none => exact .inl rfl
    | some b =>
      refine .inr fun he => ?_
      have h1 := hr b he.symm
      have h2 := (hu.lt b hq).1
      omega)
  obtain ⟨vs, a1, a2, a3⟩ := h
  refine ⟨vs, key a1, fun j x hx => ?_, a3⟩
  obtain ⟨B, c, b1, b2⟩ := a2 j x hx
  exact ⟨B, c, b1, key b2⟩
theorem tot_set : ∀ (l : List (List Gt)) (k : Nat) (x : List Gt) (g : Gt), l[k]? = some x → tot (lensGate (l.set k (x ++ [g]))) = tot (lensGate l) + 1
  | [], k, x, g, h => by simp at h
  | y :: r, 0, x, g, h => by
    simp at h
    subst h
    simp [lensGate, tot]
    omega
  | y :: r, k + 1, x, g, h => by
    have := tot_set r k x g (by simpa using h)
    simp only [lensGate, List.set_cons_succ, List.map_cons, tot] at this ⊢
    omega
theorem tot_app (a b : List (List Gt)) : tot (lensGate (a ++ b)) = tot (lensGate a) + tot (lensGate b) := by
  induction a with
  | nil => simp [lensGate, tot]
  | cons y r ih => simp only [lensGate, List.cons_append, List.map_cons, tot] at ih ⊢; omega
theorem secL_tot : ∀ (r : List Gt) (o : Bool) (acc : List (List Gt)), (o = true → 0 < acc.length) → tot (lensGate (secL o acc r)) = tot (lensGate acc) + r.length ∧ (secL o acc r).length ≤ acc.length + r.length
  | [], o, acc, _ => by simp [secL]
  | g :: r, o, acc, h => by
    rw [secL]
    split
    · rename_i hc
      have ho : o = true := by revert hc; cases o <;> simp
      have hl := h ho
      have ha : tot (lensGate (addLast acc g)) = tot (lensGate acc) + 1 := by
        unfold addLast
        rw [List.getD_eq_getElem?_getD, List.getElem?_eq_getElem (by omega), Option.getD_some]
        exact tot_set acc _ _ g (List.getElem?_eq_getElem (by omega))
      have hl2 : (addLast acc g).length = acc.length := (totG_add g hl).1
      have ih := secL_tot r (ph g.k) (addLast acc g) (fun _ => by omega)
      rw [List.length_cons]
      exact ⟨by omega, by omega⟩
    · have ih := secL_tot r (ph g.k) (acc ++ [[g]]) (fun _ => by simp)
      rw [tot_app, List.length_append] at ih
      simp only [lensGate, List.map_cons, List.map_nil, tot, List.length_cons, List.length_nil] at ih ⊢
      exact ⟨by omega, by omega⟩
theorem secs_tot (gs : List Gt) : tot (lensGate (secs gs)) = gs.length ∧ (secs gs).length ≤ gs.length := by
  have := secL_tot gs false [] (fun h => by cases h)
  simpa [lensGate, tot, secs] using this
theorem le_tot : ∀ (l : List (List Gt)), ∀ x ∈ l, x.length ≤ tot (lensGate l)
  | [], x, h => by simp at h
  | y :: r, x, h => by
    simp only [lensGate, List.map_cons, tot]
    rcases List.mem_cons.1 h with h | h
    · subst h; omega
    · have := le_tot r x h
      simp only [lensGate] at this
      omega

set_option maxRecDepth 100000 in
set_option maxHeartbeats 3200000 in
theorem walk (A : Option Addr) (n c : Nat) (gs : List Gt) (w : World) (h : RdG w A n gs) (hnc : n ≤ c) (hc : c ≤ maxLen) (ok : ∀ g ∈ gs, g.ok) :
    Calls Try.prog 6 #[.slice A n c] w fun e w' => e = .returned (.bool true) ∧ Below w.heap.size w w' := by
  unfold maxLen at hc
  have H := Lib.hid h
  have hlg := h.1
  clear h ok
  by_cases hn : n ≤ 1048576
  · obtain ⟨l, hl⟩ : ∃ l, secs gs = l := ⟨_, rfl⟩
    have HL := Lib.hid hl
    obtain ⟨ht, hle⟩ := secs_tot gs
    rw [hl, hlg] at ht hle
    have HROW := Lib.hid (show ∀ x ∈ l, x.length ≤ 1099511627776 from fun x hx => by have := le_tot l x hx; omega)
    obtain ⟨q, hq⟩ : ∃ q, l.length = q := ⟨_, rfl⟩
    rw [hq] at hle
    have HQ := Lib.hid hq
    have HTT := Lib.hid ht
    have HML := Lib.hid (show (marksL markG 4 (lensGate l) 1).length = q from by rw [marksL_len, lensGate, List.length_map, hq])
    have HLL := Lib.hid (show (lensGate l).length = q from by rw [lensGate, List.length_map, hq])
    clear hl ht hq hlg
    go_enter Try.func6, Try.ntmps6
    go_wp2_with fail
    refine (l_szGateS _ _ _ (by omega) _).mono ?_
    rintro e w' ⟨rfl, rfl⟩
    rw [if_pos hn]
    go_wp2_with fail
    refine (l_toGateS _ _ _ _ _ H.out hn).mono ?_
    rintro e wa ⟨Aa, ca, rfl, oa, ba⟩
    go_wp2_with fail
    refine (s_PhaseSections _ _ _ gs _ (RdG.own oa) hn).mono ?_
    rintro e w1 ⟨A1, c1, rfl, o1, b1'⟩
    rw [HL.out] at o1 ⊢
    rw [HQ.out] at o1 ⊢
    have b1 := below_trans ba b1'
    go_wp2_with fail
    refine (l_toGateS _ _ _ _ _ (H.out.below b1) hn).mono ?_
    rintro e wx ⟨Ax, cx, rfl, ox, bx⟩
    have b0x := below_trans b1 bx
    go_wp2_with fail
    refine (i_PhaseSections _ _ _ gs _ (RdG.own ox) hn).mono ?_
    rintro e w2 ⟨A2, c2, rfl, o2, b2'⟩
    rw [HL.out] at o2 ⊢
    rw [HQ.out] at o2 ⊢
    have b12 := below_trans bx b2'
    have b02 := below_trans b1 b12
    go_wp2_with fail
    refine (l_eqGateSS_same _ _ _ _ _ l _ (o2.rd HQ.out) ((o1.below b12).rd HQ.out) (by omega) HROW.out).mono ?_
    rintro e w3 ⟨rfl, b3⟩
    have b03 := below_trans b02 b3
    have b13 := below_trans b12 b3
    have p2 := o2.below b3
    have px := ownsRow_below (ownsRow_below ox b2') b3
    go_wp2_with fail
    refine (l_toGateS _ _ _ _ _ (H.out.below b03) hn).mono ?_
    rintro e wy ⟨Ay, cy, rfl, oy, by_⟩
    go_wp2_with fail
    refine (l_eqGateS_same _ _ _ _ _ _ _ (RdG.own (ownsRow_below px by_)) (RdG.own oy) (by omega)).mono ?_
    rintro e wz ⟨rfl, bz⟩
    have b3z := below_trans by_ bz
    have b0z := below_trans b03 b3z
    have b1z := below_trans b13 b3z
    have q2 := p2.below b3z
    have qx := ownsRow_below px b3z
    go_wp2_with fail
    refine (l_markGateS _ _ _ _ _ 1 _ _ qx (by omega) (by omega) (by omega)).mono ?_
    rintro e wm ⟨rfl, om, gm⟩
    have r2 := keptR q2 gm (fun b hb => (ox.lt b hb).2)
    have b1m : Below w1.heap.size w1 wm := b1z.trans (below_of_grown gm b1z.size (fun b hb => (ox.lt b hb).1))
    have b0m := below_trans b1 b1m
    have hm1 : ¬ ((1 : Int) + 4 * n < 0) := by omega
    go_wp2_with fail
    refine (l_eqGateSS_same _ _ _ _ _ l _ (r2.rd HQ.out) ((o1.below b1m).rd HQ.out) (by omega) HROW.out).mono ?_
    rintro e wn ⟨rfl, bn⟩
    have b1n := below_trans b1m bn
    have s2 := r2.below bn
    have hsx : wx.heap.size ≤ wn.heap.size := by
      have h1 := b2'.size
      have h2 := b3.size
      have h3 := b3z.size
      have h4 := gm.size
      have h5 := bn.size
      omega
    clear hm1
    go_wp2_with fail
    refine (l_markGateSS _ _ _ _ _ _ 1 l _ (by decide) hsx s2 HQ.out (by omega) (by rw [HTT.out]; omega) (by omega) (by omega)).mono ?_
    rintro e w4 ⟨rfl, o4, b4⟩
    rw [HTT.out]
    have b14 : Below w1.heap.size w1 w4 := b1n.trans (b4.mono bx.size)
    go_wp2_with fail
    refine (l_heldGateSS _ _ _ 1 _ _ (o4.rd HML.out) HLL.out (by omega) (by rw [HTT.out]; omega) (by omega) (by omega)).mono ?_
    rintro e w5 ⟨rfl, rfl⟩
    rw [HTT.out]
    have b04 := below_trans b1 b14
    go_wp2_with fail
    refine (l_toGateS _ _ _ _ _ (H.out.below b04) hn).mono ?_
    rintro e wb ⟨Ab, cb, rfl, ob, bb⟩
    go_wp2_with fail
    refine (i_PhaseSections _ _ _ gs _ (RdG.own ob) hn).mono ?_
    rintro e w6 ⟨A6, c6, rfl, o6, b6'⟩
    rw [HL.out] at o6 ⊢
    rw [HQ.out] at o6 ⊢
    have b6 := below_trans bb b6'
    go_wp2_with fail
    refine (l_eqGateSS_same _ _ _ _ _ l _ (o6.rd HQ.out) ((o1.below (below_trans b14 b6)).rd HQ.out) (by omega) HROW.out).mono ?_
    rintro e w7 ⟨rfl, b7⟩
    go_wp2_with fail
    refine (l_heldGateSS _ _ _ 1 _ _ (((o4.below b6).below b7).rd HML.out) HLL.out (by omega) (by rw [HTT.out]; omega) (by omega) (by omega)).mono ?_
    rintro e w8 ⟨rfl, rfl⟩
    rw [HTT.out]
    go_wp2_with fail
    go_ret
    exact ⟨rfl, below_trans (below_trans b04 b6) b7⟩
  · go_enter Try.func6, Try.ntmps6
    go_wp2_with fail
    refine (l_szGateS _ _ _ (by omega) _).mono ?_
    rintro e w' ⟨rfl, rfl⟩
    rw [if_neg hn]
    go_wp2_with fail
    go_ret
    exact ⟨rfl, Below.refl _ _⟩

theorem own : ownKnob Try.prog.godebug = none := by kernel_rfl
theorem laidOut : laidOutB Try.prog = true := by kernel_rfl
set_option maxRecDepth 100000 in
theorem lifted (os : Os) (started : os.Started) (H : Type) (enc : TypeId × Value → H) :
    ReturnsInHanded {} Try.checked os 6 .any (Rows.fnExactPhaseSectionsSpec.pre6 enc Try.prog Try.f6 Rows.fnExactPhaseSectionsRow.domain false) (Rows.fnExactPhaseSectionsSpec.post enc Try.prog Try.f6 false true false false) := by
  refine returnsInHanded_of_change (C := Try.checked) own started (by kernel_rfl) Try.func6
    (ChangeSpec.witness6 (enc := enc) (C := Try.checked) false ⟨#[], #[.slice none 0 0], []⟩ 8 (by kernel_rfl) (by kernel_rfl) (by kernel_rfl) (by kernel_rfl)) ?_
  intro W base args ds gs before hval0 hW hcnd _
  have hval : ∀ (j : Nat) t v, Try.f6.params[j]? = some t → args[j]? = some v → Value.okWide Try.prog W .any base t v := hval0
  have hW' := hW
  obtain ⟨p, q, hA0, hV, rfl, hfz, hnd⟩ := hW
  have hA : DataW.TrodAll enc Try.prog W 0 (fun _ => true) true Try.f6.params.toList args.toList ds p := hA0
  rw [Try.params6] at hA hval
  obtain ⟨v0, vs0, d0, ds0, p0, q0, hargs, rfl, rfl, h0, t0⟩ := trodAll_cons hA
  obtain ⟨rfl, rfl, rfl⟩ := trodAll_nil t0
  obtain rfl : args = #[v0] := by cases args; simp_all
  obtain ⟨rfl, rfl⟩ := trodVars_none hV
  have k0 := h0
  have lt0 : ∀ x ∈ p0, x.block < W.heap.size := by obtain ⟨m, hm⟩ := k0; exact DataW.trod_lt m _ _ _ hm
  obtain ⟨A0, n0, c0, rfl⟩ := okWide_slice Try.underlying47 (hval 0 47 v0 rfl rfl)
  obtain ⟨fu0, hf0⟩ := h0
  obtain ⟨_, _, _, x0, e0, r0, l0, m0, ok0⟩ := open_gates Try.underlying47 Try.underlying59 (by kernel_rfl) (by kernel_rfl) Try.underlying3 Try.underlying3 Try.underlying3 Try.underlying3 hf0
  simp only [Value.slice.injEq] at e0
  obtain ⟨rfl, rfl, rfl⟩ := e0
  clear hA0 hval0
  refine (walk A0 n0 c0 x0 W r0 l0 m0 ok0).mono fun e W' ⟨he, bel⟩ => ?_
  subst he
  exact ⟨_, rfl, _, _, _, [], _, [], hW', trodAll_mk1 (shut_bool Try.underlying4 _), (trodAll_cons_mk (Below.trod laidOut (by kernel_rfl) (of_decide_eq_true (by kernel_rfl)) k0 bel lt0) trodAll_mk0), rfl, bel.frame _, fun h => by cases h⟩

theorem over : Rows.fnExactPhaseSectionsRow.holds Try.pinned (OpenSpec.ofChange Rows.fnExactPhaseSectionsSpec) :=
  OpenClaim.holds_of_wide 6 Try.f6 rfl rfl rfl rfl rfl rfl rfl ⟨rfl, rfl, rfl, rfl, rfl⟩ rfl rfl rfl rfl rfl (by kernel_rfl) Try.func6 (by kernel_rfl)
    (of_decide_eq_true (by kernel_rfl)) (by unfold Func.isWrapper; first | (rw [if_pos (by decide +kernel)]; kernel_rfl) | (rw [if_neg (by decide +kernel)]; exact ⟨rfl, rfl⟩))
    (fun os started H enc _ => lifted os started H enc)

theorem proved : Rows.FnExactPhaseSectionsSaid := over
#print axioms proved
end Go.Proofs.Ytbjpghgnginabaa.fnExactPhaseSections
