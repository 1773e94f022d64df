/- The law FnPolySame returns true for every code. No condition. -/
import Derived.Test.YtibhikngiceeeaaRows
import Derived.Test.YtibhikngiceeeaaDrawFBx
import Derived.Test.YtibhikngiceeeaaOpenBx
import Derived.Test.YtibhikngiceeeaaPolyQ
import Derived.ChangeOld
namespace Go.Proofs.Ytibhikngiceeeaa.fnPolySame
open Go.ChangeShapes Go.WideShapes Go.ChangeAt Go.RowKit
set_option linter.unusedVariables false

set_option maxRecDepth 100000 in
set_option maxHeartbeats 1600000 in
theorem l_tail (A : Option Addr) (n cap : Nat) (zs : List Int) (w : World) (h : RdB w A n zs) (hnc : n ≤ cap) (hc : cap ≤ 9223372036854775807) :
    Calls Try.prog 19 #[.slice A n cap] w fun e w' => ∃ (A' : Option Addr) (m c : Nat) (zs' : List Int), e = .returned (.slice A' m c) ∧ RdB w A' m zs' ∧ m ≤ n ∧ (∀ z ∈ zs', z ∈ zs) ∧ w = w' := by
  cases n with
  | zero =>
    go_enter Try.func19, Try.ntmps19
    go_wp2_with fail
    go_ret
    exact ⟨A, 0, cap, zs, rfl, h, Nat.le_refl _, fun z hz => hz, rfl⟩
  | succ m =>
    obtain ⟨hl, hr⟩ := h
    obtain ⟨b, off, rfl, hb, hcl⟩ := hr.2 (by omega)
    match zs, hl with
    | x :: r, hl =>
      have hl' : r.length = m := by simpa using hl
      have HT := Lib.hid (show ∀ o', (0 < m → o' = off + 1) → RdB w (some ⟨b, o', none⟩) m r from fun o' ho => ⟨hl', by
        refine ⟨by simp [hl'], fun hm => ⟨b, o', rfl, hb, fun j u hj => ?_⟩⟩
        rw [ho hm, show off + 1 + j = off + (j + 1) by omega]
        exact hcl (j + 1) u (by simpa using hj)⟩)
      clear hr hcl
      by_cases hcap : cap = 1
      · subst hcap
        obtain rfl : m = 0 := by omega
        go_enter Try.func19, Try.ntmps19
        go_wp2_with fail
        go_ret
        exact ⟨_, _, _, r, rfl, HT.out _ (fun h => absurd h (by omega)), by omega, fun z hz => by simp [hz], rfl⟩
      · have hncap : ¬ cap = 1 := hcap
        go_enter Try.func19, Try.ntmps19
        go_wp2_with fail
        go_ret
        exact ⟨_, m, _, r, rfl, HT.out _ (fun _ => rfl), by omega, fun z hz => by simp [hz], rfl⟩

set_option maxRecDepth 100000 in
set_option maxHeartbeats 6400000 in
theorem walk (A : Option Addr) (n cap : Nat) (zs : List Int) (w : World) (h : zs.length = n ∧ Rd w 1 A n (zs.map (Value.int .u8))) (hnc : n ≤ cap) (hc : cap ≤ maxLen) (ok : ∀ z ∈ zs, 0 ≤ z ∧ z ≤ 255) :
    Calls Try.prog 4 #[.slice A n cap] w fun e w' => e = .returned (.bool true) ∧ Below w.heap.size w w' := by
  unfold maxLen at hc
  have H : Hid (RdB w A n zs) := h
  have OK := Lib.hid ok
  clear h ok
  by_cases hn : 1048576 < n
  · go_enter Try.func4, Try.ntmps4
    go_wp2_with fail
    refine (l_big _ _ _ _ (by omega)).mono ?_
    rintro e w1 ⟨rfl, rfl⟩
    rw [decide_eq_true hn]
    go_wp2_with fail
    go_ret
    exact ⟨rfl, Below.refl _ _⟩
  · go_enter Try.func4, Try.ntmps4
    go_wp2_with fail
    refine (l_big _ _ _ _ (by omega)).mono ?_
    rintro e w1 ⟨rfl, rfl⟩
    rw [decide_eq_false hn]
    go_wp2_with fail
    refine (s_DrawComp _ _ _ _ _ H.out OK.out (by omega)).mono ?_
    rintro e w1 ⟨A1, n1, c1, ga, N, rfl, hla, h13a, o1, b1⟩
    have R1 := Lib.hid (RdG.own o1)
    have H1 : Hid (RdB w1 A n zs) := Lib.hid ⟨H.out.1, H.out.2.below b1⟩
    have B1 := Lib.hid b1
    clear o1 b1
    go_wp2_with fail
    refine (l_tail _ _ _ zs _ H1.out hnc (by omega)).mono ?_
    rintro e w2 ⟨A2, m2, k2, zs', rfl, ht, hm2, hz2, rfl⟩
    have HT := Lib.hid ht
    have HZ := Lib.hid (fun z hz => OK.out z (hz2 z hz))
    clear ht hz2
    go_wp2_with fail
    refine (s_DrawComp _ _ _ _ _ HT.out HZ.out (by omega)).mono ?_
    rintro e w2 ⟨A3, n3, c3, gb, N', rfl, hlb, h13b, o2, b2⟩
    have Q2 := Lib.hid (RdG.own o2)
    have R2 := Lib.hid (R1.out.below b2)
    have B2 := Lib.hid (below_trans B1.out b2)
    obtain ⟨⟨M, mb⟩, hM⟩ : ∃ r, compP ga N = r := ⟨_, rfl⟩
    have hMb := compP_bd ga N
    rw [hM] at hMb
    have hMt : M.t.length ≤ 13 := Nat.le_trans hMb.1 (by omega)
    have hMo : M.o.length ≤ 4 := hMb.2
    have HM := Lib.hid hM
    obtain ⟨⟨K, kb⟩, hK⟩ : ∃ r, compP gb N = r := ⟨_, rfl⟩
    have hKb := compP_bd gb N
    rw [hK] at hKb
    have hKt : K.t.length ≤ 13 := Nat.le_trans hKb.1 (by omega)
    have hKo : K.o.length ≤ 4 := hKb.2
    have HK := Lib.hid hK
    clear hMb hM hKb hK o2 b2 R1 B1 H1 HT HZ
    go_wp2_with fail
    refine (i_CompP _ _ _ ga N _ R2.out (by omega)).mono ?_
    rintro e w5 ⟨v, rfl, ⟨A5, c5, B5, d5, rfl, t5, o5⟩, b5⟩
    rw [HM.out] at t5 o5 ⊢
    dsimp only at t5 o5 ⊢
    have B5b := Lib.hid ((below_trans B2.out b5).alloc (below_trans B2.out b5).size (.cells #[.int .i64 M.N, .int .i64 M.H, .slice A5 M.t.length c5, .slice B5 M.o.length d5] 32))
    have R5 := Lib.hid ((R2.out.below b5).alloc (.cells #[.int .i64 M.N, .int .i64 M.H, .slice A5 M.t.length c5, .slice B5 M.o.length d5] 32))
    have Q5 := Lib.hid ((Q2.out.below b5).alloc (.cells #[.int .i64 M.N, .int .i64 M.H, .slice A5 M.t.length c5, .slice B5 M.o.length d5] 32))
    have T5 := Lib.hid ((RdP.own t5).alloc (.cells #[.int .i64 M.N, .int .i64 M.H, .slice A5 M.t.length c5, .slice B5 M.o.length d5] 32))
    have O5 := Lib.hid ((RdP.own o5).alloc (.cells #[.int .i64 M.N, .int .i64 M.H, .slice A5 M.t.length c5, .slice B5 M.o.length d5] 32))
    have X5 := Lib.hid (Bx.new w5 32 #[.int .i64 M.N, .int .i64 M.H, .slice A5 M.t.length c5, .slice B5 M.o.length d5])
    clear t5 o5 b5 R2 Q2  B2
    go_wp2_with fail
    refine (i_CompP _ _ _ gb N _ Q5.out (by omega)).mono ?_
    rintro e w6 ⟨v, rfl, ⟨A6, c6, B6, d6, rfl, t6, o6⟩, b6⟩
    rw [HK.out] at t6 o6 ⊢
    dsimp only at t6 o6 ⊢
    have B6b := Lib.hid ((below_trans B5b.out b6).alloc (below_trans B5b.out b6).size (.cells #[.int .i64 K.N, .int .i64 K.H, .slice A6 K.t.length c6, .slice B6 K.o.length d6] 32))
    have R6 := Lib.hid ((R5.out.below b6).alloc (.cells #[.int .i64 K.N, .int .i64 K.H, .slice A6 K.t.length c6, .slice B6 K.o.length d6] 32))
    have Q6 := Lib.hid ((Q5.out.below b6).alloc (.cells #[.int .i64 K.N, .int .i64 K.H, .slice A6 K.t.length c6, .slice B6 K.o.length d6] 32))
    have T6 := Lib.hid ((T5.out.below b6).alloc (.cells #[.int .i64 K.N, .int .i64 K.H, .slice A6 K.t.length c6, .slice B6 K.o.length d6] 32))
    have O6 := Lib.hid ((O5.out.below b6).alloc (.cells #[.int .i64 K.N, .int .i64 K.H, .slice A6 K.t.length c6, .slice B6 K.o.length d6] 32))
    have X6 := Lib.hid ((X5.out.below b6).alloc (.cells #[.int .i64 K.N, .int .i64 K.H, .slice A6 K.t.length c6, .slice B6 K.o.length d6] 32))
    have U6 := Lib.hid ((RdP.own t6).alloc (.cells #[.int .i64 K.N, .int .i64 K.H, .slice A6 K.t.length c6, .slice B6 K.o.length d6] 32))
    have V6 := Lib.hid ((RdP.own o6).alloc (.cells #[.int .i64 K.N, .int .i64 K.H, .slice A6 K.t.length c6, .slice B6 K.o.length d6] 32))
    have Y6 := Lib.hid (Bx.new w6 32 #[.int .i64 K.N, .int .i64 K.H, .slice A6 K.t.length c6, .slice B6 K.o.length d6])
    clear t6 o6 b6 R5 Q5 T5 O5 X5 B5b
    go_wp2_with fail
    refine (s_CompP _ _ _ ga N _ R6.out (by omega)).mono ?_
    rintro e w7 ⟨v, rfl, ⟨A7, c7, B7, d7, rfl, t7, o7⟩, b7⟩
    rw [HM.out] at t7 o7 ⊢
    dsimp only at t7 o7 ⊢
    have B7b := Lib.hid ((below_trans B6b.out b7).alloc (below_trans B6b.out b7).size (.cells #[.int .i64 M.N, .int .i64 M.H, .slice A7 M.t.length c7, .slice B7 M.o.length d7] 32))
    have R7 := Lib.hid ((R6.out.below b7).alloc (.cells #[.int .i64 M.N, .int .i64 M.H, .slice A7 M.t.length c7, .slice B7 M.o.length d7] 32))
    have Q7 := Lib.hid ((Q6.out.below b7).alloc (.cells #[.int .i64 M.N, .int .i64 M.H, .slice A7 M.t.length c7, .slice B7 M.o.length d7] 32))
    have T7 := Lib.hid ((T6.out.below b7).alloc (.cells #[.int .i64 M.N, .int .i64 M.H, .slice A7 M.t.length c7, .slice B7 M.o.length d7] 32))
    have O7 := Lib.hid ((O6.out.below b7).alloc (.cells #[.int .i64 M.N, .int .i64 M.H, .slice A7 M.t.length c7, .slice B7 M.o.length d7] 32))
    have X7 := Lib.hid ((X6.out.below b7).alloc (.cells #[.int .i64 M.N, .int .i64 M.H, .slice A7 M.t.length c7, .slice B7 M.o.length d7] 32))
    have U7 := Lib.hid ((U6.out.below b7).alloc (.cells #[.int .i64 M.N, .int .i64 M.H, .slice A7 M.t.length c7, .slice B7 M.o.length d7] 32))
    have V7 := Lib.hid ((V6.out.below b7).alloc (.cells #[.int .i64 M.N, .int .i64 M.H, .slice A7 M.t.length c7, .slice B7 M.o.length d7] 32))
    have Y7 := Lib.hid ((Y6.out.below b7).alloc (.cells #[.int .i64 M.N, .int .i64 M.H, .slice A7 M.t.length c7, .slice B7 M.o.length d7] 32))
    clear t7 o7 b7 R6 Q6 T6 O6 X6 U6 V6 Y6 B6b
    have hmm : (mb != mb) = false := by cases mb <;> rfl
    have hm2 : (mb == mb) = true := by cases mb <;> rfl
    cases mb
    · go_wp2_with fail
      go_ret
      exact ⟨rfl, B7b.out⟩
    · cases kb
      · go_wp2_with fail
        go_ret
        exact ⟨rfl, B7b.out⟩
      · obtain ⟨hin, _⟩ := compP_in HM.out
        obtain ⟨hN1, hN4⟩ := inB_iff.1 hin
        obtain ⟨q, rfl⟩ : ∃ q : Nat, N = q := ⟨N.toNat, by omega⟩
        by_cases h3 : 3 < (q : Int)
        · go_wp2_with fail
          go_ret
          exact ⟨rfl, B7b.out⟩
        · obtain ⟨hq, c2, c3⟩ := comp_outs HM.out
          obtain ⟨_, c4, c5⟩ := comp_outs HK.out
          have C2 := Lib.hid c2
          have C3 := Lib.hid c3
          have C4 := Lib.hid c4
          have C5 := Lib.hid c5
          have hml := matG_len ga q
          have hkl := matG_len gb q
          have h16 := pow_le16 hq.2
          clear c2 c3 c4 c5
          obtain ⟨E, hE⟩ : ∃ E, eqP M.N M.H K.N K.H M.t M.o K.t K.o = E := ⟨_, rfl⟩
          have HE := Lib.hid hE
          obtain ⟨S, hS⟩ : ∃ S, decide (matG ga q = matG gb q) = S := ⟨_, rfl⟩
          have HS := Lib.hid hS
          have HES := Lib.hid (show E = true → S = true from fun he => by rw [← hS, decide_eq_true_eq]; exact matG_same HM.out HK.out (by rw [hE, he]))
          clear hE hS
          go_wp2_with fail
          refine (s_CirMat q (fun i => NV (actG ga (eN (2 ^ q) i)) 0) _ _ _ ga _ hq.1 hq.2 R7.out (by omega) C2.out C3.out).mono ?_
          rintro e w8 ⟨A8, c8, rfl, o8, b8⟩
          have OA8 := Lib.hid (show OwnSS cellsD w8 _ 79 83 5 (.slice A8 (2 ^ q) c8) (matG ga q) from o8)
          have Q8 := Lib.hid (Q7.out.below b8)
          have T8 := Lib.hid (T7.out.below b8)
          have O8 := Lib.hid (O7.out.below b8)
          have X8 := Lib.hid (X7.out.below b8)
          have U8 := Lib.hid (U7.out.below b8)
          have V8 := Lib.hid (V7.out.below b8)
          have Y8 := Lib.hid (Y7.out.below b8)
          have B8 := Lib.hid (below_trans B7b.out b8)
          clear o8 b8 R7 Q7 T7 O7 X7 U7 V7 Y7 B7b
          go_wp2_with fail
          refine (s_CirMat q (fun i => NV (actG gb (eN (2 ^ q) i)) 0) _ _ _ gb _ hq.1 hq.2 Q8.out (by omega) C4.out C5.out).mono ?_
          rintro e w9 ⟨A9, c9, rfl, o9, b9⟩
          have OA9 := Lib.hid ((OA8.out.below b9).rd hml)
          have OB9 := Lib.hid ((show OwnSS cellsD w9 _ 79 83 5 (.slice A9 (2 ^ q) c9) (matG gb q) from o9).rd hkl)
          have T9 := Lib.hid (T8.out.below b9)
          have O9 := Lib.hid (O8.out.below b9)
          have X9 := Lib.hid (X8.out.below b9)
          have U9 := Lib.hid (U8.out.below b9)
          have V9 := Lib.hid (V8.out.below b9)
          have Y9 := Lib.hid (Y8.out.below b9)
          have B9 := Lib.hid (below_trans B8.out b9)
          clear o9 b9 OA8 Q8 T8 O8 X8 U8 V8 Y8 B8
          have HRA := Lib.hid (show ∀ x ∈ matG ga q, x.length = 2 ^ q from fun x hx => by rw [← hml]; exact matG_rows ga q x hx)
          have HRB := Lib.hid (show ∀ x ∈ matG gb q, x.length = 2 ^ q from fun x hx => by rw [← hkl]; exact matG_rows gb q x hx)
          go_wp2_with fail
          refine (s_EqMat _ (2 ^ q) _ _ _ (matG ga q) (matG gb q) _ OA9.out OB9.out h16 HRA.out HRB.out).mono ?_
          rintro e wa ⟨rfl, ba⟩
          rw [HS.out]
          have TA := Lib.hid (T9.out.below ba)
          have OA := Lib.hid (O9.out.below ba)
          have XA := Lib.hid (X9.out.below ba)
          have UA := Lib.hid (U9.out.below ba)
          have VA := Lib.hid (V9.out.below ba)
          have YA := Lib.hid (Y9.out.below ba)
          have BA := Lib.hid (below_trans B9.out ba)
          clear ba OA9 OB9 T9 O9 X9 U9 V9 Y9 B9
          obtain ⟨p0, p1, p2, p3, _⟩ := XA.out.four
          obtain ⟨s0, s1, s2, s3, _⟩ := YA.out.four
          go_wp2_with fail
          refine (i_EqualP M.N M.H K.N K.H _ _ _ _ _ _ _ _ _ _ _ _ M.t K.t M.o K.o _ TA.out UA.out OA.out VA.out (by omega) (by omega) (by omega) (by omega)).mono ?_
          rintro e wb ⟨rfl, bb⟩
          rw [HE.out]
          cases E
          · go_wp2_with fail
            go_ret
            exact ⟨rfl, below_trans BA.out bb⟩
          · have hS1 := HES.out rfl
            subst hS1
            go_wp2_with fail
            go_ret
            exact ⟨rfl, below_trans BA.out bb⟩

theorem own : ownKnob Try.prog.godebug = none := by kernel_rfl
theorem laidOut : laidOutB Try.prog = true := by kernel_rfl
set_option maxRecDepth 100000 in
theorem lifted (os : Os) (started : os.Started) (H : Type) (enc : TypeId × Value → H) :
    ReturnsInHanded {} Try.checked os 4 .any (Rows.fnPolySameSpec.pre6 enc Try.prog Try.f4 Rows.fnPolySameRow.domain false) (Rows.fnPolySameSpec.post enc Try.prog Try.f4 false true false false) := by
  refine returnsInHanded_of_change (C := Try.checked) own started (by kernel_rfl) Try.func4
    (ChangeSpec.witness6 (enc := enc) (C := Try.checked) false ⟨#[], #[.slice none 0 0], []⟩ 8 (by kernel_rfl) (by kernel_rfl) (by kernel_rfl) (by kernel_rfl)) ?_
  intro W base args ds gs before hval0 hW hcnd _
  have hval : ∀ (j : Nat) t v, Try.f4.params[j]? = some t → args[j]? = some v → Value.okWide Try.prog W .any base t v := hval0
  have hW' := hW
  obtain ⟨p, q, hA0, hV, rfl, hfz, hnd⟩ := hW
  have hA : DataW.TrodAll enc Try.prog W 0 (fun _ => true) true Try.f4.params.toList args.toList ds p := hA0
  rw [Try.params4] at hA hval
  obtain ⟨v0, vs0, d0, ds0, p0, q0, hargs, rfl, rfl, h0, t0⟩ := trodAll_cons hA
  obtain ⟨rfl, rfl, rfl⟩ := trodAll_nil t0
  obtain rfl : args = #[v0] := by cases args; simp_all
  obtain ⟨rfl, rfl⟩ := trodVars_none hV
  have k0 := h0
  have lt0 : ∀ x ∈ p0, x.block < W.heap.size := by obtain ⟨m, hm⟩ := k0; exact DataW.trod_lt m _ _ _ hm
  obtain ⟨A0, n0, c0, rfl⟩ := okWide_slice Try.underlying39 (hval 0 39 v0 rfl rfl)
  obtain ⟨fu0, hf0⟩ := h0
  obtain ⟨_, _, _, x0, e0, r0, l0, m0, ok0⟩ := open_bytes Try.underlying39 Try.underlying5 (by kernel_rfl) hf0
  simp only [Value.slice.injEq] at e0
  obtain ⟨rfl, rfl, rfl⟩ := e0
  clear hA0 hval0
  refine (walk A0 n0 c0 x0 W r0 l0 m0 ok0).mono fun e W' ⟨he, bel⟩ => ?_
  subst he
  exact ⟨_, rfl, _, _, _, [], _, [], hW', trodAll_mk1 (shut_bool Try.underlying4 _), (trodAll_cons_mk (Below.trod laidOut (by kernel_rfl) (of_decide_eq_true (by kernel_rfl)) k0 bel lt0) trodAll_mk0), rfl, bel.frame _, fun h => by cases h⟩

theorem over : Rows.fnPolySameRow.holds Try.pinned (OpenSpec.ofChange Rows.fnPolySameSpec) :=
  OpenClaim.holds_of_wide 4 Try.f4 rfl rfl rfl rfl rfl rfl rfl ⟨rfl, rfl, rfl, rfl, rfl⟩ rfl rfl rfl rfl rfl (by kernel_rfl) Try.func4 (by kernel_rfl)
    (of_decide_eq_true (by kernel_rfl)) (by unfold Func.isWrapper; first | (rw [if_pos (by decide +kernel)]; kernel_rfl) | (rw [if_neg (by decide +kernel)]; exact ⟨rfl, rfl⟩))
    (fun os started H enc _ => lifted os started H enc)

theorem proved : Rows.FnPolySameSaid := over
#print axioms proved
end Go.Proofs.Ytibhikngiceeeaa.fnPolySame
