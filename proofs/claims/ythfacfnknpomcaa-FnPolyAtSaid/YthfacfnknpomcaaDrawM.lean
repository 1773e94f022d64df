/- Contracts of l32Poly, l32Bent, DrawEvalPhasePolynomial. -/
import Derived.Test.YthfacfnknpomcaaDrawL
namespace Go.Proofs.Ythfacfnknpomcaa
open Go.RowKit
set_option linter.unusedVariables false

theorem ne_types {w : World} {b1 b2 e1 e2 s1 s2 n1 n2 c g : Nat} {v1 : Value} {x1 x2 : List Value} (h1 : w.ownsRow b1 e1 s1 v1 n1 x1) (h2 : w.ownsRow b2 e2 s2 (.slice (some ⟨g, 0, none⟩) n2 c) n2 x2) (hne : e1 ≠ e2) : some g ≠ v1.ownBlock := by
  rcases own_types h1 h2 hne with h | h
  · rw [h]; simp
  · intro e; exact h (by rw [← e]; rfl)
theorem ownsRow_preD {w : World} {base : Nat} {e : TypeId} {sz n c k : Nat} {A : Option Addr} {xs : List Value} (h : w.ownsRow base e sz (.slice A n c) n xs) (hk : k ≤ n) : w.ownsRow base e sz (.slice A k c) k (xs.take (k * sz)) := by
  have hl := h.1
  have hle : k * sz ≤ n * sz := Nat.mul_le_mul_right _ hk
  refine ⟨by rw [List.length_take, hl]; omega, ?_⟩
  rcases h.2 with ⟨h0, h1⟩ | ⟨g, cap, cur, h1, h2, h3, h4, h5, h6, h7⟩
  · left
    injection h0 with hA _ hc
    obtain rfl : k = 0 := by omega
    rw [hA, hc]
    exact ⟨rfl, rfl⟩
  · right
    injection h1 with hA _ hc
    refine ⟨g, cap, cur, by rw [hA, hc], h2, h3, by omega, h5, h6, ?_⟩
    rw [← h7, List.take_take, Nat.min_eq_left hle]
theorem sl_hA (A : Option Addr) (n c hi : Nat) (h2 : hi ≤ c) (w : World) :
    (Instr.slice 29 (.slice A n c) none (some (.int .i64 (hi : Int))) none).run Try.prog w = .ok (.slice A hi c) w := by
  have hz : (sizeOf (Try.prog.elem 29)).run Try.prog w = .ok 2 w := by kernel_rfl
  rw [run_slice_h w 29 A n c (by kernel_rfl) .i64 hi (by omega) (by omega), hz]
  simp only [Result.andThen, sliced, Int.toNat_natCast]
  cases A <;> simp [Addr.add]

set_option maxRecDepth 100000 in
set_option maxHeartbeats 3200000 in
theorem s_l32Poly (g : Nat) (w : World) (h : Cur w g) :
    Calls Try.prog 143 #[.pointer (some ⟨g, 0, none⟩)] w (DrawnP (fun N o => 1 ≤ o.length ∧ N = o.length) g w) := by
  have hg := h.lt
  have C1 := Lib.hid (cur_alloc h (.cells #[.int .i64 0, .int .i64 0, .slice none 0 0, .slice none 0 0] 31))
  have R1 := Lib.hid (Bx.new w 31 #[.int .i64 0, .int .i64 0, .slice none 0 0, .slice none 0 0])
  have G1 := Lib.hid (dr_alloc (dr_refl w g) (.cells #[.int .i64 0, .int .i64 0, .slice none 0 0, .slice none 0 0] 31))
  clear h
  go_enter Try.func143, Try.ntmps143
  go_wp2_with fail
  refine (s_l1Below g 3 _ C1.out (by omega)).mono ?_
  rintro e w2 ⟨y, rfl, ⟨hy, _⟩, hc, gg⟩
  obtain ⟨hy0, hy1⟩ := hy (by omega)
  obtain ⟨q, hq⟩ : ∃ q : Nat, 1 + y = q := ⟨(1 + y).toNat, by omega⟩
  have hq1 : 1 ≤ q := by omega
  have hq4 : q ≤ 3 := by omega
  have C2 := Lib.hid hc
  have R2 := Lib.hid (dr_bx gg R1.out (show w.heap.size ≠ g by omega))
  have G2 := Lib.hid (dr_trans G1.out gg)
  clear hy hc gg C1 R1 G1
  go_wp2_with fail
  clear hq hy0 hy1
  refine (s_l32Gates g q 12 _ C2.out hq1 (by omega) (by omega)).mono ?_
  rintro e w3 ⟨A, n, c, gs, rfl, hl, hn, hP, o3, hc, gg⟩
  have HL := Lib.hid hl
  obtain ⟨m1, m2, m3⟩ := compP_ph hq1 (by omega) hP
  have hbd := compP_bd gs q
  obtain ⟨M, hM⟩ : ∃ M, compP gs q = (M, true) := ⟨_, Prod.ext rfl m1⟩
  rw [hM] at m2 m3 hbd
  have hb1 : M.t.length ≤ 12 := by have := hbd.1; rw [hl] at this; exact Nat.le_trans this hn
  have hb2 : M.o.length = q := m3
  have hN : M.N = q := m2
  have HM := Lib.hid hM
  have HN := Lib.hid hN
  have HB2 := Lib.hid hb2
  have R3 := Lib.hid (dr_bx gg R2.out (show w.heap.size ≠ g by omega))
  have G3 := Lib.hid (dr_trans G2.out gg)
  have C3 := Lib.hid hc
  have O3 := Lib.hid o3
  have hs3 : w.heap.size ≤ w3.heap.size := G3.out.size
  clear hl hP o3 hc gg m1 m2 m3 hbd hM hN hb2 C2 R2 G2
  go_wp2_with fail
  refine (s_CompP _ _ _ gs q _ (RdG.own O3.out) (by omega)).mono ?_
  rintro e w4 ⟨v, rfl, ⟨A4, c4, B4, d4, rfl, t4, o4⟩, b4⟩
  rw [HM.out] at t4 o4 ⊢
  dsimp only at t4 o4 ⊢
  have T4 := Lib.hid (ownsRow_base t4 hs3)
  have O4 := Lib.hid (ownsRow_base o4 hs3)
  have R4 := Lib.hid (R3.out.below b4)
  have C4 := Lib.hid (C3.out.below b4)
  have G4 := Lib.hid (dr_below G3.out b4)
  obtain ⟨q0, q1, q2, q3, f0, f1, f2, f3⟩ := R4.out.four
  have l4 := R4.out.lt
  clear t4 o4 b4 R3 C3 G3
  go_wp2_with fail
  refine bodyPost_ret (v := .agg #[.int .i64 M.N, .int .i64 M.H, .slice A4 M.t.length c4, .slice B4 M.o.length d4]) (by simp [results, Try.results143, go_sem, q0, q1, q2, q3, l4]) rfl ⟨M.N, M.H, A4, M.t.length, c4, M.t, B4, M.o.length, d4, M.o, rfl, hb1, by rw [HB2.out]; omega, ⟨by rw [HB2.out]; omega, by rw [HN.out, HB2.out]⟩, ?_, ?_, ?_, ?_⟩
  · exact (own_set_ne4 T4.out (own_bx_ne T4.out R4.out (by decide))).alloc _
  · exact (own_set_ne4 O4.out (own_bx_ne O4.out R4.out (by decide))).alloc _
  · exact cur_alloc (cur4 C4.out hg) _
  · exact dr_alloc (dr4 G4.out (Nat.le_refl _)) _
set_option maxRecDepth 100000 in
set_option maxHeartbeats 6400000 in
theorem s_l32Bent (g : Nat) (w : World) (h : Cur w g) :
    Calls Try.prog 114 #[.pointer (some ⟨g, 0, none⟩)] w (DrawnP (fun _ _ => True) g w) := by
  have hg := h.lt
  have C1 := Lib.hid (cur_alloc h (.cells #[.int .i64 0, .int .i64 0, .slice none 0 0, .slice none 0 0] 31))
  have R1 := Lib.hid (Bx.new w 31 #[.int .i64 0, .int .i64 0, .slice none 0 0, .slice none 0 0])
  have G1 := Lib.hid (dr_alloc (dr_refl w g) (.cells #[.int .i64 0, .int .i64 0, .slice none 0 0, .slice none 0 0] 31))
  clear h
  go_enter Try.func114, Try.ntmps114
  go_wp2_with fail
  refine (s_l32Poly g _ C1.out).mono ?_
  rintro e w2 ⟨N, H, A, nT, c, t, B, nO, d, o, rfl, hnT, hnO, ⟨hq1, hq2⟩, t2, o2, hc, gg⟩
  have hol : o.length = nO := by have := o2.1; rw [length_cellsP] at this; omega
  rw [hol] at hq1
  have HOL := Lib.hid hol
  clear hol hq2
  have hs2 := (dr_un gg).size
  have G1' := dr_trans G1.out gg
  have hsw : w.heap.size + 1 ≤ w2.heap.size := by have := gg.size; simpa using this
  have T2 := Lib.hid ((ownsRow_base t2 (show w.heap.size ≤ _ by simp)).alloc (.cells #[.int .i64 N, .int .i64 H, .slice A nT c, .slice B nO d] 31))
  have O2 := Lib.hid ((ownsRow_base o2 (show w.heap.size ≤ _ by simp)).alloc (.cells #[.int .i64 N, .int .i64 H, .slice A nT c, .slice B nO d] 31))
  have C2 := Lib.hid (cur_alloc hc (.cells #[.int .i64 N, .int .i64 H, .slice A nT c, .slice B nO d] 31))
  have R2 := Lib.hid ((dr_bx gg R1.out (show w.heap.size ≠ g by omega)).alloc (.cells #[.int .i64 N, .int .i64 H, .slice A nT c, .slice B nO d] 31))
  have E2 := Lib.hid (Bx.new w2 31 #[.int .i64 N, .int .i64 H, .slice A nT c, .slice B nO d])
  have G2 := Lib.hid (dr_alloc G1' (.cells #[.int .i64 N, .int .i64 H, .slice A nT c, .slice B nO d] 31))
  clear t2 o2 hc gg G1' C1 R1 G1
  go_wp2_with fail
  refine (s_l1Below g 10 _ C2.out (by omega)).mono ?_
  rintro e w4 ⟨z, rfl, _, hc, gg⟩
  generalize hge : w2.heap.size = ge at E2 hsw ⊢
  clear hge hs2
  have T4 := Lib.hid (dr_own gg C2.out T2.out (by decide))
  have O4 := Lib.hid (dr_own gg C2.out O2.out (by decide))
  have R4 := Lib.hid (dr_bx gg R2.out (show w.heap.size ≠ g by omega))
  have E4 := Lib.hid (dr_bx gg E2.out (show ge ≠ g by omega))
  have G4 := Lib.hid (dr_trans G2.out gg)
  have C4 := Lib.hid hc
  have hgs : g + 1 ≤ w4.heap.size := hc.lt
  have l4 := E4.out.lt
  clear hc gg T2 O2 R2 E2 G2 C2
  by_cases z0 : z = 0
  · subst z0
    have OL := Lib.hid (show (w4.alloc (.cells #[.int .i64 0, .int .i64 1, .int .i64 4, .int .i64 5] 3)).ownsRow (g + 1) 3 1 (.slice (some ⟨w4.heap.size, 0, none⟩) 4 4) 4 (cellsI [0, 1, 4, 5]) from World.ownsRow_lit w4 #[.int .i64 0, .int .i64 1, .int .i64 4, .int .i64 5] 4 hgs (by simp [maxLen]) rfl)
    have CA := Lib.hid (cur_alloc C4.out (.cells #[.int .i64 0, .int .i64 1, .int .i64 4, .int .i64 5] 3))
    have TA := Lib.hid (T4.out.alloc (.cells #[.int .i64 0, .int .i64 1, .int .i64 4, .int .i64 5] 3))
    have OA := Lib.hid (O4.out.alloc (.cells #[.int .i64 0, .int .i64 1, .int .i64 4, .int .i64 5] 3))
    have RA := Lib.hid (R4.out.alloc (.cells #[.int .i64 0, .int .i64 1, .int .i64 4, .int .i64 5] 3))
    have EA := Lib.hid (E4.out.alloc (.cells #[.int .i64 0, .int .i64 1, .int .i64 4, .int .i64 5] 3))
    have GA := Lib.hid (dr_alloc G4.out (.cells #[.int .i64 0, .int .i64 1, .int .i64 4, .int .i64 5] 3))
    go_wp2_with fail
    refine (s_l1PickInt g _ 4 4 [0, 1, 4, 5] _ CA.out OL.out (by omega) (by omega)).mono ?_
    rintro e w5 ⟨x, rfl, _, hc, gg⟩
    have T5 := Lib.hid (dr_own gg CA.out TA.out (by decide))
    have O5 := Lib.hid (dr_own gg CA.out OA.out (by decide))
    have R5 := Lib.hid (dr_bx gg RA.out (show w.heap.size ≠ g by omega))
    have E5 := Lib.hid (dr_bx gg EA.out (show ge ≠ g by omega))
    have G5 := Lib.hid (dr_trans GA.out gg)
    have C5 := Lib.hid hc
    clear hc gg
    obtain ⟨u0, u1, u2, u3, v0, v1, v2, v3⟩ := E5.out.four
    have le5 := E5.out.lt
    have T6 := Lib.hid (own_set_ne T5.out (p := ⟨ge, 0, none⟩) (own_bx_ne T5.out E5.out (by decide)) (.int .i64 x))
    have O6 := Lib.hid (own_set_ne O5.out (p := ⟨ge, 0, none⟩) (own_bx_ne O5.out E5.out (by decide)) (.int .i64 x))
    have R6 := Lib.hid (R5.out.far (p := ⟨ge, 0, none⟩) (show w.heap.size ≠ ge by omega) (.int .i64 x))
    have C6 := Lib.hid (C5.out.setCell (p := ⟨ge, 0, none⟩) (show g < ge by omega) (.int .i64 x))
    have G6 := Lib.hid (dr_set G5.out (p := ⟨ge, 0, none⟩) (show w.heap.size ≤ ge by omega) (.int .i64 x))
    obtain ⟨q0, q1, q2, q3, f0, f1, f2, f3⟩ := R5.out.four
    obtain ⟨q0, q1, q2, q3, f0, f1, f2, f3⟩ := R6.out.four
    have lR := R6.out.lt
    go_wp2_with fail
    refine bodyPost_ret (v := .agg #[.int .i64 x, .int .i64 H, .slice A nT c, .slice B nO d]) (by simp [results, Try.results114, go_sem, q0, q1, q2, q3]) rfl ⟨x, H, A, nT, c, t, B, nO, d, o, rfl, hnT, hnO, trivial, own_set_ne4 T6.out (own_bx_ne T6.out R6.out (by decide)), own_set_ne4 O6.out (own_bx_ne O6.out R6.out (by decide)), cur4 C6.out hg, dr4 G6.out (Nat.le_refl _)⟩
  · by_cases z1 : z = 1
    · subst z1
      obtain ⟨u0, u1, u2, u3, v0, v1, v2, v3⟩ := E4.out.four
      have CD := Lib.hid (show Cur w4.drew g from C4.out)
      obtain ⟨gB, hBB, hB1, _⟩ := own2At O4.out (show 0 < nO by omega)
      subst hBB
      have hnO0 : 0 < nO := hq1
      obtain ⟨ox, oy, o', rfl⟩ : ∃ ox oy o', o = (ox, oy) :: o' := by
        cases o with
        | nil => have := HOL.out; simp at this; omega
        | cons q r => exact ⟨q.1, q.2, r, rfl⟩
      go_wp2_with fail
      go_region_law (first
        | (go_simp; go_at_call 115; (with_reducible refine (s_l1Below g 8 _ (by first | exact CD.out | exact C4.out) (by omega)).mono ?_); rintro e w5 ⟨x, rfl, _, hc5, g5⟩; have g5 := und_grownD g5; have E5 := dr_bx g5 E4.out (show ge ≠ g by omega); have O5 := dr_own g5 C4.out O4.out (by decide); have ⟨p0, p1, p2, p3, p4, p5, p6, p7⟩ := E5.four)
        | (go_simp; go_at_call 115; (with_reducible refine (s_l1Below g 2 _ hc5 (by omega)).mono ?_); rintro e w6 ⟨y, rfl, _, hc6, g6⟩; have E6 := dr_bx g6 E5 (show ge ≠ g by omega); have O6 := dr_own g6 hc5 O5 (by decide); have ⟨s0, s1, s2, s3, s4, s5, s6, s7⟩ := E6.four; have k0 : w6.cell? ⟨gB, 0, none⟩ = some (.int .i64 ox) := (O6.cellAt 0 (by omega)).trans rfl; have k1 : w6.cell? ⟨gB, 1, none⟩ = some (.int .i64 oy) := (O6.cellAt 1 (by omega)).trans rfl; have j0 := O6.frozenAt 0; have j1 := O6.frozenAt 1; have lB := (O6.lt gB rfl).2; have le6 := E6.lt; have R6 := dr_bx g6 (dr_bx g5 R4.out (show w.heap.size ≠ g by omega)) (show w.heap.size ≠ g by omega); have ⟨r0, r1, r2, r3, r4, r5, r6, r7⟩ := R6.four; have lR6 := R6.lt)
        | fail)
      all_goals
        have T6 := dr_own g6 hc5 (dr_own g5 C4.out T4.out (by decide)) (by decide)
        have neT := ne_types T6 O6 (by decide)
        have neR : w.heap.size ≠ gB := fun e => own_bx_ne O6 R6 (by decide) (by rw [e]; rfl)
        have neE : ge ≠ gB := fun e => own_bx_ne O6 E6 (by decide) (by rw [e]; rfl)
        have T7 := Lib.hid (own_set_ne (own_set_ne T6 (p := ⟨gB, 0, none⟩) neT (.int .i64 x)) (p := ⟨gB, 1, none⟩) neT (.int .i64 y))
        have O7 := Lib.hid (show ((w6.setCell ⟨gB, 0, none⟩ (.int .i64 x)).setCell ⟨gB, 1, none⟩ (.int .i64 y)).ownsRow w.heap.size 88 2 (.slice (some ⟨gB, 0, none⟩) nO d) nO (cellsP ((x, y) :: o')) from ((O6.stored 0 (.int .i64 x)).1.stored 1 (.int .i64 y)).1)
        have R7 := Lib.hid ((R6.far (p := ⟨gB, 0, none⟩) neR (.int .i64 x)).far (p := ⟨gB, 1, none⟩) neR (.int .i64 y))
        have C7 := Lib.hid ((hc6.setCell (p := ⟨gB, 0, none⟩) (show g < gB by omega) (.int .i64 x)).setCell (p := ⟨gB, 1, none⟩) (show g < gB by omega) (.int .i64 y))
        have G7 := Lib.hid (dr_set (dr_set (dr_trans (dr_trans G4.out g5) g6) (p := ⟨gB, 0, none⟩) (show w.heap.size ≤ gB by omega) (.int .i64 x)) (p := ⟨gB, 1, none⟩) (show w.heap.size ≤ gB by omega) (.int .i64 y))
        have nE := Lib.hid neE
        have nR := Lib.hid neR
        clear T6 neT neR neE
      all_goals have neR := nR.out
      all_goals have neE := nE.out
      all_goals go_wp2_with fail
      all_goals refine bodyPost_ret (v := .agg #[.int .i64 N, .int .i64 H, .slice A nT c, .slice (some ⟨gB, 0, none⟩) nO d]) (by simp [results, Try.results114, go_sem, r0, r1, r2, r3]) rfl ⟨N, H, A, nT, c, t, some ⟨gB, 0, none⟩, nO, d, (x, y) :: o', rfl, hnT, hnO, trivial, own_set_ne4 T7.out (own_bx_ne T7.out R7.out (by decide)), own_set_ne4 O7.out (own_bx_ne O7.out R7.out (by decide)), cur4 C7.out hg, dr4 G7.out (Nat.le_refl _)⟩
    · by_cases z2 : z = 2
      · subst z2
        obtain ⟨u0, u1, u2, u3, v0, v1, v2, v3⟩ := E4.out.four
        have CD := Lib.hid (show Cur w4.drew g from C4.out)
        have hcap := ownsRow_cap O4.out
        go_wp2_with fail
        go_region_law (first
          | (go_simp; go_at_call 115; (with_reducible refine (s_l1Below g nO _ (by first | exact CD.out | exact C4.out) (by omega)).mono ?_); rintro e w5 ⟨y, rfl, ⟨hy, _⟩, hc5, g5⟩; have g5 := und_grownD g5; have ⟨hy0, hy1⟩ := hy (by omega); have ⟨yn, hyn⟩ : ∃ q : Nat, y = q := ⟨y.toNat, (by omega)⟩; subst hyn; clear hy; have hsl := sl_hA B nO d yn (by omega) w5; have E5 := dr_bx g5 E4.out (show ge ≠ g by omega); have R5 := dr_bx g5 R4.out (show w.heap.size ≠ g by omega); have ⟨p0, p1, p2, p3, p4, p5, p6, p7⟩ := E5.four; have le5 := E5.lt; have ⟨r0, r1, r2, r3, r4, r5, r6, r7⟩ := R5.four; have lR5 := R5.lt)
          | fail)
        all_goals
          have T5 := dr_own g5 C4.out T4.out (by decide)
          have O5 := ownsRow_preD (dr_own g5 C4.out O4.out (by decide)) (show yn ≤ nO by omega)
          rw [← cellsP_take] at O5
          have T7 := Lib.hid (own_set_ne T5 (p := ⟨ge, 3, none⟩) (own_bx_ne T5 E5 (by decide)) (.slice B yn d))
          have O7 := Lib.hid (own_set_ne O5 (p := ⟨ge, 3, none⟩) (own_bx_ne O5 E5 (by decide)) (.slice B yn d))
          have R7 := Lib.hid (R5.far (p := ⟨ge, 3, none⟩) (show w.heap.size ≠ ge by omega) (.slice B yn d))
          have C7 := Lib.hid (hc5.setCell (p := ⟨ge, 3, none⟩) (show g < ge by omega) (.slice B yn d))
          have G7 := Lib.hid (dr_set (dr_trans G4.out g5) (p := ⟨ge, 3, none⟩) (show w.heap.size ≤ ge by omega) (.slice B yn d))
          clear T5 O5 hsl
        all_goals go_wp2_with fail
        all_goals refine bodyPost_ret (v := .agg #[.int .i64 N, .int .i64 H, .slice A nT c, .slice B yn d]) (by simp [results, Try.results114, go_sem, r0, r1, r2, r3]) rfl ⟨N, H, A, nT, c, t, B, yn, d, o.take yn, rfl, hnT, by omega, trivial, own_set_ne4 T7.out (own_bx_ne T7.out R7.out (by decide)), own_set_ne4 O7.out (own_bx_ne O7.out R7.out (by decide)), cur4 C7.out hg, dr4 G7.out (Nat.le_refl _)⟩
      · have e0 : (z == 0) = false := by simpa using z0
        have e1 : (z == 1) = false := by simpa using z1
        have e2 : (z == 2) = false := by simpa using z2
        clear z0 z1 z2
        obtain ⟨u0, u1, u2, u3, v0, v1, v2, v3⟩ := E4.out.four
        obtain ⟨q0, q1, q2, q3, f0, f1, f2, f3⟩ := R4.out.four
        have lR := R4.out.lt
        go_wp2_with fail
        refine bodyPost_ret (v := .agg #[.int .i64 N, .int .i64 H, .slice A nT c, .slice B nO d]) (by simp [results, Try.results114, go_sem, q0, q1, q2, q3]) rfl ⟨N, H, A, nT, c, t, B, nO, d, o, rfl, hnT, hnO, trivial, own_set_ne4 T4.out (own_bx_ne T4.out R4.out (by decide)), own_set_ne4 O4.out (own_bx_ne O4.out R4.out (by decide)), cur4 C4.out hg, dr4 G4.out (Nat.le_refl _)⟩
def RetDP (w : World) (e : Ending) (w' : World) : Prop :=
  ∃ (N H : Int) (A : Option Addr) (nT c : Nat) (t : List (Int × Int)) (B : Option Addr) (nO d : Nat) (o : List (Int × Int)) (i : Int), e = .returned (.tuple #[.agg #[.int .i64 N, .int .i64 H, .slice A nT c, .slice B nO d], .int .i64 i]) ∧ nT ≤ 12 ∧ nO ≤ 4 ∧
    w'.ownsRow w.heap.size 70 2 (.slice A nT c) nT (cellsP t) ∧ w'.ownsRow w.heap.size 88 2 (.slice B nO d) nO (cellsP o) ∧ Below w.heap.size w w'
set_option maxRecDepth 100000 in
set_option maxHeartbeats 1600000 in
theorem s_DrawEval (A : Option Addr) (n cap : Nat) (zs : List Int) (w : World) (h : RdB w A n zs) (hz : ∀ z ∈ zs, 0 ≤ z ∧ z ≤ 255) (hn : n ≤ 1048576) :
    Calls Try.prog 46 #[.slice A n cap] w (RetDP w) := by
  have H := Lib.hid (show RdB (w.alloc (.cells #[.int .i64 0, .int .i64 0, .slice none 0 0, .slice none 0 0] 31)) A n zs from ⟨h.1, h.2.alloc _⟩)
  have HZ := Lib.hid hz
  have R0 := Lib.hid (Bx.new w 31 #[.int .i64 0, .int .i64 0, .slice none 0 0, .slice none 0 0])
  clear h hz
  go_enter Try.func46, Try.ntmps46
  go_wp2_with fail
  refine (s_l1New _ _ _ _ _ H.out HZ.out hn).mono ?_
  rintro e w1 ⟨g, rfl, hc1, hg, b1⟩
  have hg1 : w.heap.size + 1 ≤ g := by simpa using hg
  have R1 := Lib.hid (R0.out.below b1)
  have B1 := Lib.hid (below_alloc b1)
  clear hg b1 R0
  go_wp2_with fail
  refine (s_l32Bent g _ hc1).mono ?_
  rintro e w2 ⟨N, H', A2, nT, c, t, B2, nO, d, o, rfl, hnT, hnO, _, t2, o2, hc2, g2⟩
  have hs1 := B1.out.size
  have T2 := Lib.hid (ownsRow_base t2 hs1)
  have O2 := Lib.hid (ownsRow_base o2 hs1)
  have R2 := Lib.hid (dr_bx g2 R1.out (show w.heap.size ≠ g by omega))
  clear t2 o2
  go_wp2_with fail
  refine (s_l1Below g 16 _ hc2 (by omega)).mono ?_
  rintro e w3 ⟨i, rfl, _, hc3, g3⟩
  have T3 := Lib.hid (dr_own g3 hc2 T2.out (by decide))
  have O3 := Lib.hid (dr_own g3 hc2 O2.out (by decide))
  have R3 := Lib.hid (dr_bx g3 R2.out (show w.heap.size ≠ g by omega))
  have B3 := Lib.hid (B1.out.trans (below_of_grown (dr_trans g2 g3) hs1 (fun k hk => (by injection hk with hk; omega))))
  clear g2 g3 hc2 hc3 T2 O2 R2 R1 B1
  obtain ⟨q0, q1, q2, q3, f0, f1, f2, f3⟩ := R3.out.four
  have l3 := R3.out.lt
  go_wp2_with fail
  refine bodyPost_ret (v := .tuple #[.agg #[.int .i64 N, .int .i64 H', .slice A2 nT c, .slice B2 nO d], .int .i64 i]) (by simp [results, Try.results46, go_sem, q0, q1, q2, q3]) rfl ⟨N, H', A2, nT, c, t, B2, nO, d, o, i, rfl, hnT, hnO, own_set_ne4 T3.out (own_bx_ne T3.out R3.out (by decide)), own_set_ne4 O3.out (own_bx_ne O3.out R3.out (by decide)), below_set4 B3.out (Nat.le_refl _)⟩
end Go.Proofs.Ythfacfnknpomcaa
