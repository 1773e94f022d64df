/- Contract of MergeGates (impl). -/
import Derived.Test.YtjmgpgppammhhaaMergeS
namespace Go.Proofs.Ytjmgpgppammhhaa
open Go.RowKit

set_option maxRecDepth 100000 in
set_option maxHeartbeats 1600000 in
theorem i_MergeGates (g h : Gt) (w : World) : Calls Try.prog 50 #[.agg #[.int .i64 g.k, .int .i64 g.a, .int .i64 g.b, .int .i64 g.c], .agg #[.int .i64 h.k, .int .i64 h.a, .int .i64 h.b, .int .i64 h.c]] w (RetGB (mergeL g h) (mergeOk g h) w) := by
  have ST := Lib.hid (mg_start w g h)
  have hM : Try.prog.eqGuardType Try.prog.depth 33 = false := by kernel_rfl
  have none_ : ∀ wx : World, mergeL g h = [] ∧ mergeOk g h = false → Below w.heap.size w wx → RetGB (mergeL g h) (mergeOk g h) w (.returned (.tuple #[.slice none 0 0, .bool false])) wx := fun wx h1 h2 => by
    rw [h1.1, h1.2]
    exact ⟨_, _, rfl, World.ownsRow_nil _ _ _ _, h2⟩
  have some_ : ∀ wx : World, mergeB g h = true → Below w.heap.size w wx → RetGB (mergeL g h) (mergeOk g h) w (.returned (.tuple #[.slice (some ⟨wx.heap.size, 0, none⟩) 0 0, .bool true])) (wx.alloc (.cells #[] 33)) := fun wx h1 h2 => by
    rw [(merge_yes h1).1, (merge_yes h1).2]
    exact ⟨_, _, rfl, World.ownsRow_lit wx #[] 0 h2.size (by simp [maxLen]) rfl |> fun o => ownsRow_base o (Nat.le_refl _), h2.alloc h2.size _⟩
  have NO := Lib.hid none_
  have YES := Lib.hid some_
  clear none_ some_
  have hbd := arity_bd g.k
  by_cases h0 : arity g.k = 0
  · have e0 : (arity g.k == 0) = true := by simpa using h0
    have FIN := Lib.hid (NO.out _ (merge_no (mergeB_0 (h := h) h0) (rotB_0 h0)) ST.out.2.2)
    clear h0 hbd
    go_enter Try.func50, Try.ntmps50
    go_wp2_with (go_at_call 106; (with_reducible refine (i_Arity _ _).mono ?_); rintro e w' ⟨rfl, rfl⟩)
    go_ret2
    exact FIN.out
  have e0 : (arity g.k == 0) = false := by simpa using h0
  have hpos : 0 < arity g.k := by omega
  have HP := Lib.hid (show mergeB g h = (isInv g h || alikeG g h) by simp [mergeB, hpos])
  clear h0 hbd hpos
  go_enter Try.func50, Try.ntmps50
  go_upto_region 3 with (go_at_call 106; (with_reducible refine (i_Arity _ _).mono ?_); rintro e w' ⟨rfl, rfl⟩)
  obtain ⟨w0, hw0⟩ : ∃ w0, w0 = (w.alloc (.cells #[.int .i64 g.k, .int .i64 g.a, .int .i64 g.b, .int .i64 g.c] 33)).alloc (.cells #[.int .i64 h.k, .int .i64 h.a, .int .i64 h.b, .int .i64 h.c] 33) := ⟨_, rfl⟩
  rw [← hw0] at ST ⊢
  clear hw0
  obtain ⟨p0, p1, p2, p3, q0, q1, q2, q3⟩ := ST.out.cells
  go_cut [14] (fun v wx => v = .bool (isInv g h) ∧ MgSt w w.heap.size g h wx)
  case first =>
    have hE : ∀ w, (Op.equalIn 10000 33 (.agg #[.int .i64 h.k, .int .i64 h.a, .int .i64 h.b, .int .i64 h.c]) (.agg #[.int .i64 (invK g.k), .int .i64 g.a, .int .i64 g.b, .int .i64 g.c])).run Try.prog w = .ok (isInv g h) w := fun w => eqGV _ _ _ _ _ _ _ _ w
    have U0 := ST.out.drew
    go_region_with (first
        | (go_at_call 115; (with_reducible refine (i_InverseGate _ _ _ _ _).mono ?_); rintro e w1 ⟨rfl, b1⟩; have U1 := U0.below b1; obtain ⟨u0, u1, u2, u3, v0, v1, v2, v3⟩ := U1.cells))
    all_goals go_wp2_with fail
    all_goals go_meet
    all_goals exact ⟨rfl, U1⟩
  case rest =>
    obtain ⟨rfl, T1⟩ := hcut
    obtain ⟨wd, rfl⟩ : ∃ wd, wd = wc := ⟨_, rfl⟩
    have XT := Lib.hid T1
    clear T1 ST p0 p1 p2 p3 q0 q1 q2 q3
    obtain ⟨p0, p1, p2, p3, q0, q1, q2, q3⟩ := XT.out.cells
    cases hi : isInv g h
    · have HI := Lib.hid hi
      clear hi
      go_upto_region 5 with fail
      go_cut [58] (fun v wx => v = .bool (alikeG g h) ∧ wd = wx)
      case first =>
        go_wp2_with fail
        all_goals go_meet
        all_goals exact ⟨by unfold alikeG alike; simp [*] <;> (intros; omega), rfl⟩
      case rest =>
        obtain ⟨rfl, rfl⟩ := hcut
        have hg0 := units_bd g.k
        have hh0 := units_bd h.k
        cases hb : alikeG g h
        · have HB := Lib.hid (show mergeB g h = false by rw [HP.out, HI.out, hb]; rfl)
          clear hb
          cases hr : rotB g h
          · have FIN := Lib.hid (NO.out wd (merge_no HB.out hr) XT.out.2.2)
            by_cases h1 : 0 < units g.k
            · have d1 : (units g.k != 0) = true := by simp; omega
              by_cases h2 : 0 < units h.k
              · have d2 : (units h.k != 0) = true := by simp; omega
                have e3 : (g.a == h.a) = false := by simpa [rotB, h1, h2] using hr
                clear hr
                go_wp2_with (go_at_call 116; (with_reducible refine (i_RotationUnits _ _).mono ?_); rintro e w' ⟨rfl, rfl⟩)
                go_ret2
                exact FIN.out
              · have d2 : (units h.k != 0) = false := by simp; omega
                clear hr
                go_wp2_with (go_at_call 116; (with_reducible refine (i_RotationUnits _ _).mono ?_); rintro e w' ⟨rfl, rfl⟩)
                go_ret2
                exact FIN.out
            · have d1 : (units g.k != 0) = false := by simp; omega
              clear hr
              go_wp2_with (go_at_call 116; (with_reducible refine (i_RotationUnits _ _).mono ?_); rintro e w' ⟨rfl, rfl⟩)
              go_ret2
              exact FIN.out
          · have hr' : 0 < units g.k ∧ 0 < units h.k ∧ g.a = h.a := by simpa [rotB, and_assoc] using hr
            obtain ⟨h1, h2, h3⟩ := hr'
            have d1 : (units g.k != 0) = true := by simp; omega
            have d2 : (units h.k != 0) = true := by simp; omega
            have e3 : (g.a == h.a) = true := by simpa using h3
            have HR := Lib.hid hr
            have hwr : IntKind.i64.wrap (units g.k + units h.k) = units g.k + units h.k := by rw [IntKind.wrap_i64]; omega
            have HS : Hid ((units g.k + units h.k) % 8 = sumU g h) := rfl
            clear hr h3
            go_upto_region 8 with (go_at_call 116; (with_reducible refine (i_RotationUnits _ _).mono ?_); rintro e w' ⟨rfl, rfl⟩)
            go_cut [6] (fun v wx => MgRot w g h v wx)
            case first =>
              have U0 := XT.out.drew
              have hs0 := XT.out.2.2.size
              go_region_held3 (fun w' => w'.cell? ⟨w.heap.size, 0, none⟩ = some (.int .i64 g.k) ∧ w'.cell? ⟨w.heap.size, 1, none⟩ = some (.int .i64 g.a) ∧ w'.cell? ⟨w.heap.size + 1, 0, none⟩ = some (.int .i64 h.k))
                (first | go_keep | exact ⟨U1.cells.1, U1.cells.2.1, U1.cells.2.2.2.2.1⟩)
                (first
                  | (go_at_call 116; (with_reducible refine (i_RotationUnits _ _).mono ?_); rintro e w' ⟨rfl, rfl⟩)
                  | (go_at_call 93; (with_reducible refine (i_mod8 _ _).mono ?_); rintro e w' ⟨rfl, rfl⟩; rw [HS.out])
                  | (go_at_call 117; (with_reducible refine (i_RotationGates _ _ _).mono ?_); rintro e w1 ⟨A1, c1, rfl, o1, b1⟩; have U1 := U0.below b1))
              all_goals go_wp2_with fail
              all_goals go_meet
              all_goals exact ⟨A1, c1, rfl, ownsRow_base o1 hs0, U1⟩
            case rest =>
              obtain ⟨A, c, rfl, own, T2⟩ := hcut
              have hl := rotK_len (sumU g h)
              have hlG := rotG_len (sumU g h) g.a
              obtain ⟨m, hm⟩ : ∃ m, (rotK (sumU g h)).length = m := ⟨_, rfl⟩
              have HM := Lib.hid hm
              rw [hm] at hl own hlG
              rw [HM.out]
              have HL := Lib.hid hlG
              have OWN := Lib.hid own
              have TT := Lib.hid T2
              clear hm own T2 hlG
              by_cases hm1 : m ≤ 1
              · have hlt : (m : Int) ≤ 1 := by omega
                have FIN := Lib.hid (show RetGB (mergeL g h) (mergeOk g h) w (.returned (.tuple #[.slice A m c, .bool true])) wc from by
                  obtain ⟨e1, e2⟩ := merge_rot HB.out HR.out (by rw [HM.out]; exact hm1)
                  rw [e1, e2]
                  refine ⟨A, c, ?_, ?_, TT.out.2.2⟩
                  · rw [HL.out]
                  · rw [HL.out]; exact OWN.out)
                go_wp2_with fail
                go_ret2
                exact FIN.out
              · have hlt : ¬ (m : Int) ≤ 1 := by omega
                have FIN := Lib.hid (NO.out wc (merge_two HB.out (by rw [HM.out]; exact hm1)) TT.out.2.2)
                go_wp2_with fail
                go_ret2
                exact FIN.out
        · have FIN := Lib.hid (YES.out wd (by rw [HP.out, hb]; simp) XT.out.2.2)
          clear hb
          go_wp2_with fail
          go_ret2
          exact FIN.out
    · have FIN := Lib.hid (YES.out wd (by rw [HP.out, hi]; rfl) XT.out.2.2)
      clear hi
      go_wp2_with fail
      go_ret2
      exact FIN.out
end Go.Proofs.Ytjmgpgppammhhaa
