/- The law FnCommuteOk returns true for every code. No condition. -/
import Derived.Test.YtgnallcfahpjmaaRRows
import Derived.Test.YtgnallcfahpjmaaRDrawT
import Derived.Test.YtgnallcfahpjmaaRStM
import Derived.Test.YtgnallcfahpjmaaROpen
import Derived.ChangeOld
import Derived.Deep.DeepCutAuto
namespace Go.Proofs.YtgnallcfahpjmaaR.fnCommuteOk
open Go.ChangeShapes Go.WideShapes Go.ChangeAt Go.RowKit
set_option linter.unusedVariables false

/-- The boxes of the two gates, and the frame. -/
def Two (w : World) (p : Nat) (g h : Gt) (wx : World) : Prop := Bx wx p 63 #[.int .i64 g.k, .int .i64 g.a, .int .i64 g.b, .int .i64 g.c] ∧ Bx wx (p + 1) 63 #[.int .i64 h.k, .int .i64 h.a, .int .i64 h.b, .int .i64 h.c] ∧ Below w.heap.size w wx
section
variable {w wx w' : World} {p : Nat} {g h : Gt}
theorem Two.below (s : Two w p g h wx) (hb : Below wx.heap.size wx w') : Two w p g h w' := ⟨s.1.below hb, s.2.1.below hb, below_trans s.2.2 hb⟩
theorem Two.cells (s : Two w p g h wx) : wx.cell? ⟨p, 0, none⟩ = some (.int .i64 g.k) ∧ wx.cell? ⟨p, 1, none⟩ = some (.int .i64 g.a) ∧ wx.cell? ⟨p, 2, none⟩ = some (.int .i64 g.b) ∧ wx.cell? ⟨p, 3, none⟩ = some (.int .i64 g.c) ∧ wx.cell? ⟨p + 1, 0, none⟩ = some (.int .i64 h.k) ∧ wx.cell? ⟨p + 1, 1, none⟩ = some (.int .i64 h.a) ∧ wx.cell? ⟨p + 1, 2, none⟩ = some (.int .i64 h.b) ∧ wx.cell? ⟨p + 1, 3, none⟩ = some (.int .i64 h.c) ∧ p + 1 < wx.heap.size := by
  obtain ⟨p0, p1, p2, p3, _⟩ := s.1.four
  obtain ⟨q0, q1, q2, q3, _⟩ := s.2.1.four
  exact ⟨p0, p1, p2, p3, q0, q1, q2, q3, s.2.1.lt⟩
end
theorem rdG_two {k : Nat} (w : World) (g h : Gt) (hk : k = w.heap.size) : RdG (w.alloc (.cells #[.int .i64 g.k, .int .i64 g.a, .int .i64 g.b, .int .i64 g.c, .int .i64 h.k, .int .i64 h.a, .int .i64 h.b, .int .i64 h.c] 63)) (some ⟨k, 0, none⟩) 2 [g, h] := by
  subst hk
  exact ⟨rfl, Rd.lit w 63 #[.int .i64 g.k, .int .i64 g.a, .int .i64 g.b, .int .i64 g.c, .int .i64 h.k, .int .i64 h.a, .int .i64 h.b, .int .i64 h.c] 2 4 rfl⟩
/-- What the walk is told of the two gates. -/
theorem turn_cases {g h : Gt} {x y vg vh : Bool} (h1 : comm g h = x) (h2 : comm h g = y) (h3 : okG g.k g.a g.b g.c 3 = vg) (h4 : okG h.k h.a h.b h.c 3 = vh) : (vg = true → vh = true → y = x) ∧ (vg = true → vh = true → x = true → sameAll [g, h] [h, g] 3 = true) := by
  subst h1 h2 h3 h4
  exact ⟨fun a b => comm_turn (g := g) (h := h) a b, fun a b c => comm_law (g := g) (h := h) a b c⟩

set_option maxRecDepth 100000 in
set_option maxHeartbeats 6400000 in
theorem walk (A : Option Addr) (n cap : Nat) (zs : List Int) (w : World) (h : zs.length = n ∧ Rd w 1 A n (zs.map (Value.int .u8))) (hnc : n ≤ cap) (hc : cap ≤ maxLen) (ok : ∀ z ∈ zs, 0 ≤ z ∧ z ≤ 255) :
    Calls Try.prog 8 #[.slice A n cap] w fun e w' => e = .returned (.bool true) ∧ Below w.heap.size w w' := by
  unfold maxLen at hc
  have H : Hid (RdB w A n zs) := h
  have OK := Lib.hid ok
  clear h ok
  by_cases hn : 1048576 < n
  · go_enter Try.func8, Try.ntmps8
    go_wp2_with fail
    refine (l_big _ _ _ _ (by omega)).mono ?_
    rintro e w1 ⟨rfl, rfl⟩
    rw [decide_eq_true hn]
    go_wp2_with fail
    go_ret
    exact ⟨rfl, Below.refl _ _⟩
  · go_enter Try.func8, Try.ntmps8
    go_wp2_with fail
    refine (l_big _ _ _ _ (by omega)).mono ?_
    rintro e w1 ⟨rfl, rfl⟩
    rw [decide_eq_false hn]
    go_wp2_with fail
    refine (s_DrawGatesCommute _ _ _ _ _ H.out OK.out (by omega)).mono ?_
    rintro e w1 ⟨k, a, b, c, k', a', b', c', rfl, b1⟩
    obtain ⟨g, hg⟩ : ∃ g : Gt, g = ⟨k, a, b, c⟩ := ⟨_, rfl⟩
    obtain ⟨h, hh⟩ : ∃ g : Gt, g = ⟨k', a', b', c'⟩ := ⟨_, rfl⟩
    obtain rfl : k = g.k := by rw [hg]
    obtain rfl : a = g.a := by rw [hg]
    obtain rfl : b = g.b := by rw [hg]
    obtain rfl : c = g.c := by rw [hg]
    obtain rfl : k' = h.k := by rw [hh]
    obtain rfl : a' = h.a := by rw [hh]
    obtain rfl : b' = h.b := by rw [hh]
    obtain rfl : c' = h.c := by rw [hh]
    clear hg hh
    have hba := b1.alloc b1.size (.cells #[.int .i64 g.k, .int .i64 g.a, .int .i64 g.b, .int .i64 g.c] 63)
    have hbb := hba.alloc hba.size (.cells #[.int .i64 h.k, .int .i64 h.a, .int .i64 h.b, .int .i64 h.c] 63)
    have S1 := Lib.hid (show Two w w1.heap.size g h ((w1.alloc (.cells #[.int .i64 g.k, .int .i64 g.a, .int .i64 g.b, .int .i64 g.c] 63)).alloc (.cells #[.int .i64 h.k, .int .i64 h.a, .int .i64 h.b, .int .i64 h.c] 63)) from ⟨(Bx.new w1 _ _).alloc _, Bx.new' (by simp), hbb⟩)
    clear b1 hba hbb
    obtain ⟨x, hx⟩ : ∃ x, comm g h = x := ⟨_, rfl⟩
    obtain ⟨y, hy⟩ : ∃ x, comm h g = x := ⟨_, rfl⟩
    obtain ⟨vg, hvg⟩ : ∃ x, okG g.k g.a g.b g.c 3 = x := ⟨_, rfl⟩
    obtain ⟨vh, hvh⟩ : ∃ x, okG h.k h.a h.b h.c 3 = x := ⟨_, rfl⟩
    have LAW := Lib.hid (turn_cases hx hy hvg hvh)
    have HX := Lib.hid hx
    have HY := Lib.hid hy
    have HG := Lib.hid hvg
    have HH := Lib.hid hvh
    clear hx hy hvg hvh
    go_wp2_with fail
    refine (i_GatesCommute g h _).mono ?_
    rintro e w2 ⟨rfl, b2⟩
    rw [HX.out]
    have S2 := Lib.hid (S1.out.below b2)
    clear b2 S1
    obtain ⟨p0, p1, p2, p3, q0, q1, q2, q3, pl⟩ := S2.out.cells
    go_wp2_with fail
    refine (s_GatesCommute g h _).mono ?_
    rintro e w3 ⟨rfl, b3⟩
    rw [HX.out]
    have S3 := Lib.hid (S2.out.below b3)
    clear b3 S2 p0 p1 p2 p3 q0 q1 q2 q3 pl
    obtain ⟨p0, p1, p2, p3, q0, q1, q2, q3, pl⟩ := S3.out.cells
    cases x <;> cases y
    · skip
      go_wp2_with fail
      refine (i_GatesCommute h g _).mono ?_
      rintro e w4 ⟨rfl, b4⟩
      rw [HY.out]
      have S4 := Lib.hid (S3.out.below b4)
      clear b4 S3 p0 p1 p2 p3 q0 q1 q2 q3 pl
      obtain ⟨p0, p1, p2, p3, q0, q1, q2, q3, pl⟩ := S4.out.cells
      go_wp2_with fail
      go_ret
      exact ⟨rfl, S4.out.2.2⟩
    · skip
      go_wp2_with fail
      refine (i_GatesCommute h g _).mono ?_
      rintro e w4 ⟨rfl, b4⟩
      rw [HY.out]
      have S4 := Lib.hid (S3.out.below b4)
      clear b4 S3 p0 p1 p2 p3 q0 q1 q2 q3 pl
      obtain ⟨p0, p1, p2, p3, q0, q1, q2, q3, pl⟩ := S4.out.cells
      go_wp2_with fail
      refine (s_IsValidGate g.k g.a g.b g.c 3 _).mono ?_
      rintro e w5 ⟨rfl, b5⟩
      rw [HG.out]
      have S5 := Lib.hid (S4.out.below b5)
      clear b5 S4 p0 p1 p2 p3 q0 q1 q2 q3 pl
      obtain ⟨p0, p1, p2, p3, q0, q1, q2, q3, pl⟩ := S5.out.cells
      cases vg
      · skip
        go_wp2_with fail
        go_ret
        exact ⟨rfl, S5.out.2.2⟩
      · skip
        go_wp2_with fail
        refine (s_IsValidGate h.k h.a h.b h.c 3 _).mono ?_
        rintro e w6 ⟨rfl, b6⟩
        rw [HH.out]
        have S6 := Lib.hid (S5.out.below b6)
        clear b6 S5 p0 p1 p2 p3 q0 q1 q2 q3 pl
        obtain ⟨p0, p1, p2, p3, q0, q1, q2, q3, pl⟩ := S6.out.cells
        cases vh
        · skip
          go_wp2_with fail
          go_ret
          exact ⟨rfl, S6.out.2.2⟩
        · exact absurd (LAW.out.1 (by simp) (by simp)) (by simp)
    · skip
      go_wp2_with fail
      refine (i_GatesCommute h g _).mono ?_
      rintro e w4 ⟨rfl, b4⟩
      rw [HY.out]
      have S4 := Lib.hid (S3.out.below b4)
      clear b4 S3 p0 p1 p2 p3 q0 q1 q2 q3 pl
      obtain ⟨p0, p1, p2, p3, q0, q1, q2, q3, pl⟩ := S4.out.cells
      go_wp2_with fail
      refine (s_IsValidGate g.k g.a g.b g.c 3 _).mono ?_
      rintro e w5 ⟨rfl, b5⟩
      rw [HG.out]
      have S5 := Lib.hid (S4.out.below b5)
      clear b5 S4 p0 p1 p2 p3 q0 q1 q2 q3 pl
      obtain ⟨p0, p1, p2, p3, q0, q1, q2, q3, pl⟩ := S5.out.cells
      cases vg
      · skip
        go_wp2_with fail
        refine (s_IsValidGate g.k g.a g.b g.c 3 _).mono ?_
        rintro e w6 ⟨rfl, b6⟩
        rw [HG.out]
        have S6 := Lib.hid (S5.out.below b6)
        clear b6 S5 p0 p1 p2 p3 q0 q1 q2 q3 pl
        obtain ⟨p0, p1, p2, p3, q0, q1, q2, q3, pl⟩ := S6.out.cells
        go_wp2_with fail
        go_ret
        exact ⟨rfl, S6.out.2.2⟩
      · skip
        go_wp2_with fail
        refine (s_IsValidGate h.k h.a h.b h.c 3 _).mono ?_
        rintro e w6 ⟨rfl, b6⟩
        rw [HH.out]
        have S6 := Lib.hid (S5.out.below b6)
        clear b6 S5 p0 p1 p2 p3 q0 q1 q2 q3 pl
        obtain ⟨p0, p1, p2, p3, q0, q1, q2, q3, pl⟩ := S6.out.cells
        cases vh
        · skip
          go_wp2_with fail
          refine (s_IsValidGate g.k g.a g.b g.c 3 _).mono ?_
          rintro e w7 ⟨rfl, b7⟩
          rw [HG.out]
          have S7 := Lib.hid (S6.out.below b7)
          clear b7 S6 p0 p1 p2 p3 q0 q1 q2 q3 pl
          obtain ⟨p0, p1, p2, p3, q0, q1, q2, q3, pl⟩ := S7.out.cells
          go_wp2_with fail
          refine (s_IsValidGate h.k h.a h.b h.c 3 _).mono ?_
          rintro e w8 ⟨rfl, b8⟩
          rw [HH.out]
          have S8 := Lib.hid (S7.out.below b8)
          clear b8 S7 p0 p1 p2 p3 q0 q1 q2 q3 pl
          obtain ⟨p0, p1, p2, p3, q0, q1, q2, q3, pl⟩ := S8.out.cells
          go_wp2_with fail
          go_ret
          exact ⟨rfl, S8.out.2.2⟩
        · exact absurd (LAW.out.1 (by simp) (by simp)) (by simp)
    · skip
      go_wp2_with fail
      refine (i_GatesCommute h g _).mono ?_
      rintro e w4 ⟨rfl, b4⟩
      rw [HY.out]
      have S4 := Lib.hid (S3.out.below b4)
      clear b4 S3 p0 p1 p2 p3 q0 q1 q2 q3 pl
      obtain ⟨p0, p1, p2, p3, q0, q1, q2, q3, pl⟩ := S4.out.cells
      go_wp2_with fail
      refine (s_IsValidGate g.k g.a g.b g.c 3 _).mono ?_
      rintro e w5 ⟨rfl, b5⟩
      rw [HG.out]
      have S5 := Lib.hid (S4.out.below b5)
      clear b5 S4 p0 p1 p2 p3 q0 q1 q2 q3 pl
      obtain ⟨p0, p1, p2, p3, q0, q1, q2, q3, pl⟩ := S5.out.cells
      cases vg
      · skip
        go_wp2_with fail
        go_ret
        exact ⟨rfl, S5.out.2.2⟩
      · skip
        go_wp2_with fail
        refine (s_IsValidGate h.k h.a h.b h.c 3 _).mono ?_
        rintro e w6 ⟨rfl, b6⟩
        rw [HH.out]
        have S6 := Lib.hid (S5.out.below b6)
        clear b6 S5 p0 p1 p2 p3 q0 q1 q2 q3 pl
        obtain ⟨p0, p1, p2, p3, q0, q1, q2, q3, pl⟩ := S6.out.cells
        cases vh
        · skip
          go_wp2_with fail
          go_ret
          exact ⟨rfl, S6.out.2.2⟩
        · skip
          have G1 := Lib.hid ((rdG_two w6 g h rfl).alloc (.cells #[.int .i64 h.k, .int .i64 h.a, .int .i64 h.b, .int .i64 h.c, .int .i64 g.k, .int .i64 g.a, .int .i64 g.b, .int .i64 g.c] 63))
          have G2 := Lib.hid (rdG_two (k := w6.heap.size + 1) (w6.alloc (.cells #[.int .i64 g.k, .int .i64 g.a, .int .i64 g.b, .int .i64 g.c, .int .i64 h.k, .int .i64 h.a, .int .i64 h.b, .int .i64 h.c] 63)) h g (by simp))
          have pl2 : w1.heap.size < w6.heap.size := by omega
          go_wp2_with fail
          refine (l_apart3 _ 2 _ [g, h] _ 2 _ [h, g] _ G1.out G2.out (by omega) (by omega) (LAW.out.2 (by simp) (by simp) (by simp))).mono ?_
          rintro e w9 ⟨rfl, b9⟩
          go_wp2_with fail
          go_ret
          exact ⟨rfl, below_trans S6.out.2.2 (below_alloc (below_alloc b9))⟩

theorem own : ownKnob Try.prog.godebug = none := by kernel_rfl
theorem laidOut : laidOutB Try.prog = true := by kernel_rfl
set_option maxRecDepth 100000 in
theorem lifted (os : Os) (started : os.Started) (H : Type) (enc : TypeId × Value → H) :
    ReturnsInHanded {} Try.checked os 8 .any (Rows.fnCommuteOkSpec.pre6 enc Try.prog Try.f8 Rows.fnCommuteOkRow.domain false) (Rows.fnCommuteOkSpec.post enc Try.prog Try.f8 false true false false) := by
  refine returnsInHanded_of_change (C := Try.checked) own started (by kernel_rfl) Try.func8
    (ChangeSpec.witness6 (enc := enc) (C := Try.checked) false ⟨#[], #[.slice none 0 0], []⟩ 8 (by kernel_rfl) (by kernel_rfl) (by kernel_rfl) (by kernel_rfl)) ?_
  intro W base args ds gs before hval0 hW hcnd _
  have hval : ∀ (j : Nat) t v, Try.f8.params[j]? = some t → args[j]? = some v → Value.okWide Try.prog W .any base t v := hval0
  have hW' := hW
  obtain ⟨p, q, hA0, hV, rfl, hfz, hnd⟩ := hW
  have hA : DataW.TrodAll enc Try.prog W 0 (fun _ => true) true Try.f8.params.toList args.toList ds p := hA0
  rw [Try.params8] at hA hval
  obtain ⟨v0, vs0, d0, ds0, p0, q0, hargs, rfl, rfl, h0, t0⟩ := trodAll_cons hA
  obtain ⟨rfl, rfl, rfl⟩ := trodAll_nil t0
  obtain rfl : args = #[v0] := by cases args; simp_all
  obtain ⟨rfl, rfl⟩ := trodVars_none hV
  have k0 := h0
  have lt0 : ∀ x ∈ p0, x.block < W.heap.size := by obtain ⟨m, hm⟩ := k0; exact DataW.trod_lt m _ _ _ hm
  obtain ⟨A0, n0, c0, rfl⟩ := okWide_slice Try.underlying22 (hval 0 22 v0 rfl rfl)
  obtain ⟨fu0, hf0⟩ := h0
  obtain ⟨_, _, _, x0, e0, r0, l0, m0, ok0⟩ := open_bytes Try.underlying22 Try.underlying5 (by kernel_rfl) hf0
  simp only [Value.slice.injEq] at e0
  obtain ⟨rfl, rfl, rfl⟩ := e0
  clear hA0 hval0
  refine (walk A0 n0 c0 x0 W r0 l0 m0 ok0).mono fun e W' ⟨he, bel⟩ => ?_
  subst he
  exact ⟨_, rfl, _, _, _, [], _, [], hW', trodAll_mk1 (shut_bool Try.underlying4 _), (trodAll_cons_mk (Below.trod laidOut (by kernel_rfl) (of_decide_eq_true (by kernel_rfl)) k0 bel lt0) trodAll_mk0), rfl, bel.frame _, fun h => by cases h⟩

theorem over : Rows.fnCommuteOkRow.holds Try.pinned (OpenSpec.ofChange Rows.fnCommuteOkSpec) :=
  OpenClaim.holds_of_wide 8 Try.f8 rfl rfl rfl rfl rfl rfl rfl ⟨rfl, rfl, rfl, rfl, rfl⟩ rfl rfl rfl rfl rfl (by kernel_rfl) Try.func8 (by kernel_rfl)
    (of_decide_eq_true (by kernel_rfl)) (by unfold Func.isWrapper; first | (rw [if_pos (by decide +kernel)]; kernel_rfl) | (rw [if_neg (by decide +kernel)]; exact ⟨rfl, rfl⟩))
    (fun os started H enc _ => lifted os started H enc)

theorem proved : Rows.FnCommuteOkSaid := over
#print axioms proved
end Go.Proofs.YtgnallcfahpjmaaR.fnCommuteOk
