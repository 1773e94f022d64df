/- The law FnMerged returns true for every code. No condition. -/
import Derived.Test.YtgnallcfahpjmaaRRows
import Derived.Test.YtgnallcfahpjmaaRDrawT
import Derived.Test.YtgnallcfahpjmaaRStM
import Derived.Test.YtgnallcfahpjmaaRMergeI
import Derived.Test.YtgnallcfahpjmaaRSameG
import Derived.Test.YtgnallcfahpjmaaROpen
import Derived.ChangeOld
import Derived.Deep.DeepCutAuto
namespace Go.Proofs.YtgnallcfahpjmaaR.fnMerged
open Go.ChangeShapes Go.WideShapes Go.ChangeAt Go.RowKit
set_option linter.unusedVariables false

/-- The boxes of the two gates, and the frame. -/
def Two (w : World) (p : Nat) (g h : Gt) (wx : World) : Prop := Bx wx p 63 #[.int .i64 g.k, .int .i64 g.a, .int .i64 g.b, .int .i64 g.c] ∧ Bx wx (p + 1) 63 #[.int .i64 h.k, .int .i64 h.a, .int .i64 h.b, .int .i64 h.c] ∧ Below w.heap.size w wx
section
variable {w wx w' : World} {p : Nat} {g h : Gt}
theorem Two.below (s : Two w p g h wx) (hb : Below wx.heap.size wx w') : Two w p g h w' := ⟨s.1.below hb, s.2.1.below hb, below_trans s.2.2 hb⟩
theorem Two.cells (s : Two w p g h wx) : wx.cell? ⟨p, 0, none⟩ = some (.int .i64 g.k) ∧ wx.cell? ⟨p, 1, none⟩ = some (.int .i64 g.a) ∧ wx.cell? ⟨p, 2, none⟩ = some (.int .i64 g.b) ∧ wx.cell? ⟨p, 3, none⟩ = some (.int .i64 g.c) ∧ wx.cell? ⟨p + 1, 0, none⟩ = some (.int .i64 h.k) ∧ wx.cell? ⟨p + 1, 1, none⟩ = some (.int .i64 h.a) ∧ wx.cell? ⟨p + 1, 2, none⟩ = some (.int .i64 h.b) ∧ wx.cell? ⟨p + 1, 3, none⟩ = some (.int .i64 h.c) ∧ p + 1 < wx.heap.size := by
  obtain ⟨p0, p1, p2, p3, _⟩ := s.1.four
  obtain ⟨q0, q1, q2, q3, _⟩ := s.2.1.four
  exact ⟨p0, p1, p2, p3, q0, q1, q2, q3, s.2.1.lt⟩
end
theorem rdG_two {k : Nat} (w : World) (g h : Gt) (hk : k = w.heap.size) : RdG (w.alloc (.cells #[.int .i64 g.k, .int .i64 g.a, .int .i64 g.b, .int .i64 g.c, .int .i64 h.k, .int .i64 h.a, .int .i64 h.b, .int .i64 h.c] 63)) (some ⟨k, 0, none⟩) 2 [g, h] := by
  subst hk
  exact ⟨rfl, Rd.lit w 63 #[.int .i64 g.k, .int .i64 g.a, .int .i64 g.b, .int .i64 g.c, .int .i64 h.k, .int .i64 h.a, .int .i64 h.b, .int .i64 h.c] 2 4 rfl⟩
/-- What the walk is told of the two gates. -/
theorem merged_cases {g h : Gt} {ok vg vh : Bool} {l : List Gt} (h1 : mergeOk g h = ok) (h2 : mergeL g h = l) (h3 : okG g.k g.a g.b g.c 3 = vg) (h4 : okG h.k h.a h.b h.c 3 = vh) : (ok = false → l = []) ∧ (vg = true → vh = true → ok = true → sameAll [g, h] l 3 = true ∧ l.length < 2) ∧ l.length ≤ 2 := by
  subst h1 h2 h3 h4
  refine ⟨fun a => ?_, fun a b c => merge_law (g := g) (h := h) a b c, ?_⟩
  · unfold mergeOk at a
    simp only [Bool.or_eq_false_iff] at a
    unfold mergeL
    rw [a.1, a.2]
    rfl
  · unfold mergeL
    split
    · simp
    · split
      · rw [rotG_len]; exact rotK_len _
      · simp

set_option maxRecDepth 100000 in
set_option maxHeartbeats 6400000 in
theorem walk (A : Option Addr) (n cap : Nat) (zs : List Int) (w : World) (h : zs.length = n ∧ Rd w 1 A n (zs.map (Value.int .u8))) (hnc : n ≤ cap) (hc : cap ≤ maxLen) (ok : ∀ z ∈ zs, 0 ≤ z ∧ z ≤ 255) :
    Calls Try.prog 9 #[.slice A n cap] w fun e w' => e = .returned (.bool true) ∧ Below w.heap.size w w' := by
  unfold maxLen at hc
  have H : Hid (RdB w A n zs) := h
  have OK := Lib.hid ok
  clear h ok
  by_cases hn : 1048576 < n
  · go_enter Try.func9, Try.ntmps9
    go_wp2_with fail
    refine (l_big _ _ _ _ (by omega)).mono ?_
    rintro e w1 ⟨rfl, rfl⟩
    rw [decide_eq_true hn]
    go_wp2_with fail
    go_ret
    exact ⟨rfl, Below.refl _ _⟩
  · go_enter Try.func9, Try.ntmps9
    go_wp2_with fail
    refine (l_big _ _ _ _ (by omega)).mono ?_
    rintro e w1 ⟨rfl, rfl⟩
    rw [decide_eq_false hn]
    go_wp2_with fail
    refine (s_DrawMergeGates _ _ _ _ _ H.out OK.out (by omega)).mono ?_
    rintro e w1 ⟨k, a, b, c, k', a', b', c', rfl, b1⟩
    obtain ⟨g, hg⟩ : ∃ g : Gt, g = ⟨k, a, b, c⟩ := ⟨_, rfl⟩
    obtain ⟨h, hh⟩ : ∃ g : Gt, g = ⟨k', a', b', c'⟩ := ⟨_, rfl⟩
    obtain rfl : k = g.k := by rw [hg]
    obtain rfl : a = g.a := by rw [hg]
    obtain rfl : b = g.b := by rw [hg]
    obtain rfl : c = g.c := by rw [hg]
    obtain rfl : k' = h.k := by rw [hh]
    obtain rfl : a' = h.a := by rw [hh]
    obtain rfl : b' = h.b := by rw [hh]
    obtain rfl : c' = h.c := by rw [hh]
    clear hg hh
    have hba := b1.alloc b1.size (.cells #[.int .i64 g.k, .int .i64 g.a, .int .i64 g.b, .int .i64 g.c] 63)
    have hbb := hba.alloc hba.size (.cells #[.int .i64 h.k, .int .i64 h.a, .int .i64 h.b, .int .i64 h.c] 63)
    have S1 := Lib.hid (show Two w w1.heap.size g h ((w1.alloc (.cells #[.int .i64 g.k, .int .i64 g.a, .int .i64 g.b, .int .i64 g.c] 63)).alloc (.cells #[.int .i64 h.k, .int .i64 h.a, .int .i64 h.b, .int .i64 h.c] 63)) from ⟨(Bx.new w1 _ _).alloc _, Bx.new' (by simp), hbb⟩)
    clear b1 hba hbb
    obtain ⟨ok, hok⟩ : ∃ x, mergeOk g h = x := ⟨_, rfl⟩
    obtain ⟨l, hl⟩ : ∃ x, mergeL g h = x := ⟨_, rfl⟩
    obtain ⟨vg, hvg⟩ : ∃ x, okG g.k g.a g.b g.c 3 = x := ⟨_, rfl⟩
    obtain ⟨vh, hvh⟩ : ∃ x, okG h.k h.a h.b h.c 3 = x := ⟨_, rfl⟩
    have law := merged_cases hok hl hvg hvh
    obtain ⟨L, hL⟩ : ∃ L, l.length = L := ⟨_, rfl⟩
    rw [hL] at law
    have hL2 := law.2.2
    have LAW := Lib.hid law
    have HO := Lib.hid hok
    have HLL := Lib.hid hl
    have HG := Lib.hid hvg
    have HH := Lib.hid hvh
    have HN := Lib.hid hL
    clear law hok hl hvg hvh hL
    go_wp2_with fail
    refine (i_MergeGates g h _).mono ?_
    rintro e w2 ⟨A2, c2, rfl, o2, b2⟩
    rw [HO.out]
    rw [HLL.out] at o2 ⊢
    rw [HN.out] at o2 ⊢
    have R2 := Lib.hid (RdG.own o2)
    have S2 := Lib.hid (S1.out.below b2)
    clear o2 b2 S1
    obtain ⟨p0, p1, p2, p3, q0, q1, q2, q3, pl⟩ := S2.out.cells
    go_wp2_with fail
    refine (s_MergeGates g h _).mono ?_
    rintro e w3 ⟨A3, c3, rfl, o3, b3⟩
    rw [HO.out]
    rw [HLL.out] at o3 ⊢
    rw [HN.out] at o3 ⊢
    have R3 := Lib.hid (RdG.own o3)
    have Q3 := Lib.hid (R2.out.below b3)
    have S3 := Lib.hid (S2.out.below b3)
    clear o3 b3 S2 R2 p0 p1 p2 p3 q0 q1 q2 q3 pl
    obtain ⟨p0, p1, p2, p3, q0, q1, q2, q3, pl⟩ := S3.out.cells
    go_wp2_with fail
    refine (l_sameGates_same _ _ _ _ _ l _ Q3.out R3.out (by omega)).mono ?_
    rintro e w4 ⟨rfl, b4⟩
    have Q4 := Lib.hid (Q3.out.below b4)
    have S4 := Lib.hid (S3.out.below b4)
    clear b4 S3 Q3 R3 p0 p1 p2 p3 q0 q1 q2 q3 pl
    obtain ⟨p0, p1, p2, p3, q0, q1, q2, q3, pl⟩ := S4.out.cells
    cases ok
    · have hl0 := LAW.out.1 rfl
      obtain rfl : L = 0 := by rw [← HN.out, hl0]; rfl
      clear hl0
      go_wp2_with fail
      go_ret
      exact ⟨rfl, S4.out.2.2⟩
    · skip
      go_wp2_with fail
      refine (s_IsValidGate g.k g.a g.b g.c 3 _).mono ?_
      rintro e w5 ⟨rfl, b5⟩
      rw [HG.out]
      have S5 := Lib.hid (S4.out.below b5)
      have Q5 := Lib.hid (Q4.out.below b5)
      clear b5 S4 Q4 p0 p1 p2 p3 q0 q1 q2 q3 pl
      obtain ⟨p0, p1, p2, p3, q0, q1, q2, q3, pl⟩ := S5.out.cells
      cases vg
      · skip
        go_wp2_with fail
        go_ret
        exact ⟨rfl, S5.out.2.2⟩
      · skip
        go_wp2_with fail
        refine (s_IsValidGate h.k h.a h.b h.c 3 _).mono ?_
        rintro e w6 ⟨rfl, b6⟩
        rw [HH.out]
        have S6 := Lib.hid (S5.out.below b6)
        have Q6 := Lib.hid (Q5.out.below b6)
        clear b6 S5 Q5 p0 p1 p2 p3 q0 q1 q2 q3 pl
        obtain ⟨p0, p1, p2, p3, q0, q1, q2, q3, pl⟩ := S6.out.cells
        cases vh
        · skip
          go_wp2_with fail
          go_ret
          exact ⟨rfl, S6.out.2.2⟩
        · skip
          obtain ⟨hsame, hlt2⟩ := LAW.out.2.1 (by simp) (by simp) (by simp)
          have HSA := Lib.hid hsame
          clear hsame
          have G1 := Lib.hid (rdG_two w6 g h rfl)
          have G2 := Lib.hid (Q6.out.alloc (.cells #[.int .i64 g.k, .int .i64 g.a, .int .i64 g.b, .int .i64 g.c, .int .i64 h.k, .int .i64 h.a, .int .i64 h.b, .int .i64 h.c] 63))
          go_wp2_with fail
          refine (l_apart3 _ 2 _ [g, h] _ L _ l _ G1.out G2.out (by omega) (by omega) HSA.out).mono ?_
          rintro e w9 ⟨rfl, b9⟩
          have hLI : (L : Int) < 2 := by omega
          go_wp2_with fail
          go_ret
          exact ⟨rfl, below_trans S6.out.2.2 (below_alloc b9)⟩

theorem own : ownKnob Try.prog.godebug = none := by kernel_rfl
theorem laidOut : laidOutB Try.prog = true := by kernel_rfl
set_option maxRecDepth 100000 in
theorem lifted (os : Os) (started : os.Started) (H : Type) (enc : TypeId × Value → H) :
    ReturnsInHanded {} Try.checked os 9 .any (Rows.fnMergedSpec.pre6 enc Try.prog Try.f9 Rows.fnMergedRow.domain false) (Rows.fnMergedSpec.post enc Try.prog Try.f9 false true false false) := by
  refine returnsInHanded_of_change (C := Try.checked) own started (by kernel_rfl) Try.func9
    (ChangeSpec.witness6 (enc := enc) (C := Try.checked) false ⟨#[], #[.slice none 0 0], []⟩ 8 (by kernel_rfl) (by kernel_rfl) (by kernel_rfl) (by kernel_rfl)) ?_
  intro W base args ds gs before hval0 hW hcnd _
  have hval : ∀ (j : Nat) t v, Try.f9.params[j]? = some t → args[j]? = some v → Value.okWide Try.prog W .any base t v := hval0
  have hW' := hW
  obtain ⟨p, q, hA0, hV, rfl, hfz, hnd⟩ := hW
  have hA : DataW.TrodAll enc Try.prog W 0 (fun _ => true) true Try.f9.params.toList args.toList ds p := hA0
  rw [Try.params9] at hA hval
  obtain ⟨v0, vs0, d0, ds0, p0, q0, hargs, rfl, rfl, h0, t0⟩ := trodAll_cons hA
  obtain ⟨rfl, rfl, rfl⟩ := trodAll_nil t0
  obtain rfl : args = #[v0] := by cases args; simp_all
  obtain ⟨rfl, rfl⟩ := trodVars_none hV
  have k0 := h0
  have lt0 : ∀ x ∈ p0, x.block < W.heap.size := by obtain ⟨m, hm⟩ := k0; exact DataW.trod_lt m _ _ _ hm
  obtain ⟨A0, n0, c0, rfl⟩ := okWide_slice Try.underlying22 (hval 0 22 v0 rfl rfl)
  obtain ⟨fu0, hf0⟩ := h0
  obtain ⟨_, _, _, x0, e0, r0, l0, m0, ok0⟩ := open_bytes Try.underlying22 Try.underlying5 (by kernel_rfl) hf0
  simp only [Value.slice.injEq] at e0
  obtain ⟨rfl, rfl, rfl⟩ := e0
  clear hA0 hval0
  refine (walk A0 n0 c0 x0 W r0 l0 m0 ok0).mono fun e W' ⟨he, bel⟩ => ?_
  subst he
  exact ⟨_, rfl, _, _, _, [], _, [], hW', trodAll_mk1 (shut_bool Try.underlying4 _), (trodAll_cons_mk (Below.trod laidOut (by kernel_rfl) (of_decide_eq_true (by kernel_rfl)) k0 bel lt0) trodAll_mk0), rfl, bel.frame _, fun h => by cases h⟩

theorem over : Rows.fnMergedRow.holds Try.pinned (OpenSpec.ofChange Rows.fnMergedSpec) :=
  OpenClaim.holds_of_wide 9 Try.f9 rfl rfl rfl rfl rfl rfl rfl ⟨rfl, rfl, rfl, rfl, rfl⟩ rfl rfl rfl rfl rfl (by kernel_rfl) Try.func9 (by kernel_rfl)
    (of_decide_eq_true (by kernel_rfl)) (by unfold Func.isWrapper; first | (rw [if_pos (by decide +kernel)]; kernel_rfl) | (rw [if_neg (by decide +kernel)]; exact ⟨rfl, rfl⟩))
    (fun os started H enc _ => lifted os started H enc)

theorem proved : Rows.FnMergedSaid := over
#print axioms proved
end Go.Proofs.YtgnallcfahpjmaaR.fnMerged
