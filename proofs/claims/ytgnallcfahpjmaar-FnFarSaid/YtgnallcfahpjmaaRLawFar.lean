/- The law FnFar returns true for every code. No condition. -/
import Derived.Test.YtgnallcfahpjmaaRRows
import Derived.Test.YtgnallcfahpjmaaRDrawN
import Derived.Test.YtgnallcfahpjmaaRFarP
import Derived.Test.YtgnallcfahpjmaaROpen
import Derived.StillTailTactics
import Derived.Deep.RegionHeld3
import Derived.Deep.DeepCutAuto
import Derived.ChangeOld
namespace Go.Proofs.YtgnallcfahpjmaaR.fnFar
open Go.ChangeShapes Go.WideShapes Go.ChangeAt Go.RowKit
set_option linter.unusedVariables false

def RetAt (w : World) (e : Ending) (w' : World) : Prop := ∃ x : Int, e = .returned (.int .i64 x) ∧ 0 ≤ x ∧ x ≤ 255 ∧ w = w'
theorem l_at0 (A : Option Addr) (n cap i : Nat) (zs : List Int) (w : World) (h : RdB w A n zs) (hz : ∀ z ∈ zs, 0 ≤ z ∧ z ≤ 255) (hn : n ≤ 1048576) (hi : i ≤ 100) :
    Calls Try.prog 24 #[.slice A n cap, .int .i64 i] w (RetAt w) := by
  have H := Lib.hid h
  have HZ := Lib.hid hz
  clear h hz
  by_cases hlt : i < n
  · obtain ⟨b, off, x, rfl, hb, hm, c0⟩ := H.out.at_ hlt
    have hx := HZ.out x hm
    have hiI : (i : Int) < (n : Int) := by omega
    clear hm
    go_enter Try.func24, Try.ntmps24
    go_wp2_with fail
    go_ret
    exact ⟨x, rfl, hx.1, hx.2, rfl⟩
  · go_enter Try.func24, Try.ntmps24
    go_wp2_with fail
    go_ret
    exact ⟨_, rfl, by omega, by omega, rfl⟩

theorem gd_bd' (ps : List (Int × Int)) (N a b : Int) : -1 ≤ gd ps N a b ∧ gd ps N a b < 4 := ⟨by rcases gd_sign ps N a b with h | h <;> omega, gd_lt ps N a b⟩
/-- The law's graph: its box and its edges. -/
def GBx (w : World) (g : Nat) (N : Int) (B : Option Addr) (m c : Nat) (ps : List (Int × Int)) (wx : World) : Prop :=
  Bx wx g 41 #[.int .i64 N, .slice B m c] ∧ RdP wx B m ps ∧ Below w.heap.size w wx
theorem GBx.below {w wx w' : World} {g : Nat} {N : Int} {B : Option Addr} {m c : Nat} {ps : List (Int × Int)} (h : GBx w g N B m c ps wx) (hb : Below wx.heap.size wx w') : GBx w g N B m c ps w' := ⟨h.1.below hb, h.2.1.below hb, below_trans h.2.2 hb⟩
theorem GBx.drew {w wx : World} {g : Nat} {N : Int} {B : Option Addr} {m c : Nat} {ps : List (Int × Int)} (h : GBx w g N B m c ps wx) : GBx w g N B m c ps wx.drew := h.below ((Below.refl _ _).drew)
theorem GBx.cells {w wx : World} {g : Nat} {N : Int} {B : Option Addr} {m c : Nat} {ps : List (Int × Int)} (h : GBx w g N B m c ps wx) : wx.cell? ⟨g, 0, none⟩ = some (.int .i64 N) ∧ wx.cell? ⟨g, 1, none⟩ = some (.slice B m c) := ⟨h.1.cell 0, h.1.cell 1⟩

set_option maxRecDepth 100000 in
set_option maxHeartbeats 3200000 in
theorem walk (A : Option Addr) (n cap : Nat) (zs : List Int) (w : World) (h : zs.length = n ∧ Rd w 1 A n (zs.map (Value.int .u8))) (hnc : n ≤ cap) (hc : cap ≤ maxLen) (ok : ∀ z ∈ zs, 0 ≤ z ∧ z ≤ 255) :
    Calls Try.prog 4 #[.slice A n cap] w fun e w' => e = .returned (.bool true) ∧ Below w.heap.size w w' := by
  unfold maxLen at hc
  have H : Hid (RdB w A n zs) := h
  have OK := Lib.hid ok
  clear h ok
  by_cases hn : 1048576 < n
  · go_enter Try.func4, Try.ntmps4
    go_wp2_with fail
    refine (l_big _ _ _ _ (by omega)).mono ?_
    rintro e w1 ⟨rfl, rfl⟩
    rw [decide_eq_true hn]
    go_wp2_with fail
    go_ret
    exact ⟨rfl, Below.refl _ _⟩
  · go_enter Try.func4, Try.ntmps4
    go_wp2_with fail
    refine (l_big _ _ _ _ (by omega)).mono ?_
    rintro e w1 ⟨rfl, rfl⟩
    rw [decide_eq_false hn]
    go_wp2_with fail
    refine (s_DrawDist _ _ _ _ _ H.out OK.out (by omega)).mono ?_
    rintro e w1 ⟨N, B, m, c, ps, a, b, rfl, hl, hm, o1, b1⟩
    have HRB := Lib.hid (show RdB (w1.alloc (.cells #[.int .i64 N, .slice B m c] 41)) A n zs from ⟨H.out.1, (H.out.2.below b1).alloc _⟩)
    have G1 := Lib.hid (show GBx w w1.heap.size N B m c ps (w1.alloc (.cells #[.int .i64 N, .slice B m c] 41)) from ⟨Bx.new w1 _ _, (RdP.own o1).alloc _, b1.alloc b1.size _⟩)
    clear o1 hl
    go_wp2_with fail
    refine (l_at0 _ _ _ 3 _ _ HRB.out OK.out (by omega) (by omega)).mono ?_
    rintro e w2 ⟨t, rfl, ht0, ht1, rfl⟩
    obtain ⟨q0, q1⟩ := G1.out.cells
    obtain ⟨x, hx⟩ : ∃ x, gd ps N a b = x := ⟨_, rfl⟩
    obtain ⟨y, hy⟩ : ∃ y, gd ps N b (t % 4) = y := ⟨_, rfl⟩
    obtain ⟨z, hz⟩ : ∃ z, gd ps N a (t % 4) = z := ⟨_, rfl⟩
    have hsym : gd ps N b a = x := by rw [gd_symm, hx]
    have htri : 0 ≤ x → 0 ≤ y → 0 ≤ z ∧ z ≤ x + y := by rw [← hx, ← hy, ← hz]; exact gd_tri ps N a b _
    have hxb := gd_bd' ps N a b
    have hyb := gd_bd' ps N b (t % 4)
    have hzb := gd_bd' ps N a (t % 4)
    rw [hx] at hxb
    rw [hy] at hyb
    rw [hz] at hzb
    have HX := Lib.hid hx
    have HY := Lib.hid hy
    have HZ := Lib.hid hz
    have HS := Lib.hid hsym
    have HT := Lib.hid htri
    clear hx hy hz hsym htri HRB
    go_wp2_with fail
    refine (i_GraphDistance _ _ _ _ _ _ ps _ G1.out.2.1 (by omega)).mono ?_
    rintro e w3 ⟨rfl, b3⟩
    rw [HX.out]
    have G3 := Lib.hid (G1.out.below b3)
    clear q0 q1 G1 b3 b1
    obtain ⟨q0, q1⟩ := G3.out.cells
    go_wp2_with fail
    refine (i_GraphDistance _ _ _ _ _ _ ps _ G3.out.2.1 (by omega)).mono ?_
    rintro e w4 ⟨rfl, b4⟩
    rw [HY.out]
    have G4 := Lib.hid (G3.out.below b4)
    clear q0 q1 G3 b4
    obtain ⟨q0, q1⟩ := G4.out.cells
    go_wp2_with fail
    refine (i_GraphDistance _ _ _ _ _ _ ps _ G4.out.2.1 (by omega)).mono ?_
    rintro e w5 ⟨rfl, b5⟩
    rw [HZ.out]
    have G5 := Lib.hid (G4.out.below b5)
    clear q0 q1 G4 b5
    obtain ⟨q0, q1⟩ := G5.out.cells
    go_upto_region 8 with fail
    obtain ⟨wd, rfl⟩ : ∃ wd, wd = w5 := ⟨_, rfl⟩
    go_cut [53] (fun v wx => v = .bool false ∧ Below w.heap.size w wx)
    case first =>
      have U0 := G5.out.drew
      go_region_held3 (fun w' => w'.cell? ⟨w1.heap.size, 0, none⟩ = some (.int .i64 N) ∧ w'.cell? ⟨w1.heap.size, 1, none⟩ = some (.slice B m c))
        (first | exact U4.cells | exact U3.cells | exact U2.cells | exact U1.cells | go_keep)
        (first
          | (go_at_call 26; refine (s_GraphDistance _ _ _ _ _ _ ps _ U0.2.1 (by omega)).mono ?_; rintro e w6 ⟨rfl, b6⟩; rw [HX.out]; have U1 := U0.below b6)
          | (go_at_call 25; refine (i_GraphDistance _ _ _ _ _ _ ps _ U1.2.1 (by omega)).mono ?_; rintro e w7 ⟨rfl, b7⟩; rw [HS.out]; have U2 := U1.below b7)
          | (go_at_call 27; refine (i_IsConnected _ _ _ _ ps _ U2.2.1 (by omega)).mono ?_; rintro e w8 ⟨rfl, b8⟩; have U3 := U2.below b8)
          | (go_at_call 28; refine (s_IsConnected _ _ _ _ ps _ U3.2.1 (by omega)).mono ?_; rintro e w9 ⟨rfl, b9⟩; have U4 := U3.below b9))
      all_goals go_wp2_with fail
      all_goals go_meet
      all_goals exact ⟨by simp, U4.2.2⟩
    case rest =>
      obtain ⟨rfl, bb⟩ := hcut
      have BB := Lib.hid bb
      clear bb
      by_cases hx : x < 0
      · go_wp2_with fail
        go_ret
        exact ⟨rfl, BB.out⟩
      · by_cases hy : y < 0
        · go_wp2_with fail
          go_ret
          exact ⟨rfl, BB.out⟩
        · obtain ⟨hz0, hz1⟩ := HT.out (by omega) (by omega)
          go_wp2_with fail
          go_ret
          exact ⟨rfl, BB.out⟩

theorem own : ownKnob Try.prog.godebug = none := by kernel_rfl
theorem laidOut : laidOutB Try.prog = true := by kernel_rfl
set_option maxRecDepth 100000 in
theorem lifted (os : Os) (started : os.Started) (H : Type) (enc : TypeId × Value → H) :
    ReturnsInHanded {} Try.checked os 4 .any (Rows.fnFarSpec.pre6 enc Try.prog Try.f4 Rows.fnFarRow.domain false) (Rows.fnFarSpec.post enc Try.prog Try.f4 false true false false) := by
  refine returnsInHanded_of_change (C := Try.checked) own started (by kernel_rfl) Try.func4
    (ChangeSpec.witness6 (enc := enc) (C := Try.checked) false ⟨#[], #[.slice none 0 0], []⟩ 8 (by kernel_rfl) (by kernel_rfl) (by kernel_rfl) (by kernel_rfl)) ?_
  intro W base args ds gs before hval0 hW hcnd _
  have hval : ∀ (j : Nat) t v, Try.f4.params[j]? = some t → args[j]? = some v → Value.okWide Try.prog W .any base t v := hval0
  have hW' := hW
  obtain ⟨p, q, hA0, hV, rfl, hfz, hnd⟩ := hW
  have hA : DataW.TrodAll enc Try.prog W 0 (fun _ => true) true Try.f4.params.toList args.toList ds p := hA0
  rw [Try.params4] at hA hval
  obtain ⟨v0, vs0, d0, ds0, p0, q0, hargs, rfl, rfl, h0, t0⟩ := trodAll_cons hA
  obtain ⟨rfl, rfl, rfl⟩ := trodAll_nil t0
  obtain rfl : args = #[v0] := by cases args; simp_all
  obtain ⟨rfl, rfl⟩ := trodVars_none hV
  have k0 := h0
  have lt0 : ∀ x ∈ p0, x.block < W.heap.size := by obtain ⟨m, hm⟩ := k0; exact DataW.trod_lt m _ _ _ hm
  obtain ⟨A0, n0, c0, rfl⟩ := okWide_slice Try.underlying22 (hval 0 22 v0 rfl rfl)
  obtain ⟨fu0, hf0⟩ := h0
  obtain ⟨_, _, _, x0, e0, r0, l0, m0, ok0⟩ := open_bytes Try.underlying22 Try.underlying5 (by kernel_rfl) hf0
  simp only [Value.slice.injEq] at e0
  obtain ⟨rfl, rfl, rfl⟩ := e0
  clear hA0 hval0
  refine (walk A0 n0 c0 x0 W r0 l0 m0 ok0).mono fun e W' ⟨he, bel⟩ => ?_
  subst he
  exact ⟨_, rfl, _, _, _, [], _, [], hW', trodAll_mk1 (shut_bool Try.underlying4 _), (trodAll_cons_mk (Below.trod laidOut (by kernel_rfl) (of_decide_eq_true (by kernel_rfl)) k0 bel lt0) trodAll_mk0), rfl, bel.frame _, fun h => by cases h⟩

theorem over : Rows.fnFarRow.holds Try.pinned (OpenSpec.ofChange Rows.fnFarSpec) :=
  OpenClaim.holds_of_wide 4 Try.f4 rfl rfl rfl rfl rfl rfl rfl ⟨rfl, rfl, rfl, rfl, rfl⟩ rfl rfl rfl rfl rfl (by kernel_rfl) Try.func4 (by kernel_rfl)
    (of_decide_eq_true (by kernel_rfl)) (by unfold Func.isWrapper; first | (rw [if_pos (by decide +kernel)]; kernel_rfl) | (rw [if_neg (by decide +kernel)]; exact ⟨rfl, rfl⟩))
    (fun os started H enc _ => lifted os started H enc)

theorem proved : Rows.FnFarSaid := over
#print axioms proved
end Go.Proofs.YtgnallcfahpjmaaR.fnFar
