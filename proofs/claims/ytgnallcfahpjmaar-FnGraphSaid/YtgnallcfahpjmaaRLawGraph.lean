/- The law FnGraph returns true for every code. No condition. -/
import Derived.Test.YtgnallcfahpjmaaRRows
import Derived.Test.YtgnallcfahpjmaaRDrawN
import Derived.Test.YtgnallcfahpjmaaRFarP
import Derived.Test.YtgnallcfahpjmaaRPathI
import Derived.Test.YtgnallcfahpjmaaRValid
import Derived.Test.YtgnallcfahpjmaaRIntS
import Derived.Test.YtgnallcfahpjmaaROpen
import Derived.StillTailTactics
import Derived.Deep.RegionHeld3
import Derived.Deep.DeepCutAuto
import Derived.ChangeOld
namespace Go.Proofs.YtgnallcfahpjmaaR.fnGraph
open Go.ChangeShapes Go.WideShapes Go.ChangeAt Go.RowKit
set_option linter.unusedVariables false

theorem gd_bd' (ps : List (Int × Int)) (N a b : Int) : -1 ≤ gd ps N a b ∧ gd ps N a b < 4 := ⟨by rcases gd_sign ps N a b with h | h <;> omega, gd_lt ps N a b⟩
/-- The law's graph: its box and its edges. -/
def GBx (w : World) (g : Nat) (N : Int) (B : Option Addr) (m c : Nat) (ps : List (Int × Int)) (wx : World) : Prop :=
  Bx wx g 41 #[.int .i64 N, .slice B m c] ∧ RdP wx B m ps ∧ Below w.heap.size w wx
theorem GBx.below {w wx w' : World} {g : Nat} {N : Int} {B : Option Addr} {m c : Nat} {ps : List (Int × Int)} (h : GBx w g N B m c ps wx) (hb : Below wx.heap.size wx w') : GBx w g N B m c ps w' := ⟨h.1.below hb, h.2.1.below hb, below_trans h.2.2 hb⟩
theorem GBx.drew {w wx : World} {g : Nat} {N : Int} {B : Option Addr} {m c : Nat} {ps : List (Int × Int)} (h : GBx w g N B m c ps wx) : GBx w g N B m c ps wx.drew := h.below ((Below.refl _ _).drew)
theorem GBx.cells {w wx : World} {g : Nat} {N : Int} {B : Option Addr} {m c : Nat} {ps : List (Int × Int)} (h : GBx w g N B m c ps wx) : wx.cell? ⟨g, 0, none⟩ = some (.int .i64 N) ∧ wx.cell? ⟨g, 1, none⟩ = some (.slice B m c) := ⟨h.1.cell 0, h.1.cell 1⟩

theorem wrapk_small {x : Int} (h : -9223372036854775808 ≤ x) (h2 : x ≤ 9223372036854775807) : IntKind.i64.wrap x = x := by
  rw [IntKind.wrap_i64]
  omega
theorem rdI_cell {w : World} {bb off n k : Nat} {zs : List Int} {x : Int} (h : RdI w (some ⟨bb, off, none⟩) n zs) (hk : zs[k]? = some x) : w.cell? ⟨bb, off + k, none⟩ = some (.int .i64 x) := by
  have hl : k < zs.length := (List.getElem?_eq_some_iff.1 hk).1
  have hn : k < n := by have := h.1; omega
  obtain ⟨b', off', x', e, hb, hd, c0⟩ := h.at_ hn
  injection e with e
  injection e with e1 e2
  subst e1 e2
  have : zs[k]? = some x' := by
    have := congrArg (fun l => l[0]?) hd
    simpa using this
  rw [hk] at this
  injection this with this
  rw [this]
  exact c0

set_option maxRecDepth 100000 in
set_option maxHeartbeats 6400000 in
theorem walk (A : Option Addr) (n cap : Nat) (zs : List Int) (w : World) (h : zs.length = n ∧ Rd w 1 A n (zs.map (Value.int .u8))) (hnc : n ≤ cap) (hc : cap ≤ maxLen) (ok : ∀ z ∈ zs, 0 ≤ z ∧ z ≤ 255) :
    Calls Try.prog 5 #[.slice A n cap] w fun e w' => e = .returned (.bool true) ∧ Below w.heap.size w w' := by
  unfold maxLen at hc
  have H : Hid (RdB w A n zs) := h
  have OK := Lib.hid ok
  clear h ok
  by_cases hn : 1048576 < n
  · go_enter Try.func5, Try.ntmps5
    go_wp2_with fail
    refine (l_big _ _ _ _ (by omega)).mono ?_
    rintro e w1 ⟨rfl, rfl⟩
    rw [decide_eq_true hn]
    go_wp2_with fail
    go_ret
    exact ⟨rfl, Below.refl _ _⟩
  · go_enter Try.func5, Try.ntmps5
    go_wp2_with fail
    refine (l_big _ _ _ _ (by omega)).mono ?_
    rintro e w1 ⟨rfl, rfl⟩
    rw [decide_eq_false hn]
    go_wp2_with fail
    refine (s_DrawShort _ _ _ _ _ H.out OK.out (by omega)).mono ?_
    rintro e w1 ⟨N, B, m, c, ps, a, b, rfl, hl, hm, o1, b1⟩
    have G1 := Lib.hid (show GBx w w1.heap.size N B m c ps (w1.alloc (.cells #[.int .i64 N, .slice B m c] 41)) from ⟨Bx.new w1 _ _, (RdP.own o1).alloc _, b1.alloc b1.size _⟩)
    clear o1 hl b1
    obtain ⟨q0, q1⟩ := G1.out.cells
    obtain ⟨x, hx⟩ : ∃ x, gd ps N a b = x := ⟨_, rfl⟩
    obtain ⟨P, hP⟩ : ∃ P, spath ps N a b = P := ⟨_, rfl⟩
    obtain ⟨L, hL⟩ : ∃ L, spN ps N a b = L := ⟨_, rfl⟩
    have hL2 : L = (x + 1).toNat := by rw [← hL, spN, hx]
    have hxb := gd_bd' ps N a b
    rw [hx] at hxb
    have HX := Lib.hid hx
    have HP := Lib.hid hP
    have HL := Lib.hid hL
    have HL2 := Lib.hid hL2
    have hL4 : L ≤ 4 := by omega
    clear hx hP hL hL2
    go_wp2_with fail
    refine (i_ShortestPath _ _ _ _ _ _ ps _ G1.out.2.1 (by omega)).mono ?_
    rintro e w3 ⟨A3, c3, rfl, o3, b3⟩
    rw [HL.out] at o3 ⊢
    rw [HP.out] at o3
    have R3 := Lib.hid (RdI.own o3)
    have G3 := Lib.hid (G1.out.below b3)
    clear q0 q1 G1 b3 o3
    obtain ⟨q0, q1⟩ := G3.out.cells
    go_wp2_with fail
    refine (i_GraphDistance _ _ _ _ _ _ ps _ G3.out.2.1 (by omega)).mono ?_
    rintro e w4 ⟨rfl, b4⟩
    rw [HX.out]
    have G4 := Lib.hid (G3.out.below b4)
    have R4 := Lib.hid (R3.out.below b4)
    clear q0 q1 G3 b4 R3
    obtain ⟨q0, q1⟩ := G4.out.cells
    go_upto_region 6 with fail
    go_cut [46] (fun v wx => v = .bool false ∧ GBx w w1.heap.size N B m c ps wx ∧ RdI wx A3 L P)
    case first =>
      have U0 := G4.out.drew
      have T0 : RdI w4.drew A3 L P := R4.out.drew
      go_region_held3 (fun w' => w'.cell? ⟨w1.heap.size, 0, none⟩ = some (.int .i64 N) ∧ w'.cell? ⟨w1.heap.size, 1, none⟩ = some (.slice B m c))
        (first | exact U5.cells | exact U4.cells | exact U3.cells | exact U2.cells | exact U1.cells | go_keep)
        (first
          | (go_at_call 32; refine (s_ShortestPath _ _ _ _ _ _ ps _ U0.2.1 (by omega)).mono ?_; rintro e w5 ⟨A5, c5, rfl, o5, b5⟩; rw [HL.out] at o5 ⊢; rw [HP.out] at o5; have U1 := U0.below b5; have T1 := T0.below b5; have K5 := RdI.own o5)
          | (go_at_call 31; refine (l_sameInts _ _ _ _ _ _ _ _ _ T1 K5 (by omega) (by omega)).mono ?_; rintro e w6 ⟨rfl, b6⟩; rw [decide_eq_true (rfl : P = P)]; have U2 := U1.below b6; have T2 := T1.below b6)
          | (go_at_call 26; refine (s_GraphDistance _ _ _ _ _ _ ps _ U2.2.1 (by omega)).mono ?_; rintro e w7 ⟨rfl, b7⟩; rw [HX.out]; have U3 := U2.below b7; have T3 := T2.below b7)
          | (go_at_call 33; refine (i_IsValidGraph _ _ _ _ ps _ U3.2.1 (by omega)).mono ?_; rintro e w8 ⟨rfl, b8⟩; have U4 := U3.below b8; have T4 := T3.below b8)
          | (go_at_call 34; refine (s_IsValidGraph _ _ _ _ ps _ U4.2.1 (by omega)).mono ?_; rintro e w9 ⟨rfl, b9⟩; have U5 := U4.below b9; have T5 := T4.below b9))
      all_goals go_wp2_with fail
      all_goals go_meet
      all_goals exact ⟨by simp, U5, T5⟩
    case rest =>
      obtain ⟨rfl, g5, r5⟩ := hcut
      have G5 := Lib.hid g5
      have R5 := Lib.hid r5
      clear g5 r5 G4 R4 q0 q1
      by_cases hx0 : x < 0
      · obtain rfl : L = 0 := by have := HL2.out; omega
        go_wp2_with fail
        go_ret
        exact ⟨rfl, G5.out.2.2⟩
      · obtain ⟨d, rfl⟩ : ∃ d : Nat, x = d := ⟨x.toNat, by omega⟩
        obtain rfl : L = d + 1 := by have := HL2.out; omega
        obtain ⟨hs1, hs2, hs3, hs4⟩ := spath_law HX.out
        rw [HP.out] at hs1 hs2 hs3 hs4
        have HS4 := Lib.hid hs4
        obtain ⟨pb, off, x0, hA3, _, _, _⟩ := R5.out.at_ (show 0 < d + 1 by omega)
        subst hA3
        have H2 := Lib.hid hs2
        have H3 := Lib.hid hs3
        clear hs1 hs2 hs3 hs4
        go_wp2_with fail
        go_loopg [8] d (fun r i wr => ∃ (k : Nat), k + r = d ∧ i = .int .i64 ((k : Int) + 1) ∧ Below wc.heap.size wc wr)
        case atStart => exact ⟨0, by omega, rfl, Below.refl _ _⟩
        case round =>
          obtain ⟨k, hk, rfl, hb⟩ := hrel
          have G6 := Lib.hid (G5.out.below hb)
          have R6 := Lib.hid (R5.out.below hb)
          obtain ⟨q0, q1⟩ := G6.out.cells
          by_cases hlt : k < d
          · obtain ⟨u, v, j1, j2, j3, j4⟩ := HS4.out k hlt
            have ck := rdI_cell R6.out j1
            have ck1 := rdI_cell R6.out j2
            have J3 := Lib.hid j3
            have J4 := Lib.hid j4
            have J1 := Lib.hid j1
            have J2 := Lib.hid j2
            have hw1 : IntKind.i64.wrap (k : Int) = k := wrapk_small (by omega) (by omega)
            have hw2 : IntKind.i64.wrap ((k : Int) + 1) = (k : Int) + 1 := wrapk_small (by omega) (by omega)
            have hw3 : IntKind.i64.wrap ((k : Int) + 1 - 1) = (k : Int) := by rw [wrapk_small (by omega) (by omega)]; omega
            have hw4 : IntKind.i64.wrap ((d : Int) - ((k : Int) + 1)) = (d : Int) - ((k : Int) + 1) := wrapk_small (by omega) (by omega)
            have hi0 : (0 : Int) ≤ (k : Int) := by omega
            have hi1 : (k : Int) < ((d + 1 : Nat) : Int) := by omega
            have hi2 : (k : Int) < (d : Int) + 1 := by omega
            have hi3 : (k : Int) + 1 < (d : Int) + 1 := by omega
            have hi4 : (k : Int) + 1 < ((d + 1 : Nat) : Int) := by omega
            have hi5 : (0 : Int) ≤ (k : Int) + 1 := by omega
            clear j1 j2 j3 j4
            go_upto_region 13 with fail
            go_cut [82] (fun v wx => v = .bool false ∧ Below wr.heap.size wr wx)
            case first =>
              have U0 := G6.out.drew
              have T0 : RdI wr.drew (some ⟨pb, off, none⟩) (d + 1) P := R6.out.drew
              have V0 : Below wr.heap.size wr wr.drew := (Below.refl _ _).drew
              go_region_held3 (fun w' => (w'.cell? ⟨w1.heap.size, 0, none⟩ = some (.int .i64 N) ∧ w'.cell? ⟨w1.heap.size, 1, none⟩ = some (.slice B m c)) ∧ w'.cell? ⟨pb, off + k, none⟩ = some (.int .i64 u) ∧ w'.cell? ⟨pb, off + (k + 1), none⟩ = some (.int .i64 v))
                (first | exact ⟨U2.cells, rdI_cell T2 J1.out, rdI_cell T2 J2.out⟩ | exact ⟨U1.cells, rdI_cell T1 J1.out, rdI_cell T1 J2.out⟩ | go_keep)
                (first
                  | (go_at_call 35; refine (i_AreCoupled _ _ _ _ _ _ ps _ U0.2.1 (by omega)).mono ?_; rintro e w8 ⟨rfl, b8⟩; rw [J3.out]; have U1 := U0.below b8; have T1 := T0.below b8; have V1 := below_trans V0 b8)
                  | (go_at_call 25; refine (i_GraphDistance _ _ _ _ _ _ ps _ U1.2.1 (by omega)).mono ?_; rintro e w9 ⟨rfl, b9⟩; rw [J4.out]; have U2 := U1.below b9; have T2 := T1.below b9; have V2 := below_trans V1 b9))
              all_goals go_wp2_with fail
              all_goals go_meet
              all_goals exact ⟨by simp, V2⟩
            case rest =>
              obtain ⟨rfl, bb⟩ := hcut
              go_wp2_with fail
              go_roundg (gk - 1)
              case measure => omega
              case rel => exact ⟨k + 1, by omega, by go_num, hb.trans (bb.mono hb.size)⟩
          · have hb2 := G6.out.2.2
            obtain rfl : k = d := by omega
            have c0 : wr.cell? ⟨pb, off, none⟩ = some (.int .i64 a) := rdI_cell (k := 0) R6.out H2.out
            have c1 := rdI_cell R6.out H3.out
            have hw1 : IntKind.i64.wrap ((k : Int) + 1) = (k : Int) + 1 := wrapk_small (by omega) (by omega)
            have hi0 : (0 : Int) < ((k + 1 : Nat) : Int) := by omega
            have hi1 : (k : Int) < ((k + 1 : Nat) : Int) := by omega
            have hi2 : (0 : Int) < (k : Int) + 1 := by omega
            have hi3 : (k : Int) < (k : Int) + 1 := by omega
            have hi4 : (0 : Int) ≤ (k : Int) := by omega
            go_wp2_with fail
            go_ret
            exact ⟨rfl, hb2⟩

theorem own : ownKnob Try.prog.godebug = none := by kernel_rfl
theorem laidOut : laidOutB Try.prog = true := by kernel_rfl
set_option maxRecDepth 100000 in
theorem lifted (os : Os) (started : os.Started) (H : Type) (enc : TypeId × Value → H) :
    ReturnsInHanded {} Try.checked os 5 .any (Rows.fnGraphSpec.pre6 enc Try.prog Try.f5 Rows.fnGraphRow.domain false) (Rows.fnGraphSpec.post enc Try.prog Try.f5 false true false false) := by
  refine returnsInHanded_of_change (C := Try.checked) own started (by kernel_rfl) Try.func5
    (ChangeSpec.witness6 (enc := enc) (C := Try.checked) false ⟨#[], #[.slice none 0 0], []⟩ 8 (by kernel_rfl) (by kernel_rfl) (by kernel_rfl) (by kernel_rfl)) ?_
  intro W base args ds gs before hval0 hW hcnd _
  have hval : ∀ (j : Nat) t v, Try.f5.params[j]? = some t → args[j]? = some v → Value.okWide Try.prog W .any base t v := hval0
  have hW' := hW
  obtain ⟨p, q, hA0, hV, rfl, hfz, hnd⟩ := hW
  have hA : DataW.TrodAll enc Try.prog W 0 (fun _ => true) true Try.f5.params.toList args.toList ds p := hA0
  rw [Try.params5] at hA hval
  obtain ⟨v0, vs0, d0, ds0, p0, q0, hargs, rfl, rfl, h0, t0⟩ := trodAll_cons hA
  obtain ⟨rfl, rfl, rfl⟩ := trodAll_nil t0
  obtain rfl : args = #[v0] := by cases args; simp_all
  obtain ⟨rfl, rfl⟩ := trodVars_none hV
  have k0 := h0
  have lt0 : ∀ x ∈ p0, x.block < W.heap.size := by obtain ⟨m, hm⟩ := k0; exact DataW.trod_lt m _ _ _ hm
  obtain ⟨A0, n0, c0, rfl⟩ := okWide_slice Try.underlying22 (hval 0 22 v0 rfl rfl)
  obtain ⟨fu0, hf0⟩ := h0
  obtain ⟨_, _, _, x0, e0, r0, l0, m0, ok0⟩ := open_bytes Try.underlying22 Try.underlying5 (by kernel_rfl) hf0
  simp only [Value.slice.injEq] at e0
  obtain ⟨rfl, rfl, rfl⟩ := e0
  clear hA0 hval0
  refine (walk A0 n0 c0 x0 W r0 l0 m0 ok0).mono fun e W' ⟨he, bel⟩ => ?_
  subst he
  exact ⟨_, rfl, _, _, _, [], _, [], hW', trodAll_mk1 (shut_bool Try.underlying4 _), (trodAll_cons_mk (Below.trod laidOut (by kernel_rfl) (of_decide_eq_true (by kernel_rfl)) k0 bel lt0) trodAll_mk0), rfl, bel.frame _, fun h => by cases h⟩

theorem over : Rows.fnGraphRow.holds Try.pinned (OpenSpec.ofChange Rows.fnGraphSpec) :=
  OpenClaim.holds_of_wide 5 Try.f5 rfl rfl rfl rfl rfl rfl rfl ⟨rfl, rfl, rfl, rfl, rfl⟩ rfl rfl rfl rfl rfl (by kernel_rfl) Try.func5 (by kernel_rfl)
    (of_decide_eq_true (by kernel_rfl)) (by unfold Func.isWrapper; first | (rw [if_pos (by decide +kernel)]; kernel_rfl) | (rw [if_neg (by decide +kernel)]; exact ⟨rfl, rfl⟩))
    (fun os started H enc _ => lifted os started H enc)

theorem proved : Rows.FnGraphSaid := over
#print axioms proved
end Go.Proofs.YtgnallcfahpjmaaR.fnGraph
