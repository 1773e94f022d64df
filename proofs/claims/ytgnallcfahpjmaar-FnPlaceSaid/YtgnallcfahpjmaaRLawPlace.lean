/- The law FnPlace returns true for every code. No condition. -/
import Derived.Test.YtgnallcfahpjmaaRRows
import Derived.Test.YtgnallcfahpjmaaRDrawW
import Derived.Test.YtgnallcfahpjmaaRChooseP
import Derived.Test.YtgnallcfahpjmaaRPermJ
import Derived.Test.YtgnallcfahpjmaaRRouteP
import Derived.Test.YtgnallcfahpjmaaRFarP
import Derived.Test.YtgnallcfahpjmaaRIntS
import Derived.Test.YtgnallcfahpjmaaROpen
import Derived.StillTailTactics
import Derived.Deep.RegionHeld3
import Derived.Deep.DeepCutAuto
import Derived.ChangeOld
namespace Go.Proofs.YtgnallcfahpjmaaR.fnPlace
open Go.ChangeShapes Go.WideShapes Go.ChangeAt Go.RowKit
set_option linter.unusedVariables false

/-- The law's graph in its box, the gates drawn. -/
def PBx (w : World) (g : Nat) (N : Int) (B : Option Addr) (m c : Nat) (ps : List (Int × Int)) (G : Option Addr) (q : Nat) (gs : List Gt) (wx : World) : Prop :=
  Bx wx g 41 #[.int .i64 N, .slice B m c] ∧ RdP wx B m ps ∧ RdG wx G q gs ∧ Below w.heap.size w wx
section
variable {w wx w' : World} {g : Nat} {N : Int} {B : Option Addr} {m c : Nat} {ps : List (Int × Int)} {G : Option Addr} {q : Nat} {gs : List Gt}
theorem PBx.below (h : PBx w g N B m c ps G q gs wx) (hb : Below wx.heap.size wx w') : PBx w g N B m c ps G q gs w' := ⟨h.1.below hb, h.2.1.below hb, h.2.2.1.below hb, below_trans h.2.2.2 hb⟩
theorem PBx.drew (h : PBx w g N B m c ps G q gs wx) : PBx w g N B m c ps G q gs wx.drew := h.below ((Below.refl _ _).drew)
theorem PBx.cells (h : PBx w g N B m c ps G q gs wx) : wx.cell? ⟨g, 0, none⟩ = some (.int .i64 N) ∧ wx.cell? ⟨g, 1, none⟩ = some (.slice B m c) := ⟨h.1.cell 0, h.1.cell 1⟩
end
theorem gd_con {ps : List (Int × Int)} {N a b : Int} (h : con ps N = true) (ha : 0 ≤ a ∧ a < N) (hb : 0 ≤ b ∧ b < N) : 0 ≤ gd ps N a b := by
  unfold con at h
  simp only [Bool.and_eq_true, decide_eq_true_eq] at h
  have hN : N ≤ 4 := by rcases inB_casesQ N 1 4 with ⟨_, h1⟩ | ⟨h1, _⟩ <;> simp_all
  have h0 : ∀ x : Int, 0 ≤ x ∧ x < N → 0 ≤ gd ps N 0 x := by
    intro x hx
    have := h.2 x.toNat (by omega) (by omega)
    rwa [show ((x.toNat : Nat) : Int) = x by omega] at this
  exact (gd_tri ps N a 0 b (by rw [gd_symm]; exact h0 a ha) (h0 b hb)).1
theorem lc_sign {ps : List (Int × Int)} {N : Int} {z : List Int} (h : isLay ps N z = true) : ∀ (gs : List Gt) (x : Int), 0 ≤ x → lc ps N z gs x = -1 ∨ 0 ≤ lc ps N z gs x
  | [], x, hx => .inr hx
  | g :: r, x, hx => by
    rw [lc]
    by_cases hk : okG g.k g.a g.b g.c N = false
    · rw [if_pos hk]; exact .inl rfl
    · rw [if_neg hk]
      refine lc_sign h r _ ?_
      by_cases h2 : (arity g.k == 2) = true
      · rw [if_pos h2]
        have hok : okG g.k g.a g.b g.c N = true := by simpa using hk
        have ha := okG_a hok
        have hb := okG_b hok (by have := eq_of_beq h2; omega)
        have hcon : con ps N = true := by
          have h' := h
          unfold isLay valid at h'
          simp only [Bool.and_eq_true] at h'
          exact h'.1.2
        have := gd_con hcon (zAt_rng h ha.1 ha.2) (zAt_rng h hb.1 hb.2)
        unfold zAt at this
        omega
      · rw [if_neg h2]; exact hx
theorem lay_sign {ps : List (Int × Int)} {N : Int} {z : List Int} {gs : List Gt} : layCost ps N z gs = -1 ∨ 0 ≤ layCost ps N z gs := by
  unfold layCost
  by_cases h : isLay ps N z = true
  · rw [if_pos h]; exact lc_sign h gs 0 (by omega)
  · rw [if_neg h]; exact .inl rfl
theorem choose_le (ps : List (Int × Int)) (N : Int) (gs : List Gt) : (choose ps N gs).length ≤ 4 := by
  rcases (choose_law ps N gs).1 with h | h
  · rw [h]; simp
  · exact ((isPerm_iff _).1 h).2.2.2
theorem ssCell {w : World} {b off n k : Nat} {l : List (List Int)} {x : List Int} (h : RdSS cellsI w 1 (some ⟨b, off, none⟩) n l) (hk : l[k]? = some x) : ∃ B c, w.cell? ⟨b, off + k, none⟩ = some (Value.slice B x.length c) ∧ x.length ≤ c ∧ RdI w B x.length x := by
  obtain ⟨hl, vs, hr, hi⟩ := h
  have hkl := (List.getElem?_eq_some_iff.1 hk).1
  obtain ⟨b', off', e, hb, hc⟩ := hr.2 (by omega)
  injection e with e
  injection e with e1 e2
  subst e1 e2
  obtain ⟨B, c, a1, a2, a3⟩ := hi k x hk
  exact ⟨B, c, hc _ _ a1, a2, rfl, a3⟩

set_option maxRecDepth 100000 in
set_option maxHeartbeats 6400000 in
theorem walk (A : Option Addr) (n cap : Nat) (zs : List Int) (w : World) (h : zs.length = n ∧ Rd w 1 A n (zs.map (Value.int .u8))) (hnc : n ≤ cap) (hc : cap ≤ maxLen) (ok : ∀ z ∈ zs, 0 ≤ z ∧ z ≤ 255) :
    Calls Try.prog 6 #[.slice A n cap] w fun e w' => e = .returned (.bool true) ∧ Below w.heap.size w w' := by
  unfold maxLen at hc
  have H : Hid (RdB w A n zs) := h
  have OK := Lib.hid ok
  clear h ok
  by_cases hn : 1048576 < n
  · go_enter Try.func6, Try.ntmps6
    go_wp2_with fail
    refine (l_big _ _ _ _ (by omega)).mono ?_
    rintro e w1 ⟨rfl, rfl⟩
    rw [decide_eq_true hn]
    go_wp2_with fail
    go_ret
    exact ⟨rfl, Below.refl _ _⟩
  · go_enter Try.func6, Try.ntmps6
    go_wp2_with fail
    refine (l_big _ _ _ _ (by omega)).mono ?_
    rintro e w1 ⟨rfl, rfl⟩
    rw [decide_eq_false hn]
    go_wp2_with fail
    refine (s_DrawChoose _ _ _ _ _ H.out OK.out (by omega)).mono ?_
    rintro e w1 ⟨G, q, d, gs, N, B, m, c, ps, rfl, hl, hq, hl2, hm, og, oe, b1⟩
    have S1 := Lib.hid (show PBx w w1.heap.size N B m c ps G q gs (w1.alloc (.cells #[.int .i64 N, .slice B m c] 41)) from ⟨Bx.new w1 _ _, (RdP.own oe).alloc _, (RdG.own og).alloc _, b1.alloc b1.size _⟩)
    have HQ := Lib.hid (show gs.length ≤ 100 by omega)
    clear og oe b1 hl2 hl
    obtain ⟨q0, q1⟩ := S1.out.cells
    obtain ⟨P, hP⟩ : ∃ P, choose ps N gs = P := ⟨_, rfl⟩
    have hp4 := choose_le ps N gs
    have law := choose_law ps N gs
    rw [hP] at hp4 law
    obtain ⟨np, hnp⟩ : ∃ k, P.length = k := ⟨_, rfl⟩
    rw [hnp] at hp4
    have HP := Lib.hid hP
    have HNP := Lib.hid hnp
    have LAW := Lib.hid law
    obtain ⟨l, hL⟩ : ∃ l, perms N = l := ⟨_, rfl⟩
    have hle := perms_le N
    rw [hL] at hle
    have HROW := Lib.hid (show ∀ x ∈ l, x.length ≤ 4 from fun x hx => (perms_row N x (by rw [hL]; exact hx)).2)
    have HL := Lib.hid hL
    obtain ⟨k0, hk0⟩ : ∃ k, l.length = k := ⟨_, rfl⟩
    rw [hk0] at hle
    have HK := Lib.hid hk0
    clear hP hnp law hL hk0
    go_wp2_with fail
    refine (i_ChooseLayout _ _ _ gs _ _ _ _ ps _ S1.out.2.2.1 (by omega) S1.out.2.1 (by omega)).mono ?_
    rintro e w2 ⟨A2, c2, rfl, o2, b2⟩
    rw [HP.out] at o2 ⊢
    rw [HNP.out] at o2 ⊢
    have R2 := Lib.hid (RdI.own o2)
    have S2 := Lib.hid (S1.out.below b2)
    clear o2 b2 S1 q0 q1
    obtain ⟨q0, q1⟩ := S2.out.cells
    go_wp2_with fail
    refine (s_ChooseLayout _ _ _ gs _ _ _ _ ps _ S2.out.2.2.1 (by omega) S2.out.2.1 (by omega)).mono ?_
    rintro e w3 ⟨A3, c3, rfl, o3, b3⟩
    rw [HP.out] at o3 ⊢
    rw [HNP.out] at o3 ⊢
    have R3 := Lib.hid (RdI.own o3)
    have R3' := Lib.hid (R2.out.below b3)
    have S3 := Lib.hid (S2.out.below b3)
    clear o3 b3 S2 R2 q0 q1
    go_wp2_with fail
    refine (l_sameInts _ _ _ _ _ _ _ _ _ R3'.out R3.out (by omega) (by omega)).mono ?_
    rintro e w4 ⟨rfl, b4⟩
    rw [decide_eq_true (rfl : P = P)]
    have R4 := Lib.hid (R3'.out.below b4)
    have S4 := Lib.hid (S3.out.below b4)
    clear b4 S3 R3 R3'
    obtain ⟨q0, q1⟩ := S4.out.cells
    go_wp2_with fail
    refine (i_AllPermutations _ _).mono ?_
    rintro e w5 ⟨A5, c5, rfl, o5, b5⟩
    rw [HL.out] at o5 ⊢
    rw [HK.out] at o5 ⊢
    have R5 := Lib.hid (R4.out.below b5)
    have S5 := Lib.hid (S4.out.below b5)
    have O5 := Lib.hid (o5.rd HK.out)
    clear o5 b5 S4 R4 q0 q1
    go_wp2_with fail
    go_loopg [7] k0 (fun r i wr => ∃ (x : Nat), x + r = k0 ∧ i = .int .i64 x ∧ Below w5.heap.size w5 wr)
    case atStart => exact ⟨0, by omega, rfl, Below.refl _ _⟩
    case round =>
      obtain ⟨x, hx, rfl, hb⟩ := hrel
      have S6 := Lib.hid (S5.out.below hb)
      have R6 := Lib.hid (R5.out.below hb)
      by_cases hlt : x < k0
      · obtain ⟨ba, oa, z, Bx0, dx, rfl, hBa, hdx, ca, hxc, hxr⟩ := (O5.out.below hb).at_ hlt
        have hmem : z ∈ l := List.mem_of_mem_drop (i := x) (by rw [hdx]; simp)
        have hz4 := HROW.out z hmem
        obtain ⟨nz, hnz⟩ : ∃ k, z.length = k := ⟨_, rfl⟩
        rw [hnz] at ca hxc hz4 hxr
        have RX := Lib.hid (show RdI wr Bx0 nz z from ⟨hnz, hxr⟩)
        obtain ⟨v, hv⟩ : ∃ v, layCost ps N z gs = v := ⟨_, rfl⟩
        obtain ⟨vp, hvp⟩ : ∃ v, layCost ps N P gs = v := ⟨_, rfl⟩
        have hl2 : 0 ≤ v → P ≠ [] ∧ vp ≤ v := by
          have := LAW.out.2 z (by rw [HL.out]; exact hmem)
          rw [hv, hvp] at this
          exact this
        have hvs : v = -1 ∨ 0 ≤ v := by rw [← hv]; exact lay_sign
        have HV := Lib.hid hv
        have HVS := Lib.hid hvs
        have HVP := Lib.hid hvp
        have HLV := Lib.hid hl2
        clear hdx hmem hnz hxr hv hvp hl2 hvs
        have hi0 : (0 : Int) ≤ (x : Int) := by omega
        have hi1 : (x : Int) < (k0 : Int) := by omega
        obtain ⟨q0, q1⟩ := S6.out.cells
        go_upto_region 11 with fail
        go_cut [8] (fun u wx => u = .int .i64 v ∧ Below wr.heap.size wr wx)
        case first =>
          have U0 := S6.out.drew
          have X0 : RdI wr.drew Bx0 nz z := RX.out.drew
          have V0 : Below wr.heap.size wr wr.drew := (Below.refl _ _).drew
          go_region_held3 (fun w' => (w'.cell? ⟨w1.heap.size, 0, none⟩ = some (.int .i64 N) ∧ w'.cell? ⟨w1.heap.size, 1, none⟩ = some (.slice B m c)) ∧ w'.cell? ⟨ba, oa + x, none⟩ = some (.slice Bx0 nz dx))
            (first | exact ⟨U1.cells, k1⟩ | go_keep)
            (first
              | (go_at_call 40; refine (i_LayoutCost _ _ _ gs _ _ _ _ ps _ _ _ z _ U0.2.2.1 (by omega) U0.2.1 (by omega) X0 (by omega)).mono ?_; rintro e w6 ⟨rfl, b6⟩; rw [HV.out]; have U1 := U0.below b6; have V1 := below_trans V0 b6; have k1 := (b6.cell (p := ⟨ba, oa + x, none⟩) hBa).trans ca)
              | fail)
          all_goals go_wp2_with fail
          all_goals go_meet
          all_goals exact ⟨rfl, V1⟩
        case rest =>
          obtain ⟨rfl, bb⟩ := hcut
          have S7 := Lib.hid (S6.out.below bb)
          have R7 := Lib.hid (R6.out.below bb)
          have X7 := Lib.hid (RX.out.below bb)
          have c7 := (bb.cell (p := ⟨ba, oa + x, none⟩) hBa).trans ca
          have hBa7 : ba < wc.heap.size := Nat.lt_of_lt_of_le hBa bb.size
          have B7 := Lib.hid (hb.trans (bb.mono hb.size))
          clear bb ca hBa S6 R6 RX q0 q1 hb
          obtain ⟨q0, q1⟩ := S7.out.cells
          go_upto_region 12 with fail
          go_cut [66] (fun u wx => u = .bool false ∧ Below wc.heap.size wc wx)
          case first =>
            have U0 := S7.out.drew
            have X0 : RdI wc.drew Bx0 nz z := X7.out.drew
            have P0 : RdI wc.drew A2 np P := R7.out.drew
            have V0 : Below wc.heap.size wc wc.drew := (Below.refl _ _).drew
            by_cases hv0 : 0 ≤ v
            · obtain ⟨hPne, hvle⟩ := HLV.out hv0
              have hnp0 : np ≠ 0 := by
                intro h0
                apply hPne
                apply List.eq_nil_of_length_eq_zero
                rw [HNP.out, h0]
              have hd1 : decide (0 ≤ v) = true := decide_eq_true hv0
              have hd2 : decide (v < vp) = false := decide_eq_false (by omega)
              have hd3 : ((np : Int) == 0) = false := by
                cases hh : ((np : Int) == 0)
                · rfl
                · have := eq_of_beq hh
                  omega
              clear hPne
              go_region_held3 (fun w' => (w'.cell? ⟨w1.heap.size, 0, none⟩ = some (.int .i64 N) ∧ w'.cell? ⟨w1.heap.size, 1, none⟩ = some (.slice B m c)) ∧ w'.cell? ⟨ba, oa + x, none⟩ = some (.slice Bx0 nz dx))
                (first | exact ⟨U2.cells, k2⟩ | exact ⟨U1.cells, k1⟩ | go_keep)
                (first
                  | (go_at_call 41; refine (s_LayoutCost _ _ _ gs _ _ _ _ ps _ _ _ z _ U0.2.2.1 (by omega) U0.2.1 (by omega) X0 hxc (by omega)).mono ?_; rintro e w6 ⟨rfl, b6⟩; rw [HV.out]; have U1 := U0.below b6; have V1 := below_trans V0 b6; have P1 := P0.below b6; have k1 := (b6.cell (p := ⟨ba, oa + x, none⟩) hBa7).trans c7)
                  | (go_at_call 40; refine (i_LayoutCost _ _ _ gs _ _ _ _ ps _ _ _ P _ U1.2.2.1 (by omega) U1.2.1 (by omega) P1 (by omega)).mono ?_; rintro e w7 ⟨rfl, b7⟩; rw [HVP.out]; have U2 := U1.below b7; have V2 := below_trans V1 b7; have k2 := (b7.cell (p := ⟨ba, oa + x, none⟩) (Nat.lt_of_lt_of_le hBa7 (Below.size V1))).trans k1)
                  | fail)
              all_goals go_wp2_with fail
              all_goals go_meet
              all_goals exact ⟨by simp, V2⟩
            · obtain rfl : v = -1 := by have := HVS.out; omega
              clear hv0
              refine wp_region_held_drew (S := fun w' => (w'.cell? ⟨w1.heap.size, 0, none⟩ = some (.int .i64 N) ∧ w'.cell? ⟨w1.heap.size, 1, none⟩ = some (.slice B m c)) ∧ w'.cell? ⟨ba, oa + x, none⟩ = some (.slice Bx0 nz dx)) (by kernel_rfl) ⟨U0.cells, c7⟩ (fun hS => ?_)
              refine wpAnyH_take (i := 0) (v := ?_) rfl (by kernel_rfl) (by kernel_rfl) (by kernel_rfl) (fun _ _ _ h => h) (Or.inl ⟨by kernel_rfl, ?_⟩) hS ?_
              rotate_left
              · intro w0 hw0; obtain ⟨⟨s0, s1⟩, s2⟩ := hw0; go_simp; try with_reducible rfl
              change wpAnyH _ _ _ _ _ _ _ (Act.put _ (some 41) _) _
              refine wpAnyH_take (i := 1) (v := ?_) rfl (by kernel_rfl) (by kernel_rfl) (by kernel_rfl) (fun _ _ _ h => h) (Or.inl ⟨by kernel_rfl, ?_⟩) hS ?_
              rotate_left
              · intro w0 hw0; obtain ⟨⟨s0, s1⟩, s2⟩ := hw0; go_simp; try with_reducible rfl
              change wpAnyH _ _ _ _ _ _ _ (Act.put _ (some 42) _) _
              refine wpAnyH_take (i := 2) (v := ?_) rfl (by kernel_rfl) (by kernel_rfl) (by kernel_rfl) (fun _ _ _ h => h) (Or.inl ⟨by kernel_rfl, ?_⟩) hS ?_
              rotate_left
              · intro w0 hw0; obtain ⟨⟨s0, s1⟩, s2⟩ := hw0; go_simp; try with_reducible rfl
              change wpAnyH _ _ _ _ _ _ _ (Act.put _ (some 43) _) _
              refine wpAnyH_take (i := 3) (v := ?_) rfl (by kernel_rfl) (by kernel_rfl) (by kernel_rfl) (fun _ _ _ h => h) (Or.inl ⟨by kernel_rfl, ?_⟩) hS ?_
              rotate_left
              · intro w0 hw0; obtain ⟨⟨s0, s1⟩, s2⟩ := hw0; go_simp; try with_reducible rfl
              change wpAnyH _ _ _ _ _ _ _ (Act.put _ (some 44) _) _
              refine wpAnyH_take (i := 4) (v := ?_) rfl (by kernel_rfl) (by kernel_rfl) (by kernel_rfl) (fun _ _ _ h => h) (Or.inl ⟨by kernel_rfl, ?_⟩) hS ?_
              rotate_left
              · intro w0 hw0; obtain ⟨⟨s0, s1⟩, s2⟩ := hw0; go_simp; try with_reducible rfl
              change wpAnyH _ _ _ _ _ _ _ (Act.put _ (some 45) _) _
              refine wpAnyH_take (i := 5) (v := ?_) rfl (by kernel_rfl) (by kernel_rfl) (by kernel_rfl) (fun _ _ _ h => h) (Or.inl ⟨by kernel_rfl, ?_⟩) hS ?_
              rotate_left
              · intro w0 hw0; obtain ⟨⟨s0, s1⟩, s2⟩ := hw0; go_simp; try with_reducible rfl
              change wpAnyH _ _ _ _ _ _ _ (Act.put _ (some 46) _) _
              refine wpAnyH_take (i := 6) (v := ?_) rfl (by kernel_rfl) (by kernel_rfl) (by kernel_rfl) (fun _ _ _ h => h) (Or.inl ⟨by kernel_rfl, ?_⟩) hS ?_
              rotate_left
              · intro w0 hw0; obtain ⟨⟨s0, s1⟩, s2⟩ := hw0; go_simp; try with_reducible rfl
              change wpAnyH _ _ _ _ _ _ _ (Act.put _ (some 47) _) _
              refine wpAnyH_ready (rs := [7]) (by kernel_rfl) (by simp) ?_
              refine AllReadyH.cons rfl (fun K hK => ?_) AllReadyH.nil
              go_simp
              go_wp2_with (go_at_call 41; refine (s_LayoutCost _ _ _ gs _ _ _ _ ps _ _ _ z _ U0.2.2.1 (by omega) U0.2.1 (by omega) X0 hxc (by omega)).mono ?_; rintro e w6 ⟨rfl, b6⟩; rw [HV.out]; have U1 := U0.below b6; have V1 := below_trans V0 b6; have k1 := (b6.cell (p := ⟨ba, oa + x, none⟩) hBa7).trans c7)
              refine hK.out _ _ (⟨U1.cells, k1⟩) (fun hS => ?_)
              clear hK K
              refine wpAnyH_take (i := 8) (v := .bool false) rfl (by kernel_rfl) (by kernel_rfl) (by kernel_rfl) (fun _ _ _ h => h) (Or.inl ⟨by kernel_rfl, ?_⟩) hS ?_
              · intro w0 hw0; obtain ⟨⟨s0, s1⟩, s2⟩ := hw0; go_simp
              change wpAnyH _ _ _ _ _ _ _ (Act.put _ (some 49) _) _
              refine wpAnyH_take (i := 9) (v := ?_) rfl (by kernel_rfl) (by kernel_rfl) (by kernel_rfl) (fun _ _ _ h => h) (Or.inl ⟨by kernel_rfl, ?_⟩) hS ?_
              rotate_left
              · intro w0 hw0; obtain ⟨⟨s0, s1⟩, s2⟩ := hw0; go_simp; try with_reducible rfl
              change wpAnyH _ _ _ _ _ _ _ (Act.put _ (some 50) _) _
              refine wpAnyH_take (i := 10) (v := ?_) rfl (by kernel_rfl) (by kernel_rfl) (by kernel_rfl) (fun _ _ _ h => h) (Or.inl ⟨by kernel_rfl, ?_⟩) hS ?_
              rotate_left
              · intro w0 hw0; obtain ⟨⟨s0, s1⟩, s2⟩ := hw0; go_simp; try with_reducible rfl
              change wpAnyH _ _ _ _ _ _ _ (Act.put _ (some 51) _) _
              refine wpAnyH_take (i := 11) (v := .bool false) rfl (by kernel_rfl) (by kernel_rfl) (by kernel_rfl) (fun _ _ _ h => h) (Or.inl ⟨by kernel_rfl, ?_⟩) hS ?_
              · intro w0 hw0; obtain ⟨⟨s0, s1⟩, s2⟩ := hw0; go_simp
              change wpAnyH _ _ _ _ _ _ _ (Act.put _ (some 52) _) _
              refine wpAnyH_take (i := 12) (v := ?_) rfl (by kernel_rfl) (by kernel_rfl) (by kernel_rfl) (fun _ _ _ h => h) (Or.inl ⟨by kernel_rfl, ?_⟩) hS ?_
              rotate_left
              · intro w0 hw0; obtain ⟨⟨s0, s1⟩, s2⟩ := hw0; go_simp; try with_reducible rfl
              change wpAnyH _ _ _ _ _ _ _ (Act.put _ (some 53) _) _
              refine wpAnyH_take (i := 13) (v := undef) rfl (by kernel_rfl) (by kernel_rfl) (by kernel_rfl) (fun _ _ _ h => h) (Or.inr ⟨by kernel_rfl, rfl⟩) hS ?_
              change wpAnyH _ _ _ _ _ _ _ (Act.put _ (some 54) _) _
              refine wpAnyH_take (i := 14) (v := undef) rfl (by kernel_rfl) (by kernel_rfl) (by kernel_rfl) (fun _ _ _ h => h) (Or.inr ⟨by kernel_rfl, rfl⟩) hS ?_
              change wpAnyH _ _ _ _ _ _ _ (Act.put _ (some 55) _) _
              refine wpAnyH_take (i := 15) (v := undef) rfl (by kernel_rfl) (by kernel_rfl) (by kernel_rfl) (fun _ _ _ h => h) (Or.inr ⟨by kernel_rfl, rfl⟩) hS ?_
              change wpAnyH _ _ _ _ _ _ _ (Act.put _ (some 56) _) _
              refine wpAnyH_take (i := 16) (v := undef) rfl (by kernel_rfl) (by kernel_rfl) (by kernel_rfl) (fun _ _ _ h => h) (Or.inr ⟨by kernel_rfl, rfl⟩) hS ?_
              change wpAnyH _ _ _ _ _ _ _ (Act.put _ (some 57) _) _
              refine wpAnyH_take (i := 17) (v := undef) rfl (by kernel_rfl) (by kernel_rfl) (by kernel_rfl) (fun _ _ _ h => h) (Or.inr ⟨by kernel_rfl, rfl⟩) hS ?_
              change wpAnyH _ _ _ _ _ _ _ (Act.put _ (some 58) _) _
              refine wpAnyH_take (i := 18) (v := undef) rfl (by kernel_rfl) (by kernel_rfl) (by kernel_rfl) (fun _ _ _ h => h) (Or.inr ⟨by kernel_rfl, rfl⟩) hS ?_
              change wpAnyH _ _ _ _ _ _ _ (Act.put _ (some 59) _) _
              refine wpAnyH_take (i := 19) (v := undef) rfl (by kernel_rfl) (by kernel_rfl) (by kernel_rfl) (fun _ _ _ h => h) (Or.inr ⟨by kernel_rfl, rfl⟩) hS ?_
              change wpAnyH _ _ _ _ _ _ _ (Act.put _ (some 60) _) _
              refine wpAnyH_take (i := 20) (v := undef) rfl (by kernel_rfl) (by kernel_rfl) (by kernel_rfl) (fun _ _ _ h => h) (Or.inr ⟨by kernel_rfl, rfl⟩) hS ?_
              change wpAnyH _ _ _ _ _ _ _ (Act.put _ (some 61) _) _
              refine wpAnyH_take (i := 21) (v := undef) rfl (by kernel_rfl) (by kernel_rfl) (by kernel_rfl) (fun _ _ _ h => h) (Or.inr ⟨by kernel_rfl, rfl⟩) hS ?_
              change wpAnyH _ _ _ _ _ _ _ (Act.put _ (some 62) _) _
              refine wpAnyH_take (i := 22) (v := undef) rfl (by kernel_rfl) (by kernel_rfl) (by kernel_rfl) (fun _ _ _ h => h) (Or.inr ⟨by kernel_rfl, rfl⟩) hS ?_
              change wpAnyH _ _ _ _ _ _ _ (Act.put _ (some 63) _) _
              refine wpAnyH_take (i := 23) (v := undef) rfl (by kernel_rfl) (by kernel_rfl) (by kernel_rfl) (fun _ _ _ h => h) (Or.inr ⟨by kernel_rfl, rfl⟩) hS ?_
              change wpAnyH _ _ _ _ _ _ _ (Act.put _ (some 64) _) _
              refine wpAnyH_take (i := 24) (v := ?_) rfl (by kernel_rfl) (by kernel_rfl) (by kernel_rfl) (fun _ _ _ h => h) (Or.inl ⟨by kernel_rfl, ?_⟩) hS ?_
              rotate_left
              · intro w0 hw0; obtain ⟨⟨s0, s1⟩, s2⟩ := hw0; go_simp; try with_reducible rfl
              change wpAnyH _ _ _ _ _ _ _ (Act.put _ (some 65) _) _
              refine wpAnyH_take (i := 25) (v := ?_) rfl (by kernel_rfl) (by kernel_rfl) (by kernel_rfl) (fun _ _ _ h => h) (Or.inl ⟨by kernel_rfl, ?_⟩) hS ?_
              rotate_left
              · intro w0 hw0; obtain ⟨⟨s0, s1⟩, s2⟩ := hw0; go_simp; try with_reducible rfl
              change wpAnyH _ _ _ _ _ _ _ (Act.put _ (some 66) _) _
              refine wpAnyH_done (by kernel_rfl) ?_ _
              go_wp2_with fail
              go_simp
              go_meet
              exact ⟨by simp, V1⟩
          case rest =>
            obtain ⟨rfl, bb⟩ := hcut
            go_wp2_with fail
            go_roundg (gk - 1)
            case measure => omega
            case rel => exact ⟨x + 1, by omega, by go_num, B7.out.trans (bb.mono B7.out.size)⟩
      · by_cases hne : np = 0
        · subst hne
          go_wp2_with fail
          go_ret
          exact ⟨rfl, S6.out.2.2.2⟩
        · have hPp : isPerm P = true := by
            rcases LAW.out.1 with h0 | h0
            · exfalso
              apply hne
              rw [← HNP.out, h0]
              rfl
            · exact h0
          have HPP := Lib.hid hPp
          clear hPp
          go_wp2_with fail
          refine (i_IsPermutation _ _ _ P _ R6.out (by omega)).mono ?_
          rintro e w8 ⟨rfl, b8⟩
          rw [HPP.out]
          have S8 := Lib.hid (S6.out.below b8)
          go_wp2_with fail
          go_ret
          exact ⟨rfl, S8.out.2.2.2⟩

theorem own : ownKnob Try.prog.godebug = none := by kernel_rfl
theorem laidOut : laidOutB Try.prog = true := by kernel_rfl
set_option maxRecDepth 100000 in
theorem lifted (os : Os) (started : os.Started) (H : Type) (enc : TypeId × Value → H) :
    ReturnsInHanded {} Try.checked os 6 .any (Rows.fnPlaceSpec.pre6 enc Try.prog Try.f6 Rows.fnPlaceRow.domain false) (Rows.fnPlaceSpec.post enc Try.prog Try.f6 false true false false) := by
  refine returnsInHanded_of_change (C := Try.checked) own started (by kernel_rfl) Try.func6
    (ChangeSpec.witness6 (enc := enc) (C := Try.checked) false ⟨#[], #[.slice none 0 0], []⟩ 8 (by kernel_rfl) (by kernel_rfl) (by kernel_rfl) (by kernel_rfl)) ?_
  intro W base args ds gs before hval0 hW hcnd _
  have hval : ∀ (j : Nat) t v, Try.f6.params[j]? = some t → args[j]? = some v → Value.okWide Try.prog W .any base t v := hval0
  have hW' := hW
  obtain ⟨p, q, hA0, hV, rfl, hfz, hnd⟩ := hW
  have hA : DataW.TrodAll enc Try.prog W 0 (fun _ => true) true Try.f6.params.toList args.toList ds p := hA0
  rw [Try.params6] at hA hval
  obtain ⟨v0, vs0, d0, ds0, p0, q0, hargs, rfl, rfl, h0, t0⟩ := trodAll_cons hA
  obtain ⟨rfl, rfl, rfl⟩ := trodAll_nil t0
  obtain rfl : args = #[v0] := by cases args; simp_all
  obtain ⟨rfl, rfl⟩ := trodVars_none hV
  have k0 := h0
  have lt0 : ∀ x ∈ p0, x.block < W.heap.size := by obtain ⟨m, hm⟩ := k0; exact DataW.trod_lt m _ _ _ hm
  obtain ⟨A0, n0, c0, rfl⟩ := okWide_slice Try.underlying22 (hval 0 22 v0 rfl rfl)
  obtain ⟨fu0, hf0⟩ := h0
  obtain ⟨_, _, _, x0, e0, r0, l0, m0, ok0⟩ := open_bytes Try.underlying22 Try.underlying5 (by kernel_rfl) hf0
  simp only [Value.slice.injEq] at e0
  obtain ⟨rfl, rfl, rfl⟩ := e0
  clear hA0 hval0
  refine (walk A0 n0 c0 x0 W r0 l0 m0 ok0).mono fun e W' ⟨he, bel⟩ => ?_
  subst he
  exact ⟨_, rfl, _, _, _, [], _, [], hW', trodAll_mk1 (shut_bool Try.underlying4 _), (trodAll_cons_mk (Below.trod laidOut (by kernel_rfl) (of_decide_eq_true (by kernel_rfl)) k0 bel lt0) trodAll_mk0), rfl, bel.frame _, fun h => by cases h⟩

theorem over : Rows.fnPlaceRow.holds Try.pinned (OpenSpec.ofChange Rows.fnPlaceSpec) :=
  OpenClaim.holds_of_wide 6 Try.f6 rfl rfl rfl rfl rfl rfl rfl ⟨rfl, rfl, rfl, rfl, rfl⟩ rfl rfl rfl rfl rfl (by kernel_rfl) Try.func6 (by kernel_rfl)
    (of_decide_eq_true (by kernel_rfl)) (by unfold Func.isWrapper; first | (rw [if_pos (by decide +kernel)]; kernel_rfl) | (rw [if_neg (by decide +kernel)]; exact ⟨rfl, rfl⟩))
    (fun os started H enc _ => lifted os started H enc)

theorem proved : Rows.FnPlaceSaid := over
#print axioms proved
end Go.Proofs.YtgnallcfahpjmaaR.fnPlace
