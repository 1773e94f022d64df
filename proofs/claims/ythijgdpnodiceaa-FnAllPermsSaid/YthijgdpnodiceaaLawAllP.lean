/- The law FnAllPerms returns true for every code. No condition. -/
import Derived.Test.YthijgdpnodiceaaRows
import Derived.Test.YthijgdpnodiceaaPermJ
import Derived.Test.YthijgdpnodiceaaDraw
import Derived.Test.YthijgdpnodiceaaIntS
import Derived.Test.YthijgdpnodiceaaOpen
import Derived.StillTailTactics
import Derived.Deep.RegionHeld3
import Derived.ChangeOld
namespace Go.Proofs.Ythijgdpnodiceaa.fnAllPerms
open Go.ChangeShapes Go.WideShapes Go.ChangeAt Go.RowKit
set_option linter.unusedVariables false

def RetIn (p : Int → Prop) (w : World) (e : Ending) (w' : World) : Prop := ∃ x : Int, e = .returned (.int .i64 x) ∧ p x ∧ Below w.heap.size w w'
set_option maxHeartbeats 400000 in
theorem s_Draw (A : Option Addr) (n cap : Nat) (zs : List Int) (w : World) (h : RdB w A n zs) (hz : ∀ z ∈ zs, 0 ≤ z ∧ z ≤ 255) (hn : n ≤ 1048576) :
    Calls Try.prog 21 #[.slice A n cap] w (RetIn (fun x => -1 ≤ x ∧ x ≤ 5) w) := by
  have H := Lib.hid h
  have HZ := Lib.hid hz
  clear h hz
  go_enter Try.func21, Try.ntmps21
  go_wp2_with fail
  refine (s_l1New _ _ _ _ _ H.out HZ.out hn).mono ?_
  rintro e w1 ⟨g, rfl, hc1, hg, b1⟩
  go_wp2_with fail
  refine (s_l1Below _ _ _ hc1 (by omega)).mono ?_
  rintro e w2 ⟨x, rfl, ⟨hx, _⟩, hc2, g2⟩
  have hx' := hx (by omega)
  obtain ⟨hx0, hx1⟩ := hx'
  clear hx
  go_wp2_with fail
  go_ret
  exact ⟨x - 1, rfl, ⟨by omega, by omega⟩, b1.trans (below_of_grown g2 b1.size (fun k hk => by injection hk with hk; omega))⟩

theorem cellsAt {w : World} {b off n k : Nat} {l r : List (List Int)} {x : List Int} (h : RdSS cellsI w 1 (some ⟨b, off, none⟩) n l) (hd : l.drop k = x :: r) : b < w.heap.size ∧ ∃ B c, w.cell? ⟨b, off + k, none⟩ = some (Value.slice B x.length c) ∧ x.length ≤ c ∧ RdI w B x.length x := by
  have hk : k < n := by
    rcases Nat.lt_or_ge k l.length with h1 | h1
    · have := h.1; omega
    · rw [List.drop_eq_nil_of_le h1] at hd; cases hd
  obtain ⟨b', off', x', B, c, e, hb, hd', c0, c1, c2⟩ := h.at_ hk
  injection e with e
  injection e with e1 e2
  subst e1 e2
  rw [hd] at hd'
  injection hd' with e3 _
  subst e3
  exact ⟨hb, B, c, c0, c1, rfl, c2⟩
theorem nodup_ne {l : List (List Int)} (h : l.Nodup) {i k : Nat} {x y : List Int} (hki : k < i) (hx : l.drop k = x :: l.drop (k + 1)) (hy : l.drop i = y :: l.drop (i + 1)) : ¬ x = y := by
  intro e
  have h1 : l[k]? = some x := by have := congrArg (fun r => r[0]?) hx; simpa using this
  have h2 : l[i]? = some y := by have := congrArg (fun r => r[0]?) hy; simpa using this
  rw [← e] at h2
  have hi : i < l.length := (List.getElem?_eq_some_iff.1 h2).1
  have h3 := (List.getElem?_eq_some_iff.1 h1).2
  have h4 := (List.getElem?_eq_some_iff.1 h2).2
  have := (List.nodup_iff_pairwise_ne.1 h)
  have h5 := List.pairwise_iff_getElem.1 this k i (by omega) hi hki
  exact h5 (h3.trans h4.symm)

set_option maxRecDepth 100000 in
set_option maxHeartbeats 3200000 in
theorem walk (A : Option Addr) (n cap : Nat) (zs : List Int) (w : World) (h : zs.length = n ∧ Rd w 1 A n (zs.map (Value.int .u8))) (hnc : n ≤ cap) (hc : cap ≤ maxLen) (ok : ∀ z ∈ zs, 0 ≤ z ∧ z ≤ 255) :
    Calls Try.prog 4 #[.slice A n cap] w fun e w' => e = .returned (.bool true) ∧ Below w.heap.size w w' := by
  unfold maxLen at hc
  have H : Hid (RdB w A n zs) := h
  have OK := Lib.hid ok
  clear h ok
  by_cases hn : 1048576 < n
  · go_enter Try.func4, Try.ntmps4
    go_wp2_with fail
    refine (l_big _ _ _ _ (by omega)).mono ?_
    rintro e w1 ⟨rfl, rfl⟩
    rw [decide_eq_true hn]
    go_wp2_with fail
    go_ret
    exact ⟨rfl, Below.refl _ _⟩
  · go_enter Try.func4, Try.ntmps4
    go_wp2_with fail
    refine (l_big _ _ _ _ (by omega)).mono ?_
    rintro e w1 ⟨rfl, rfl⟩
    rw [decide_eq_false hn]
    go_wp2_with fail
    refine (s_Draw _ _ _ _ _ H.out OK.out (by omega)).mono ?_
    rintro e w1 ⟨N, rfl, ⟨hN0, hN1⟩, b1⟩
    obtain ⟨l, hl⟩ : ∃ l, perms N = l := ⟨_, rfl⟩
    have HL := Lib.hid hl
    have hle := perms_le N
    have HROW := Lib.hid (show ∀ x ∈ l, x.length ≤ 4 from fun x hx => (perms_row N x (by rw [hl]; exact hx)).2)
    have HPOK := Lib.hid (show ∀ x ∈ l, isPerm x = true from fun x hx => perms_ok N x (by rw [hl]; exact hx))
    have HND := Lib.hid (show l.Nodup from by rw [← hl]; exact perms_nodup N)
    rw [hl] at hle
    obtain ⟨q, hq⟩ : ∃ q, l.length = q := ⟨_, rfl⟩
    rw [hq] at hle
    have HQ := Lib.hid hq
    clear hl hq
    go_wp2_with fail
    refine (i_AllPermutations _ _).mono ?_
    rintro e w2 ⟨A2, c2, rfl, o2, b2⟩
    rw [HL.out] at o2 ⊢
    rw [HQ.out] at o2 ⊢
    go_wp2_with fail
    refine (s_AllPermutations _ _).mono ?_
    rintro e w3 ⟨A3, c3, rfl, o3, b3⟩
    rw [HL.out] at o3 ⊢
    rw [HQ.out] at o3 ⊢
    have R2 := Lib.hid ((o2.below b3).rd HQ.out)
    have R3 := Lib.hid (o3.rd HQ.out)
    have b03 := below_trans (below_trans b1 b2) b3
    clear o2 o3 b1 b2 b3
    go_wp2_with fail
    go_loopg [6] q (fun r i wr => ∃ (x : Nat), x + r = q ∧ i = .int .i64 x ∧ Below w3.heap.size w3 wr)
    case atStart => exact ⟨0, by omega, rfl, Below.refl _ _⟩
    case round =>
      obtain ⟨i, hi, rfl, hb⟩ := hrel
      by_cases hlt : i < q
      · obtain ⟨ba, oa, x, Bx0, dx, rfl, hBa, hdx, ca, hxc, hxr⟩ := (R2.out.below hb).at_ hlt
        obtain ⟨bb, ob, x', By0, dy, rfl, hBb, hdy, cb, hyc, hyr⟩ := (R3.out.below hb).at_ hlt
        obtain rfl : x = x' := by rw [hdx] at hdy; injection hdy
        have hmem : x ∈ l := List.mem_of_mem_drop (i := i) (by rw [hdx]; simp)
        have hx4 := HROW.out x hmem
        have HP := Lib.hid (HPOK.out x hmem)
        have HDX := Lib.hid hdx
        obtain ⟨nx, hnx⟩ : ∃ nx, x.length = nx := ⟨_, rfl⟩
        rw [hnx] at ca cb hxc hyc hx4 hxr hyr
        have RX := Lib.hid (show RdI wr Bx0 nx x from ⟨hnx, hxr⟩)
        have RY := Lib.hid (show RdI wr By0 nx x from ⟨hnx, hyr⟩)
        have HNX := Lib.hid hnx
        clear hdx hdy hmem hnx hxr hyr
        have hi0 : (0 : Int) ≤ (i : Int) := by omega
        have hi1 : (i : Int) < (q : Int) := by omega
        have hs3 := hb.size
        go_wp2_with fail
        go_region_held3 (fun w' => w'.cell? ⟨ba, oa + i, none⟩ = some (.slice Bx0 nx dx) ∧ w'.cell? ⟨bb, ob + i, none⟩ = some (.slice By0 nx dy))
          (first | go_keep | exact ⟨k0, k1⟩ | exact ⟨j0, j1⟩)
          (first
            | (go_at_call 22; (with_reducible refine (l_sameInts _ _ _ _ _ _ x x _ RX.out.drew RY.out.drew (by omega) (by omega)).mono ?_); rintro e w4 ⟨rfl, b4⟩; rw [decide_eq_true rfl]; have k0 := (b4.cell (p := ⟨ba, oa + i, none⟩) hBa).trans ca; have k1 := (b4.cell (p := ⟨bb, ob + i, none⟩) hBb).trans cb; have RX4 := RX.out.drew.below b4; have s4 := b4.size)
            | (go_at_call 23; (with_reducible refine (i_IsPermutation _ _ _ x _ RX4 (by omega)).mono ?_); rintro e w5 ⟨rfl, b5⟩; rw [HP.out]; have b6 := below_trans b4 b5; have j0 := (b6.cell (p := ⟨ba, oa + i, none⟩) hBa).trans ca; have j1 := (b6.cell (p := ⟨bb, ob + i, none⟩) hBb).trans cb)
            | fail)
        all_goals go_wp2_with fail
        have b05 : Below w3.heap.size w3 w5 := hb.drew.trans (b6.mono hb.size)
        clear b4 b5 b6 k0 k1 j0 j1 RX4 s4 ca cb hb hs3 RX RY
        obtain ⟨go, rfl⟩ : ∃ go, go = gk := ⟨_, rfl⟩
        go_loopg [7] i (fun r k wr => ∃ (y : Nat), y + r = i ∧ k = .int .i64 y ∧ Below w3.heap.size w3 wr)
        case atStart => exact ⟨0, by omega, rfl, b05⟩
        case round =>
          obtain ⟨k, hk, rfl, hb⟩ := hrel
          clear b05
          by_cases hki : k < i
          · have hR2 := R2.out.below hb
            obtain ⟨ba', oa', y, By1, dy1, hea, _, hdy, cy, hyc1, hyr⟩ := hR2.at_ (show k < q by omega)
            injection hea with hea
            injection hea with he1 he2
            subst he1 he2
            obtain ⟨hBa1, Bx1, dx1, cx, hxc1, hxr⟩ := cellsAt hR2 HDX.out
            have hmem : y ∈ l := List.mem_of_mem_drop (i := k) (by rw [hdy]; simp)
            have hy4 := HROW.out y hmem
            have HNE := Lib.hid (nodup_ne HND.out hki hdy HDX.out)
            rw [HNX.out] at cx hxc1 hxr
            obtain ⟨ny, hny⟩ : ∃ ny, y.length = ny := ⟨_, rfl⟩
            rw [hny] at cy hyc1 hy4 hyr
            have RY := Lib.hid (show RdI wr By1 ny y from ⟨hny, hyr⟩)
            have RX := Lib.hid hxr
            clear hny hyr hxr hmem hdy hR2
            have hk0 : (0 : Int) ≤ (k : Int) := by omega
            have hk1 : (k : Int) < (q : Int) := by omega
            go_wp2_with fail
            go_still_tail 8, (by kernel_rfl)
            go_wp2_with (go_at_call 22; refine (l_sameInts _ _ _ _ _ _ y x _ RY.out.drew RX.out.drew (by omega) (by omega)).mono ?_; rintro e w6 ⟨rfl, b6⟩; rw [decide_eq_false HNE.out])
            go_roundg (gk - 1)
            case measure => omega
            case rel => exact ⟨k + 1, by omega, by go_num, hb.drew.trans (Below.mono b6 hb.size)⟩
          · go_wp2_with fail
            go_roundg (go - 1)
            case measure => omega
            case rel => exact ⟨i + 1, by omega, by go_num, hb⟩
      · have bend := b03.trans (hb.mono b03.size)
        by_cases h1 : N < 1
        · go_wp2_with fail
          go_ret
          exact ⟨rfl, bend⟩
        · by_cases h4 : 4 < N
          · go_wp2_with fail
            go_ret
            exact ⟨rfl, bend⟩
          · have hq : q = (perms N).length := by rw [HL.out, HQ.out]
            obtain h | h | h | h : N = 1 ∨ N = 2 ∨ N = 3 ∨ N = 4 := by omega
            · subst h
              obtain rfl : q = 1 := by rw [hq]; decide +kernel
              clear hq
              go_wp2_with fail
              go_ret
              exact ⟨rfl, bend.alloc bend.size _⟩
            · subst h
              obtain rfl : q = 2 := by rw [hq]; decide +kernel
              clear hq
              go_wp2_with fail
              go_ret
              exact ⟨rfl, bend.alloc bend.size _⟩
            · subst h
              obtain rfl : q = 6 := by rw [hq]; decide +kernel
              clear hq
              go_wp2_with fail
              go_ret
              exact ⟨rfl, bend.alloc bend.size _⟩
            · subst h
              obtain rfl : q = 24 := by rw [hq]; decide +kernel
              clear hq
              go_wp2_with fail
              go_ret
              exact ⟨rfl, bend.alloc bend.size _⟩

theorem own : ownKnob Try.prog.godebug = none := by kernel_rfl
theorem laidOut : laidOutB Try.prog = true := by kernel_rfl
set_option maxRecDepth 100000 in
theorem lifted (os : Os) (started : os.Started) (H : Type) (enc : TypeId × Value → H) :
    ReturnsInHanded {} Try.checked os 4 .any (Rows.fnAllPermsSpec.pre6 enc Try.prog Try.f4 Rows.fnAllPermsRow.domain false) (Rows.fnAllPermsSpec.post enc Try.prog Try.f4 false true false false) := by
  refine returnsInHanded_of_change (C := Try.checked) own started (by kernel_rfl) Try.func4
    (ChangeSpec.witness6 (enc := enc) (C := Try.checked) false ⟨#[], #[.slice none 0 0], []⟩ 8 (by kernel_rfl) (by kernel_rfl) (by kernel_rfl) (by kernel_rfl)) ?_
  intro W base args ds gs before hval0 hW hcnd _
  have hval : ∀ (j : Nat) t v, Try.f4.params[j]? = some t → args[j]? = some v → Value.okWide Try.prog W .any base t v := hval0
  have hW' := hW
  obtain ⟨p, q, hA0, hV, rfl, hfz, hnd⟩ := hW
  have hA : DataW.TrodAll enc Try.prog W 0 (fun _ => true) true Try.f4.params.toList args.toList ds p := hA0
  rw [Try.params4] at hA hval
  obtain ⟨v0, vs0, d0, ds0, p0, q0, hargs, rfl, rfl, h0, t0⟩ := trodAll_cons hA
  obtain ⟨rfl, rfl, rfl⟩ := trodAll_nil t0
  obtain rfl : args = #[v0] := by cases args; simp_all
  obtain ⟨rfl, rfl⟩ := trodVars_none hV
  have k0 := h0
  have lt0 : ∀ x ∈ p0, x.block < W.heap.size := by obtain ⟨m, hm⟩ := k0; exact DataW.trod_lt m _ _ _ hm
  obtain ⟨A0, n0, c0, rfl⟩ := okWide_slice Try.underlying27 (hval 0 27 v0 rfl rfl)
  obtain ⟨fu0, hf0⟩ := h0
  obtain ⟨_, _, _, x0, e0, r0, l0, m0, ok0⟩ := open_bytes Try.underlying27 Try.underlying5 (by kernel_rfl) hf0
  simp only [Value.slice.injEq] at e0
  obtain ⟨rfl, rfl, rfl⟩ := e0
  clear hA0 hval0
  refine (walk A0 n0 c0 x0 W r0 l0 m0 ok0).mono fun e W' ⟨he, bel⟩ => ?_
  subst he
  exact ⟨_, rfl, _, _, _, [], _, [], hW', trodAll_mk1 (shut_bool Try.underlying4 _), (trodAll_cons_mk (Below.trod laidOut (by kernel_rfl) (of_decide_eq_true (by kernel_rfl)) k0 bel lt0) trodAll_mk0), rfl, bel.frame _, fun h => by cases h⟩

theorem over : Rows.fnAllPermsRow.holds Try.pinned (OpenSpec.ofChange Rows.fnAllPermsSpec) :=
  OpenClaim.holds_of_wide 4 Try.f4 rfl rfl rfl rfl rfl rfl rfl ⟨rfl, rfl, rfl, rfl, rfl⟩ rfl rfl rfl rfl rfl (by kernel_rfl) Try.func4 (by kernel_rfl)
    (of_decide_eq_true (by kernel_rfl)) (by unfold Func.isWrapper; first | (rw [if_pos (by decide +kernel)]; kernel_rfl) | (rw [if_neg (by decide +kernel)]; exact ⟨rfl, rfl⟩))
    (fun os started H enc _ => lifted os started H enc)

theorem proved : Rows.FnAllPermsSaid := over
#print axioms proved
end Go.Proofs.Ythijgdpnodiceaa.fnAllPerms
