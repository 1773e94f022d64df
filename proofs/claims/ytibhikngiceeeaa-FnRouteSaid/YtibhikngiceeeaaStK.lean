/- Contracts of ApplyGates, ScaleState (by a number that leaves the state), EqualState (of equal states) (spec). States of 2, 4, 8 or 16 numbers; at most 2^20 gates. Contracts of IsValidMatrix, GlobalPhase of equal matrices (spec) and of apart (laws), where both lists do the same on every basis state. One to four qubits. -/
import Derived.Test.YtibhikngiceeeaaStH
import Derived.Test.YtibhikngiceeeaaSS
import Derived.Deep.AppendLies
namespace Go.Proofs.Ytibhikngiceeeaa
open Go.RowKit
set_option linter.unusedVariables false

theorem appL_len {g : Gt} : ∀ (vs : List Dw) (i : Nat) (o o' : List Dw), appL g i vs o = some o' → o'.length = o.length
  | [], i, o, o', h => by rw [appL] at h; injection h with h; rw [h]
  | x :: r, i, o, o', h => by
    rw [appL] at h
    by_cases hz : x = Dw.zero
    · rw [if_pos hz] at h
      exact appL_len r _ _ _ h
    · rw [if_neg hz] at h
      cases hp : putAll x (goes g i) o with
      | none => rw [hp] at h; cases h
      | some o2 =>
        rw [hp] at h
        rw [appL_len r _ _ _ h]
        exact putAll_len _ _ _ hp
where
  putAll_len {x : Dw} : ∀ (l : List (Nat × Dw)) (o o' : List Dw), putAll x l o = some o' → o'.length = o.length
  | [], o, o', h => by rw [putAll] at h; injection h with h; rw [h]
  | t :: r, o, o', h => by
    rw [putAll] at h
    cases hp : putD x o t with
    | none => rw [hp] at h; cases h
    | some o2 =>
      rw [hp] at h
      rw [putAll_len r _ _ h, putD_len hp]
theorem appG_len {g : Gt} {vs o : List Dw} (h : appG g vs = some o) : o.length = vs.length := by
  unfold appG at h
  split at h
  · rw [appL_len _ _ _ _ h, List.length_replicate]
  · cases h

set_option maxRecDepth 100000 in
set_option maxHeartbeats 3200000 in
theorem s_ApplyGs (A : Option Addr) (n cap : Nat) (gs : List Gt) (B : Option Addr) (m c q : Nat) (vs out : List Dw) (w : World) (hg : RdG w A n gs) (hng : n ≤ 1048576) (h : RdD w B m vs) (h1 : 1 ≤ q) (h4 : q ≤ 4) (hm : m = 2 ^ q) (ho : appGs gs vs = some out) : Calls Try.prog 84 #[.slice A n cap, .slice B m c] w (RetDB m out w) := by
  have hp : (∀ x ∈ vs, okD x = true) ∧ appGL gs vs = some out := by
    unfold appGs at ho
    split at ho
    · rename_i h1
      simp only [Bool.and_eq_true, okS, List.all_eq_true] at h1
      exact ⟨h1.1, ho⟩
    · cases ho
  have h16 : m ≤ 16 ∧ 2 ≤ m := by rw [hm]; exact pow_16 h1 h4
  have G := Lib.hid hg
  have H := Lib.hid h
  have HM := Lib.hid hm
  have HV := Lib.hid hp.1
  have HO := Lib.hid hp.2
  clear hg h hm hp ho
  go_enter Try.func84, Try.ntmps84
  go_wp2_with fail
  refine (s_IsState _ m _ q vs _ H.out h1 h4 HM.out HV.out).mono ?_
  rintro e w1 ⟨rfl, b1⟩
  have H1 := Lib.hid (H.out.below b1)
  go_wp2_with fail
  refine (s_copyD _ _ _ vs _ H1.out (by omega)).mono ?_
  rintro e w2 ⟨A2, c2, rfl, o2, b2⟩
  have B2 := Lib.hid (below_trans b1 b2)
  have O2 := Lib.hid (ownsRow_base o2 b1.size)
  clear b1 b2 o2 H1
  go_wp2_with fail
  go_loopg [7, 6] n (fun r i s wr => ∃ (k : Nat) (cu : List Dw) (C : Option Addr) (cc : Nat), k + r = n ∧ i = .int .i64 k ∧ s = .slice C m cc ∧ cu.length = m ∧ appGL (gs.drop k) cu = some out ∧ wr.ownsRow w.heap.size 83 5 (.slice C m cc) m (cellsD cu) ∧ Below w.heap.size w wr)
  case atStart => exact ⟨0, vs, A2, c2, by omega, rfl, rfl, H.out.1, HO.out, O2.out, B2.out⟩
  case round =>
    obtain ⟨k, cu, C, cc, hk, rfl, rfl, hcu, hap, hown, hb⟩ := hrel
    have HCU := Lib.hid hcu
    have HAP := Lib.hid hap
    have HOW := Lib.hid hown
    clear hcu hap hown O2 HO
    by_cases hlt : k < n
    · obtain ⟨b, off, g, rfl, hB, hd, c0, c1, c2', c3⟩ := (G.out.below hb).at_ hlt
      have e := HAP.out
      rw [hd, appGL] at e
      obtain ⟨o, ho1, ho2⟩ : ∃ o, appG g cu = some o ∧ appGL (gs.drop (k + 1)) o = some out := by
        cases hq : appG g cu with
        | none => rw [hq] at e; cases e
        | some o => rw [hq] at e; exact ⟨o, rfl, e⟩
      have HO1 := Lib.hid ho1
      have HO2 := Lib.hid ho2
      clear e hd ho1 ho2 HAP
      have hi0 : (0 : Int) ≤ (k : Int) := by omega
      have hi1 : (k : Int) < (n : Int) := by omega
      go_wp2_with fail
      refine (s_ApplyG g _ m _ q cu o _ (RdD.own HOW.out) h1 h4 HM.out HO1.out).mono ?_
      rintro e w3 ⟨A3, c3', rfl, o3, b3⟩
      have B3 := Lib.hid (hb.trans (b3.mono hb.size))
      have O3 := Lib.hid (ownsRow_base o3 hb.size)
      clear c0 c1 c2' c3 o3 b3 hb HOW
      go_wp2_with fail
      go_roundg (gk - 1)
      case measure => omega
      case rel => exact ⟨k + 1, o, A3, c3', by omega, by go_num, rfl, by rw [appG_len HO1.out]; exact HCU.out, HO2.out, O3.out, B3.out⟩
    · have e := HAP.out
      rw [List.drop_eq_nil_of_le (by have := G.out.1; omega), appGL] at e
      injection e with e
      subst e
      go_wp2_with fail
      exact bodyPost_ret (v := .tuple #[.slice C m cc, .bool true]) (by simp [results, Try.results84, go_sem]) rfl ⟨_, _, rfl, HOW.out, hb⟩

set_option maxRecDepth 100000 in
set_option maxHeartbeats 3200000 in
theorem s_EqState (A : Option Addr) (n cap : Nat) (B : Option Addr) (c : Nat) (vs : List Dw) (w : World) (h : RdD w A n vs) (h' : RdD w B n vs) (hn : n ≤ 1048576) : Calls Try.prog 73 #[.slice A n cap, .slice B n c] w fun e w' => e = .returned (.bool true) ∧ Below w.heap.size w w' := by
  have H := Lib.hid h
  have H' := Lib.hid h'
  clear h h'
  go_enter Try.func73, Try.ntmps73
  go_wp2_with fail
  go_loopg [5] n (fun r i wr => ∃ k : Nat, k + r = n ∧ i = .int .i64 k ∧ Below w.heap.size w wr)
  case atStart => exact ⟨0, by omega, rfl, Below.refl _ _⟩
  case round =>
    obtain ⟨k, hk, rfl, hb⟩ := hrel
    by_cases hlt : k < n
    · obtain ⟨b, off, x, rfl, hB, hd, c0, c1, c2, c3, c4⟩ := (H.out.below hb).at_ hlt
      obtain ⟨b', off', x', rfl, hB', hd', d0, d1, d2, d3, d4⟩ := (H'.out.below hb).at_ hlt
      obtain rfl : x = x' := by rw [hd] at hd'; injection hd'
      clear hd hd'
      have hi0 : (0 : Int) ≤ (k : Int) := by omega
      have hi1 : (k : Int) < (n : Int) := by omega
      go_upto_region 6 with fail
      go_quiet (fail)
      go_wp2_with fail
      go_roundg (gk - 1)
      case measure => omega
      case rel => exact ⟨k + 1, by omega, by go_num, below_drewN hb _⟩
    · go_wp2_with fail
      go_ret
      exact ⟨rfl, hb⟩

theorem one_val : (Value.agg #[.int .i64 (phD 0).n.a, .int .i64 (phD 0).n.b, .int .i64 (phD 0).n.c, .int .i64 (phD 0).n.d, .int .i64 (phD 0).e]) = .agg #[.int .i64 1, .int .i64 0, .int .i64 0, .int .i64 0, .int .i64 0] := rfl
theorem redD_norm {n : Zw} : ∀ k : Nat, (k = 0 ∨ divZ n = none) → redD k n = (n, k)
  | 0, _ => rfl
  | k + 1, h => by
    rcases h with h | h
    · omega
    · rw [redD, h]
theorem scale1 {v : Dw} (h : okD v = true) : mulD v ⟨⟨1, 0, 0, 0⟩, 0⟩ = some v := by
  obtain ⟨n, k⟩ := v
  obtain ⟨hz, hk, hor, k0, k1⟩ := okD_parts h
  have ht : timesZ n ⟨1, 0, 0, 0⟩ = n := by
    obtain ⟨a, b, c, d⟩ := n
    simp [timesZ]
  have hm : mulZ n ⟨1, 0, 0, 0⟩ = some n := by
    unfold mulZ ifZ
    rw [hz, ht, hz]
    rfl
  unfold mulD
  rw [h, show okD ⟨⟨1, 0, 0, 0⟩, 0⟩ = true by decide]
  simp only [Bool.and_self, if_true, hm]
  unfold newD
  obtain ⟨K, rfl⟩ : ∃ K : Nat, k = K := ⟨k.toNat, by omega⟩
  rw [hz, Int.add_zero, show inB (K : Int) 0 120 = true from inB_t (by omega) (by omega), Int.toNat_natCast, redD_norm K (hor.imp (fun h => by omega) id)]
  simp only [Bool.and_self, if_true]
  rw [if_neg (by omega)]

set_option maxRecDepth 100000 in
set_option maxHeartbeats 3200000 in
theorem s_Scale1 (A : Option Addr) (n cap q : Nat) (vs : List Dw) (w : World) (h : RdD w A n vs) (h1 : 1 ≤ q) (h4 : q ≤ 4) (hn : n = 2 ^ q) (hv : ∀ x ∈ vs, okD x = true) : Calls Try.prog 133 #[.slice A n cap, .agg #[.int .i64 1, .int .i64 0, .int .i64 0, .int .i64 0, .int .i64 0]] w (RetDB n vs w) := by
  have H := Lib.hid h
  have HN := Lib.hid hn
  have HV := Lib.hid hv
  have hn16 : n ≤ 16 := by rw [hn]; exact (pow_16 h1 h4).1
  have X0 := Lib.hid (show DB w w.heap.size ⟨1, 0, 0, 0⟩ 0 ((w.alloc (.cells #[.int .i64 1, .int .i64 0, .int .i64 0, .int .i64 0, .int .i64 0] 83)).alloc (.cells #[] 83)) from
    ⟨(Bx.new w _ _).alloc _, ((Below.refl _ _).alloc (Nat.le_refl _) _).alloc (by simp) _, Nat.le_refl _⟩)
  have O0 := Lib.hid (show ((w.alloc (.cells #[.int .i64 1, .int .i64 0, .int .i64 0, .int .i64 0, .int .i64 0] 83)).alloc (.cells #[] 83)).ownsRow (w.heap.size + 1) 83 5 (.slice (some ⟨w.heap.size + 1, 0, none⟩) 0 0) 0 (cellsD []) from ownsRow_lit' _ #[] 0 (by simp) (by simp) (by simp [maxLen]) rfl rfl)
  clear h hn hv
  go_enter Try.func133, Try.ntmps133
  go_wp2_with fail
  go_loopg [7, 6] n (fun r i s wr => ∃ (k : Nat) (C : Option Addr) (cc : Nat), k + r = n ∧ i = .int .i64 k ∧ s = .slice C k cc ∧ wr.ownsRow (w.heap.size + 1) 83 5 (.slice C k cc) k (cellsD (vs.take k)) ∧ DB w w.heap.size ⟨1, 0, 0, 0⟩ 0 wr)
  case atStart => exact ⟨0, _, 0, by omega, rfl, rfl, O0.out, X0.out⟩
  case round =>
    obtain ⟨k, C, cc, hk, rfl, rfl, ho, hx⟩ := hrel
    have HO := Lib.hid ho
    have HX := Lib.hid hx
    clear ho hx O0 X0
    by_cases hlt : k < n
    · obtain ⟨b, off, x, rfl, hB, hd, c0, c1, c2, c3, c4⟩ := (H.out.below HX.out.2.1).at_ hlt
      obtain ⟨x0, x1, x2, x3, x4, xl⟩ := HX.out.cells
      have HM := Lib.hid (scale1 (HV.out x (List.mem_of_mem_drop (i := k) (by rw [hd]; simp))))
      have HTK := Lib.hid (take_snoc hd)
      clear hd
      have hi0 : (0 : Int) ≤ (k : Int) := by omega
      have hi1 : (k : Int) < (n : Int) := by omega
      go_upto_region 5 with fail
      go_cut [8, 9] (fun v10 v11 wx => v11 = .bool true ∧ ∃ X, v10 = .pointer (some ⟨X, 0, none⟩) ∧ Bx wx X 83 #[.int .i64 x.n.a, .int .i64 x.n.b, .int .i64 x.n.c, .int .i64 x.n.d, .int .i64 x.e] ∧ Below wr.heap.size wr wx ∧ wr.heap.size ≤ X)
      case first =>
        have HSS := Lib.hid (show ∀ wx : World, Below wr.heap.size wr wx → (wx.cell? ⟨b, off + k * 5, none⟩ = some (.int .i64 x.n.a) ∧ wx.cell? ⟨b, off + k * 5 + 1, none⟩ = some (.int .i64 x.n.b) ∧ wx.cell? ⟨b, off + k * 5 + 2, none⟩ = some (.int .i64 x.n.c) ∧ wx.cell? ⟨b, off + k * 5 + 3, none⟩ = some (.int .i64 x.n.d) ∧ wx.cell? ⟨b, off + k * 5 + 4, none⟩ = some (.int .i64 x.e)) ∧ (wx.cell? ⟨w.heap.size, 0, none⟩ = some (.int .i64 1) ∧ wx.cell? ⟨w.heap.size, 1, none⟩ = some (.int .i64 0) ∧ wx.cell? ⟨w.heap.size, 2, none⟩ = some (.int .i64 0) ∧ wx.cell? ⟨w.heap.size, 3, none⟩ = some (.int .i64 0) ∧ wx.cell? ⟨w.heap.size, 4, none⟩ = some (.int .i64 0)) from fun wx hb => ⟨⟨(hb.cell (p := ⟨b, off + k * 5, none⟩) hB).trans c0, (hb.cell (p := ⟨b, off + k * 5 + 1, none⟩) hB).trans c1, (hb.cell (p := ⟨b, off + k * 5 + 2, none⟩) hB).trans c2, (hb.cell (p := ⟨b, off + k * 5 + 3, none⟩) hB).trans c3, (hb.cell (p := ⟨b, off + k * 5 + 4, none⟩) hB).trans c4⟩, (hb.cell (p := ⟨w.heap.size, 0, none⟩) xl).trans x0, (hb.cell (p := ⟨w.heap.size, 1, none⟩) xl).trans x1, (hb.cell (p := ⟨w.heap.size, 2, none⟩) xl).trans x2, (hb.cell (p := ⟨w.heap.size, 3, none⟩) xl).trans x3, (hb.cell (p := ⟨w.heap.size, 4, none⟩) xl).trans x4⟩)
        have V0 : Below wr.heap.size wr wr.drew := (Below.refl _ _).drew
        have VA : Below wr.heap.size wr (wr.alloc (.cells #[.int .i64 0, .int .i64 0, .int .i64 0, .int .i64 0, .int .i64 0] 83)).drew := ((Below.refl _ _).alloc (Nat.le_refl _) _).drew
        go_region_held3 (fun w' => (w'.cell? ⟨b, off + k * 5, none⟩ = some (.int .i64 x.n.a) ∧ w'.cell? ⟨b, off + k * 5 + 1, none⟩ = some (.int .i64 x.n.b) ∧ w'.cell? ⟨b, off + k * 5 + 2, none⟩ = some (.int .i64 x.n.c) ∧ w'.cell? ⟨b, off + k * 5 + 3, none⟩ = some (.int .i64 x.n.d) ∧ w'.cell? ⟨b, off + k * 5 + 4, none⟩ = some (.int .i64 x.e)) ∧ (w'.cell? ⟨w.heap.size, 0, none⟩ = some (.int .i64 1) ∧ w'.cell? ⟨w.heap.size, 1, none⟩ = some (.int .i64 0) ∧ w'.cell? ⟨w.heap.size, 2, none⟩ = some (.int .i64 0) ∧ w'.cell? ⟨w.heap.size, 3, none⟩ = some (.int .i64 0) ∧ w'.cell? ⟨w.heap.size, 4, none⟩ = some (.int .i64 0)))
          (first | exact HSS.out _ V6 | exact HSS.out _ (V6.alloc (Below.size V6) _) | exact HSS.out _ (set5b V6 (Nat.le_refl _)) | exact HSS.out _ VA | exact HSS.out _ V0 | go_keep)
          (first
            | (go_at_call 161; refine (s_MulD x ⟨⟨1, 0, 0, 0⟩, 0⟩ x _ HM.out).mono ?_; rintro e w6 ⟨rfl, b6⟩; have V6 : Below wr.heap.size wr w6 := (by first | exact below_trans VA b6 | exact below_trans V0 b6); (try (have ZX := (Bx.new wr 83 #[.int .i64 0, .int .i64 0, .int .i64 0, .int .i64 0, .int .i64 0]).drew.below b6; have ⟨z0, z1, z2, z3, z4, f0, f1, f2, f3, f4⟩ := bx5 ZX)))
            | fail)
        all_goals go_wp2_with fail
        all_goals go_meet
        all_goals refine ⟨rfl, _, rfl, ?_, ?_, ?_⟩
        all_goals first
          | (with_reducible exact Bx.new w6 _ _)
          | (with_reducible exact bx5_set ZX)
          | (with_reducible exact V6.alloc (Below.size V6) _)
          | (with_reducible exact set5b V6 (Nat.le_refl _))
          | (with_reducible exact Below.size V6)
          | (with_reducible exact Nat.le_refl _)
      case rest =>
        obtain ⟨rfl, X, rfl, xb, bb, hX⟩ := hcut
        have HO7 := Lib.hid (ownsRow_below HO.out bb)
        have HX7 := Lib.hid (HX.out.below bb)
        have XB := Lib.hid xb
        clear c0 c1 c2 c3 c4 x0 x1 x2 x3 x4 xl xb bb HO HX HM hX hB
        go_wp2_with fail
        refine (s_IsState _ n _ q vs _ (H.out.below HX7.out.2.1) h1 h4 HN.out HV.out).mono ?_
        rintro e w8 ⟨rfl, b8⟩
        have HO8 := Lib.hid (ownsRow_below HO7.out b8)
        have HX8 := Lib.hid (HX7.out.below b8)
        have XB8 := Lib.hid (XB.out.below b8)
        clear b8 HO7 HX7 XB
        obtain ⟨y0, y1, y2, y3, y4, _⟩ := bx5 XB8.out
        have yl := XB8.out.lt
        have xl8 := HX8.out.1.lt
        go_wp2_with (at_builtin; refine wpList_app rfl (.tmp 34) (.tmp 36) 79 rfl Try.underlying79 infoDOmega rfl (by decide) rfl (HO8.out.alloc _) rfl (Rd.lit w8 83 #[.int .i64 x.n.a, .int .i64 x.n.b, .int .i64 x.n.c, .int .i64 x.n.d, .int .i64 x.e] 1 5 rfl) (by simp [Value.oneCell']) (by omega) (by decide) (by simp <;> omega) ?_; intro A9 c9 w9 o9 g9; have HX9 := HX8.out.1.alloc (.cells #[.int .i64 x.n.a, .int .i64 x.n.b, .int .i64 x.n.c, .int .i64 x.n.d, .int .i64 x.e] 83))
        go_roundg (gk - 1)
        case measure => omega
        case rel =>
          refine ⟨k + 1, A9, c9, by omega, by go_num, rfl, ?_, HX9.grown g9 (fun e => by have := (HO8.out.lt _ e.symm).1; omega), below_grown (HX8.out.2.1.alloc (by omega) _) (by simp; omega) (HO8.out.alloc _) (by omega) g9, Nat.le_refl _⟩
          rw [HTK.out, cellsD_append]
          exact o9
    · have : vs.take k = vs := List.take_of_length_le (by have := H.out.1; omega)
      obtain rfl : k = n := by omega
      rw [this] at HO
      go_wp2_with fail
      refine (s_IsState _ k _ q vs _ (H.out.below HX.out.2.1) h1 h4 HN.out HV.out).mono ?_
      rintro e w1 ⟨rfl, b1⟩
      go_wp2_with fail
      exact bodyPost_ret (v := .tuple #[.slice C k cc, .bool true]) (by simp [results, Try.results133, go_sem]) rfl ⟨_, _, rfl, ownsRow_below (ownsRow_base HO.out (by omega)) b1, below_trans HX.out.2.1 b1⟩
end Go.Proofs.Ytibhikngiceeeaa
namespace Go.Proofs.Ytibhikngiceeeaa
open Go.RowKit
set_option linter.unusedVariables false

theorem infoDOmegaS : (Try.prog.info? 79).map (fun i => (i.zero, i.size, i.bytes)) = some (some (.slice none 0 0), 1, 24) := by kernel_rfl

set_option maxHeartbeats 3200000 in
theorem s_IsMatrix (A : Option Addr) (n cap q : Nat) (l : List (List Dw)) (w : World) (h : RdSS cellsD w 5 A n l) (h1 : 1 ≤ q) (h4 : q ≤ 4) (hn : n = 2 ^ q) (hl : ∀ x ∈ l, x.length = n ∧ ∀ v ∈ x, okD v = true) : Calls Try.prog 99 #[.slice A n cap] w fun e w' => e = .returned (.bool true) ∧ Below w.heap.size w w' := by
  have H := Lib.hid h
  have HN := Lib.hid hn
  have HL := Lib.hid hl
  have hn16 : n ≤ 16 ∧ 2 ≤ n := by rw [hn]; exact pow_16 h1 h4
  clear h hn hl
  go_enter Try.func99, Try.ntmps99
  go_wp2_with fail
  go_loopg [3] n (fun r v wr => ∃ k : Nat, k + r = n ∧ v = .int .i64 k ∧ Below w.heap.size w wr)
  case atStart => exact ⟨0, by omega, rfl, Below.refl _ _⟩
  case round =>
    obtain ⟨k, hk, rfl, hb⟩ := hrel
    by_cases hlt : k < n
    · obtain ⟨b, off, x, B, c, rfl, hB, hd, c0, hxc, hxr⟩ := (H.out.below hb).at_ hlt
      obtain ⟨hxl, hxv⟩ := HL.out x (List.mem_of_mem_drop (i := k) (by rw [hd]; simp))
      rw [hxl] at c0 hxc hxr
      have RX := Lib.hid (show RdD wr B n x from ⟨hxl, hxr⟩)
      have HXV := Lib.hid hxv
      clear hd hxl hxv hxr
      have hi0 : (0 : Int) ≤ (k : Int) := by omega
      have hi1 : (k : Int) < (n : Int) := by omega
      go_wp2_with fail
      refine (s_IsState _ n _ q x _ RX.out h1 h4 HN.out HXV.out).mono ?_
      rintro e w1 ⟨rfl, b1⟩
      have hb2 := hb.trans (b1.mono hb.size)
      clear c0 hb b1
      go_wp2_with fail
      go_roundg (gk - 1)
      case measure => omega
      case rel => exact ⟨k + 1, by omega, by go_num, hb2⟩
    · go_wp2_with fail
      go_ret
      exact ⟨ret_bool (by simp; omega), hb⟩

set_option maxRecDepth 100000 in
set_option maxHeartbeats 3200000 in
theorem s_GPhase (A : Option Addr) (n cap q : Nat) (B : Option Addr) (cb : Nat) (l : List (List Dw)) (w : World) (h : RdSS cellsD w 5 A n l) (h' : RdSS cellsD w 5 B n l) (h1 : 1 ≤ q) (h4 : q ≤ 4) (hn : n = 2 ^ q) (hl : ∀ x ∈ l, x.length = n ∧ ∀ v ∈ x, okD v = true) : Calls Try.prog 86 #[.slice A n cap, .slice B n cb] w fun e w' => e = .returned (.tuple #[.int .i64 0, .bool true]) ∧ Below w.heap.size w w' := by
  have H := Lib.hid h
  have H' := Lib.hid h'
  have HN := Lib.hid hn
  have HL := Lib.hid hl
  have hn16 : n ≤ 16 ∧ 2 ≤ n := by rw [hn]; exact pow_16 h1 h4
  clear h h' hn hl
  go_enter Try.func86, Try.ntmps86
  go_wp2_with fail
  refine (s_IsMatrix _ n _ q l _ H.out h1 h4 HN.out HL.out).mono ?_
  rintro e w1 ⟨rfl, b1⟩
  go_wp2_with fail
  refine (s_IsMatrix _ n _ q l _ (H'.out.below b1) h1 h4 HN.out HL.out).mono ?_
  rintro e w2 ⟨rfl, b2⟩
  have B2 := Lib.hid (below_trans b1 b2)
  clear b1 b2
  go_wp2_with fail
  go_loopg [6] 8 (fun r i wr => i = .int .i64 0 ∧ Below w.heap.size w wr)
  case atStart => exact ⟨rfl, B2.out⟩
  case round =>
    obtain ⟨rfl, hb0⟩ := hrel
    have HB0 := Lib.hid hb0
    clear hb0
    go_wp2_with fail
    obtain ⟨go, rfl⟩ : ∃ go, go = gk := ⟨_, rfl⟩
    go_loopg [7, 8] n (fun r s i wr => ∃ k : Nat, k + r = n ∧ s = .bool true ∧ i = .int .i64 k ∧ Below w.heap.size w wr)
    case atStart => exact ⟨0, by omega, rfl, rfl, HB0.out⟩
    case round =>
      obtain ⟨k, hk, rfl, rfl, hb⟩ := hrel
      by_cases hlt : k < n
      · obtain ⟨b, off, x, X, cx, rfl, hB, hd, c0, hxc, hxr⟩ := (H'.out.below hb).at_ hlt
        obtain ⟨b', off', x', X', cx', rfl, hB', hd', d0, hxc', hxr'⟩ := (H.out.below hb).at_ hlt
        obtain rfl : x = x' := by rw [hd] at hd'; injection hd'
        obtain ⟨hxl, hxv⟩ := HL.out x (List.mem_of_mem_drop (i := k) (by rw [hd]; simp))
        rw [hxl] at c0 d0 hxc hxc' hxr hxr'
        have RX := Lib.hid (show RdD wr X n x from ⟨hxl, hxr⟩)
        have RX' := Lib.hid (show RdD wr X' n x from ⟨hxl, hxr'⟩)
        have HXV := Lib.hid hxv
        clear hd hd' hxl hxv hxr hxr'
        have hi0 : (0 : Int) ≤ (k : Int) := by omega
        have hi1 : (k : Int) < (n : Int) := by omega
        go_upto_region 10 with fail
        go_cut [9, 10] (fun v9 v10 wx => v10 = .bool true ∧ ∃ Z cz, v9 = .slice Z n cz ∧ RdD wx Z n x ∧ Below wr.heap.size wr wx)
        case first =>
          have V0 : Below wr.heap.size wr wr.drew := (Below.refl _ _).drew
          go_region_held3 (fun w' => w'.cell? ⟨b, off + k, none⟩ = some (.slice X n cx)) (first | exact (V2.cell (p := ⟨b, off + k, none⟩) hB).trans c0 | exact (V1.cell (p := ⟨b, off + k, none⟩) hB).trans c0 | go_keep)
            (first
              | (go_at_call 46; refine (s_Phase 0 _ (by omega)).mono ?_; rintro e w5 ⟨rfl, b5⟩; rw [one_val]; have V1 := below_trans V0 b5)
              | (go_at_call 133; refine (s_Scale1 _ n _ q x _ (RX.out.below V1) h1 h4 HN.out HXV.out).mono ?_; rintro e w6 ⟨Z, cz, rfl, o6, b6⟩; have V2 := below_trans V1 b6; have Z6 := RdD.own o6)
              | fail)
          all_goals go_wp2_with fail
          all_goals go_meet
          all_goals exact ⟨rfl, Z, cz, rfl, Z6, V2⟩
        case rest =>
          obtain ⟨rfl, Z, cz, rfl, hz, bb⟩ := hcut
          have RZ := Lib.hid hz
          have RX7 := Lib.hid (RX'.out.below bb)
          have d7 := (bb.cell (p := ⟨b', off' + k, none⟩) hB').trans d0
          have B7 := Lib.hid (hb.trans (bb.mono hb.size))
          clear hz bb c0 d0 RX RX' hb HXV
          go_wp2_with fail
          refine (s_EqState _ n _ _ _ x _ RZ.out RX7.out (by omega)).mono ?_
          rintro e w8 ⟨rfl, b8⟩
          have B8 := Lib.hid (B7.out.trans (b8.mono B7.out.size))
          clear b8 B7
          go_wp2_with fail
          go_roundg (gk - 1)
          case measure => omega
          case rel => exact ⟨k + 1, by omega, rfl, by go_num, B8.out⟩
      · go_wp2_with fail
        exact bodyPost_ret (v := .tuple #[.int .i64 0, .bool true]) (by simp [results, Try.results86, go_sem]) rfl ⟨rfl, hb⟩
end Go.Proofs.Ytibhikngiceeeaa
