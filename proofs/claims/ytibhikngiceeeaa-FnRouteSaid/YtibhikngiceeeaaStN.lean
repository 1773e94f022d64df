/- Contracts of ScaleState by any number, EqualState, GlobalPhase (spec), where all goes well. States of 2, 4, 8 or 16 numbers. -/
import Derived.Test.YtibhikngiceeeaaStK
import Derived.BigQuiet
namespace Go.Proofs.Ytibhikngiceeeaa
open Go.RowKit
set_option linter.unusedVariables false

set_option maxRecDepth 100000 in
set_option maxHeartbeats 3200000 in
theorem s_ScaleG (y : Dw) (f : Dw → Dw) (A : Option Addr) (n cap q : Nat) (vs : List Dw) (w : World) (h : RdD w A n vs) (h1 : 1 ≤ q) (h4 : q ≤ 4) (hn : n = 2 ^ q) (hv : ∀ x ∈ vs, okD x = true) (hf : ∀ x ∈ vs, mulD x y = some (f x)) : Calls Try.prog 133 #[.slice A n cap, .agg #[.int .i64 y.n.a, .int .i64 y.n.b, .int .i64 y.n.c, .int .i64 y.n.d, .int .i64 y.e]] w (RetDB n (vs.map f) w) := by
  have H := Lib.hid h
  have HN := Lib.hid hn
  have HV := Lib.hid hv
  have HF := Lib.hid hf
  have HLV := Lib.hid h.1
  have hn16 : n ≤ 16 := by rw [hn]; exact (pow_16 h1 h4).1
  have X0 := Lib.hid (show DB w w.heap.size y.n y.e ((w.alloc (.cells #[.int .i64 y.n.a, .int .i64 y.n.b, .int .i64 y.n.c, .int .i64 y.n.d, .int .i64 y.e] 83)).alloc (.cells #[] 83)) from
    ⟨(Bx.new w _ _).alloc _, ((Below.refl _ _).alloc (Nat.le_refl _) _).alloc (by simp) _, Nat.le_refl _⟩)
  have O0 := Lib.hid (show ((w.alloc (.cells #[.int .i64 y.n.a, .int .i64 y.n.b, .int .i64 y.n.c, .int .i64 y.n.d, .int .i64 y.e] 83)).alloc (.cells #[] 83)).ownsRow (w.heap.size + 1) 83 5 (.slice (some ⟨w.heap.size + 1, 0, none⟩) 0 0) 0 (cellsD []) from ownsRow_lit' _ #[] 0 (by simp) (by simp) (by simp [maxLen]) rfl rfl)
  clear h hn hv hf
  go_enter Try.func133, Try.ntmps133
  go_wp2_with fail
  go_loopg [7, 6] n (fun r i s wr => ∃ (k : Nat) (C : Option Addr) (cc : Nat), k + r = n ∧ i = .int .i64 k ∧ s = .slice C k cc ∧ wr.ownsRow (w.heap.size + 1) 83 5 (.slice C k cc) k (cellsD ((vs.take k).map f)) ∧ DB w w.heap.size y.n y.e wr)
  case atStart => exact ⟨0, _, 0, by omega, rfl, rfl, O0.out, X0.out⟩
  case round =>
    obtain ⟨k, C, cc, hk, rfl, rfl, ho, hx⟩ := hrel
    have HO := Lib.hid ho
    have HX := Lib.hid hx
    clear ho hx O0 X0
    by_cases hlt : k < n
    · obtain ⟨b, off, x, rfl, hB, hd, c0, c1, c2, c3, c4⟩ := (H.out.below HX.out.2.1).at_ hlt
      obtain ⟨x0, x1, x2, x3, x4, xl⟩ := HX.out.cells
      have HM := Lib.hid (HF.out x (List.mem_of_mem_drop (i := k) (by rw [hd]; simp)))
      have HTK := Lib.hid (take_snoc hd)
      clear hd
      have hi0 : (0 : Int) ≤ (k : Int) := by omega
      have hi1 : (k : Int) < (n : Int) := by omega
      go_upto_region 5 with fail
      go_cut [8, 9] (fun v10 v11 wx => v11 = .bool true ∧ ∃ X, v10 = .pointer (some ⟨X, 0, none⟩) ∧ Bx wx X 83 #[.int .i64 (f x).n.a, .int .i64 (f x).n.b, .int .i64 (f x).n.c, .int .i64 (f x).n.d, .int .i64 (f x).e] ∧ Below wr.heap.size wr wx ∧ wr.heap.size ≤ X)
      case first =>
        have HSS := Lib.hid (show ∀ wx : World, Below wr.heap.size wr wx → (wx.cell? ⟨b, off + k * 5, none⟩ = some (.int .i64 x.n.a) ∧ wx.cell? ⟨b, off + k * 5 + 1, none⟩ = some (.int .i64 x.n.b) ∧ wx.cell? ⟨b, off + k * 5 + 2, none⟩ = some (.int .i64 x.n.c) ∧ wx.cell? ⟨b, off + k * 5 + 3, none⟩ = some (.int .i64 x.n.d) ∧ wx.cell? ⟨b, off + k * 5 + 4, none⟩ = some (.int .i64 x.e)) ∧ (wx.cell? ⟨w.heap.size, 0, none⟩ = some (.int .i64 y.n.a) ∧ wx.cell? ⟨w.heap.size, 1, none⟩ = some (.int .i64 y.n.b) ∧ wx.cell? ⟨w.heap.size, 2, none⟩ = some (.int .i64 y.n.c) ∧ wx.cell? ⟨w.heap.size, 3, none⟩ = some (.int .i64 y.n.d) ∧ wx.cell? ⟨w.heap.size, 4, none⟩ = some (.int .i64 y.e)) from fun wx hb => ⟨⟨(hb.cell (p := ⟨b, off + k * 5, none⟩) hB).trans c0, (hb.cell (p := ⟨b, off + k * 5 + 1, none⟩) hB).trans c1, (hb.cell (p := ⟨b, off + k * 5 + 2, none⟩) hB).trans c2, (hb.cell (p := ⟨b, off + k * 5 + 3, none⟩) hB).trans c3, (hb.cell (p := ⟨b, off + k * 5 + 4, none⟩) hB).trans c4⟩, (hb.cell (p := ⟨w.heap.size, 0, none⟩) xl).trans x0, (hb.cell (p := ⟨w.heap.size, 1, none⟩) xl).trans x1, (hb.cell (p := ⟨w.heap.size, 2, none⟩) xl).trans x2, (hb.cell (p := ⟨w.heap.size, 3, none⟩) xl).trans x3, (hb.cell (p := ⟨w.heap.size, 4, none⟩) xl).trans x4⟩)
        have V0 : Below wr.heap.size wr wr.drew := (Below.refl _ _).drew
        have VA : Below wr.heap.size wr (wr.alloc (.cells #[.int .i64 0, .int .i64 0, .int .i64 0, .int .i64 0, .int .i64 0] 83)).drew := ((Below.refl _ _).alloc (Nat.le_refl _) _).drew
        go_region_held3 (fun w' => (w'.cell? ⟨b, off + k * 5, none⟩ = some (.int .i64 x.n.a) ∧ w'.cell? ⟨b, off + k * 5 + 1, none⟩ = some (.int .i64 x.n.b) ∧ w'.cell? ⟨b, off + k * 5 + 2, none⟩ = some (.int .i64 x.n.c) ∧ w'.cell? ⟨b, off + k * 5 + 3, none⟩ = some (.int .i64 x.n.d) ∧ w'.cell? ⟨b, off + k * 5 + 4, none⟩ = some (.int .i64 x.e)) ∧ (w'.cell? ⟨w.heap.size, 0, none⟩ = some (.int .i64 y.n.a) ∧ w'.cell? ⟨w.heap.size, 1, none⟩ = some (.int .i64 y.n.b) ∧ w'.cell? ⟨w.heap.size, 2, none⟩ = some (.int .i64 y.n.c) ∧ w'.cell? ⟨w.heap.size, 3, none⟩ = some (.int .i64 y.n.d) ∧ w'.cell? ⟨w.heap.size, 4, none⟩ = some (.int .i64 y.e)))
          (first | exact HSS.out _ V6 | exact HSS.out _ (V6.alloc (Below.size V6) _) | exact HSS.out _ (set5b V6 (Nat.le_refl _)) | exact HSS.out _ VA | exact HSS.out _ V0 | go_keep)
          (first
            | (go_at_call 161; refine (s_MulD x y (f x) _ HM.out).mono ?_; rintro e w6 ⟨rfl, b6⟩; have V6 : Below wr.heap.size wr w6 := (by first | exact below_trans VA b6 | exact below_trans V0 b6); (try (have ZX := (Bx.new wr 83 #[.int .i64 0, .int .i64 0, .int .i64 0, .int .i64 0, .int .i64 0]).drew.below b6; have ⟨z0, z1, z2, z3, z4, f0, f1, f2, f3, f4⟩ := bx5 ZX)))
            | fail)
        all_goals go_wp2_with fail
        all_goals go_meet
        all_goals refine ⟨rfl, _, rfl, ?_, ?_, ?_⟩
        all_goals first
          | (with_reducible exact Bx.new w6 _ _)
          | (with_reducible exact bx5_set ZX)
          | (with_reducible exact V6.alloc (Below.size V6) _)
          | (with_reducible exact set5b V6 (Nat.le_refl _))
          | (with_reducible exact Below.size V6)
          | (with_reducible exact Nat.le_refl _)
      case rest =>
        obtain ⟨rfl, X, rfl, xb, bb, hX⟩ := hcut
        have HO7 := Lib.hid (ownsRow_below HO.out bb)
        have HX7 := Lib.hid (HX.out.below bb)
        have XB := Lib.hid xb
        clear c0 c1 c2 c3 c4 x0 x1 x2 x3 x4 xl xb bb HO HX HM hX hB
        go_wp2_with fail
        refine (s_IsState _ n _ q vs _ (H.out.below HX7.out.2.1) h1 h4 HN.out HV.out).mono ?_
        rintro e w8 ⟨rfl, b8⟩
        have HO8 := Lib.hid (ownsRow_below HO7.out b8)
        have HX8 := Lib.hid (HX7.out.below b8)
        have XB8 := Lib.hid (XB.out.below b8)
        clear b8 HO7 HX7 XB
        obtain ⟨y0, y1, y2, y3, y4, _⟩ := bx5 XB8.out
        have yl := XB8.out.lt
        have xl8 := HX8.out.1.lt
        go_wp2_with (at_builtin; refine wpList_app rfl (.tmp 34) (.tmp 36) 79 rfl Try.underlying79 infoDOmega rfl (by decide) rfl (HO8.out.alloc _) rfl (Rd.lit w8 83 #[.int .i64 (f x).n.a, .int .i64 (f x).n.b, .int .i64 (f x).n.c, .int .i64 (f x).n.d, .int .i64 (f x).e] 1 5 rfl) (by simp [Value.oneCell']) (by omega) (by decide) (by simp <;> omega) ?_; intro A9 c9 w9 o9 g9; have HX9 := HX8.out.1.alloc (.cells #[.int .i64 (f x).n.a, .int .i64 (f x).n.b, .int .i64 (f x).n.c, .int .i64 (f x).n.d, .int .i64 (f x).e] 83))
        go_roundg (gk - 1)
        case measure => omega
        case rel =>
          refine ⟨k + 1, A9, c9, by omega, by go_num, rfl, ?_, HX9.grown g9 (fun e => by have := (HO8.out.lt _ e.symm).1; omega), below_grown (HX8.out.2.1.alloc (by omega) _) (by simp; omega) (HO8.out.alloc _) (by omega) g9, Nat.le_refl _⟩
          rw [HTK.out, List.map_append, cellsD_append]
          exact o9
    · have : vs.take k = vs := List.take_of_length_le (by have := H.out.1; omega)
      obtain rfl : k = n := by omega
      rw [this] at HO
      go_wp2_with fail
      refine (s_IsState _ k _ q vs _ (H.out.below HX.out.2.1) h1 h4 HN.out HV.out).mono ?_
      rintro e w1 ⟨rfl, b1⟩
      go_wp2_with fail
      exact bodyPost_ret (v := .tuple #[.slice C k cc, .bool true]) (by simp [results, Try.results133, go_sem]) rfl ⟨_, _, rfl, ownsRow_below (ownsRow_base HO.out (by omega)) b1, below_trans HX.out.2.1 b1⟩
theorem eqZV (x y : Zw) (w : World) : (Op.equalIn 9999 81 (.agg #[.int .i64 x.a, .int .i64 x.b, .int .i64 x.c, .int .i64 x.d]) (.agg #[.int .i64 y.a, .int .i64 y.b, .int .i64 y.c, .int .i64 y.d])).run Try.prog w = .ok (x.a == y.a && (x.b == y.b && (x.c == y.c && x.d == y.d))) w := by
  have u3 := Try.underlying3
  have a3 := Try.isAgg3
  have z3 := Try.sizeOf3
  have hZ : Try.prog.underlying 81 = some (.struct (Try.prog.fieldsOf 81)) := by kernel_rfl
  rw [show (9999 : Nat) = 9998 + 1 from rfl, run_equalIn_agg w 9998 81 _ _ hZ (by kernel_rfl)]
  simp only [Program.fieldsOf, Try.underlying81]
  go_simp
  by_cases h1 : x.a = y.a <;> by_cases h2 : x.b = y.b <;> by_cases h3 : x.c = y.c <;> by_cases h4 : x.d = y.d <;> simp [h1, h2, h3, h4]
theorem partDN (x : Dw) (w : World) : (part 81 #[.int .i64 x.n.a, .int .i64 x.n.b, .int .i64 x.n.c, .int .i64 x.n.d, .int .i64 x.e] 0).run Try.prog w = .ok (.agg #[.int .i64 x.n.a, .int .i64 x.n.b, .int .i64 x.n.c, .int .i64 x.n.d]) w := by kernel_rfl
theorem partDE (x : Dw) (w : World) : (part 3 #[.int .i64 x.n.a, .int .i64 x.n.b, .int .i64 x.n.c, .int .i64 x.n.d, .int .i64 x.e] 4).run Try.prog w = .ok (.int .i64 x.e) w := by kernel_rfl
theorem eqDV (x y : Dw) (w : World) : (Op.equalIn 10000 83 (.agg #[.int .i64 x.n.a, .int .i64 x.n.b, .int .i64 x.n.c, .int .i64 x.n.d, .int .i64 x.e]) (.agg #[.int .i64 y.n.a, .int .i64 y.n.b, .int .i64 y.n.c, .int .i64 y.n.d, .int .i64 y.e])).run Try.prog w = .ok (decide (x = y)) w := by
  have hS : Try.prog.underlying 83 = some (.struct (Try.prog.fieldsOf 83)) := by kernel_rfl
  rw [show (10000 : Nat) = 9999 + 1 from rfl, run_equalIn_agg w 9999 83 _ _ hS (by kernel_rfl)]
  simp only [Program.fieldsOf, Try.underlying83]
  have e2 : decide (x = y) = (decide (x.n = y.n) && x.e == y.e) := by
    obtain ⟨n, e⟩ := x
    obtain ⟨n', e'⟩ := y
    by_cases h1 : n = n' <;> by_cases h2 : e = e' <;> simp [h1, h2]
  have e : (x.n.a == y.n.a && (x.n.b == y.n.b && (x.n.c == y.n.c && x.n.d == y.n.d))) = decide (x.n = y.n) := by
    obtain ⟨⟨a, b, c, d⟩, e⟩ := x
    obtain ⟨⟨a', b', c', d'⟩, e'⟩ := y
    by_cases h1 : a = a' <;> by_cases h2 : b = b' <;> by_cases h3 : c = c' <;> by_cases h4 : d = d' <;> simp [h1, h2, h3, h4]
  have hq : (Op.equalIn 9999 3 (.int .i64 x.e) (.int .i64 y.e)).run Try.prog w = .ok (x.e == y.e) w := run_equalIn_int w 9998 3 _ _ _ _ Try.underlying3
  rw [e2]
  unfold Op.eqFields
  rw [if_pos (by decide), Sem.run_bind, partDN]
  simp only [Result.andThen_ok, Sem.run_bind]
  rw [partDN]
  simp only [Result.andThen_ok]
  rw [eqZV, e]
  simp only [Result.andThen_ok]
  cases decide (x.n = y.n)
  · simp
  · simp only [Bool.not_true, Bool.false_eq_true, if_false, Bool.true_and]
    unfold Op.eqFields
    rw [if_pos (by decide), Sem.run_bind, partDE]
    simp only [Result.andThen_ok, Sem.run_bind]
    rw [partDE]
    simp only [Result.andThen_ok]
    rw [hq]
    simp only [Result.andThen_ok]
    cases (x.e == y.e)
    · simp
    · simp [Op.eqFields]

set_option maxRecDepth 100000 in
set_option maxHeartbeats 3200000 in
theorem s_EqG (A : Option Addr) (n cap : Nat) (B : Option Addr) (c : Nat) (vs us : List Dw) (w : World) (h : RdD w A n vs) (h' : RdD w B n us) (hn : n ≤ 1048576) : Calls Try.prog 73 #[.slice A n cap, .slice B n c] w fun e w' => e = .returned (.bool (decide (vs = us))) ∧ Below w.heap.size w w' := by
  have H := Lib.hid h
  have H' := Lib.hid h'
  clear h h'
  go_enter Try.func73, Try.ntmps73
  go_wp2_with fail
  go_loopg [5] n (fun r i wr => ∃ k : Nat, k + r = n ∧ i = .int .i64 k ∧ vs.take k = us.take k ∧ Below w.heap.size w wr)
  case atStart => exact ⟨0, by omega, rfl, by simp, Below.refl _ _⟩
  case round =>
    obtain ⟨k, hk, rfl, htk, hb⟩ := hrel
    have HTK := Lib.hid htk
    clear htk
    by_cases hlt : k < n
    · obtain ⟨b, off, x, rfl, hB, hd, c0, c1, c2, c3, c4⟩ := (H.out.below hb).at_ hlt
      obtain ⟨b', off', x', rfl, hB', hd', d0, d1, d2, d3, d4⟩ := (H'.out.below hb).at_ hlt
      have HD := Lib.hid hd
      have HD' := Lib.hid hd'
      clear hd hd'
      have hi0 : (0 : Int) ≤ (k : Int) := by omega
      have hi1 : (k : Int) < (n : Int) := by omega
      have hM : Try.prog.eqGuardType Try.prog.depth 83 = false := by kernel_rfl
      by_cases hx : x = x'
      · subst hx
        have hE : ∀ w, (Op.equalIn 10000 83 (.agg #[.int .i64 x.n.a, .int .i64 x.n.b, .int .i64 x.n.c, .int .i64 x.n.d, .int .i64 x.e]) (.agg #[.int .i64 x.n.a, .int .i64 x.n.b, .int .i64 x.n.c, .int .i64 x.n.d, .int .i64 x.e])).run Try.prog w = .ok true w := fun w => by rw [eqDV]; simp
        go_wp2_with fail
        go_quiet (fail)
        go_wp2_with fail
        go_roundg (gk - 1)
        case measure => omega
        case rel => exact ⟨k + 1, by omega, by go_num, by rw [take_snoc HD.out, take_snoc HD'.out, HTK.out], below_drewN hb _⟩
      · have hE : ∀ w, (Op.equalIn 10000 83 (.agg #[.int .i64 x.n.a, .int .i64 x.n.b, .int .i64 x.n.c, .int .i64 x.n.d, .int .i64 x.e]) (.agg #[.int .i64 x'.n.a, .int .i64 x'.n.b, .int .i64 x'.n.c, .int .i64 x'.n.d, .int .i64 x'.e])).run Try.prog w = .ok false w := fun w => by rw [eqDV, decide_eq_false hx]
        have hne : ¬ vs = us := by
          intro e
          rw [e] at HD
          have := HD.out
          rw [HD'.out] at this
          injection this with this _
          exact hx this.symm
        go_wp2_with fail
        go_quiet (fail)
        go_wp2_with fail
        go_ret
        exact ⟨ret_bool (by simp [hne]), below_drewN hb _⟩
    · have he : vs = us := by
        have := HTK.out
        rwa [List.take_of_length_le (by have := H.out.1; omega), List.take_of_length_le (by have := H'.out.1; omega)] at this
      go_wp2_with fail
      go_ret
      exact ⟨ret_bool (by simp [he]), hb⟩

/-- A row times a power of omega. -/
def sc (i : Nat) (x : List Dw) : List Dw := x.map fun v => (mulD v (phD i)).getD Dw.zero
theorem sc_len (i : Nat) (x : List Dw) : (sc i x).length = x.length := by unfold sc; rw [List.length_map]
theorem take_map_snoc {l l' : List (List Dw)} {k i : Nat} {y x : List Dw} (hd : l.drop k = y :: l.drop (k + 1)) (hd' : l'.drop k = x :: l'.drop (k + 1)) (he : l.take k = (l'.map (sc i)).take k) : (l.take (k + 1) = (l'.map (sc i)).take (k + 1)) ↔ sc i x = y := by
  have e1 := take_snoc hd
  have e2 : (l'.map (sc i)).take (k + 1) = (l'.map (sc i)).take k ++ [sc i x] := by
    rw [← List.map_take, ← List.map_take, take_snoc hd', List.map_append]
    rfl
  rw [e1, e2, he]
  constructor
  · intro h
    have := List.append_cancel_left h
    injection this with this _
    exact this.symm
  · intro h
    rw [h]

set_option maxRecDepth 100000 in
set_option maxHeartbeats 3200000 in
theorem s_GPhaseG (A : Option Addr) (n cap q : Nat) (B : Option Addr) (cb : Nat) (l l' : List (List Dw)) (k0 : Nat) (w : World) (h : RdSS cellsD w 5 A n l) (h' : RdSS cellsD w 5 B n l') (h1 : 1 ≤ q) (h4 : q ≤ 4) (hn : n = 2 ^ q) (hl : ∀ x ∈ l, x.length = n ∧ ∀ v ∈ x, okD v = true) (hl' : ∀ x ∈ l', x.length = n ∧ ∀ v ∈ x, okD v = true)
    (hk0 : k0 < 8) (hsc : ∀ i, i < 8 → ∀ x ∈ l', ∀ v ∈ x, mulD v (phD i) = some ((mulD v (phD i)).getD Dw.zero)) (heq : l = l'.map (sc k0)) (hne : ∀ i, i < k0 → ¬ l = l'.map (sc i)) :
    Calls Try.prog 86 #[.slice A n cap, .slice B n cb] w fun e w' => e = .returned (.tuple #[.int .i64 (k0 : Nat), .bool true]) ∧ Below w.heap.size w w' := by
  have H := Lib.hid h
  have H' := Lib.hid h'
  have HN := Lib.hid hn
  have HL := Lib.hid hl
  have HL' := Lib.hid hl'
  have HSC := Lib.hid hsc
  have HEQ := Lib.hid heq
  have HNE := Lib.hid hne
  have hn16 : n ≤ 16 ∧ 2 ≤ n := by rw [hn]; exact pow_16 h1 h4
  clear h h' hn hl hl' hsc heq hne
  go_enter Try.func86, Try.ntmps86
  go_wp2_with fail
  refine (s_IsMatrix _ n _ q l _ H.out h1 h4 HN.out HL.out).mono ?_
  rintro e w1 ⟨rfl, b1⟩
  go_wp2_with fail
  refine (s_IsMatrix _ n _ q l' _ (H'.out.below b1) h1 h4 HN.out HL'.out).mono ?_
  rintro e w2 ⟨rfl, b2⟩
  have B2 := Lib.hid (below_trans b1 b2)
  clear b1 b2
  go_wp2_with fail
  go_loopg [6] 8 (fun r i wr => ∃ ii : Nat, ii + r = 8 ∧ ii ≤ k0 ∧ i = .int .i64 ii ∧ Below w.heap.size w wr)
  case atStart => exact ⟨0, by omega, by omega, rfl, B2.out⟩
  case round =>
    obtain ⟨ii, hii, hik, rfl, hb0⟩ := hrel
    have HB0 := Lib.hid hb0
    clear hb0 B2
    have hi8 : ii < 8 := by omega
    have hI8 : (ii : Int) < 8 := by omega
    go_wp2_with fail
    obtain ⟨go, rfl⟩ : ∃ go, go = gk := ⟨_, rfl⟩
    go_loopg [7, 8] n (fun r s i wr => ∃ k : Nat, k + r = n ∧ s = .bool (decide (l.take k = (l'.map (sc ii)).take k)) ∧ i = .int .i64 k ∧ Below w.heap.size w wr)
    case atStart => exact ⟨0, by omega, rfl, rfl, HB0.out⟩
    case round =>
      obtain ⟨k, hk, rfl, rfl, hb⟩ := hrel
      by_cases hs : l.take k = (l'.map (sc ii)).take k
      · rw [decide_eq_true hs]
        by_cases hlt : k < n
        · obtain ⟨b, off, x, X, cx, rfl, hB, hd, c0, hxc, hxr⟩ := (H'.out.below hb).at_ hlt
          obtain ⟨b', off', y, X', cx', rfl, hB', hd', d0, hxc', hxr'⟩ := (H.out.below hb).at_ hlt
          have hx1 : x ∈ l' := List.mem_of_mem_drop (i := k) (by rw [hd]; simp)
          obtain ⟨hxl, hxv⟩ := HL'.out x hx1
          obtain ⟨hyl, hyv⟩ := HL.out y (List.mem_of_mem_drop (i := k) (by rw [hd']; simp))
          have HSX := Lib.hid (HSC.out ii hi8 x hx1)
          rw [hxl] at c0 hxc hxr
          rw [hyl] at d0 hxc' hxr'
          have RX := Lib.hid (show RdD wr X n x from ⟨hxl, hxr⟩)
          have RX' := Lib.hid (show RdD wr X' n y from ⟨hyl, hxr'⟩)
          have HXV := Lib.hid hxv
          have HTS := Lib.hid (take_map_snoc hd' hd hs)
          clear hd hd' hxl hxv hxr hxr' hyl hyv hx1 hs
          have hi0 : (0 : Int) ≤ (k : Int) := by omega
          have hi1 : (k : Int) < (n : Int) := by omega
          go_upto_region 10 with fail
          go_cut [9, 10] (fun v9 v10 wx => v10 = .bool true ∧ ∃ Z cz, v9 = .slice Z n cz ∧ RdD wx Z n (sc ii x) ∧ Below wr.heap.size wr wx)
          case first =>
            have V0 : Below wr.heap.size wr wr.drew := (Below.refl _ _).drew
            go_region_held3 (fun w' => w'.cell? ⟨b, off + k, none⟩ = some (.slice X n cx)) (first | exact (V2.cell (p := ⟨b, off + k, none⟩) hB).trans c0 | exact (V1.cell (p := ⟨b, off + k, none⟩) hB).trans c0 | go_keep)
              (first
                | (go_at_call 46; refine (s_Phase ii _ hi8).mono ?_; rintro e w5 ⟨rfl, b5⟩; have V1 := below_trans V0 b5)
                | (go_at_call 133; refine (s_ScaleG (phD ii) (fun v => (mulD v (phD ii)).getD Dw.zero) _ n _ q x _ (RX.out.below V1) h1 h4 HN.out HXV.out HSX.out).mono ?_; rintro e w6 ⟨Z, cz, rfl, o6, b6⟩; have V2 := below_trans V1 b6; have Z6 := RdD.own o6)
                | fail)
            all_goals go_wp2_with fail
            all_goals go_meet
            all_goals exact ⟨rfl, Z, cz, rfl, Z6, V2⟩
          case rest =>
            obtain ⟨rfl, Z, cz, rfl, hz, bb⟩ := hcut
            have RZ := Lib.hid hz
            have RX7 := Lib.hid (RX'.out.below bb)
            have d7 := (bb.cell (p := ⟨b', off' + k, none⟩) hB').trans d0
            have B7 := Lib.hid (hb.trans (bb.mono hb.size))
            clear hz bb c0 d0 RX RX' hb HXV HSX
            go_wp2_with fail
            refine (s_EqG _ n _ _ _ (sc ii x) y _ RZ.out RX7.out (by omega)).mono ?_
            rintro e w8 ⟨rfl, b8⟩
            have B8 := Lib.hid (B7.out.trans (b8.mono B7.out.size))
            have HDD := Lib.hid (show decide (sc ii x = y) = decide (l.take (k + 1) = (l'.map (sc ii)).take (k + 1)) from decide_eq_decide.2 HTS.out.symm)
            clear b8 B7
            go_wp2_with fail
            go_roundg (gk - 1)
            case measure => omega
            case rel => exact ⟨k + 1, by omega, by rw [HDD.out], by go_num, B8.out⟩
        · have he : l = l'.map (sc ii) := by
            rwa [List.take_of_length_le (by have := H.out.1; omega), List.take_of_length_le (by rw [List.length_map]; have := H'.out.1; omega)] at hs
          obtain rfl : ii = k0 := by
            rcases Nat.lt_or_ge ii k0 with h | h
            · exact absurd he (HNE.out ii h)
            · omega
          clear hs he
          go_wp2_with fail
          exact bodyPost_ret (v := .tuple #[.int .i64 (ii : Nat), .bool true]) (by simp [results, Try.results86, go_sem]) rfl ⟨rfl, hb⟩
      · rw [decide_eq_false hs]
        have hlt : ii < k0 := by
          rcases Nat.lt_or_ge ii k0 with h | h
          · exact h
          · exfalso
            obtain rfl : ii = k0 := by omega
            exact hs (by rw [← HEQ.out])
        clear hs
        by_cases hkn : k < n
        · have hi0 : (0 : Int) ≤ (k : Int) := by omega
          have hi1 : (k : Int) < (n : Int) := by omega
          go_wp2_with fail
          go_roundg (go - 1)
          case measure => omega
          case rel => exact ⟨ii + 1, by omega, by omega, by go_num, hb⟩
        · go_wp2_with fail
          go_roundg (go - 1)
          case measure => omega
          case rel => exact ⟨ii + 1, by omega, by omega, by go_num, hb⟩
end Go.Proofs.Ytibhikngiceeeaa
