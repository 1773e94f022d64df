/- Contracts of flipped (impl), l7Column, l7Columns (spec): square matrices of at most 16 rows. -/
import Derived.Test.YtibhikngiceeeaaStK
import Derived.Test.YtibhikngiceeeaaPairs
namespace Go.Proofs.Ytibhikngiceeeaa
open Go.RowKit
set_option linter.unusedVariables false

def flipL (l : List (List Dw)) : List (List Dw) := (List.range l.length).map fun i => l.map fun r => r.getD i Dw.zero
theorem flipL_len (l : List (List Dw)) : (flipL l).length = l.length := by unfold flipL; rw [List.length_map, List.length_range]
theorem flipL_drop {l : List (List Dw)} {i : Nat} (h : i < l.length) : (flipL l).drop i = (l.map fun r => r.getD i Dw.zero) :: (flipL l).drop (i + 1) := by
  rw [drop_cons (l := flipL l) (k := i) (by rw [flipL_len]; exact h)]
  congr 1
  simp [flipL]
theorem own_uniqD {w : World} {b1 b2 : Nat} {e : TypeId} {sz n : Nat} {v : Value} {xs ys : List Value} (h1 : w.ownsRow b1 e sz v n xs) (h2 : w.ownsRow b2 e sz v n ys) : xs = ys := by
  have l1 := h1.1
  have l2 := h2.1
  rcases h1.2 with ⟨rfl, rfl⟩ | ⟨g, cap, cur, rfl, _, hh, _, _, _, ht⟩
  · rw [List.eq_nil_of_length_eq_zero (by omega : xs.length = 0), List.eq_nil_of_length_eq_zero (by omega : ys.length = 0)]
  · rcases h2.2 with ⟨h3, _⟩ | ⟨g', cap', cur', h3, _, hh', _, _, _, ht'⟩
    · simp at h3
    · simp only [Value.slice.injEq, Option.some.injEq, Addr.mk.injEq, and_true, true_and] at h3
      obtain ⟨rfl, rfl⟩ := h3
      rw [hh] at hh'
      injection hh' with hh'
      injection hh' with hc _
      subst hc
      rw [← ht, ← ht']
section
variable {α : Type} {cs : List α → List Value} {sz : Nat}
/-- One more row, made later than all others. -/
theorem OwnSS.app1 {base B eo ei n m c : Nat} {v v'' : Value} {l : List (List α)} {x : List α} {D : Option Addr} {w0 w1 w2 : World} {vs : List Value} (hne : eo ≠ ei) (h : OwnSS cs w0 base eo ei sz v l) (hB : w0.heap.size ≤ B) (hb : base ≤ B) (h01 : Below w0.heap.size w0 w1)
    (hm : x.length = m) (hx : w1.ownsRow B ei sz (.slice D m c) m (cs x)) (hn : l.length = n) (hvs : w1.ownsRow base eo 1 v n vs) (hg : w1.grownBy w2 v.ownBlock) (ho : w2.ownsRow base eo 1 v'' (n + 1) (vs ++ [.slice D m c])) : OwnSS cs w2 base eo ei sz v'' (l ++ [x]) := by
  subst hm hn
  refine h.app (l' := [x]) (vs' := [.slice D x.length c]) hne hB hb h01 (fun j y hy => ?_) (fun i j u u' hij hu hu' => ?_) rfl hg (fun vs' h1 => ?_)
  · have h0 : j = 0 := by have := (List.getElem?_eq_some_iff.1 hy).1; simp at this; omega
    subst h0
    simp at hy
    subst hy
    exact ⟨D, c, rfl, hx⟩
  · have h1 := (List.getElem?_eq_some_iff.1 hu).1
    have h2 := (List.getElem?_eq_some_iff.1 hu').1
    simp at h1 h2
    omega
  · rw [own_uniqD h1 hvs]
    exact ho
end
/-- A slice of slices of numbers of the call's own. -/
def RetSD (l : List (List Dw)) (w : World) (e : Ending) (w' : World) : Prop :=
  ∃ A c, e = .returned (.slice A l.length c) ∧ OwnSS cellsD w' w.heap.size 79 83 5 (.slice A l.length c) l ∧ Below w.heap.size w w'

set_option maxRecDepth 100000 in
set_option maxHeartbeats 3200000 in
theorem i_flipped (A : Option Addr) (n cap : Nat) (l : List (List Dw)) (w : World) (h : RdSS cellsD w 5 A n l) (hn : n ≤ 16) (hl : ∀ x ∈ l, x.length = n) : Calls Try.prog 53 #[.slice A n cap] w (RetSD (flipL l) w) := by
  have HL := Lib.hid hl
  have HLL := Lib.hid h.1
  have H := Lib.hid h
  clear h hl
  go_enter Try.func53, Try.ntmps53
  go_wp2_with fail
  go_loopg [3, 11] n (fun r v j wr => ∃ (i : Nat) (A : Option Addr) (c : Nat), i + r = n ∧ j = .int .i64 i ∧ v = .slice A i c ∧ OwnSS cellsD wr w.heap.size 79 83 5 (.slice A i c) ((flipL l).take i) ∧ Below w.heap.size w wr)
  case atStart => exact ⟨0, _, 0, by omega, rfl, rfl, OwnSS.lit0 w (Nat.le_refl _) _ _ _ _, (Below.refl _ _).alloc (Nat.le_refl _) _⟩
  case round =>
    obtain ⟨i, A3, c3, hi, rfl, rfl, ho, hb⟩ := hrel
    have HO := Lib.hid ho
    have HB := Lib.hid hb
    have hs0 := hb.size
    clear ho hb
    by_cases hlt : i < n
    · obtain ⟨w0, rfl⟩ : ∃ w0, w0 = wr := ⟨_, rfl⟩
      obtain ⟨go, rfl⟩ : ∃ go, go = gk := ⟨_, rfl⟩
      have O0 := Lib.hid (show (w0.alloc (.cells #[] 83)).ownsRow w0.heap.size 83 5 (.slice (some ⟨w0.heap.size, 0, none⟩) 0 0) 0 (cellsD []) from World.ownsRow_lit w0 #[] 0 (Nat.le_refl _) (by simp [maxLen]) rfl)
      go_wp2_with fail
      go_loopg [5, 17] n (fun r v j wx => ∃ (k : Nat) (D : Option Addr) (c : Nat), k + r = n ∧ j = .int .i64 k ∧ v = .slice D k c ∧ wx.ownsRow w0.heap.size 83 5 (.slice D k c) k (cellsD ((l.take k).map fun r => r.getD i Dw.zero)) ∧ Below w0.heap.size w0 wx)
      case atStart => exact ⟨0, _, 0, by omega, rfl, rfl, O0.out, (Below.refl _ _).alloc (Nat.le_refl _) _⟩
      case round =>
        obtain ⟨k, D, c, hk, rfl, rfl, hrow, hbx⟩ := hrel
        have HR := Lib.hid hrow
        have HX := Lib.hid hbx
        have hsx := hbx.size
        clear hrow hbx O0
        by_cases hkl : k < n
        · obtain ⟨b, off, x, B, cb, rfl, hBb, hd, c0, hxc, hxr⟩ := ((H.out.below HB.out).below HX.out).at_ hkl
          have hxl := HL.out x (List.mem_of_mem_drop (i := k) (by rw [hd]; simp))
          rw [hxl] at c0 hxc hxr
          have RX : RdD wr B n x := ⟨hxl, hxr⟩
          obtain ⟨b2, off2, y, rfl, hB2, hd2, y0, y1, y2, y3, y4⟩ := RX.at_ hlt
          have HY := Lib.hid (show (l.take (k + 1)).map (fun r => r.getD i Dw.zero) = (l.take k).map (fun r => r.getD i Dw.zero) ++ [y] by
            rw [take_snoc hd, List.map_append]
            have : x.getD i Dw.zero = y := by
              have := congrArg (fun r => r.getD 0 Dw.zero) hd2
              simp only [List.getD_eq_getElem?_getD, List.getElem?_drop, Nat.add_zero, List.getElem?_cons_zero, Option.getD_some] at this
              rw [List.getD_eq_getElem?_getD]
              exact this
            rw [← this]
            rfl)
          clear hd hxl hxc hxr RX hd2
          have hi0 : (0 : Int) ≤ (i : Int) := by omega
          have hi1 : (i : Int) < (n : Int) := by omega
          have hk0 : (0 : Int) ≤ (k : Int) := by omega
          have hk1 : (k : Int) < (n : Int) := by omega
          go_wp2_with (at_builtin; refine wpList_app rfl (.tmp 21) (.tmp 26) 79 rfl Try.underlying79 infoDOmega rfl (by decide) rfl (HR.out.alloc _) rfl (Rd.lit wr 83 #[.int .i64 y.n.a, .int .i64 y.n.b, .int .i64 y.n.c, .int .i64 y.n.d, .int .i64 y.e] 1 5 rfl) (by simp [Value.oneCell']) (by omega) (by decide) (by simp <;> omega) ?_; intro A9 c9 w9 o9 g9)
          go_roundg (gk - 1)
          case measure => omega
          case rel =>
            refine ⟨k + 1, A9, c9, by omega, by go_num, rfl, ?_, below_grown (HX.out.alloc hsx _) (by simp <;> omega) (HR.out.alloc _) (Nat.le_refl _) g9⟩
            rw [HY.out, cellsD_append]
            exact o9
        · obtain rfl : k = n := by omega
          have e : l.take k = l := List.take_of_length_le (by rw [HLL.out]; omega)
          rw [e] at HR
          have hrl : (l.map fun r => r.getD i Dw.zero).length = k := by rw [List.length_map]; exact HLL.out
          have HW := Lib.hid (HO.out.below HX.out)
          obtain ⟨vs, a1, a2, a3⟩ := HW.out
          have htl : ((flipL l).take i).length = i := by rw [List.length_take, flipL_len, HLL.out]; omega
          rw [htl] at a1
          have A1 := Lib.hid a1
          clear a1 a2 a3 e
          go_wp2_with (at_builtin; refine wpList_app rfl (.tmp 29) (.tmp 31) 27 rfl Try.underlying27 infoDOmegaS rfl (by decide) rfl (A1.out.alloc _) rfl (Rd.lit wr 79 #[.slice D k c] 1 1 rfl) (by simp [Value.oneCell']) (by omega) (by decide) (by simp <;> omega) ?_; intro A9 c9 w9 o9 g9)
          go_roundg (go - 1)
          case measure => omega
          case rel =>
            refine ⟨i + 1, A9, c9, by omega, by go_num, rfl, ?_, below_grown ((HB.out.trans (HX.out.mono hs0)).alloc (by omega) _) (by simp <;> omega) (A1.out.alloc _) (Nat.le_refl _) g9⟩
            rw [take_snoc (flipL_drop (l := l) (i := i) (by rw [HLL.out]; exact hlt))]
            exact OwnSS.app1 (by decide) HO.out (Nat.le_refl _) hs0 (HX.out.alloc hsx _) hrl (HR.out.alloc _) htl (A1.out.alloc _) g9 o9
    · obtain rfl : i = n := by omega
      have e : (flipL l).take i = flipL l := List.take_of_length_le (by rw [flipL_len, HLL.out]; omega)
      rw [e] at HO
      have hfl : (flipL l).length = i := by rw [flipL_len]; exact HLL.out
      go_wp2_with fail
      go_ret
      exact ⟨A3, c3, by rw [hfl]; rfl, by rw [hfl]; exact HO.out, HB.out⟩
set_option maxRecDepth 100000 in
set_option maxHeartbeats 3200000 in
theorem s_l7Col (A : Option Addr) (n cap i : Nat) (l : List (List Dw)) (w : World) (h : RdSS cellsD w 5 A n l) (hn : n ≤ 16) (hl : ∀ x ∈ l, x.length = n) (hlt : i < n) : Calls Try.prog 101 #[.slice A n cap, .int .i64 i] w fun e w' => ∃ D c, e = .returned (.slice D n c) ∧ w'.ownsRow w.heap.size 83 5 (.slice D n c) n (cellsD (l.map fun r => r.getD i Dw.zero)) ∧ Below w.heap.size w w' := by
  have HL := Lib.hid hl
  have HLL := Lib.hid h.1
  have H := Lib.hid h
  clear h hl
  have O0 := Lib.hid (show (w.alloc (.cells #[] 83)).ownsRow w.heap.size 83 5 (.slice (some ⟨w.heap.size, 0, none⟩) 0 0) 0 (cellsD []) from World.ownsRow_lit w #[] 0 (Nat.le_refl _) (by simp [maxLen]) rfl)
  go_enter Try.func101, Try.ntmps101
  go_wp2_with fail
  go_loopg [5, 6] n (fun r v j wx => ∃ (k : Nat) (D : Option Addr) (c : Nat), k + r = n ∧ j = .int .i64 k ∧ v = .slice D k c ∧ wx.ownsRow w.heap.size 83 5 (.slice D k c) k (cellsD ((l.take k).map fun r => r.getD i Dw.zero)) ∧ Below w.heap.size w wx)
  case atStart => exact ⟨0, _, 0, by omega, rfl, rfl, O0.out, (Below.refl _ _).alloc (Nat.le_refl _) _⟩
  case round =>
    obtain ⟨k, D, c, hk, rfl, rfl, hrow, hbx⟩ := hrel
    have HR := Lib.hid hrow
    have HX := Lib.hid hbx
    have hsx := hbx.size
    clear hrow hbx O0
    by_cases hkl : k < n
    · obtain ⟨b, off, x, B, cb, rfl, hBb, hd, c0, hxc, hxr⟩ := (H.out.below HX.out).at_ hkl
      have hxl := HL.out x (List.mem_of_mem_drop (i := k) (by rw [hd]; simp))
      rw [hxl] at c0 hxc hxr
      have RX : RdD wr B n x := ⟨hxl, hxr⟩
      obtain ⟨b2, off2, y, rfl, hB2, hd2, y0, y1, y2, y3, y4⟩ := RX.at_ hlt
      have HY := Lib.hid (show (l.take (k + 1)).map (fun r => r.getD i Dw.zero) = (l.take k).map (fun r => r.getD i Dw.zero) ++ [y] by
        rw [take_snoc hd, List.map_append]
        have : x.getD i Dw.zero = y := by
          have := congrArg (fun r => r.getD 0 Dw.zero) hd2
          simp only [List.getD_eq_getElem?_getD, List.getElem?_drop, Nat.add_zero, List.getElem?_cons_zero, Option.getD_some] at this
          rw [List.getD_eq_getElem?_getD]
          exact this
        rw [← this]
        rfl)
      clear hd hxl hxc hxr RX hd2
      have hi0 : (0 : Int) ≤ (i : Int) := by omega
      have hi1 : (i : Int) < (n : Int) := by omega
      have hk0 : (0 : Int) ≤ (k : Int) := by omega
      have hk1 : (k : Int) < (n : Int) := by omega
      go_wp2_with (at_builtin; refine wpList_app rfl (.tmp 14) (.tmp 22) 79 rfl Try.underlying79 infoDOmega rfl (by decide) rfl (HR.out.alloc _) rfl (Rd.lit wr 83 #[.int .i64 y.n.a, .int .i64 y.n.b, .int .i64 y.n.c, .int .i64 y.n.d, .int .i64 y.e] 1 5 rfl) (by simp [Value.oneCell']) (by omega) (by decide) (by simp <;> omega) ?_; intro A9 c9 w9 o9 g9)
      go_roundg (gk - 1)
      case measure => omega
      case rel =>
        refine ⟨k + 1, A9, c9, by omega, by go_num, rfl, ?_, below_grown (HX.out.alloc hsx _) (by simp <;> omega) (HR.out.alloc _) (Nat.le_refl _) g9⟩
        rw [HY.out, cellsD_append]
        exact o9
    · obtain rfl : k = n := by omega
      have e : l.take k = l := List.take_of_length_le (by rw [HLL.out]; omega)
      rw [e] at HR
      go_wp2_with fail
      go_ret
      exact ⟨D, c, rfl, HR.out, HX.out⟩
set_option maxRecDepth 100000 in
set_option maxHeartbeats 3200000 in
theorem s_l7Cols (A : Option Addr) (n cap : Nat) (l : List (List Dw)) (w : World) (h : RdSS cellsD w 5 A n l) (hn : n ≤ 16) (hl : ∀ x ∈ l, x.length = n) : Calls Try.prog 47 #[.slice A n cap] w (RetSD (flipL l) w) := by
  have HL := Lib.hid hl
  have HLL := Lib.hid h.1
  have H := Lib.hid h
  clear h hl
  go_enter Try.func47, Try.ntmps47
  go_wp2_with fail
  go_loopg [3, 4] n (fun r v j wr => ∃ (i : Nat) (A : Option Addr) (c : Nat), i + r = n ∧ j = .int .i64 i ∧ v = .slice A i c ∧ OwnSS cellsD wr w.heap.size 79 83 5 (.slice A i c) ((flipL l).take i) ∧ Below w.heap.size w wr)
  case atStart => exact ⟨0, _, 0, by omega, rfl, rfl, OwnSS.lit0 w (Nat.le_refl _) _ _ _ _, (Below.refl _ _).alloc (Nat.le_refl _) _⟩
  case round =>
    obtain ⟨i, A3, c3, hi, rfl, rfl, ho, hb⟩ := hrel
    have HO := Lib.hid ho
    have HB := Lib.hid hb
    have hs0 := hb.size
    clear ho hb
    by_cases hlt : i < n
    · have hrl : (l.map fun r => r.getD i Dw.zero).length = n := by rw [List.length_map]; exact HLL.out
      have htl : ((flipL l).take i).length = i := by rw [List.length_take, flipL_len, HLL.out]; omega
      go_wp2_with fail
      refine (s_l7Col _ _ _ i l _ (H.out.below HB.out) hn HL.out hlt).mono ?_
      rintro e wx ⟨D, c, rfl, od, hbx⟩
      have HR := Lib.hid od
      have HX := Lib.hid hbx
      have hsx := hbx.size
      have HW := Lib.hid (HO.out.below HX.out)
      obtain ⟨vs, a1, a2, a3⟩ := HW.out
      rw [htl] at a1
      have A1 := Lib.hid a1
      clear a1 a2 a3 od hbx
      go_wp2_with (at_builtin; refine wpList_app rfl (.tmp 12) (.tmp 16) 27 rfl Try.underlying27 infoDOmegaS rfl (by decide) rfl (A1.out.alloc _) rfl (Rd.lit wx 79 #[.slice D n c] 1 1 rfl) (by simp [Value.oneCell']) (by omega) (by decide) (by simp <;> omega) ?_; intro A9 c9 w9 o9 g9)
      go_roundg (gk - 1)
      case measure => omega
      case rel =>
        refine ⟨i + 1, A9, c9, by omega, by go_num, rfl, ?_, below_grown ((HB.out.trans (HX.out.mono hs0)).alloc (by omega) _) (by simp <;> omega) (A1.out.alloc _) (Nat.le_refl _) g9⟩
        rw [take_snoc (flipL_drop (l := l) (i := i) (by rw [HLL.out]; exact hlt))]
        exact OwnSS.app1 (by decide) HO.out (Nat.le_refl _) hs0 (HX.out.alloc hsx _) hrl (HR.out.alloc _) htl (A1.out.alloc _) g9 o9
    · obtain rfl : i = n := by omega
      have e : (flipL l).take i = flipL l := List.take_of_length_le (by rw [flipL_len, HLL.out]; omega)
      rw [e] at HO
      have hfl : (flipL l).length = i := by rw [flipL_len]; exact HLL.out
      go_wp2_with fail
      go_ret
      exact ⟨A3, c3, by rw [hfl]; rfl, by rw [hfl]; exact HO.out, HB.out⟩
end Go.Proofs.Ytibhikngiceeeaa
