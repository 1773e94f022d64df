/- Contract of apart (laws) at one to four qubits, the operations of the two lists apart by a power of omega. At most 2^20 gates a list. -/
import Derived.Test.YtibhikngiceeeaaStN
import Derived.Test.YtibhikngiceeeaaStM
namespace Go.Proofs.Ytibhikngiceeeaa
open Go.RowKit
set_option linter.unusedVariables false

/-- What two lists of gates do on the basis states: a power of omega apart, and no lower one. -/
def ApartC (a b : List Gt) (q k0 : Nat) (Ua Ub : Nat → List Dw) : Prop :=
  (∀ i, i < 2 ^ q → appGs a (basis q i) = some (Ua i) ∧ appGs b (basis q i) = some (Ub i) ∧ (Ua i).length = 2 ^ q ∧ (Ub i).length = 2 ^ q ∧ (∀ v ∈ Ua i, okD v = true) ∧ (∀ v ∈ Ub i, okD v = true)) ∧
  k0 < 8 ∧ (∀ j, j < 8 → ∀ i, i < 2 ^ q → ∀ v ∈ Ub i, mulD v (phD j) = some ((mulD v (phD j)).getD Dw.zero)) ∧ (∀ i, i < 2 ^ q → Ua i = sc k0 (Ub i)) ∧ ∀ j, j < k0 → ∃ i, i < 2 ^ q ∧ Ua i ≠ sc j (Ub i)
theorem apart_parts {q k0 Q : Nat} {Ua Ub : Nat → List Dw} (hQ : 2 ^ q = Q) (h : k0 < 8 ∧ (∀ j, j < 8 → ∀ i, i < 2 ^ q → ∀ v ∈ Ub i, mulD v (phD j) = some ((mulD v (phD j)).getD Dw.zero)) ∧ (∀ i, i < 2 ^ q → Ua i = sc k0 (Ub i)) ∧ ∀ j, j < k0 → ∃ i, i < 2 ^ q ∧ Ua i ≠ sc j (Ub i)) :
    k0 < 8 ∧ (∀ i, i < 8 → ∀ x ∈ (List.range Q).map Ub, ∀ v ∈ x, mulD v (phD i) = some ((mulD v (phD i)).getD Dw.zero)) ∧ (List.range Q).map Ua = ((List.range Q).map Ub).map (sc k0) ∧ ∀ i, i < k0 → ¬ (List.range Q).map Ua = ((List.range Q).map Ub).map (sc i) := by
  subst hQ
  obtain ⟨h1, h2, h3, h4⟩ := h
  refine ⟨h1, fun i hi x hx v hv => ?_, ?_, fun i hi e => ?_⟩
  · obtain ⟨j, hj, rfl⟩ := List.mem_map.1 hx
    exact h2 i hi j (List.mem_range.1 hj) v hv
  · rw [List.map_map]
    exact List.map_congr_left fun j hj => h3 j (List.mem_range.1 hj)
  · obtain ⟨j, hj, hne⟩ := h4 i hi
    rw [List.map_map] at e
    exact hne (List.map_inj_left.1 e j (List.mem_range.2 hj))

set_option maxRecDepth 100000 in
set_option maxHeartbeats 6400000 in
theorem l_apartG1 (k0 : Nat) (Ua Ub : Nat → List Dw) (A : Option Addr) (n ca : Nat) (a : List Gt) (B : Option Addr) (m cb : Nat) (b : List Gt) (w : World) (ha : RdG w A n a) (hb : RdG w B m b) (hn : n ≤ 1048576) (hm : m ≤ 1048576) (hs : ApartC a b 1 k0 Ua Ub) : Calls Try.prog 31 #[.slice A n ca, .slice B m cb, .int .i64 1] w fun e w' => e = .returned (.tuple #[.int .i64 (k0 : Nat), .bool true]) ∧ Below w.heap.size w w' := by
  have HA := Lib.hid ha
  have HB := Lib.hid hb
  have HS := Lib.hid (show ∀ i, i < 2 → _ from hs.1)
  have HK := Lib.hid hs.2
  have X0 := Lib.hid (show RowsD ((w.alloc (.cells #[] 79)).alloc (.cells #[] 79)) w.heap.size w.heap.size 0 0 ((List.range 0).map Ua) from ⟨rfl, [], (World.ownsRow_lit w #[] 0 (Nat.le_refl _) (by simp [maxLen]) rfl).alloc _, fun j x hx => by simp at hx⟩)
  have Y0 := Lib.hid (show RowsD ((w.alloc (.cells #[] 79)).alloc (.cells #[] 79)) w.heap.size (w.heap.size + 1) 0 0 ((List.range 0).map Ub) from ⟨rfl, [], ownsRow_lit' _ #[] 0 (by simp) (by simp) (by simp [maxLen]) rfl rfl, fun j x hx => by simp at hx⟩)
  have B0 := Lib.hid (show Below w.heap.size w ((w.alloc (.cells #[] 79)).alloc (.cells #[] 79)) from ((Below.refl _ _).alloc (Nat.le_refl _) _).alloc (by simp) _)
  clear ha hb hs
  go_enter Try.func31, Try.ntmps31
  go_wp2_with fail
  go_loopg [8, 9, 10] 2 (fun r xs ys i wr => ∃ (k gx cx gy cy : Nat), k + r = 2 ∧ i = .int .i64 k ∧ xs = .slice (some ⟨gx, 0, none⟩) k cx ∧ ys = .slice (some ⟨gy, 0, none⟩) k cy ∧ gx ≠ gy ∧ RowsD wr w.heap.size gx k cx ((List.range k).map Ua) ∧ RowsD wr w.heap.size gy k cy ((List.range k).map Ub) ∧ Below w.heap.size w wr)
  case atStart => exact ⟨0, w.heap.size, 0, w.heap.size + 1, 0, by omega, rfl, rfl, rfl, by omega, X0.out, Y0.out, B0.out⟩
  case round =>
    obtain ⟨k, gx, cx, gy, cy, hk, rfl, rfl, rfl, hne, hx, hy, hbb⟩ := hrel
    have RX := Lib.hid hx
    have RY := Lib.hid hy
    have BB := Lib.hid hbb
    clear hx hy hbb X0 Y0 B0
    by_cases hlt : k < 2
    · obtain ⟨u1, u2, u3, u4, u5, u6⟩ := HS.out k hlt
      obtain ⟨ua, hua⟩ : ∃ u, Ua k = u := ⟨_, rfl⟩
      obtain ⟨ub, hub⟩ : ∃ u, Ub k = u := ⟨_, rfl⟩
      rw [hua] at u1 u3 u5
      rw [hub] at u2 u4 u6
      have U1 := Lib.hid u1
      have U2 := Lib.hid u2
      have U3 := Lib.hid (show ua.length = 2 from u3)
      have U4 := Lib.hid (show ub.length = 2 from u4)
      have HUA := Lib.hid hua
      have HUB := Lib.hid hub
      clear u1 u2 u3 u4 u5 u6 hua hub
      go_wp2_with fail
      refine (s_Basis 1 k _ (by omega) (by omega) hlt).mono ?_
      rintro e w3 ⟨A3, c3, rfl, o3, b3⟩
      have R3 := Lib.hid (show RdD w3 A3 2 (basis 1 k) from RdD.own o3)
      clear o3
      go_wp2_with fail
      refine (s_ApplyGs _ n _ a _ 2 _ 1 _ ua _ ((HA.out.below BB.out).below b3) hn R3.out (by omega) (by omega) (by decide) U1.out).mono ?_
      rintro e w4 ⟨A4, c4, rfl, o4, b4⟩
      have V4 := below_trans b3 b4
      have O4 := Lib.hid (ownsRow_base o4 (show w.heap.size ≤ w3.heap.size from Nat.le_trans BB.out.size b3.size))
      have RX4 := Lib.hid (RX.out.below V4)
      have RY4 := Lib.hid (RY.out.below V4)
      have B4 := Lib.hid (BB.out.trans (V4.mono BB.out.size))
      clear o4 b3 b4 V4 R3 RX RY BB
      go_wp2_with fail
      refine (s_Basis 1 k _ (by omega) (by omega) hlt).mono ?_
      rintro e w5 ⟨A5, c5, rfl, o5, b5⟩
      have R5 := Lib.hid (show RdD w5 A5 2 (basis 1 k) from RdD.own o5)
      clear o5
      go_wp2_with fail
      refine (s_ApplyGs _ m _ b _ 2 _ 1 _ ub _ ((HB.out.below B4.out).below b5) hm R5.out (by omega) (by omega) (by decide) U2.out).mono ?_
      rintro e w6 ⟨A6, c6, rfl, o6, b6⟩
      have V6 := below_trans b5 b6
      have O6 := Lib.hid (ownsRow_base o6 (show w.heap.size ≤ w5.heap.size from Nat.le_trans B4.out.size b5.size))
      have P4 := Lib.hid (ownsRow_below O4.out V6)
      have RX6 := Lib.hid (RX4.out.below V6)
      have RY6 := Lib.hid (RY4.out.below V6)
      have B6 := Lib.hid (B4.out.trans (V6.mono B4.out.size))
      clear o6 b5 b6 V6 R5 O4 RX4 RY4 B4
      have lx := RX6.out.lt
      have ly := RY6.out.lt
      have bs := B6.out.size
      obtain ⟨hlx, vx, rx1, rx2⟩ := RX6.out
      obtain ⟨hly, vy, ry1, ry2⟩ := RY6.out
      have AX1 := Lib.hid (rx1.alloc (.cells #[.slice A4 2 c4] 79))
      have RY6a := Lib.hid (RY6.out.alloc (.cells #[.slice A4 2 c4] 79))
      have IX := Lib.hid (show ∀ (j : Nat) (x : List Dw), ((List.range k).map Ua)[j]? = some x → ∃ B c', vx[j]? = some (Value.slice B x.length c') ∧ (w6.alloc (.cells #[.slice A4 2 c4] 79)).ownsRow w.heap.size 83 5 (.slice B x.length c') x.length (cellsD x) from fun j x hx => (rx2 j x hx).imp fun B h => h.imp fun c' h => ⟨h.1, h.2.alloc _⟩)
      have PA := Lib.hid (P4.out.alloc (.cells #[.slice A4 2 c4] 79))
      have OA := Lib.hid (O6.out.alloc (.cells #[.slice A4 2 c4] 79))
      have BA := Lib.hid (B6.out.alloc bs (.cells #[.slice A4 2 c4] 79))
      clear rx1 rx2 ry1 ry2 hly vy
      go_wp2_with (first
        | (at_builtin; refine wpList_appOne rfl (.tmp 46) (.tmp 48) 27 rfl Try.underlying27 infoDOmegaS rfl rfl AX1.out rfl (Bx.new w6 _ _) rfl (by omega) (by decide) (by simp; omega) ?_; intro g1 cap1 w7 p7 g7 e7; have RX7 := RowsD.app hlx AX1.out IX.out U3.out PA.out p7 g7; have RY7 := RY6a.out.other g7 (fun e => hne e.symm) (fun B m cc x hx => own_own_ne' hx AX1.out (by decide)); have O7 := OA.out.kept g7 (own_own_ne' OA.out AX1.out (by decide)); have B7 := below_grown BA.out (by simp; omega) AX1.out (Nat.le_refl _) g7; have ne7 := ap_ne hne ly e7; have ⟨hly, vy, ry1, ry2⟩ := RY7; have bs7 := B7.size)
        | (at_builtin; refine wpList_appOne rfl (.tmp 50) (.tmp 52) 27 rfl Try.underlying27 infoDOmegaS rfl rfl (ry1.alloc _) rfl (Bx.new w7 _ _) rfl (by omega) (by decide) (by simp; omega) ?_; intro g2 cap2 w8 p8 g8 e8)
        | fail)
      go_roundg (gk - 1)
      case measure => omega
      case rel =>
        refine ⟨k + 1, g1, cap1, g2, cap2, by omega, by go_num, rfl, rfl, ?_, ?_, ?_, below_grown (B7.alloc bs7 _) (by simp; omega) (ry1.alloc _) (Nat.le_refl _) g8⟩
        · exact (ap_ne (fun e => ne7 e.symm) RX7.lt e8).symm
        · rw [rows_succ, HUA.out]
          exact (RX7.alloc _).other g8 ne7 (fun B m cc x hx => own_own_ne' hx (ry1.alloc _) (by decide))
        · rw [rows_succ, HUB.out]
          exact RowsD.app hly (ry1.alloc _) (fun j x hx => (ry2 j x hx).imp fun B h => h.imp fun c' h => ⟨h.1, h.2.alloc _⟩) U4.out (O7.alloc _) p8 g8
    · obtain rfl : k = 2 := by omega
      have HLA := Lib.hid (show ∀ x ∈ (List.range 2).map Ua, x.length = 2 ∧ ∀ v ∈ x, okD v = true from fun x hx => by
        obtain ⟨j, hj, rfl⟩ := List.mem_map.1 hx
        obtain ⟨_, _, h3, _, h5, _⟩ := HS.out j (List.mem_range.1 hj)
        exact ⟨h3, h5⟩)
      have HLB := Lib.hid (show ∀ x ∈ (List.range 2).map Ub, x.length = 2 ∧ ∀ v ∈ x, okD v = true from fun x hx => by
        obtain ⟨j, hj, rfl⟩ := List.mem_map.1 hx
        obtain ⟨_, _, _, h4, _, h6⟩ := HS.out j (List.mem_range.1 hj)
        exact ⟨h4, h6⟩)
      have HP := Lib.hid (apart_parts (Q := 2) (by decide) HK.out)
      go_wp2_with fail
      refine (s_GPhaseG _ 2 _ 1 _ _ ((List.range 2).map Ua) ((List.range 2).map Ub) k0 _ RX.out.rd RY.out.rd (by omega) (by omega) (by decide) HLA.out HLB.out HP.out.1 HP.out.2.1 HP.out.2.2.1 HP.out.2.2.2).mono ?_
      rintro e w9 ⟨rfl, b9⟩
      go_wp2_with fail
      exact bodyPost_ret (v := .tuple #[.int .i64 (k0 : Nat), .bool true]) (by simp [results, Try.results31, go_sem]) rfl ⟨rfl, BB.out.trans (b9.mono BB.out.size)⟩

set_option maxRecDepth 100000 in
set_option maxHeartbeats 6400000 in
theorem l_apartG2 (k0 : Nat) (Ua Ub : Nat → List Dw) (A : Option Addr) (n ca : Nat) (a : List Gt) (B : Option Addr) (m cb : Nat) (b : List Gt) (w : World) (ha : RdG w A n a) (hb : RdG w B m b) (hn : n ≤ 1048576) (hm : m ≤ 1048576) (hs : ApartC a b 2 k0 Ua Ub) : Calls Try.prog 31 #[.slice A n ca, .slice B m cb, .int .i64 2] w fun e w' => e = .returned (.tuple #[.int .i64 (k0 : Nat), .bool true]) ∧ Below w.heap.size w w' := by
  have HA := Lib.hid ha
  have HB := Lib.hid hb
  have HS := Lib.hid (show ∀ i, i < 4 → _ from hs.1)
  have HK := Lib.hid hs.2
  have X0 := Lib.hid (show RowsD ((w.alloc (.cells #[] 79)).alloc (.cells #[] 79)) w.heap.size w.heap.size 0 0 ((List.range 0).map Ua) from ⟨rfl, [], (World.ownsRow_lit w #[] 0 (Nat.le_refl _) (by simp [maxLen]) rfl).alloc _, fun j x hx => by simp at hx⟩)
  have Y0 := Lib.hid (show RowsD ((w.alloc (.cells #[] 79)).alloc (.cells #[] 79)) w.heap.size (w.heap.size + 1) 0 0 ((List.range 0).map Ub) from ⟨rfl, [], ownsRow_lit' _ #[] 0 (by simp) (by simp) (by simp [maxLen]) rfl rfl, fun j x hx => by simp at hx⟩)
  have B0 := Lib.hid (show Below w.heap.size w ((w.alloc (.cells #[] 79)).alloc (.cells #[] 79)) from ((Below.refl _ _).alloc (Nat.le_refl _) _).alloc (by simp) _)
  clear ha hb hs
  go_enter Try.func31, Try.ntmps31
  go_wp2_with fail
  go_loopg [8, 9, 10] 4 (fun r xs ys i wr => ∃ (k gx cx gy cy : Nat), k + r = 4 ∧ i = .int .i64 k ∧ xs = .slice (some ⟨gx, 0, none⟩) k cx ∧ ys = .slice (some ⟨gy, 0, none⟩) k cy ∧ gx ≠ gy ∧ RowsD wr w.heap.size gx k cx ((List.range k).map Ua) ∧ RowsD wr w.heap.size gy k cy ((List.range k).map Ub) ∧ Below w.heap.size w wr)
  case atStart => exact ⟨0, w.heap.size, 0, w.heap.size + 1, 0, by omega, rfl, rfl, rfl, by omega, X0.out, Y0.out, B0.out⟩
  case round =>
    obtain ⟨k, gx, cx, gy, cy, hk, rfl, rfl, rfl, hne, hx, hy, hbb⟩ := hrel
    have RX := Lib.hid hx
    have RY := Lib.hid hy
    have BB := Lib.hid hbb
    clear hx hy hbb X0 Y0 B0
    by_cases hlt : k < 4
    · obtain ⟨u1, u2, u3, u4, u5, u6⟩ := HS.out k hlt
      obtain ⟨ua, hua⟩ : ∃ u, Ua k = u := ⟨_, rfl⟩
      obtain ⟨ub, hub⟩ : ∃ u, Ub k = u := ⟨_, rfl⟩
      rw [hua] at u1 u3 u5
      rw [hub] at u2 u4 u6
      have U1 := Lib.hid u1
      have U2 := Lib.hid u2
      have U3 := Lib.hid (show ua.length = 4 from u3)
      have U4 := Lib.hid (show ub.length = 4 from u4)
      have HUA := Lib.hid hua
      have HUB := Lib.hid hub
      clear u1 u2 u3 u4 u5 u6 hua hub
      go_wp2_with fail
      refine (s_Basis 2 k _ (by omega) (by omega) hlt).mono ?_
      rintro e w3 ⟨A3, c3, rfl, o3, b3⟩
      have R3 := Lib.hid (show RdD w3 A3 4 (basis 2 k) from RdD.own o3)
      clear o3
      go_wp2_with fail
      refine (s_ApplyGs _ n _ a _ 4 _ 2 _ ua _ ((HA.out.below BB.out).below b3) hn R3.out (by omega) (by omega) (by decide) U1.out).mono ?_
      rintro e w4 ⟨A4, c4, rfl, o4, b4⟩
      have V4 := below_trans b3 b4
      have O4 := Lib.hid (ownsRow_base o4 (show w.heap.size ≤ w3.heap.size from Nat.le_trans BB.out.size b3.size))
      have RX4 := Lib.hid (RX.out.below V4)
      have RY4 := Lib.hid (RY.out.below V4)
      have B4 := Lib.hid (BB.out.trans (V4.mono BB.out.size))
      clear o4 b3 b4 V4 R3 RX RY BB
      go_wp2_with fail
      refine (s_Basis 2 k _ (by omega) (by omega) hlt).mono ?_
      rintro e w5 ⟨A5, c5, rfl, o5, b5⟩
      have R5 := Lib.hid (show RdD w5 A5 4 (basis 2 k) from RdD.own o5)
      clear o5
      go_wp2_with fail
      refine (s_ApplyGs _ m _ b _ 4 _ 2 _ ub _ ((HB.out.below B4.out).below b5) hm R5.out (by omega) (by omega) (by decide) U2.out).mono ?_
      rintro e w6 ⟨A6, c6, rfl, o6, b6⟩
      have V6 := below_trans b5 b6
      have O6 := Lib.hid (ownsRow_base o6 (show w.heap.size ≤ w5.heap.size from Nat.le_trans B4.out.size b5.size))
      have P4 := Lib.hid (ownsRow_below O4.out V6)
      have RX6 := Lib.hid (RX4.out.below V6)
      have RY6 := Lib.hid (RY4.out.below V6)
      have B6 := Lib.hid (B4.out.trans (V6.mono B4.out.size))
      clear o6 b5 b6 V6 R5 O4 RX4 RY4 B4
      have lx := RX6.out.lt
      have ly := RY6.out.lt
      have bs := B6.out.size
      obtain ⟨hlx, vx, rx1, rx2⟩ := RX6.out
      obtain ⟨hly, vy, ry1, ry2⟩ := RY6.out
      have AX1 := Lib.hid (rx1.alloc (.cells #[.slice A4 4 c4] 79))
      have RY6a := Lib.hid (RY6.out.alloc (.cells #[.slice A4 4 c4] 79))
      have IX := Lib.hid (show ∀ (j : Nat) (x : List Dw), ((List.range k).map Ua)[j]? = some x → ∃ B c', vx[j]? = some (Value.slice B x.length c') ∧ (w6.alloc (.cells #[.slice A4 4 c4] 79)).ownsRow w.heap.size 83 5 (.slice B x.length c') x.length (cellsD x) from fun j x hx => (rx2 j x hx).imp fun B h => h.imp fun c' h => ⟨h.1, h.2.alloc _⟩)
      have PA := Lib.hid (P4.out.alloc (.cells #[.slice A4 4 c4] 79))
      have OA := Lib.hid (O6.out.alloc (.cells #[.slice A4 4 c4] 79))
      have BA := Lib.hid (B6.out.alloc bs (.cells #[.slice A4 4 c4] 79))
      clear rx1 rx2 ry1 ry2 hly vy
      go_wp2_with (first
        | (at_builtin; refine wpList_appOne rfl (.tmp 46) (.tmp 48) 27 rfl Try.underlying27 infoDOmegaS rfl rfl AX1.out rfl (Bx.new w6 _ _) rfl (by omega) (by decide) (by simp; omega) ?_; intro g1 cap1 w7 p7 g7 e7; have RX7 := RowsD.app hlx AX1.out IX.out U3.out PA.out p7 g7; have RY7 := RY6a.out.other g7 (fun e => hne e.symm) (fun B m cc x hx => own_own_ne' hx AX1.out (by decide)); have O7 := OA.out.kept g7 (own_own_ne' OA.out AX1.out (by decide)); have B7 := below_grown BA.out (by simp; omega) AX1.out (Nat.le_refl _) g7; have ne7 := ap_ne hne ly e7; have ⟨hly, vy, ry1, ry2⟩ := RY7; have bs7 := B7.size)
        | (at_builtin; refine wpList_appOne rfl (.tmp 50) (.tmp 52) 27 rfl Try.underlying27 infoDOmegaS rfl rfl (ry1.alloc _) rfl (Bx.new w7 _ _) rfl (by omega) (by decide) (by simp; omega) ?_; intro g2 cap2 w8 p8 g8 e8)
        | fail)
      go_roundg (gk - 1)
      case measure => omega
      case rel =>
        refine ⟨k + 1, g1, cap1, g2, cap2, by omega, by go_num, rfl, rfl, ?_, ?_, ?_, below_grown (B7.alloc bs7 _) (by simp; omega) (ry1.alloc _) (Nat.le_refl _) g8⟩
        · exact (ap_ne (fun e => ne7 e.symm) RX7.lt e8).symm
        · rw [rows_succ, HUA.out]
          exact (RX7.alloc _).other g8 ne7 (fun B m cc x hx => own_own_ne' hx (ry1.alloc _) (by decide))
        · rw [rows_succ, HUB.out]
          exact RowsD.app hly (ry1.alloc _) (fun j x hx => (ry2 j x hx).imp fun B h => h.imp fun c' h => ⟨h.1, h.2.alloc _⟩) U4.out (O7.alloc _) p8 g8
    · obtain rfl : k = 4 := by omega
      have HLA := Lib.hid (show ∀ x ∈ (List.range 4).map Ua, x.length = 4 ∧ ∀ v ∈ x, okD v = true from fun x hx => by
        obtain ⟨j, hj, rfl⟩ := List.mem_map.1 hx
        obtain ⟨_, _, h3, _, h5, _⟩ := HS.out j (List.mem_range.1 hj)
        exact ⟨h3, h5⟩)
      have HLB := Lib.hid (show ∀ x ∈ (List.range 4).map Ub, x.length = 4 ∧ ∀ v ∈ x, okD v = true from fun x hx => by
        obtain ⟨j, hj, rfl⟩ := List.mem_map.1 hx
        obtain ⟨_, _, _, h4, _, h6⟩ := HS.out j (List.mem_range.1 hj)
        exact ⟨h4, h6⟩)
      have HP := Lib.hid (apart_parts (Q := 4) (by decide) HK.out)
      go_wp2_with fail
      refine (s_GPhaseG _ 4 _ 2 _ _ ((List.range 4).map Ua) ((List.range 4).map Ub) k0 _ RX.out.rd RY.out.rd (by omega) (by omega) (by decide) HLA.out HLB.out HP.out.1 HP.out.2.1 HP.out.2.2.1 HP.out.2.2.2).mono ?_
      rintro e w9 ⟨rfl, b9⟩
      go_wp2_with fail
      exact bodyPost_ret (v := .tuple #[.int .i64 (k0 : Nat), .bool true]) (by simp [results, Try.results31, go_sem]) rfl ⟨rfl, BB.out.trans (b9.mono BB.out.size)⟩

set_option maxRecDepth 100000 in
set_option maxHeartbeats 6400000 in
theorem l_apartG3 (k0 : Nat) (Ua Ub : Nat → List Dw) (A : Option Addr) (n ca : Nat) (a : List Gt) (B : Option Addr) (m cb : Nat) (b : List Gt) (w : World) (ha : RdG w A n a) (hb : RdG w B m b) (hn : n ≤ 1048576) (hm : m ≤ 1048576) (hs : ApartC a b 3 k0 Ua Ub) : Calls Try.prog 31 #[.slice A n ca, .slice B m cb, .int .i64 3] w fun e w' => e = .returned (.tuple #[.int .i64 (k0 : Nat), .bool true]) ∧ Below w.heap.size w w' := by
  have HA := Lib.hid ha
  have HB := Lib.hid hb
  have HS := Lib.hid (show ∀ i, i < 8 → _ from hs.1)
  have HK := Lib.hid hs.2
  have X0 := Lib.hid (show RowsD ((w.alloc (.cells #[] 79)).alloc (.cells #[] 79)) w.heap.size w.heap.size 0 0 ((List.range 0).map Ua) from ⟨rfl, [], (World.ownsRow_lit w #[] 0 (Nat.le_refl _) (by simp [maxLen]) rfl).alloc _, fun j x hx => by simp at hx⟩)
  have Y0 := Lib.hid (show RowsD ((w.alloc (.cells #[] 79)).alloc (.cells #[] 79)) w.heap.size (w.heap.size + 1) 0 0 ((List.range 0).map Ub) from ⟨rfl, [], ownsRow_lit' _ #[] 0 (by simp) (by simp) (by simp [maxLen]) rfl rfl, fun j x hx => by simp at hx⟩)
  have B0 := Lib.hid (show Below w.heap.size w ((w.alloc (.cells #[] 79)).alloc (.cells #[] 79)) from ((Below.refl _ _).alloc (Nat.le_refl _) _).alloc (by simp) _)
  clear ha hb hs
  go_enter Try.func31, Try.ntmps31
  go_wp2_with fail
  go_loopg [8, 9, 10] 8 (fun r xs ys i wr => ∃ (k gx cx gy cy : Nat), k + r = 8 ∧ i = .int .i64 k ∧ xs = .slice (some ⟨gx, 0, none⟩) k cx ∧ ys = .slice (some ⟨gy, 0, none⟩) k cy ∧ gx ≠ gy ∧ RowsD wr w.heap.size gx k cx ((List.range k).map Ua) ∧ RowsD wr w.heap.size gy k cy ((List.range k).map Ub) ∧ Below w.heap.size w wr)
  case atStart => exact ⟨0, w.heap.size, 0, w.heap.size + 1, 0, by omega, rfl, rfl, rfl, by omega, X0.out, Y0.out, B0.out⟩
  case round =>
    obtain ⟨k, gx, cx, gy, cy, hk, rfl, rfl, rfl, hne, hx, hy, hbb⟩ := hrel
    have RX := Lib.hid hx
    have RY := Lib.hid hy
    have BB := Lib.hid hbb
    clear hx hy hbb X0 Y0 B0
    by_cases hlt : k < 8
    · obtain ⟨u1, u2, u3, u4, u5, u6⟩ := HS.out k hlt
      obtain ⟨ua, hua⟩ : ∃ u, Ua k = u := ⟨_, rfl⟩
      obtain ⟨ub, hub⟩ : ∃ u, Ub k = u := ⟨_, rfl⟩
      rw [hua] at u1 u3 u5
      rw [hub] at u2 u4 u6
      have U1 := Lib.hid u1
      have U2 := Lib.hid u2
      have U3 := Lib.hid (show ua.length = 8 from u3)
      have U4 := Lib.hid (show ub.length = 8 from u4)
      have HUA := Lib.hid hua
      have HUB := Lib.hid hub
      clear u1 u2 u3 u4 u5 u6 hua hub
      go_wp2_with fail
      refine (s_Basis 3 k _ (by omega) (by omega) hlt).mono ?_
      rintro e w3 ⟨A3, c3, rfl, o3, b3⟩
      have R3 := Lib.hid (show RdD w3 A3 8 (basis 3 k) from RdD.own o3)
      clear o3
      go_wp2_with fail
      refine (s_ApplyGs _ n _ a _ 8 _ 3 _ ua _ ((HA.out.below BB.out).below b3) hn R3.out (by omega) (by omega) (by decide) U1.out).mono ?_
      rintro e w4 ⟨A4, c4, rfl, o4, b4⟩
      have V4 := below_trans b3 b4
      have O4 := Lib.hid (ownsRow_base o4 (show w.heap.size ≤ w3.heap.size from Nat.le_trans BB.out.size b3.size))
      have RX4 := Lib.hid (RX.out.below V4)
      have RY4 := Lib.hid (RY.out.below V4)
      have B4 := Lib.hid (BB.out.trans (V4.mono BB.out.size))
      clear o4 b3 b4 V4 R3 RX RY BB
      go_wp2_with fail
      refine (s_Basis 3 k _ (by omega) (by omega) hlt).mono ?_
      rintro e w5 ⟨A5, c5, rfl, o5, b5⟩
      have R5 := Lib.hid (show RdD w5 A5 8 (basis 3 k) from RdD.own o5)
      clear o5
      go_wp2_with fail
      refine (s_ApplyGs _ m _ b _ 8 _ 3 _ ub _ ((HB.out.below B4.out).below b5) hm R5.out (by omega) (by omega) (by decide) U2.out).mono ?_
      rintro e w6 ⟨A6, c6, rfl, o6, b6⟩
      have V6 := below_trans b5 b6
      have O6 := Lib.hid (ownsRow_base o6 (show w.heap.size ≤ w5.heap.size from Nat.le_trans B4.out.size b5.size))
      have P4 := Lib.hid (ownsRow_below O4.out V6)
      have RX6 := Lib.hid (RX4.out.below V6)
      have RY6 := Lib.hid (RY4.out.below V6)
      have B6 := Lib.hid (B4.out.trans (V6.mono B4.out.size))
      clear o6 b5 b6 V6 R5 O4 RX4 RY4 B4
      have lx := RX6.out.lt
      have ly := RY6.out.lt
      have bs := B6.out.size
      obtain ⟨hlx, vx, rx1, rx2⟩ := RX6.out
      obtain ⟨hly, vy, ry1, ry2⟩ := RY6.out
      have AX1 := Lib.hid (rx1.alloc (.cells #[.slice A4 8 c4] 79))
      have RY6a := Lib.hid (RY6.out.alloc (.cells #[.slice A4 8 c4] 79))
      have IX := Lib.hid (show ∀ (j : Nat) (x : List Dw), ((List.range k).map Ua)[j]? = some x → ∃ B c', vx[j]? = some (Value.slice B x.length c') ∧ (w6.alloc (.cells #[.slice A4 8 c4] 79)).ownsRow w.heap.size 83 5 (.slice B x.length c') x.length (cellsD x) from fun j x hx => (rx2 j x hx).imp fun B h => h.imp fun c' h => ⟨h.1, h.2.alloc _⟩)
      have PA := Lib.hid (P4.out.alloc (.cells #[.slice A4 8 c4] 79))
      have OA := Lib.hid (O6.out.alloc (.cells #[.slice A4 8 c4] 79))
      have BA := Lib.hid (B6.out.alloc bs (.cells #[.slice A4 8 c4] 79))
      clear rx1 rx2 ry1 ry2 hly vy
      go_wp2_with (first
        | (at_builtin; refine wpList_appOne rfl (.tmp 46) (.tmp 48) 27 rfl Try.underlying27 infoDOmegaS rfl rfl AX1.out rfl (Bx.new w6 _ _) rfl (by omega) (by decide) (by simp; omega) ?_; intro g1 cap1 w7 p7 g7 e7; have RX7 := RowsD.app hlx AX1.out IX.out U3.out PA.out p7 g7; have RY7 := RY6a.out.other g7 (fun e => hne e.symm) (fun B m cc x hx => own_own_ne' hx AX1.out (by decide)); have O7 := OA.out.kept g7 (own_own_ne' OA.out AX1.out (by decide)); have B7 := below_grown BA.out (by simp; omega) AX1.out (Nat.le_refl _) g7; have ne7 := ap_ne hne ly e7; have ⟨hly, vy, ry1, ry2⟩ := RY7; have bs7 := B7.size)
        | (at_builtin; refine wpList_appOne rfl (.tmp 50) (.tmp 52) 27 rfl Try.underlying27 infoDOmegaS rfl rfl (ry1.alloc _) rfl (Bx.new w7 _ _) rfl (by omega) (by decide) (by simp; omega) ?_; intro g2 cap2 w8 p8 g8 e8)
        | fail)
      go_roundg (gk - 1)
      case measure => omega
      case rel =>
        refine ⟨k + 1, g1, cap1, g2, cap2, by omega, by go_num, rfl, rfl, ?_, ?_, ?_, below_grown (B7.alloc bs7 _) (by simp; omega) (ry1.alloc _) (Nat.le_refl _) g8⟩
        · exact (ap_ne (fun e => ne7 e.symm) RX7.lt e8).symm
        · rw [rows_succ, HUA.out]
          exact (RX7.alloc _).other g8 ne7 (fun B m cc x hx => own_own_ne' hx (ry1.alloc _) (by decide))
        · rw [rows_succ, HUB.out]
          exact RowsD.app hly (ry1.alloc _) (fun j x hx => (ry2 j x hx).imp fun B h => h.imp fun c' h => ⟨h.1, h.2.alloc _⟩) U4.out (O7.alloc _) p8 g8
    · obtain rfl : k = 8 := by omega
      have HLA := Lib.hid (show ∀ x ∈ (List.range 8).map Ua, x.length = 8 ∧ ∀ v ∈ x, okD v = true from fun x hx => by
        obtain ⟨j, hj, rfl⟩ := List.mem_map.1 hx
        obtain ⟨_, _, h3, _, h5, _⟩ := HS.out j (List.mem_range.1 hj)
        exact ⟨h3, h5⟩)
      have HLB := Lib.hid (show ∀ x ∈ (List.range 8).map Ub, x.length = 8 ∧ ∀ v ∈ x, okD v = true from fun x hx => by
        obtain ⟨j, hj, rfl⟩ := List.mem_map.1 hx
        obtain ⟨_, _, _, h4, _, h6⟩ := HS.out j (List.mem_range.1 hj)
        exact ⟨h4, h6⟩)
      have HP := Lib.hid (apart_parts (Q := 8) (by decide) HK.out)
      go_wp2_with fail
      refine (s_GPhaseG _ 8 _ 3 _ _ ((List.range 8).map Ua) ((List.range 8).map Ub) k0 _ RX.out.rd RY.out.rd (by omega) (by omega) (by decide) HLA.out HLB.out HP.out.1 HP.out.2.1 HP.out.2.2.1 HP.out.2.2.2).mono ?_
      rintro e w9 ⟨rfl, b9⟩
      go_wp2_with fail
      exact bodyPost_ret (v := .tuple #[.int .i64 (k0 : Nat), .bool true]) (by simp [results, Try.results31, go_sem]) rfl ⟨rfl, BB.out.trans (b9.mono BB.out.size)⟩

set_option maxRecDepth 100000 in
set_option maxHeartbeats 6400000 in
theorem l_apartG4 (k0 : Nat) (Ua Ub : Nat → List Dw) (A : Option Addr) (n ca : Nat) (a : List Gt) (B : Option Addr) (m cb : Nat) (b : List Gt) (w : World) (ha : RdG w A n a) (hb : RdG w B m b) (hn : n ≤ 1048576) (hm : m ≤ 1048576) (hs : ApartC a b 4 k0 Ua Ub) : Calls Try.prog 31 #[.slice A n ca, .slice B m cb, .int .i64 4] w fun e w' => e = .returned (.tuple #[.int .i64 (k0 : Nat), .bool true]) ∧ Below w.heap.size w w' := by
  have HA := Lib.hid ha
  have HB := Lib.hid hb
  have HS := Lib.hid (show ∀ i, i < 16 → _ from hs.1)
  have HK := Lib.hid hs.2
  have X0 := Lib.hid (show RowsD ((w.alloc (.cells #[] 79)).alloc (.cells #[] 79)) w.heap.size w.heap.size 0 0 ((List.range 0).map Ua) from ⟨rfl, [], (World.ownsRow_lit w #[] 0 (Nat.le_refl _) (by simp [maxLen]) rfl).alloc _, fun j x hx => by simp at hx⟩)
  have Y0 := Lib.hid (show RowsD ((w.alloc (.cells #[] 79)).alloc (.cells #[] 79)) w.heap.size (w.heap.size + 1) 0 0 ((List.range 0).map Ub) from ⟨rfl, [], ownsRow_lit' _ #[] 0 (by simp) (by simp) (by simp [maxLen]) rfl rfl, fun j x hx => by simp at hx⟩)
  have B0 := Lib.hid (show Below w.heap.size w ((w.alloc (.cells #[] 79)).alloc (.cells #[] 79)) from ((Below.refl _ _).alloc (Nat.le_refl _) _).alloc (by simp) _)
  clear ha hb hs
  go_enter Try.func31, Try.ntmps31
  go_wp2_with fail
  go_loopg [8, 9, 10] 16 (fun r xs ys i wr => ∃ (k gx cx gy cy : Nat), k + r = 16 ∧ i = .int .i64 k ∧ xs = .slice (some ⟨gx, 0, none⟩) k cx ∧ ys = .slice (some ⟨gy, 0, none⟩) k cy ∧ gx ≠ gy ∧ RowsD wr w.heap.size gx k cx ((List.range k).map Ua) ∧ RowsD wr w.heap.size gy k cy ((List.range k).map Ub) ∧ Below w.heap.size w wr)
  case atStart => exact ⟨0, w.heap.size, 0, w.heap.size + 1, 0, by omega, rfl, rfl, rfl, by omega, X0.out, Y0.out, B0.out⟩
  case round =>
    obtain ⟨k, gx, cx, gy, cy, hk, rfl, rfl, rfl, hne, hx, hy, hbb⟩ := hrel
    have RX := Lib.hid hx
    have RY := Lib.hid hy
    have BB := Lib.hid hbb
    clear hx hy hbb X0 Y0 B0
    by_cases hlt : k < 16
    · obtain ⟨u1, u2, u3, u4, u5, u6⟩ := HS.out k hlt
      obtain ⟨ua, hua⟩ : ∃ u, Ua k = u := ⟨_, rfl⟩
      obtain ⟨ub, hub⟩ : ∃ u, Ub k = u := ⟨_, rfl⟩
      rw [hua] at u1 u3 u5
      rw [hub] at u2 u4 u6
      have U1 := Lib.hid u1
      have U2 := Lib.hid u2
      have U3 := Lib.hid (show ua.length = 16 from u3)
      have U4 := Lib.hid (show ub.length = 16 from u4)
      have HUA := Lib.hid hua
      have HUB := Lib.hid hub
      clear u1 u2 u3 u4 u5 u6 hua hub
      go_wp2_with fail
      refine (s_Basis 4 k _ (by omega) (by omega) hlt).mono ?_
      rintro e w3 ⟨A3, c3, rfl, o3, b3⟩
      have R3 := Lib.hid (show RdD w3 A3 16 (basis 4 k) from RdD.own o3)
      clear o3
      go_wp2_with fail
      refine (s_ApplyGs _ n _ a _ 16 _ 4 _ ua _ ((HA.out.below BB.out).below b3) hn R3.out (by omega) (by omega) (by decide) U1.out).mono ?_
      rintro e w4 ⟨A4, c4, rfl, o4, b4⟩
      have V4 := below_trans b3 b4
      have O4 := Lib.hid (ownsRow_base o4 (show w.heap.size ≤ w3.heap.size from Nat.le_trans BB.out.size b3.size))
      have RX4 := Lib.hid (RX.out.below V4)
      have RY4 := Lib.hid (RY.out.below V4)
      have B4 := Lib.hid (BB.out.trans (V4.mono BB.out.size))
      clear o4 b3 b4 V4 R3 RX RY BB
      go_wp2_with fail
      refine (s_Basis 4 k _ (by omega) (by omega) hlt).mono ?_
      rintro e w5 ⟨A5, c5, rfl, o5, b5⟩
      have R5 := Lib.hid (show RdD w5 A5 16 (basis 4 k) from RdD.own o5)
      clear o5
      go_wp2_with fail
      refine (s_ApplyGs _ m _ b _ 16 _ 4 _ ub _ ((HB.out.below B4.out).below b5) hm R5.out (by omega) (by omega) (by decide) U2.out).mono ?_
      rintro e w6 ⟨A6, c6, rfl, o6, b6⟩
      have V6 := below_trans b5 b6
      have O6 := Lib.hid (ownsRow_base o6 (show w.heap.size ≤ w5.heap.size from Nat.le_trans B4.out.size b5.size))
      have P4 := Lib.hid (ownsRow_below O4.out V6)
      have RX6 := Lib.hid (RX4.out.below V6)
      have RY6 := Lib.hid (RY4.out.below V6)
      have B6 := Lib.hid (B4.out.trans (V6.mono B4.out.size))
      clear o6 b5 b6 V6 R5 O4 RX4 RY4 B4
      have lx := RX6.out.lt
      have ly := RY6.out.lt
      have bs := B6.out.size
      obtain ⟨hlx, vx, rx1, rx2⟩ := RX6.out
      obtain ⟨hly, vy, ry1, ry2⟩ := RY6.out
      have AX1 := Lib.hid (rx1.alloc (.cells #[.slice A4 16 c4] 79))
      have RY6a := Lib.hid (RY6.out.alloc (.cells #[.slice A4 16 c4] 79))
      have IX := Lib.hid (show ∀ (j : Nat) (x : List Dw), ((List.range k).map Ua)[j]? = some x → ∃ B c', vx[j]? = some (Value.slice B x.length c') ∧ (w6.alloc (.cells #[.slice A4 16 c4] 79)).ownsRow w.heap.size 83 5 (.slice B x.length c') x.length (cellsD x) from fun j x hx => (rx2 j x hx).imp fun B h => h.imp fun c' h => ⟨h.1, h.2.alloc _⟩)
      have PA := Lib.hid (P4.out.alloc (.cells #[.slice A4 16 c4] 79))
      have OA := Lib.hid (O6.out.alloc (.cells #[.slice A4 16 c4] 79))
      have BA := Lib.hid (B6.out.alloc bs (.cells #[.slice A4 16 c4] 79))
      clear rx1 rx2 ry1 ry2 hly vy
      go_wp2_with (first
        | (at_builtin; refine wpList_appOne rfl (.tmp 46) (.tmp 48) 27 rfl Try.underlying27 infoDOmegaS rfl rfl AX1.out rfl (Bx.new w6 _ _) rfl (by omega) (by decide) (by simp; omega) ?_; intro g1 cap1 w7 p7 g7 e7; have RX7 := RowsD.app hlx AX1.out IX.out U3.out PA.out p7 g7; have RY7 := RY6a.out.other g7 (fun e => hne e.symm) (fun B m cc x hx => own_own_ne' hx AX1.out (by decide)); have O7 := OA.out.kept g7 (own_own_ne' OA.out AX1.out (by decide)); have B7 := below_grown BA.out (by simp; omega) AX1.out (Nat.le_refl _) g7; have ne7 := ap_ne hne ly e7; have ⟨hly, vy, ry1, ry2⟩ := RY7; have bs7 := B7.size)
        | (at_builtin; refine wpList_appOne rfl (.tmp 50) (.tmp 52) 27 rfl Try.underlying27 infoDOmegaS rfl rfl (ry1.alloc _) rfl (Bx.new w7 _ _) rfl (by omega) (by decide) (by simp; omega) ?_; intro g2 cap2 w8 p8 g8 e8)
        | fail)
      go_roundg (gk - 1)
      case measure => omega
      case rel =>
        refine ⟨k + 1, g1, cap1, g2, cap2, by omega, by go_num, rfl, rfl, ?_, ?_, ?_, below_grown (B7.alloc bs7 _) (by simp; omega) (ry1.alloc _) (Nat.le_refl _) g8⟩
        · exact (ap_ne (fun e => ne7 e.symm) RX7.lt e8).symm
        · rw [rows_succ, HUA.out]
          exact (RX7.alloc _).other g8 ne7 (fun B m cc x hx => own_own_ne' hx (ry1.alloc _) (by decide))
        · rw [rows_succ, HUB.out]
          exact RowsD.app hly (ry1.alloc _) (fun j x hx => (ry2 j x hx).imp fun B h => h.imp fun c' h => ⟨h.1, h.2.alloc _⟩) U4.out (O7.alloc _) p8 g8
    · obtain rfl : k = 16 := by omega
      have HLA := Lib.hid (show ∀ x ∈ (List.range 16).map Ua, x.length = 16 ∧ ∀ v ∈ x, okD v = true from fun x hx => by
        obtain ⟨j, hj, rfl⟩ := List.mem_map.1 hx
        obtain ⟨_, _, h3, _, h5, _⟩ := HS.out j (List.mem_range.1 hj)
        exact ⟨h3, h5⟩)
      have HLB := Lib.hid (show ∀ x ∈ (List.range 16).map Ub, x.length = 16 ∧ ∀ v ∈ x, okD v = true from fun x hx => by
        obtain ⟨j, hj, rfl⟩ := List.mem_map.1 hx
        obtain ⟨_, _, _, h4, _, h6⟩ := HS.out j (List.mem_range.1 hj)
        exact ⟨h4, h6⟩)
      have HP := Lib.hid (apart_parts (Q := 16) (by decide) HK.out)
      go_wp2_with fail
      refine (s_GPhaseG _ 16 _ 4 _ _ ((List.range 16).map Ua) ((List.range 16).map Ub) k0 _ RX.out.rd RY.out.rd (by omega) (by omega) (by decide) HLA.out HLB.out HP.out.1 HP.out.2.1 HP.out.2.2.1 HP.out.2.2.2).mono ?_
      rintro e w9 ⟨rfl, b9⟩
      go_wp2_with fail
      exact bodyPost_ret (v := .tuple #[.int .i64 (k0 : Nat), .bool true]) (by simp [results, Try.results31, go_sem]) rfl ⟨rfl, BB.out.trans (b9.mono BB.out.size)⟩
end Go.Proofs.Ytibhikngiceeeaa
