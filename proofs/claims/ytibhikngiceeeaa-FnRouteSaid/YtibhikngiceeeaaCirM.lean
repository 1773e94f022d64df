/- Contracts of IsValidCircuit, l11Mat, CircuitMatrix, EqualMatrix (spec). Asked: valid gates on one to four qubits; square matrices of at most 16 rows. -/
import Derived.Test.YtibhikngiceeeaaStN
import Derived.Test.YtibhikngiceeeaaStM
import Derived.Test.YtibhikngiceeeaaMatF
import Derived.Test.YtibhikngiceeeaaDomP
namespace Go.Proofs.Ytibhikngiceeeaa
open Go.RowKit
set_option linter.unusedVariables false

set_option maxRecDepth 100000 in
set_option maxHeartbeats 1600000 in
theorem s_IsCirc (A : Option Addr) (n cap q : Nat) (gs : List Gt) (w : World) (h : RdG w A n gs) (h1 : 1 ≤ q) (h4 : q ≤ 4) (hg : ∀ g ∈ gs, okN q g = true) (hn : n ≤ 1048576) :
    Calls Try.prog 71 #[.agg #[.int .i64 q, .slice A n cap]] w fun e w' => e = .returned (.bool (decide (n ≤ 60))) ∧ Below w.heap.size w w' := by
  have H := Lib.hid h
  have HG := Lib.hid hg
  have I1 := Lib.hid (show inB (q : Int) 1 4 = true from inB_t (by omega) (by omega))
  clear h hg
  go_enter Try.func71, Try.ntmps71
  go_wp2_with fail
  go_loopg [3] n (fun r i wr => ∃ k : Nat, k + r = n ∧ i = .int .i64 k ∧ Bx wr w.heap.size 50 #[.int .i64 q, .slice A n cap] ∧ Below w.heap.size w wr)
  case atStart => exact ⟨0, by omega, rfl, Bx.new w _ _, (Below.refl _ _).alloc (Nat.le_refl _) _⟩
  case round =>
    obtain ⟨k, hk, rfl, hx, hb⟩ := hrel
    have HX := Lib.hid hx
    have hs0 := hb.size
    have hsl : w.heap.size < wr.heap.size := hx.lt
    clear hx
    obtain ⟨p0, p1, _, _⟩ := HX.out.two
    by_cases hlt : k < n
    · obtain ⟨b, off, g, rfl, hB, hd, c0, c1, c2, c3⟩ := (H.out.below hb).at_ hlt
      have HV := Lib.hid (show okG g.k g.a g.b g.c (q : Int) = true from HG.out g (List.mem_of_mem_drop (i := k) (by rw [hd]; simp)))
      clear hd
      have hi0 : (0 : Int) ≤ (k : Int) := by omega
      have hi1 : (k : Int) < (n : Int) := by omega
      go_upto_region 4 with fail
      go_region_held3 (fun w' => w'.cell? ⟨w.heap.size, 0, none⟩ = some (.int .i64 (q : Nat)) ∧ w'.cell? ⟨w.heap.size, 1, none⟩ = some (.slice (some ⟨b, off, none⟩) n cap) ∧ w'.cell? ⟨b, off + k * 4, none⟩ = some (.int .i64 g.k) ∧ w'.cell? ⟨b, off + k * 4 + 1, none⟩ = some (.int .i64 g.a) ∧ w'.cell? ⟨b, off + k * 4 + 2, none⟩ = some (.int .i64 g.b) ∧ w'.cell? ⟨b, off + k * 4 + 3, none⟩ = some (.int .i64 g.c))
        (first | with_reducible exact ⟨s0, s1, s2, s3, s4, s5⟩ | go_keep)
        (first
          | (go_at_call 30; refine (s_IsValidGate g.k g.a g.b g.c q _).mono ?_; rintro e w1 ⟨rfl, b1⟩; have s0 := (b1.cell (p := ⟨w.heap.size, 0, none⟩) hsl).trans p0; have s1 := (b1.cell (p := ⟨w.heap.size, 1, none⟩) hsl).trans p1; have s2 := (b1.cell (p := ⟨b, off + k * 4, none⟩) hB).trans c0; have s3 := (b1.cell (p := ⟨b, off + k * 4 + 1, none⟩) hB).trans c1; have s4 := (b1.cell (p := ⟨b, off + k * 4 + 2, none⟩) hB).trans c2; have s5 := (b1.cell (p := ⟨b, off + k * 4 + 3, none⟩) hB).trans c3; rw [HV.out]))
      all_goals go_wp2_with fail
      all_goals go_roundg (gk - 1)
      all_goals first
        | omega
        | exact ⟨k + 1, by omega, by go_num, (HX.out.drew.below b1), hb.trans ((below_drew b1).mono (by simpa using hs0))⟩
    · go_wp2_with fail
      refine (s_in _ _ _ _).mono ?_
      rintro e w1 ⟨rfl, rfl⟩
      rw [I1.out]
      go_wp2_with fail
      go_ret
      exact ⟨ret_bool (by simp <;> omega), hb⟩
def RetSDB (n : Nat) (l : List (List Dw)) (w : World) (e : Ending) (w' : World) : Prop :=
  ∃ A c, e = .returned (.tuple #[.slice A n c, .bool true]) ∧ OwnSS cellsD w' w.heap.size 79 83 5 (.slice A n c) l ∧ Below w.heap.size w w'
/-- The columns that a row of gates makes. -/
def colsU (U : Nat → List Dw) (k : Nat) : List (List Dw) := (List.range k).map U
theorem colsU_len (U : Nat → List Dw) (k : Nat) : (colsU U k).length = k := by unfold colsU; rw [List.length_map, List.length_range]
theorem colsU_succ (U : Nat → List Dw) (k : Nat) : colsU U (k + 1) = colsU U k ++ [U k] := by unfold colsU; rw [List.range_succ, List.map_append]; rfl
theorem colsU_all {U : Nat → List Dw} {n k : Nat} (h : ∀ i, i < k → (U i).length = n) : ∀ x ∈ colsU U k, x.length = n := by
  intro x hx
  obtain ⟨j, hj, rfl⟩ := List.mem_map.1 hx
  exact h j (List.mem_range.1 hj)

set_option maxRecDepth 100000 in
set_option maxHeartbeats 3200000 in
theorem s_l11Mat1 (U : Nat → List Dw) (A : Option Addr) (n cap : Nat) (gs : List Gt) (w : World) (h : RdG w A n gs) (hn : n ≤ 1048576) (hU : ∀ i, i < 2 → appGs gs (basis 1 i) = some (U i) ∧ (U i).length = 2) :
    Calls Try.prog 72 #[.slice A n cap, .int .i64 1] w (RetSDB 2 (flipL (colsU U 2)) w) := by
  have H := Lib.hid h
  have HU := Lib.hid hU
  clear h hU
  go_enter Try.func72, Try.ntmps72
  go_wp2_with fail
  go_loopg [6, 7] 2 (fun r v j wr => ∃ (i : Nat) (A : Option Addr) (c : Nat), i + r = 2 ∧ j = .int .i64 i ∧ v = .slice A i c ∧ OwnSS cellsD wr w.heap.size 79 83 5 (.slice A i c) (colsU U i) ∧ Below w.heap.size w wr)
  case atStart => exact ⟨0, _, 0, by omega, rfl, rfl, OwnSS.lit0 w (Nat.le_refl _) _ _ _ _, (Below.refl _ _).alloc (Nat.le_refl _) _⟩
  case round =>
    obtain ⟨i, A3, c3, hi, rfl, rfl, ho, hb⟩ := hrel
    have HO := Lib.hid ho
    have HB := Lib.hid hb
    have hs0 := hb.size
    clear ho hb
    by_cases hlt : i < 2
    · obtain ⟨u1, u2⟩ := HU.out i hlt
      obtain ⟨u, hu⟩ : ∃ u, U i = u := ⟨_, rfl⟩
      rw [hu] at u1 u2
      have U1 := Lib.hid u1
      have HUU := Lib.hid hu
      clear u1 hu
      go_wp2_with fail
      refine (s_Basis 1 i _ (by omega) (by omega) hlt).mono ?_
      rintro e w3 ⟨A4, c4, rfl, o4, b4⟩
      have R4 := Lib.hid (show RdD w3 A4 2 (basis 1 i) from RdD.own o4)
      clear o4
      go_wp2_with fail
      refine (s_ApplyGs _ n _ gs _ 2 _ 1 _ u _ ((H.out.below HB.out).below b4) hn R4.out (by omega) (by omega) (by decide) U1.out).mono ?_
      rintro e w5 ⟨A5, c5, rfl, o5, b5⟩
      have B5 := Lib.hid (below_trans b4 b5)
      have HR := Lib.hid (ownsRow_base o5 b4.size)
      have hs5 := B5.out.size
      clear o5 b4 b5 R4
      have HW := Lib.hid (HO.out.below B5.out)
      obtain ⟨vs, a1, a2, a3⟩ := HW.out
      rw [colsU_len] at a1
      have A1 := Lib.hid a1
      clear a1 a2 a3
      go_wp2_with (at_builtin; refine wpList_app rfl (.tmp 29) (.tmp 31) 27 rfl Try.underlying27 infoDOmegaS rfl (by decide) rfl (A1.out.alloc _) rfl (Rd.lit w5 79 #[.slice A5 2 c5] 1 1 rfl) (by simp [Value.oneCell']) (by omega) (by decide) (by simp <;> omega) ?_; intro A9 c9 w9 o9 g9)
      go_roundg (gk - 1)
      case measure => omega
      case rel =>
        refine ⟨i + 1, A9, c9, by omega, by go_num, rfl, ?_, below_grown ((HB.out.trans (B5.out.mono hs0)).alloc (by omega) _) (by simp <;> omega) (A1.out.alloc _) (Nat.le_refl _) g9⟩
        rw [colsU_succ, HUU.out]
        exact OwnSS.app1 (by decide) HO.out (Nat.le_refl _) hs0 (B5.out.alloc hs5 _) u2 (HR.out.alloc _) (colsU_len U i) (A1.out.alloc _) g9 o9
    · obtain rfl : i = 2 := by omega
      have HA := Lib.hid (colsU_all (U := U) (k := 2) (n := 2) fun i hi => (HU.out i hi).2)
      go_wp2_with fail
      refine (s_l7Cols _ 2 _ (colsU U 2) _ (HO.out.rd (colsU_len U _)) (by omega) HA.out).mono ?_
      rintro e w6 ⟨A6, c6, rfl, o6, b6⟩
      have hfl : (flipL (colsU U 2)).length = 2 := by rw [flipL_len, colsU_len]
      rw [hfl] at o6 ⊢
      go_wp2_with fail
      exact bodyPost_ret (v := .tuple #[.slice A6 2 c6, .bool true]) (by simp [results, Try.results72, go_sem]) rfl ⟨_, _, rfl, o6.base_ hs0, HB.out.trans (b6.mono hs0)⟩
set_option maxRecDepth 100000 in
set_option maxHeartbeats 3200000 in
theorem s_l11Mat2 (U : Nat → List Dw) (A : Option Addr) (n cap : Nat) (gs : List Gt) (w : World) (h : RdG w A n gs) (hn : n ≤ 1048576) (hU : ∀ i, i < 4 → appGs gs (basis 2 i) = some (U i) ∧ (U i).length = 4) :
    Calls Try.prog 72 #[.slice A n cap, .int .i64 2] w (RetSDB 4 (flipL (colsU U 4)) w) := by
  have H := Lib.hid h
  have HU := Lib.hid hU
  clear h hU
  go_enter Try.func72, Try.ntmps72
  go_wp2_with fail
  go_loopg [6, 7] 4 (fun r v j wr => ∃ (i : Nat) (A : Option Addr) (c : Nat), i + r = 4 ∧ j = .int .i64 i ∧ v = .slice A i c ∧ OwnSS cellsD wr w.heap.size 79 83 5 (.slice A i c) (colsU U i) ∧ Below w.heap.size w wr)
  case atStart => exact ⟨0, _, 0, by omega, rfl, rfl, OwnSS.lit0 w (Nat.le_refl _) _ _ _ _, (Below.refl _ _).alloc (Nat.le_refl _) _⟩
  case round =>
    obtain ⟨i, A3, c3, hi, rfl, rfl, ho, hb⟩ := hrel
    have HO := Lib.hid ho
    have HB := Lib.hid hb
    have hs0 := hb.size
    clear ho hb
    by_cases hlt : i < 4
    · obtain ⟨u1, u2⟩ := HU.out i hlt
      obtain ⟨u, hu⟩ : ∃ u, U i = u := ⟨_, rfl⟩
      rw [hu] at u1 u2
      have U1 := Lib.hid u1
      have HUU := Lib.hid hu
      clear u1 hu
      go_wp2_with fail
      refine (s_Basis 2 i _ (by omega) (by omega) hlt).mono ?_
      rintro e w3 ⟨A4, c4, rfl, o4, b4⟩
      have R4 := Lib.hid (show RdD w3 A4 4 (basis 2 i) from RdD.own o4)
      clear o4
      go_wp2_with fail
      refine (s_ApplyGs _ n _ gs _ 4 _ 2 _ u _ ((H.out.below HB.out).below b4) hn R4.out (by omega) (by omega) (by decide) U1.out).mono ?_
      rintro e w5 ⟨A5, c5, rfl, o5, b5⟩
      have B5 := Lib.hid (below_trans b4 b5)
      have HR := Lib.hid (ownsRow_base o5 b4.size)
      have hs5 := B5.out.size
      clear o5 b4 b5 R4
      have HW := Lib.hid (HO.out.below B5.out)
      obtain ⟨vs, a1, a2, a3⟩ := HW.out
      rw [colsU_len] at a1
      have A1 := Lib.hid a1
      clear a1 a2 a3
      go_wp2_with (at_builtin; refine wpList_app rfl (.tmp 29) (.tmp 31) 27 rfl Try.underlying27 infoDOmegaS rfl (by decide) rfl (A1.out.alloc _) rfl (Rd.lit w5 79 #[.slice A5 4 c5] 1 1 rfl) (by simp [Value.oneCell']) (by omega) (by decide) (by simp <;> omega) ?_; intro A9 c9 w9 o9 g9)
      go_roundg (gk - 1)
      case measure => omega
      case rel =>
        refine ⟨i + 1, A9, c9, by omega, by go_num, rfl, ?_, below_grown ((HB.out.trans (B5.out.mono hs0)).alloc (by omega) _) (by simp <;> omega) (A1.out.alloc _) (Nat.le_refl _) g9⟩
        rw [colsU_succ, HUU.out]
        exact OwnSS.app1 (by decide) HO.out (Nat.le_refl _) hs0 (B5.out.alloc hs5 _) u2 (HR.out.alloc _) (colsU_len U i) (A1.out.alloc _) g9 o9
    · obtain rfl : i = 4 := by omega
      have HA := Lib.hid (colsU_all (U := U) (k := 4) (n := 4) fun i hi => (HU.out i hi).2)
      go_wp2_with fail
      refine (s_l7Cols _ 4 _ (colsU U 4) _ (HO.out.rd (colsU_len U _)) (by omega) HA.out).mono ?_
      rintro e w6 ⟨A6, c6, rfl, o6, b6⟩
      have hfl : (flipL (colsU U 4)).length = 4 := by rw [flipL_len, colsU_len]
      rw [hfl] at o6 ⊢
      go_wp2_with fail
      exact bodyPost_ret (v := .tuple #[.slice A6 4 c6, .bool true]) (by simp [results, Try.results72, go_sem]) rfl ⟨_, _, rfl, o6.base_ hs0, HB.out.trans (b6.mono hs0)⟩
set_option maxRecDepth 100000 in
set_option maxHeartbeats 3200000 in
theorem s_l11Mat3 (U : Nat → List Dw) (A : Option Addr) (n cap : Nat) (gs : List Gt) (w : World) (h : RdG w A n gs) (hn : n ≤ 1048576) (hU : ∀ i, i < 8 → appGs gs (basis 3 i) = some (U i) ∧ (U i).length = 8) :
    Calls Try.prog 72 #[.slice A n cap, .int .i64 3] w (RetSDB 8 (flipL (colsU U 8)) w) := by
  have H := Lib.hid h
  have HU := Lib.hid hU
  clear h hU
  go_enter Try.func72, Try.ntmps72
  go_wp2_with fail
  go_loopg [6, 7] 8 (fun r v j wr => ∃ (i : Nat) (A : Option Addr) (c : Nat), i + r = 8 ∧ j = .int .i64 i ∧ v = .slice A i c ∧ OwnSS cellsD wr w.heap.size 79 83 5 (.slice A i c) (colsU U i) ∧ Below w.heap.size w wr)
  case atStart => exact ⟨0, _, 0, by omega, rfl, rfl, OwnSS.lit0 w (Nat.le_refl _) _ _ _ _, (Below.refl _ _).alloc (Nat.le_refl _) _⟩
  case round =>
    obtain ⟨i, A3, c3, hi, rfl, rfl, ho, hb⟩ := hrel
    have HO := Lib.hid ho
    have HB := Lib.hid hb
    have hs0 := hb.size
    clear ho hb
    by_cases hlt : i < 8
    · obtain ⟨u1, u2⟩ := HU.out i hlt
      obtain ⟨u, hu⟩ : ∃ u, U i = u := ⟨_, rfl⟩
      rw [hu] at u1 u2
      have U1 := Lib.hid u1
      have HUU := Lib.hid hu
      clear u1 hu
      go_wp2_with fail
      refine (s_Basis 3 i _ (by omega) (by omega) hlt).mono ?_
      rintro e w3 ⟨A4, c4, rfl, o4, b4⟩
      have R4 := Lib.hid (show RdD w3 A4 8 (basis 3 i) from RdD.own o4)
      clear o4
      go_wp2_with fail
      refine (s_ApplyGs _ n _ gs _ 8 _ 3 _ u _ ((H.out.below HB.out).below b4) hn R4.out (by omega) (by omega) (by decide) U1.out).mono ?_
      rintro e w5 ⟨A5, c5, rfl, o5, b5⟩
      have B5 := Lib.hid (below_trans b4 b5)
      have HR := Lib.hid (ownsRow_base o5 b4.size)
      have hs5 := B5.out.size
      clear o5 b4 b5 R4
      have HW := Lib.hid (HO.out.below B5.out)
      obtain ⟨vs, a1, a2, a3⟩ := HW.out
      rw [colsU_len] at a1
      have A1 := Lib.hid a1
      clear a1 a2 a3
      go_wp2_with (at_builtin; refine wpList_app rfl (.tmp 29) (.tmp 31) 27 rfl Try.underlying27 infoDOmegaS rfl (by decide) rfl (A1.out.alloc _) rfl (Rd.lit w5 79 #[.slice A5 8 c5] 1 1 rfl) (by simp [Value.oneCell']) (by omega) (by decide) (by simp <;> omega) ?_; intro A9 c9 w9 o9 g9)
      go_roundg (gk - 1)
      case measure => omega
      case rel =>
        refine ⟨i + 1, A9, c9, by omega, by go_num, rfl, ?_, below_grown ((HB.out.trans (B5.out.mono hs0)).alloc (by omega) _) (by simp <;> omega) (A1.out.alloc _) (Nat.le_refl _) g9⟩
        rw [colsU_succ, HUU.out]
        exact OwnSS.app1 (by decide) HO.out (Nat.le_refl _) hs0 (B5.out.alloc hs5 _) u2 (HR.out.alloc _) (colsU_len U i) (A1.out.alloc _) g9 o9
    · obtain rfl : i = 8 := by omega
      have HA := Lib.hid (colsU_all (U := U) (k := 8) (n := 8) fun i hi => (HU.out i hi).2)
      go_wp2_with fail
      refine (s_l7Cols _ 8 _ (colsU U 8) _ (HO.out.rd (colsU_len U _)) (by omega) HA.out).mono ?_
      rintro e w6 ⟨A6, c6, rfl, o6, b6⟩
      have hfl : (flipL (colsU U 8)).length = 8 := by rw [flipL_len, colsU_len]
      rw [hfl] at o6 ⊢
      go_wp2_with fail
      exact bodyPost_ret (v := .tuple #[.slice A6 8 c6, .bool true]) (by simp [results, Try.results72, go_sem]) rfl ⟨_, _, rfl, o6.base_ hs0, HB.out.trans (b6.mono hs0)⟩
set_option maxRecDepth 100000 in
set_option maxHeartbeats 3200000 in
theorem s_l11Mat4 (U : Nat → List Dw) (A : Option Addr) (n cap : Nat) (gs : List Gt) (w : World) (h : RdG w A n gs) (hn : n ≤ 1048576) (hU : ∀ i, i < 16 → appGs gs (basis 4 i) = some (U i) ∧ (U i).length = 16) :
    Calls Try.prog 72 #[.slice A n cap, .int .i64 4] w (RetSDB 16 (flipL (colsU U 16)) w) := by
  have H := Lib.hid h
  have HU := Lib.hid hU
  clear h hU
  go_enter Try.func72, Try.ntmps72
  go_wp2_with fail
  go_loopg [6, 7] 16 (fun r v j wr => ∃ (i : Nat) (A : Option Addr) (c : Nat), i + r = 16 ∧ j = .int .i64 i ∧ v = .slice A i c ∧ OwnSS cellsD wr w.heap.size 79 83 5 (.slice A i c) (colsU U i) ∧ Below w.heap.size w wr)
  case atStart => exact ⟨0, _, 0, by omega, rfl, rfl, OwnSS.lit0 w (Nat.le_refl _) _ _ _ _, (Below.refl _ _).alloc (Nat.le_refl _) _⟩
  case round =>
    obtain ⟨i, A3, c3, hi, rfl, rfl, ho, hb⟩ := hrel
    have HO := Lib.hid ho
    have HB := Lib.hid hb
    have hs0 := hb.size
    clear ho hb
    by_cases hlt : i < 16
    · obtain ⟨u1, u2⟩ := HU.out i hlt
      obtain ⟨u, hu⟩ : ∃ u, U i = u := ⟨_, rfl⟩
      rw [hu] at u1 u2
      have U1 := Lib.hid u1
      have HUU := Lib.hid hu
      clear u1 hu
      go_wp2_with fail
      refine (s_Basis 4 i _ (by omega) (by omega) hlt).mono ?_
      rintro e w3 ⟨A4, c4, rfl, o4, b4⟩
      have R4 := Lib.hid (show RdD w3 A4 16 (basis 4 i) from RdD.own o4)
      clear o4
      go_wp2_with fail
      refine (s_ApplyGs _ n _ gs _ 16 _ 4 _ u _ ((H.out.below HB.out).below b4) hn R4.out (by omega) (by omega) (by decide) U1.out).mono ?_
      rintro e w5 ⟨A5, c5, rfl, o5, b5⟩
      have B5 := Lib.hid (below_trans b4 b5)
      have HR := Lib.hid (ownsRow_base o5 b4.size)
      have hs5 := B5.out.size
      clear o5 b4 b5 R4
      have HW := Lib.hid (HO.out.below B5.out)
      obtain ⟨vs, a1, a2, a3⟩ := HW.out
      rw [colsU_len] at a1
      have A1 := Lib.hid a1
      clear a1 a2 a3
      go_wp2_with (at_builtin; refine wpList_app rfl (.tmp 29) (.tmp 31) 27 rfl Try.underlying27 infoDOmegaS rfl (by decide) rfl (A1.out.alloc _) rfl (Rd.lit w5 79 #[.slice A5 16 c5] 1 1 rfl) (by simp [Value.oneCell']) (by omega) (by decide) (by simp <;> omega) ?_; intro A9 c9 w9 o9 g9)
      go_roundg (gk - 1)
      case measure => omega
      case rel =>
        refine ⟨i + 1, A9, c9, by omega, by go_num, rfl, ?_, below_grown ((HB.out.trans (B5.out.mono hs0)).alloc (by omega) _) (by simp <;> omega) (A1.out.alloc _) (Nat.le_refl _) g9⟩
        rw [colsU_succ, HUU.out]
        exact OwnSS.app1 (by decide) HO.out (Nat.le_refl _) hs0 (B5.out.alloc hs5 _) u2 (HR.out.alloc _) (colsU_len U i) (A1.out.alloc _) g9 o9
    · obtain rfl : i = 16 := by omega
      have HA := Lib.hid (colsU_all (U := U) (k := 16) (n := 16) fun i hi => (HU.out i hi).2)
      go_wp2_with fail
      refine (s_l7Cols _ 16 _ (colsU U 16) _ (HO.out.rd (colsU_len U _)) (by omega) HA.out).mono ?_
      rintro e w6 ⟨A6, c6, rfl, o6, b6⟩
      have hfl : (flipL (colsU U 16)).length = 16 := by rw [flipL_len, colsU_len]
      rw [hfl] at o6 ⊢
      go_wp2_with fail
      exact bodyPost_ret (v := .tuple #[.slice A6 16 c6, .bool true]) (by simp [results, Try.results72, go_sem]) rfl ⟨_, _, rfl, o6.base_ hs0, HB.out.trans (b6.mono hs0)⟩
theorem s_l11Mat (q : Nat) (U : Nat → List Dw) (A : Option Addr) (n cap : Nat) (gs : List Gt) (w : World) (h1 : 1 ≤ q) (h4 : q ≤ 4) (h : RdG w A n gs) (hn : n ≤ 1048576) (hU : ∀ i, i < 2 ^ q → appGs gs (basis q i) = some (U i) ∧ (U i).length = 2 ^ q) :
    Calls Try.prog 72 #[.slice A n cap, .int .i64 q] w (RetSDB (2 ^ q) (flipL (colsU U (2 ^ q))) w) := by
  obtain rfl | rfl | rfl | rfl : q = 1 ∨ q = 2 ∨ q = 3 ∨ q = 4 := by omega
  · exact s_l11Mat1 U A n cap gs w h hn hU
  · exact s_l11Mat2 U A n cap gs w h hn hU
  · exact s_l11Mat3 U A n cap gs w h hn hU
  · exact s_l11Mat4 U A n cap gs w h hn hU
set_option maxRecDepth 100000 in
set_option maxHeartbeats 1600000 in
/-- A circuit of at most 60 valid gates. -/
theorem s_CirMat (q : Nat) (U : Nat → List Dw) (A : Option Addr) (n cap : Nat) (gs : List Gt) (w : World) (h1 : 1 ≤ q) (h4 : q ≤ 4) (h : RdG w A n gs) (hn : n ≤ 60) (hg : ∀ g ∈ gs, okN q g = true) (hU : ∀ i, i < 2 ^ q → appGs gs (basis q i) = some (U i) ∧ (U i).length = 2 ^ q) :
    Calls Try.prog 22 #[.agg #[.int .i64 q, .slice A n cap]] w (RetSDB (2 ^ q) (flipL (colsU U (2 ^ q))) w) := by
  have H := Lib.hid h
  have HG := Lib.hid hg
  have HU := Lib.hid hU
  have X0 := Lib.hid (Bx.new w 50 #[.int .i64 q, .slice A n cap])
  have BZ := Lib.hid ((Below.refl w.heap.size w).alloc (Nat.le_refl _) (.cells #[.int .i64 q, .slice A n cap] 50))
  clear h hg hU
  obtain ⟨p0, p1, _, _⟩ := X0.out.two
  go_enter Try.func22, Try.ntmps22
  go_wp2_with fail
  refine (s_IsCirc _ n _ q gs _ (H.out.below BZ.out) h1 h4 HG.out (by omega)).mono ?_
  rintro e w1 ⟨rfl, b1⟩
  rw [decide_eq_true hn]
  have B1 := Lib.hid (below_trans BZ.out b1)
  have X1 := Lib.hid (X0.out.below b1)
  clear b1 p0 p1
  obtain ⟨p0, p1, _, _⟩ := X1.out.two
  go_wp2_with fail
  refine (s_l11Mat q U _ n _ gs _ h1 h4 (H.out.below B1.out) (by omega) HU.out).mono ?_
  rintro e w6 ⟨A6, c6, rfl, o6, b6⟩
  go_wp2_with fail
  exact bodyPost_ret (v := .tuple #[.slice A6 ((2 ^ q : Nat)) c6, .bool true]) (by simp [results, Try.results22, go_sem]) rfl ⟨_, _, rfl, o6.base_ B1.out.size, below_trans B1.out b6⟩
set_option maxRecDepth 100000 in
set_option maxHeartbeats 1600000 in
/-- A circuit of more gates. -/
theorem s_CirMatNo (q : Nat) (A : Option Addr) (n cap : Nat) (gs : List Gt) (w : World) (h1 : 1 ≤ q) (h4 : q ≤ 4) (h : RdG w A n gs) (hn : 60 < n) (hn2 : n ≤ 1048576) (hg : ∀ g ∈ gs, okN q g = true) :
    Calls Try.prog 22 #[.agg #[.int .i64 q, .slice A n cap]] w fun e w' => ∃ A c, e = .returned (.tuple #[.slice A 0 c, .bool false]) ∧ Below w.heap.size w w' := by
  have H := Lib.hid h
  have HG := Lib.hid hg
  have X0 := Lib.hid (Bx.new w 50 #[.int .i64 q, .slice A n cap])
  have BZ := Lib.hid ((Below.refl w.heap.size w).alloc (Nat.le_refl _) (.cells #[.int .i64 q, .slice A n cap] 50))
  clear h hg
  obtain ⟨p0, p1, _, _⟩ := X0.out.two
  go_enter Try.func22, Try.ntmps22
  go_wp2_with fail
  refine (s_IsCirc _ n _ q gs _ (H.out.below BZ.out) h1 h4 HG.out hn2).mono ?_
  rintro e w1 ⟨rfl, b1⟩
  rw [decide_eq_false (by omega)]
  have B1 := Lib.hid (below_trans BZ.out b1)
  clear b1 p0 p1
  go_wp2_with fail
  exact bodyPost_ret (v := .tuple #[.slice (some ⟨w1.heap.size, 0, none⟩) 0 0, .bool false]) (by simp [results, Try.results22, go_sem]) rfl ⟨_, _, rfl, B1.out.alloc B1.out.size _⟩
set_option maxRecDepth 100000 in
set_option maxHeartbeats 3200000 in
theorem s_EqMat (A : Option Addr) (n cap : Nat) (B : Option Addr) (c : Nat) (l l' : List (List Dw)) (w : World) (h : RdSS cellsD w 5 A n l) (h' : RdSS cellsD w 5 B n l') (hn : n ≤ 16) (hl : ∀ x ∈ l, x.length = n) (hl' : ∀ x ∈ l', x.length = n) :
    Calls Try.prog 23 #[.slice A n cap, .slice B n c] w fun e w' => e = .returned (.bool (decide (l = l'))) ∧ Below w.heap.size w w' := by
  have H := Lib.hid h
  have H' := Lib.hid h'
  have HL := Lib.hid hl
  have HL' := Lib.hid hl'
  clear h h' hl hl'
  go_enter Try.func23, Try.ntmps23
  go_wp2_with fail
  go_loopg [5] n (fun r i wr => ∃ k : Nat, k + r = n ∧ i = .int .i64 k ∧ l.take k = l'.take k ∧ Below w.heap.size w wr)
  case atStart => exact ⟨0, by omega, rfl, by simp, Below.refl _ _⟩
  case round =>
    obtain ⟨k, hk, rfl, htk, hb⟩ := hrel
    have HTK := Lib.hid htk
    have hs0 := hb.size
    clear htk
    by_cases hlt : k < n
    · obtain ⟨b, off, x, B1, c1, rfl, hB, hd, k0, hxc, hxr⟩ := (H.out.below hb).at_ hlt
      obtain ⟨b', off', x', B2, c2, rfl, hB', hd', k1, hxc', hxr'⟩ := (H'.out.below hb).at_ hlt
      have hxl := HL.out x (List.mem_of_mem_drop (i := k) (by rw [hd]; simp))
      have hxl' := HL'.out x' (List.mem_of_mem_drop (i := k) (by rw [hd']; simp))
      rw [hxl] at k0 hxc hxr
      rw [hxl'] at k1 hxc' hxr'
      have RX := Lib.hid (show RdD wr B1 n x from ⟨hxl, hxr⟩)
      have RX' := Lib.hid (show RdD wr B2 n x' from ⟨hxl', hxr'⟩)
      have HD := Lib.hid hd
      have HD' := Lib.hid hd'
      clear hd hd' hxl hxl' hxr hxr'
      have hi0 : (0 : Int) ≤ (k : Int) := by omega
      have hi1 : (k : Int) < (n : Int) := by omega
      obtain ⟨v, hv⟩ : ∃ v, decide (x = x') = v := ⟨_, rfl⟩
      have HV := Lib.hid hv
      clear hv
      go_upto_region 6 with fail
      go_region_held3 (fun w' => w'.cell? ⟨b, off + k, none⟩ = some (.slice B1 n c1) ∧ w'.cell? ⟨b', off' + k, none⟩ = some (.slice B2 n c2))
        (first | with_reducible exact ⟨s0, s1⟩ | go_keep)
        (first | (go_at_call 73; refine (s_EqG B1 n _ B2 _ x x' _ (RX.out.below (below_drewN (Below.refl _ _) _)) (RX'.out.below (below_drewN (Below.refl _ _) _)) (by omega)).mono ?_; rintro e w1 ⟨rfl, b1⟩; have s0 := (b1.cell (p := ⟨b, off + k, none⟩) hB).trans k0; have s1 := (b1.cell (p := ⟨b', off' + k, none⟩) hB').trans k1; rw [HV.out]))
      all_goals cases v
      all_goals go_wp2_with fail
      all_goals first
        | (go_ret; refine ⟨ret_bool ?_, hb.trans ((below_drew b1).mono (by simpa using hs0))⟩; have hne : ¬ l = l' := (by intro e; rw [e] at HD; have := HD.out; rw [HD'.out] at this; injection this with this _; exact absurd this.symm (of_decide_eq_false HV.out)); simp [hne])
        | go_roundg (gk - 1)
      all_goals first
        | omega
        | exact ⟨k + 1, by omega, by go_num, by rw [take_snoc HD.out, take_snoc HD'.out, HTK.out, of_decide_eq_true HV.out], hb.trans ((below_drew b1).mono (by simpa using hs0))⟩
    · have he : l = l' := by
        have := HTK.out
        rwa [List.take_of_length_le (by have := H.out.1; omega), List.take_of_length_le (by have := H'.out.1; omega)] at this
      go_wp2_with fail
      go_ret
      exact ⟨ret_bool (by simp [he]), hb⟩
end Go.Proofs.Ytibhikngiceeeaa
