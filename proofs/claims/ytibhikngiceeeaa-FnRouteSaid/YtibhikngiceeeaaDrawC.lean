/- Contracts of the drawing of circuits: l11Right, l11Bent. The cursor stands; at most 64 gates. -/
import Derived.Test.YtibhikngiceeeaaDrawG
import Derived.Test.YtibhikngiceeeaaGateS
import Derived.Deep.RegionLaw
import Derived.Deep.RegionHeld3
namespace Go.Proofs.Ytibhikngiceeeaa
open Go.RowKit
set_option linter.unusedVariables false

theorem und_grownD {W w' : World} {r : Option Nat} (h : W.drew.grownBy w' r) : W.grownBy w' r := ⟨h.os, h.tape, h.output, h.size, h.block⟩
theorem own_set_neD {w : World} {base : Nat} {e : TypeId} {sz n : Nat} {v : Value} {xs : List Value} (h : w.ownsRow base e sz v n xs) {p : Addr} (hp : some p.block ≠ v.ownBlock) (u : Value) : (w.setCell p u).ownsRow base e sz v n xs := by
  have hg : w.grownBy (w.setCell p u) (some p.block) := ⟨rfl, rfl, rfl, by simp [World.setCell], fun k hk hne => Below.heap_setCell w _ _ k (fun e => hne (by rw [e]))⟩
  exact h.kept hg (.inr (fun e => hp e.symm))
def DrawnC (P : Int → Prop) (B : Nat) (g : Nat) (w : World) (e : Ending) (w' : World) : Prop :=
  ∃ (N : Int) (A : Option Addr) (n c : Nat) (gs : List Gt), e = .returned (.agg #[.int .i64 N, .slice A n c]) ∧ gs.length = n ∧ n ≤ B ∧ P N ∧ w'.ownsRow w.heap.size 55 4 (.slice A n c) n (cellsG gs) ∧ Cur w' g ∧ w.grownBy w' (some g)
theorem cur2 {w' : World} {g R : Nat} {a b : Value} (h : Cur w' g) (hR : g < R) : Cur ((w'.setCell ⟨R, 0, none⟩ a).setCell ⟨R, 1, none⟩ b) g :=
  (h.setCell (by exact hR) _).setCell (by exact hR) _
theorem dr2 {a b : World} {g R : Nat} {p q : Value} (h : a.grownBy b (some g)) (hR : a.heap.size ≤ R) : a.grownBy ((b.setCell ⟨R, 0, none⟩ p).setCell ⟨R, 1, none⟩ q) (some g) :=
  dr_set (dr_set h (by exact hR) _) (by exact hR) _
theorem own_set2 {w' : World} {base R : Nat} {e : TypeId} {sz n : Nat} {v : Value} {xs : List Value} {a b : Value} (h : w'.ownsRow base e sz v n xs) (hR : some R ≠ v.ownBlock) : ((w'.setCell ⟨R, 0, none⟩ a).setCell ⟨R, 1, none⟩ b).ownsRow base e sz v n xs :=
  own_set_neD (own_set_neD h (by exact hR) _) (by exact hR) _
theorem Bx.t0 {w : World} {g t : Nat} {a b : Value} (h : Bx w g t #[a, b]) (x : Value) : Bx (w.setCell ⟨g, 0, none⟩ x) g t #[x, b] := by simpa using h.set_ 0 x
theorem Bx.t1 {w : World} {g t : Nat} {a b : Value} (h : Bx w g t #[a, b]) (x : Value) : Bx (w.setCell ⟨g, 1, none⟩ x) g t #[a, x] := by simpa using h.set_ 1 x

set_option maxRecDepth 100000 in
set_option maxHeartbeats 3200000 in
theorem s_l11Right (g n : Nat) (most : Nat) (w : World) (h : Cur w g) (h1 : 1 ≤ n) (h4 : n ≤ 4) (hm : most ≤ 60) :
    Calls Try.prog 119 #[.pointer (some ⟨g, 0, none⟩), .int .i64 n, .int .i64 most] w (DrawnC (fun N => N = n) most g w) := by
  have hg := h.lt
  have hz4 : (Value.agg #[.int .i64 0, .int .i64 0, .int .i64 0, .int .i64 0]).cells.size = 4 := rfl
  obtain ⟨W1, hW1⟩ : ∃ W1, W1 = (w.alloc (.cells #[.int .i64 0, .slice none 0 0] 50)).alloc (.cells #[.int .i64 n, .slice none 0 0] 50) := ⟨_, rfl⟩
  have C1 := Lib.hid (show Cur W1 g from hW1 ▸ cur_alloc (cur_alloc h _) _)
  have R1 := Lib.hid (show Bx W1 w.heap.size 50 #[.int .i64 0, .slice none 0 0] from hW1 ▸ (Bx.new w _ _).alloc _)
  have E1 := Lib.hid (show Bx W1 (w.heap.size + 1) 50 #[.int .i64 n, .slice none 0 0] from hW1 ▸ Bx.new' (by simp))
  have G1 := Lib.hid (show w.grownBy W1 (some g) from hW1 ▸ dr_alloc (dr_alloc (dr_refl w g) _) _)
  have HW := Lib.hid hW1
  clear h hW1
  go_enter Try.func119, Try.ntmps119
  go_wp2_with fail
  rw [← HW.out]
  refine (s_l1Below g _ _ C1.out (by omega)).mono ?_
  rintro e w2 ⟨y, rfl, ⟨hy, _⟩, hc, gg⟩
  obtain ⟨hy0, hy1⟩ := hy (by omega)
  obtain ⟨m, rfl⟩ : ∃ m : Nat, y = m := ⟨y.toNat, by omega⟩
  have C2 := Lib.hid hc
  have R2 := Lib.hid (dr_bx gg R1.out (show w.heap.size ≠ g by omega))
  have E2 := Lib.hid (dr_bx gg E1.out (show w.heap.size + 1 ≠ g by omega))
  have G2 := Lib.hid (dr_trans G1.out gg)
  clear hy hc gg C1 R1 E1 G1 HW
  go_wp2_with fail
  go_loopg [9] m (fun r i wr => ∃ (k : Nat) (A : Option Addr) (c : Nat) (gs : List Gt), k + r = m ∧ i = .int .i64 k ∧ gs.length = k ∧ Bx wr w.heap.size 50 #[.int .i64 0, .slice none 0 0] ∧ Bx wr (w.heap.size + 1) 50 #[.int .i64 n, .slice A k c] ∧ wr.ownsRow w.heap.size 55 4 (.slice A k c) k (cellsG gs) ∧ Cur wr g ∧ w.grownBy wr (some g))
  case atStart => exact ⟨0, none, 0, [], by omega, rfl, rfl, R2.out, E2.out, World.ownsRow_nil _ _ _ _, C2.out, G2.out⟩
  case round =>
    clear C2 R2 E2 G2
    obtain ⟨k, A, c, gs, hk, rfl, hl, hr, he, ho, hc, hgr⟩ := hrel
    have HL := Lib.hid hl
    have HR := Lib.hid hr
    have HE := Lib.hid he
    have HO := Lib.hid ho
    have HC := Lib.hid hc
    have HG := Lib.hid hgr
    have lr := hr.lt
    have le := he.lt
    clear hl hr he ho hc hgr
    obtain ⟨q0, q1, f0, f1⟩ := HE.out.two
    by_cases hlt : k < m
    · have CD := Lib.hid (show Cur wr.drew g from HC.out)
      go_wp2_with fail
      go_region_law (first
        | (go_simp; go_at_call 112; (with_reducible refine (s_l9Gate g n _ (by first | exact CD.out | exact HC.out) h1 h4).mono ?_); rintro e w5 ⟨k5, a5, b5, c5, rfl, _, hc5, g5⟩; have g5 := und_grownD g5; have E5 := dr_bx g5 HE.out (show w.heap.size + 1 ≠ g by omega); have R5 := dr_bx g5 HR.out (show w.heap.size ≠ g by omega); have O5 := dr_own g5 HC.out HO.out (by decide); have s5 := g5.size; have ⟨p0, p1, p2, p3⟩ := E5.two; have e5 := E5.lt; have OA := O5.alloc (.cells #[.int .i64 k5, .int .i64 a5, .int .i64 b5, .int .i64 c5] 55); have CA := cur_alloc hc5 (.cells #[.int .i64 k5, .int .i64 a5, .int .i64 b5, .int .i64 c5] 55); have GA := dr_alloc (dr_trans HG.out g5) (.cells #[.int .i64 k5, .int .i64 a5, .int .i64 b5, .int .i64 c5] 55))
        | (refine step_app (by rfl) (.tmp 22) (.tmp 26) 41 (by rfl) Try.underlying41 infoGate hz4 (by decide) (by simp [Act.eval] <;> rfl) OA (by simp [Act.eval] <;> rfl) (Rd.lit w5 55 #[.int .i64 k5, .int .i64 a5, .int .i64 b5, .int .i64 c5] 1 4 rfl) (by simp [Value.oneCell']) (by omega) (by decide) (by simp <;> omega) ?_; intro A7 c7 w7 o7 g7; have E7 := kept_app OA g7 (E5.alloc _) (by decide); have R7 := kept_app OA g7 (R5.alloc _) (by decide); have C7 := CA.row g7 (fun q hq => (by have := (OA.lt q hq).1; omega)); have G7 := dr_row GA g7 (fun q hq => (OA.lt q hq).1); have ⟨t0, t1, t2, t3⟩ := E7.two; have e7 := E7.lt)
        | fail)
      all_goals go_wp2_with fail
      all_goals go_roundg (gk - 1)
      all_goals first
        | omega
        | exact ⟨k + 1, A7, c7, gs ++ [⟨k5, a5, b5, c5⟩], by omega, by go_num, by simp [HL.out], R7.far (show w.heap.size ≠ w.heap.size + 1 by omega) _, E7.t1 _, by rw [cellsG_append]; exact own_set_neD o7 (own_bx_ne o7 E7 (by decide)) _, C7.setCell (by show g < w.heap.size + 1; omega) _, dr_set G7 (by show w.heap.size ≤ w.heap.size + 1; omega) _⟩
    · obtain rfl : k = m := by omega
      obtain ⟨r0, r1, g0, g1⟩ := HR.out.two
      go_wp2_with fail
      refine bodyPost_ret (v := .agg #[.int .i64 n, .slice A k c]) (by simp [results, Try.results119, go_sem, r0, r1]) rfl ⟨n, A, k, c, gs, rfl, HL.out, by omega, rfl, own_set2 HO.out (own_bx_ne HO.out HR.out (by decide)), cur2 HC.out hg, dr2 HG.out (Nat.le_refl _)⟩
theorem s_l1Max (a b : Int) (w : World) : Calls Try.prog 120 #[.int .i64 a, .int .i64 b] w fun e w' => e = .returned (.int .i64 (if a > b then a else b)) ∧ w = w' := by
  by_cases h : a > b
  · go_enter Try.func120, Try.ntmps120
    go_wp2_with fail
    go_ret
    exact ⟨rfl, rfl⟩
  · go_enter Try.func120, Try.ntmps120
    go_wp2_with fail
    go_ret
    exact ⟨rfl, rfl⟩

set_option maxRecDepth 100000 in
set_option maxHeartbeats 6400000 in
theorem s_l11Bent (g : Nat) (most : Nat) (w : World) (h : Cur w g) (hm : most ≤ 58) :
    Calls Try.prog 76 #[.pointer (some ⟨g, 0, none⟩), .int .i64 most] w (DrawnC (fun _ => True) 64 g w) := by
  have hg := h.lt
  have hz4 : (Value.agg #[.int .i64 0, .int .i64 0, .int .i64 0, .int .i64 0]).cells.size = 4 := rfl
  have C1 := Lib.hid (cur_alloc h (.cells #[.int .i64 0, .slice none 0 0] 50))
  have R1 := Lib.hid (Bx.new w 50 #[.int .i64 0, .slice none 0 0])
  have G1 := Lib.hid (dr_alloc (dr_refl w g) (.cells #[.int .i64 0, .slice none 0 0] 50))
  clear h
  go_enter Try.func76, Try.ntmps76
  go_wp2_with fail
  refine (s_l1Below g 3 _ C1.out (by omega)).mono ?_
  rintro e w2 ⟨y, rfl, ⟨hy, _⟩, hc, gg⟩
  obtain ⟨hy0, hy1⟩ := hy (by omega)
  obtain ⟨q, hq⟩ : ∃ q : Nat, 1 + y = q := ⟨(1 + y).toNat, by omega⟩
  have hq1 : 1 ≤ q := by omega
  have hq4 : q ≤ 3 := by omega
  have C2 := Lib.hid hc
  have R2 := Lib.hid (dr_bx gg R1.out (show w.heap.size ≠ g by omega))
  have G2 := Lib.hid (dr_trans G1.out gg)
  have hs2 := (dr_un gg).size
  clear hy hc gg C1 R1 G1
  go_wp2_with fail
  clear hq hy0 hy1
  refine (s_l11Right g q most _ C2.out hq1 (by omega) (by omega)).mono ?_
  rintro e w3 ⟨N, A, n, c, gs, rfl, hl, hn, rfl, o3, hc, gg⟩
  have hs3 := gg.size
  have HL := Lib.hid hl
  have OB := Lib.hid (show (w3.alloc (.cells #[.int .i64 (q : Int), .slice A n c] 50)).ownsRow w.heap.size 55 4 (.slice A n c) n (cellsG gs) from (ownsRow_base o3 (by omega)).alloc _)
  have CB := Lib.hid (cur_alloc hc (.cells #[.int .i64 (q : Int), .slice A n c] 50))
  have RB := Lib.hid ((dr_bx gg R2.out (show w.heap.size ≠ g by omega)).alloc (.cells #[.int .i64 (q : Int), .slice A n c] 50))
  have EB := Lib.hid (Bx.new w3 50 #[.int .i64 (q : Int), .slice A n c])
  have GB := Lib.hid (dr_alloc (dr_trans G2.out gg) (.cells #[.int .i64 (q : Int), .slice A n c] 50))
  have hR3 : w.heap.size < w3.heap.size := (dr_bx gg R2.out (show w.heap.size ≠ g by omega)).lt
  clear hl o3 hc gg C2 R2 G2
  go_wp2_with fail
  refine (s_l1Below g 12 _ CB.out (by omega)).mono ?_
  rintro e w4 ⟨z, rfl, _, hc, gg⟩
  have HO := Lib.hid (dr_own gg CB.out OB.out (by decide))
  have HC := Lib.hid hc
  have HR := Lib.hid (dr_bx gg RB.out (show w.heap.size ≠ g by omega))
  have HE := Lib.hid (dr_bx gg EB.out (show w3.heap.size ≠ g by omega))
  have HG := Lib.hid (dr_trans GB.out gg)
  have lr := HR.out.lt
  have le := HE.out.lt
  have hgs : g + 1 ≤ w4.heap.size := hc.lt
  clear hc gg OB CB RB EB GB
  generalize hgE : w3.heap.size = ge at HE hR3 le ⊢
  clear hgE hs3
  by_cases z0 : z = 0
  · subst z0
    have OL := Lib.hid (show (w4.alloc (.cells #[.int .i64 0, .int .i64 1, .int .i64 4, .int .i64 5, .int .i64 (-1)] 3)).ownsRow (g + 1) 3 1 (.slice (some ⟨w4.heap.size, 0, none⟩) 5 5) 5 (cellsI [0, 1, 4, 5, -1]) from World.ownsRow_lit w4 #[.int .i64 0, .int .i64 1, .int .i64 4, .int .i64 5, .int .i64 (-1)] 5 hgs (by simp [maxLen]) rfl)
    have CA := Lib.hid (cur_alloc HC.out (.cells #[.int .i64 0, .int .i64 1, .int .i64 4, .int .i64 5, .int .i64 (-1)] 3))
    go_wp2_with fail
    refine (s_l1PickInt g _ 5 5 [0, 1, 4, 5, -1] _ CA.out OL.out (by omega) (by omega)).mono ?_
    rintro e w5 ⟨x, rfl, _, hc, gg⟩
    have O5 := Lib.hid (dr_own gg CA.out (HO.out.alloc _) (by decide))
    have C5 := Lib.hid hc
    have R5 := Lib.hid (dr_bx gg (HR.out.alloc _) (show w.heap.size ≠ g by omega))
    have E5 := Lib.hid (dr_bx gg (HE.out.alloc _) (show ge ≠ g by omega))
    have G5 := Lib.hid (dr_trans (dr_alloc HG.out _) gg)
    have l5 := E5.out.lt
    clear hc gg OL CA
    obtain ⟨r0, r1, _, _⟩ := R5.out.two
    obtain ⟨u0, u1, v0, v1⟩ := E5.out.two
    go_wp2_with fail
    refine bodyPost_ret (v := .agg #[.int .i64 x, .slice A n c]) (by simp [results, Try.results76, go_sem, r0, r1]) rfl ⟨x, A, n, c, gs, rfl, HL.out, by omega, trivial, own_set2 (own_set_neD O5.out (own_bx_ne O5.out E5.out (by decide)) _) (own_bx_ne O5.out R5.out (by decide)), cur2 (C5.out.setCell (by show g < ge; omega) _) hg, dr2 (dr_set G5.out (by show w.heap.size ≤ ge; omega) _) (Nat.le_refl _)⟩
  · by_cases z1 : z = 1
    · subst z1
      obtain ⟨u0, u1, v0, v1⟩ := HE.out.two
      have CD := Lib.hid (show Cur w4.drew g from HC.out)
      have hmx : (if (1 : Int) > (q : Int) then (1 : Int) else (q : Int)) = q := by split <;> omega
      have HMX := Lib.hid hmx
      clear hmx
      go_wp2_with fail
      go_region_law (first
        | (go_simp; go_at_call 120; (with_reducible refine (s_l1Max _ _ _).mono ?_); rintro e w5 ⟨rfl, rfl⟩; rw [HMX.out])
        | (go_simp; go_at_call 65; (with_reducible refine (s_l9Bent g q _ (by first | exact CD.out | exact HC.out) hq1 (by omega)).mono ?_); rintro e w5 ⟨k5, a5, b5, c5, rfl, _, hc5, g5⟩; have g5 := und_grownD g5; have E5 := dr_bx g5 HE.out (show ge ≠ g by omega); have R5 := dr_bx g5 HR.out (show w.heap.size ≠ g by omega); have O5 := dr_own g5 HC.out HO.out (by decide); have s5 := g5.size; have ⟨p0, p1, p2, p3⟩ := E5.two; have e5 := E5.lt; have OA := O5.alloc (.cells #[.int .i64 k5, .int .i64 a5, .int .i64 b5, .int .i64 c5] 55); have CA := cur_alloc hc5 (.cells #[.int .i64 k5, .int .i64 a5, .int .i64 b5, .int .i64 c5] 55); have GA := dr_alloc (dr_trans HG.out g5) (.cells #[.int .i64 k5, .int .i64 a5, .int .i64 b5, .int .i64 c5] 55))
        | (refine step_app (by rfl) (.tmp 23) (.tmp 29) 41 (by rfl) Try.underlying41 infoGate hz4 (by decide) (by simp [Act.eval] <;> rfl) OA (by simp [Act.eval] <;> rfl) (Rd.lit w5 55 #[.int .i64 k5, .int .i64 a5, .int .i64 b5, .int .i64 c5] 1 4 rfl) (by simp [Value.oneCell']) (by omega) (by decide) (by simp <;> omega) ?_; intro A7 c7 w7 o7 g7; have E7 := kept_app OA g7 (E5.alloc _) (by decide); have R7 := kept_app OA g7 (R5.alloc _) (by decide); have C7 := CA.row g7 (fun q hq => (by have := (OA.lt q hq).1; omega)); have G7 := dr_row GA g7 (fun q hq => (OA.lt q hq).1); have ⟨t0, t1, t2, t3⟩ := E7.two; have e7 := E7.lt; have ⟨r0, r1, r2, r3⟩ := R7.two)
        | fail)
      all_goals go_wp2_with fail
      all_goals refine bodyPost_ret (v := .agg #[.int .i64 (q : Int), .slice A7 (n + 1) c7]) (by simp [results, Try.results76, go_sem, r0, r1]) rfl ⟨q, A7, n + 1, c7, gs ++ [⟨k5, a5, b5, c5⟩], rfl, by simp [HL.out], by omega, trivial, own_set2 (by rw [cellsG_append]; exact own_set_neD o7 (own_bx_ne o7 E7 (by decide)) _) (own_bx_ne o7 R7 (by decide)), cur2 (C7.setCell (by show g < ge; omega) _) hg, dr2 (dr_set G7 (by show w.heap.size ≤ ge; omega) _) (Nat.le_refl _)⟩
    · by_cases z2 : z = 2
      · subst z2
        go_wp2_with fail
        refine (s_l1Once g 6 _ HC.out (by omega)).mono ?_
        rintro e w5 ⟨bb, rfl, hc, gg⟩
        have O5 := Lib.hid (dr_own gg HC.out HO.out (by decide))
        have C5 := Lib.hid hc
        have R5 := Lib.hid (dr_bx gg HR.out (show w.heap.size ≠ g by omega))
        have E5 := Lib.hid (dr_bx gg HE.out (show ge ≠ g by omega))
        have G5 := Lib.hid (dr_trans HG.out gg)
        clear hc gg HO HC HR HE HG
        cases bb
        · obtain ⟨r0, r1, _, _⟩ := R5.out.two
          obtain ⟨u0, u1, v0, v1⟩ := E5.out.two
          go_wp2_with fail
          refine bodyPost_ret (v := .agg #[.int .i64 (q : Int), .slice A n c]) (by simp [results, Try.results76, go_sem, r0, r1]) rfl ⟨q, A, n, c, gs, rfl, HL.out, by omega, trivial, own_set2 O5.out (own_bx_ne O5.out R5.out (by decide)), cur2 C5.out hg, dr2 G5.out (Nat.le_refl _)⟩
        · go_wp2_with fail
          go_loopg [38] 100 (fun r s wr => ∃ (k : Nat) (A : Option Addr) (c : Nat) (gs : List Gt), k + r = n + 100 ∧ k ≤ 62 ∧ gs.length = k ∧ Bx wr w.heap.size 50 #[.int .i64 0, .slice none 0 0] ∧ Bx wr ge 50 #[.int .i64 (q : Int), .slice A k c] ∧ wr.ownsRow w.heap.size 55 4 (.slice A k c) k (cellsG gs) ∧ Cur wr g ∧ w.grownBy wr (some g))
          case atStart => exact ⟨n, A, c, gs, by omega, by omega, HL.out, R5.out, E5.out, O5.out, C5.out, G5.out⟩
          case round =>
            clear R5 E5 O5 C5 G5
            obtain ⟨k, A, c, gs, hk, hk62, hl, hr, he, ho, hc, hgr⟩ := hrel
            have HL := Lib.hid hl
            have HR := Lib.hid hr
            have HE := Lib.hid he
            have HO := Lib.hid ho
            have HC := Lib.hid hc
            have HG := Lib.hid hgr
            have lr := hr.lt
            have le := he.lt
            clear hl hr he ho hc hgr
            obtain ⟨q0, q1, f0, f1⟩ := HE.out.two
            have CD := Lib.hid (show Cur wr.drew g from HC.out)
            go_wp2_with fail
            go_region_law (first
              | (go_simp; go_at_call 62; (with_reducible refine (s_l1Below g 3 _ (by first | exact CD.out | exact HC.out) (by omega)).mono ?_); rintro e w5 ⟨y5, rfl, ⟨hy5, _⟩, hc5, g5⟩; have g5 := und_grownD g5; have E5 := dr_bx g5 HE.out (show ge ≠ g by omega); have R5 := dr_bx g5 HR.out (show w.heap.size ≠ g by omega); have O5 := dr_own g5 HC.out HO.out (by decide); have s5 := g5.size; have ⟨p0, p1, p2, p3⟩ := E5.two; have e5 := E5.lt; have ⟨hy50, hy51⟩ := hy5 (by omega); clear hy5; have hw5 : IntKind.i64.wrap (59 + y5) = 59 + y5 := (by rw [IntKind.wrap_i64]; omega))
              | fail)
            all_goals clear hw5
            all_goals by_cases ht : (k : Int) < 59 + y5
            all_goals first
              | (have hd : decide ((k : Int) < 59 + y5) = true := by simpa using ht
                 have hk61 : k ≤ 60 := by omega
                 have OA := Lib.hid (O5.alloc (.cells #[.int .i64 1, .int .i64 0, .int .i64 0, .int .i64 0] 55)); have CA := Lib.hid (cur_alloc hc5 (.cells #[.int .i64 1, .int .i64 0, .int .i64 0, .int .i64 0] 55)); have GA := Lib.hid (dr_alloc (dr_trans HG.out g5) (.cells #[.int .i64 1, .int .i64 0, .int .i64 0, .int .i64 0] 55))
                 go_wp2_with (at_builtin; refine wpList_app rfl (.tmp 44) (.tmp 46) 41 rfl Try.underlying41 infoGate hz4 (by decide) rfl OA.out rfl (Rd.lit w5 55 #[.int .i64 1, .int .i64 0, .int .i64 0, .int .i64 0] 1 4 rfl) (by simp [Value.oneCell']) (by omega) (by decide) (by simp <;> omega) ?_; intro A7 c7 w7 o7 g7; have E7 := kept_app OA.out g7 (E5.alloc _) (by decide); have R7 := kept_app OA.out g7 (R5.alloc _) (by decide); have C7 := CA.out.row g7 (fun q hq => (by have := (OA.out.lt q hq).1; omega)); have G7 := dr_row GA.out g7 (fun q hq => (OA.out.lt q hq).1); have ⟨t0, t1, t2, t3⟩ := E7.two; have e7 := E7.lt)
                 go_roundg (gk - 1)
                 case measure => omega
                 case rel => exact ⟨k + 1, A7, c7, gs ++ [⟨1, 0, 0, 0⟩], by omega, by omega, by simp [HL.out], R7.far (show w.heap.size ≠ ge by omega) _, E7.t1 _, by rw [cellsG_append]; exact own_set_neD o7 (own_bx_ne o7 E7 (by decide)) _, C7.setCell (by show g < ge; omega) _, dr_set G7 (by show w.heap.size ≤ ge; omega) _⟩)
              | (have ht' : ¬ ((k : Int) < 59 + y5) := ht
                 have hd : decide ((k : Int) < 59 + y5) = false := by simpa using ht
                 have ⟨r0, r1, r2, r3⟩ := R5.two
                 have l5 := R5.lt
                 have CC := Lib.hid hc5
                 have GG := Lib.hid (dr_trans HG.out g5)
                 have OO := Lib.hid O5
                 have NE := Lib.hid (own_bx_ne O5 R5 (by decide))
                 go_wp2_with fail
                 refine bodyPost_ret (v := .agg #[.int .i64 (q : Int), .slice A k c]) (by simp [results, Try.results76, go_sem, r0, r1]) rfl ⟨q, A, k, c, gs, rfl, HL.out, by omega, trivial, own_set2 OO.out NE.out, cur2 CC.out hg, dr2 GG.out (Nat.le_refl _)⟩)
      · have e0 : (z == 0) = false := by simpa using z0
        have e1 : (z == 1) = false := by simpa using z1
        have e2 : (z == 2) = false := by simpa using z2
        clear z0 z1 z2
        obtain ⟨r0, r1, _, _⟩ := HR.out.two
        obtain ⟨u0, u1, v0, v1⟩ := HE.out.two
        go_wp2_with fail
        refine bodyPost_ret (v := .agg #[.int .i64 (q : Int), .slice A n c]) (by simp [results, Try.results76, go_sem, r0, r1]) rfl ⟨q, A, n, c, gs, rfl, HL.out, by omega, trivial, own_set2 HO.out (own_bx_ne HO.out HR.out (by decide)), cur2 HC.out hg, dr2 HG.out (Nat.le_refl _)⟩
end Go.Proofs.Ytibhikngiceeeaa
