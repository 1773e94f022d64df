/- Contracts of the drawing of gates: l9On, l9Gate, l9Bent. The cursor stands; 1 to 4 qubits. -/
import Derived.Test.YtibhikngiceeeaaDrawP
import Derived.Test.YtibhikngiceeeaaOkGate
namespace Go.Proofs.Ytibhikngiceeeaa
open Go.RowKit
set_option linter.unusedVariables false

def DrawnG (P : Gt → Prop) (g : Nat) (w : World) (e : Ending) (w' : World) : Prop :=
  ∃ k a b c : Int, e = .returned (.agg #[.int .i64 k, .int .i64 a, .int .i64 b, .int .i64 c]) ∧ P ⟨k, a, b, c⟩ ∧ Cur w' g ∧ w.grownBy w' (some g)
theorem cur4 {w' : World} {g R : Nat} {a b c d : Value} (h : Cur w' g) (hR : g < R) : Cur ((((w'.setCell ⟨R, 0, none⟩ a).setCell ⟨R, 1, none⟩ b).setCell ⟨R, 2, none⟩ c).setCell ⟨R, 3, none⟩ d) g :=
  (((h.setCell (by exact hR) _).setCell (by exact hR) _).setCell (by exact hR) _).setCell (by exact hR) _
theorem dr4 {a b : World} {g R : Nat} {p q r s : Value} (h : a.grownBy b (some g)) (hR : a.heap.size ≤ R) : a.grownBy ((((b.setCell ⟨R, 0, none⟩ p).setCell ⟨R, 1, none⟩ q).setCell ⟨R, 2, none⟩ r).setCell ⟨R, 3, none⟩ s) (some g) :=
  dr_set (dr_set (dr_set (dr_set h (by exact hR) _) (by exact hR) _) (by exact hR) _) (by exact hR) _
theorem cur_alloc {w : World} {g : Nat} (h : Cur w g) (o : Obj) : Cur (w.alloc o) g := h.below ((Below.refl _ _).alloc (Nat.le_refl _) _)
theorem dr_alloc {a b : World} {g : Nat} (h : a.grownBy b (some g)) (o : Obj) : a.grownBy (b.alloc o) (some g) := dr_below h ((Below.refl _ _).alloc (Nat.le_refl _) _)
theorem dr_refl (a : World) (g : Nat) : a.grownBy a (some g) := World.grownBy.refl _ _
theorem dr_un {a b : World} {o : Obj} {g : Nat} (h : (a.alloc o).grownBy b (some g)) : a.grownBy b (some g) := dr_trans (dr_alloc (dr_refl a g) o) h

theorem okG_1 {k x n : Int} (hk : arity k = 1) (h1 : 1 ≤ n) (h4 : n ≤ 4) (hx : 0 ≤ x) (hx2 : x ≤ n - 1) : okG k x 0 0 n = true := by
  have e1 : inB n 1 4 = true := inB_t h1 h4
  have e2 : inB x 0 (n - 1) = true := inB_t hx hx2
  simp [okG, okQ, badQ, hasI, e1, e2, hk]
theorem okG_2 {k x y n : Int} (hk : arity k = 2) (h1 : 1 ≤ n) (h4 : n ≤ 4) (hx : 0 ≤ x) (hx2 : x ≤ n - 1) (hy : 0 ≤ y) (hy2 : y ≤ n - 1) (hne : x ≠ y) : okG k x y 0 n = true := by
  have e1 : inB n 1 4 = true := inB_t h1 h4
  have e2 : inB x 0 (n - 1) = true := inB_t hx hx2
  have e3 : inB y 0 (n - 1) = true := inB_t hy hy2
  simp [okG, okQ, badQ, hasI, e1, e2, e3, hk, hne]
theorem okG_3 {k x y z n : Int} (hk : arity k = 3) (h1 : 1 ≤ n) (h4 : n ≤ 4) (hx : 0 ≤ x) (hx2 : x ≤ n - 1) (hy : 0 ≤ y) (hy2 : y ≤ n - 1) (hz : 0 ≤ z) (hz2 : z ≤ n - 1) (hne : x ≠ y) (hne2 : x ≠ z) (hne3 : y ≠ z) : okG k x y z n = true := by
  have e1 : inB n 1 4 = true := inB_t h1 h4
  have e2 : inB x 0 (n - 1) = true := inB_t hx hx2
  have e3 : inB y 0 (n - 1) = true := inB_t hy hy2
  have e4 : inB z 0 (n - 1) = true := inB_t hz hz2
  simp [okG, okQ, badQ, hasI, e1, e2, e3, e4, hk, hne, hne2, hne3]

set_option maxRecDepth 100000 in
set_option maxHeartbeats 1600000 in
theorem s_l9On (g n : Nat) (kind : Int) (w : World) (h : Cur w g) (h1 : 1 ≤ n) (h4 : n ≤ 4) (ha : arity kind ≤ n) (hk : 1 ≤ arity kind) :
    Calls Try.prog 156 #[.pointer (some ⟨g, 0, none⟩), .int .i64 kind, .int .i64 n] w (DrawnG (fun x => x.k = kind ∧ okG x.k x.a x.b x.c n = true) g w) := by
  have H := Lib.hid (cur_alloc h (.cells #[.int .i64 0, .int .i64 0, .int .i64 0, .int .i64 0] 55))
  have hg := h.lt
  have X0 := Lib.hid (Bx.new w 55 #[.int .i64 0, .int .i64 0, .int .i64 0, .int .i64 0])
  clear h
  go_enter Try.func156, Try.ntmps156
  go_wp2_with fail
  refine (s_l8Perm g n _ H.out h1 h4).mono ?_
  rintro e w2 ⟨A, nn, c, zs, rfl, hl, ⟨hl2, hp⟩, o, hc, g2⟩
  obtain rfl : nn = n := by rw [← hl, hl2]
  have X2 := Lib.hid (dr_bx g2 X0.out (show w.heap.size ≠ g by omega))
  have G2 := Lib.hid (dr_un g2)
  have C2 := Lib.hid hc
  have l2 := X2.out.lt
  obtain ⟨hb, hnd, _, _⟩ := (isPerm_iff zs).1 hp
  obtain ⟨ar, har⟩ : ∃ a, arity kind = a := ⟨_, rfl⟩
  rw [har] at ha hk
  have har3 : ar ≤ 3 := by rw [← har]; exact (arity_bd kind).2
  have HAR := Lib.hid har
  obtain ⟨b, hA⟩ : ∃ b, A = some ⟨b, 0, none⟩ := by
    rcases o.2 with ⟨_, h0⟩ | ⟨b, cap, cur, hv, _⟩
    · omega
    · injection hv with hv _ _; exact ⟨b, hv⟩
  subst hA
  obtain ⟨z0, r0, rfl⟩ : ∃ z r, zs = z :: r := by cases zs with | nil => simp at hl; omega | cons z r => exact ⟨z, r, rfl⟩
  have k0 : w2.cell? ⟨b, 0, none⟩ = some (.int .i64 z0) := (o.cellAt 0 (by omega)).trans rfl
  have hb0 := hb z0 (by simp)
  obtain ⟨q0, q1, q2, q3, f0, f1, f2, f3⟩ := X2.out.four
  have hlb := (o.lt b rfl).2
  rw [hl] at hb0
  have hcase : ar = 1 ∨ ar = 2 ∨ ar = 3 := by omega
  clear hc g2 har hp X0 H
  rcases hcase with rfl | rfl | rfl
  · have HO := Lib.hid (okG_1 (n := nn) HAR.out (by omega) (by omega) hb0.1 hb0.2)
    clear hb hnd hb0 hl hl2 o
    go_wp2_with (go_at_call 128; refine (s_Arity _ _).mono ?_; rintro e w' ⟨rfl, rfl⟩; rw [HAR.out])
    refine bodyPost_ret (v := .agg #[.int .i64 kind, .int .i64 z0, .int .i64 0, .int .i64 0]) (by simp [results, Try.results156, go_sem, q0, q1, q2, q3, l2]) rfl ⟨kind, z0, 0, 0, rfl, ⟨rfl, HO.out⟩, ?_, ?_⟩
    · exact cur_alloc (cur4 C2.out hg) _
    · exact dr_alloc (dr4 G2.out (Nat.le_refl _)) _
  · obtain ⟨z1, r1, rfl⟩ : ∃ z r, r0 = z :: r := by cases r0 with | nil => simp at hl; omega | cons z r => exact ⟨z, r, rfl⟩
    have k1 : w2.cell? ⟨b, 1, none⟩ = some (.int .i64 z1) := (o.cellAt 1 (by omega)).trans rfl
    have hb1 := hb z1 (by simp)
    rw [hl] at hb1
    have hne : z0 ≠ z1 := by intro e; subst e; simp at hnd
    have HO := Lib.hid (okG_2 (n := nn) HAR.out (by omega) (by omega) hb0.1 hb0.2 hb1.1 hb1.2 hne)
    clear hb hnd hb0 hb1 hl hl2 o hne
    go_wp2_with (go_at_call 128; refine (s_Arity _ _).mono ?_; rintro e w' ⟨rfl, rfl⟩; rw [HAR.out])
    refine bodyPost_ret (v := .agg #[.int .i64 kind, .int .i64 z0, .int .i64 z1, .int .i64 0]) (by simp [results, Try.results156, go_sem, q0, q1, q2, q3, l2]) rfl ⟨kind, z0, z1, 0, rfl, ⟨rfl, HO.out⟩, ?_, ?_⟩
    · exact cur_alloc (cur4 C2.out hg) _
    · exact dr_alloc (dr4 G2.out (Nat.le_refl _)) _
  · obtain ⟨z1, r1, rfl⟩ : ∃ z r, r0 = z :: r := by cases r0 with | nil => simp at hl; omega | cons z r => exact ⟨z, r, rfl⟩
    obtain ⟨z2, r2, rfl⟩ : ∃ z r, r1 = z :: r := by cases r1 with | nil => simp at hl; omega | cons z r => exact ⟨z, r, rfl⟩
    have k1 : w2.cell? ⟨b, 1, none⟩ = some (.int .i64 z1) := (o.cellAt 1 (by omega)).trans rfl
    have k2 : w2.cell? ⟨b, 2, none⟩ = some (.int .i64 z2) := (o.cellAt 2 (by omega)).trans rfl
    have hb1 := hb z1 (by simp)
    have hb2 := hb z2 (by simp)
    rw [hl] at hb1 hb2
    have hne : z0 ≠ z1 := by intro e; subst e; simp at hnd
    have hne2 : z0 ≠ z2 := by intro e; subst e; simp at hnd
    have hne3 : z1 ≠ z2 := by intro e; subst e; simp at hnd
    have HO := Lib.hid (okG_3 (n := nn) HAR.out (by omega) (by omega) hb0.1 hb0.2 hb1.1 hb1.2 hb2.1 hb2.2 hne hne2 hne3)
    clear hb hnd hb0 hb1 hb2 hl hl2 o hne hne2 hne3
    go_wp2_with (go_at_call 128; refine (s_Arity _ _).mono ?_; rintro e w' ⟨rfl, rfl⟩; rw [HAR.out])
    refine bodyPost_ret (v := .agg #[.int .i64 kind, .int .i64 z0, .int .i64 z1, .int .i64 z2]) (by simp [results, Try.results156, go_sem, q0, q1, q2, q3, l2]) rfl ⟨kind, z0, z1, z2, rfl, ⟨rfl, HO.out⟩, ?_, ?_⟩
    · exact cur_alloc (cur4 C2.out hg) _
    · exact dr_alloc (dr4 G2.out (Nat.le_refl _)) _

set_option maxRecDepth 100000 in
set_option maxHeartbeats 3200000 in
theorem s_l9Gate (g n : Nat) (w : World) (h : Cur w g) (h1 : 1 ≤ n) (h4 : n ≤ 4) :
    Calls Try.prog 112 #[.pointer (some ⟨g, 0, none⟩), .int .i64 n] w (DrawnG (fun x => okG x.k x.a x.b x.c n = true) g w) := by
  have hg := h.lt
  obtain ⟨W1, hW1⟩ : ∃ W1, W1 = (w.alloc (.cells #[.int .i64 0, .int .i64 0, .int .i64 0, .int .i64 0] 55)).alloc (.cells #[.int .i64 0, .int .i64 8, .int .i64 11, .int .i64 12, .int .i64 12] 3) := ⟨_, rfl⟩
  have C1 := Lib.hid (show Cur W1 g from hW1 ▸ cur_alloc (cur_alloc h _) _)
  have X1 := Lib.hid (show Bx W1 w.heap.size 55 #[.int .i64 0, .int .i64 0, .int .i64 0, .int .i64 0] from hW1 ▸ (Bx.new w _ _).alloc _)
  have G1 := Lib.hid (show w.grownBy W1 (some g) from hW1 ▸ dr_alloc (dr_alloc (dr_refl w g) _) _)
  have HW := Lib.hid hW1
  clear h hW1
  obtain ⟨mo, hmo⟩ : ∃ m : Nat, ([0, 8, 11, 12, 12] : List Nat)[n]? = some m ∧ 8 ≤ m ∧ m ≤ 12 ∧ (n = 1 → m = 8) ∧ (n = 2 → m = 11) := by
    obtain h | h | h | h : n = 1 ∨ n = 2 ∨ n = 3 ∨ n = 4 := by omega
    all_goals subst h; exact ⟨_, rfl, by omega, by omega, by omega, by omega⟩
  obtain ⟨hm1, hm2, hm3, hm4, hm5⟩ := hmo
  have hlit : ([.int .i64 0, .int .i64 8, .int .i64 11, .int .i64 12, .int .i64 12] : List Value)[n]? = some (.int .i64 mo) := by
    obtain h | h | h | h : n = 1 ∨ n = 2 ∨ n = 3 ∨ n = 4 := by omega
    all_goals subst h; simp at hm1 ⊢; omega
  have hnI : (n : Int) < 5 := by omega
  have hn0 : (0 : Int) ≤ (n : Int) := by omega
  clear hm1
  have hnI4 : (n : Int) ≤ 4 := by omega
  go_enter Try.func112, Try.ntmps112
  go_wp2_with fail
  rw [← HW.out]
  clear hlit hnI hn0
  refine (s_l1Below g mo _ C1.out (by omega)).mono ?_
  rintro e w2 ⟨x, rfl, ⟨hx, _⟩, hc2, g2⟩
  obtain ⟨hx0, hx1⟩ := hx (by omega)
  clear hx
  go_wp2_with fail
  refine (s_l1Once g 2 _ hc2 (by omega)).mono ?_
  rintro e w3 ⟨bb, rfl, hc3, g3⟩
  have C3 := Lib.hid hc3
  have G3 := Lib.hid (dr_trans (dr_trans G1.out g2) g3)
  have X3 := Lib.hid (dr_bx g3 (dr_bx g2 X1.out (by omega)) (show w.heap.size ≠ g by omega))
  have hgs : g + 1 ≤ w3.heap.size := hc3.lt
  have l3 := X3.out.lt
  clear hc2 hc3 g2 g3 X1 G1 C1
  cases bb
  · have hk1 : 1 ≤ arity (1 + x) := by rcases arity_cases (1 + x) with h | h | h | h <;> omega
    obtain ⟨ar, har⟩ : ∃ a, arity (1 + x) = a := ⟨_, rfl⟩
    rw [har] at hk1
    have HAR := Lib.hid har
    have ha4 : arity 4 = 1 := by decide
    have HA4 := Lib.hid ha4
    clear har ha4
    by_cases ht : (n : Int) < ar
    · skip
      go_wp2_with fail
      refine (s_Arity _ _).mono ?_
      rintro e w' ⟨rfl, rfl⟩
      rw [HAR.out]
      go_wp2_with fail
      refine (s_l9On g n (4) _ C3.out h1 h4 (by rw [HA4.out]; omega) (by rw [HA4.out]; omega)).mono ?_
      rintro e w9 ⟨k, a, b, c, rfl, ⟨hk', hok⟩, hc9, g9⟩
      have HOK := Lib.hid hok
      have C9 := Lib.hid hc9
      have X9 := Lib.hid (dr_bx g9 X3.out (show w.heap.size ≠ g by omega))
      have G9 := Lib.hid (dr_trans G3.out g9)
      obtain ⟨q0, q1, q2, q3, f0, f1, f2, f3⟩ := X9.out.four
      have l9 := X9.out.lt
      clear hk' hok hc9 g9 ht hk1
      go_wp2_with fail
      exact bodyPost_ret (v := .agg #[.int .i64 k, .int .i64 a, .int .i64 b, .int .i64 c]) (by simp [results, Try.results112, go_sem, q0, q1, q2, q3]) rfl ⟨k, a, b, c, rfl, HOK.out, cur4 C9.out hg, dr4 G9.out (Nat.le_refl _)⟩
    · skip
      go_wp2_with fail
      refine (s_Arity _ _).mono ?_
      rintro e w' ⟨rfl, rfl⟩
      rw [HAR.out]
      go_wp2_with fail
      refine (s_l9On g n ((1 + x)) _ C3.out h1 h4 (by rw [HAR.out]; omega) (by rw [HAR.out]; omega)).mono ?_
      rintro e w9 ⟨k, a, b, c, rfl, ⟨hk', hok⟩, hc9, g9⟩
      have HOK := Lib.hid hok
      have C9 := Lib.hid hc9
      have X9 := Lib.hid (dr_bx g9 X3.out (show w.heap.size ≠ g by omega))
      have G9 := Lib.hid (dr_trans G3.out g9)
      obtain ⟨q0, q1, q2, q3, f0, f1, f2, f3⟩ := X9.out.four
      have l9 := X9.out.lt
      clear hk' hok hc9 g9 ht hk1
      go_wp2_with fail
      exact bodyPost_ret (v := .agg #[.int .i64 k, .int .i64 a, .int .i64 b, .int .i64 c]) (by simp [results, Try.results112, go_sem, q0, q1, q2, q3]) rfl ⟨k, a, b, c, rfl, HOK.out, cur4 C9.out hg, dr4 G9.out (Nat.le_refl _)⟩
  · have OL := Lib.hid (show (w3.alloc (.cells #[.int .i64 4, .int .i64 7, .int .i64 5, .int .i64 8, .int .i64 9, .int .i64 9, .int .i64 9, .int .i64 9] 3)).ownsRow (g + 1) 3 1 (.slice (some ⟨w3.heap.size, 0, none⟩) 8 8) 8 (cellsI [4, 7, 5, 8, 9, 9, 9, 9]) from World.ownsRow_lit w3 #[.int .i64 4, .int .i64 7, .int .i64 5, .int .i64 8, .int .i64 9, .int .i64 9, .int .i64 9, .int .i64 9] 8 hgs (by simp [maxLen]) rfl)
    have C4 := Lib.hid (cur_alloc C3.out (.cells #[.int .i64 4, .int .i64 7, .int .i64 5, .int .i64 8, .int .i64 9, .int .i64 9, .int .i64 9, .int .i64 9] 3))
    have X4 := Lib.hid (X3.out.alloc (.cells #[.int .i64 4, .int .i64 7, .int .i64 5, .int .i64 8, .int .i64 9, .int .i64 9, .int .i64 9, .int .i64 9] 3))
    have G4 := Lib.hid (dr_alloc G3.out (.cells #[.int .i64 4, .int .i64 7, .int .i64 5, .int .i64 8, .int .i64 9, .int .i64 9, .int .i64 9, .int .i64 9] 3))
    go_wp2_with fail
    refine (s_l1PickInt g _ 8 8 [4, 7, 5, 8, 9, 9, 9, 9] _ C4.out OL.out (by omega) (by omega)).mono ?_
    rintro e w5 ⟨y, rfl, hy, hc5, g5⟩
    have hk1 : 1 ≤ arity y := by simp at hy; rcases arity_cases y with h | h | h | h <;> omega
    have C5 := Lib.hid hc5
    have X5 := Lib.hid (dr_bx g5 X4.out (show w.heap.size ≠ g by omega))
    have G5 := Lib.hid (dr_trans G4.out g5)
    clear hy hc5 g5 C3 C4 X3 X4 G3 G4 OL
    obtain ⟨ar, har⟩ : ∃ a, arity y = a := ⟨_, rfl⟩
    rw [har] at hk1
    have HAR := Lib.hid har
    have ha4 : arity 4 = 1 := by decide
    have HA4 := Lib.hid ha4
    clear har ha4
    by_cases ht : (n : Int) < ar
    · skip
      go_wp2_with fail
      refine (s_Arity _ _).mono ?_
      rintro e w' ⟨rfl, rfl⟩
      rw [HAR.out]
      go_wp2_with fail
      refine (s_l9On g n (4) _ C5.out h1 h4 (by rw [HA4.out]; omega) (by rw [HA4.out]; omega)).mono ?_
      rintro e w9 ⟨k, a, b, c, rfl, ⟨hk', hok⟩, hc9, g9⟩
      have HOK := Lib.hid hok
      have C9 := Lib.hid hc9
      have X9 := Lib.hid (dr_bx g9 X5.out (show w.heap.size ≠ g by omega))
      have G9 := Lib.hid (dr_trans G5.out g9)
      obtain ⟨q0, q1, q2, q3, f0, f1, f2, f3⟩ := X9.out.four
      have l9 := X9.out.lt
      clear hk' hok hc9 g9 ht hk1
      go_wp2_with fail
      exact bodyPost_ret (v := .agg #[.int .i64 k, .int .i64 a, .int .i64 b, .int .i64 c]) (by simp [results, Try.results112, go_sem, q0, q1, q2, q3]) rfl ⟨k, a, b, c, rfl, HOK.out, cur4 C9.out hg, dr4 G9.out (Nat.le_refl _)⟩
    · skip
      go_wp2_with fail
      refine (s_Arity _ _).mono ?_
      rintro e w' ⟨rfl, rfl⟩
      rw [HAR.out]
      go_wp2_with fail
      refine (s_l9On g n (y) _ C5.out h1 h4 (by rw [HAR.out]; omega) (by rw [HAR.out]; omega)).mono ?_
      rintro e w9 ⟨k, a, b, c, rfl, ⟨hk', hok⟩, hc9, g9⟩
      have HOK := Lib.hid hok
      have C9 := Lib.hid hc9
      have X9 := Lib.hid (dr_bx g9 X5.out (show w.heap.size ≠ g by omega))
      have G9 := Lib.hid (dr_trans G5.out g9)
      obtain ⟨q0, q1, q2, q3, f0, f1, f2, f3⟩ := X9.out.four
      have l9 := X9.out.lt
      clear hk' hok hc9 g9 ht hk1
      go_wp2_with fail
      exact bodyPost_ret (v := .agg #[.int .i64 k, .int .i64 a, .int .i64 b, .int .i64 c]) (by simp [results, Try.results112, go_sem, q0, q1, q2, q3]) rfl ⟨k, a, b, c, rfl, HOK.out, cur4 C9.out hg, dr4 G9.out (Nat.le_refl _)⟩

set_option maxRecDepth 100000 in
set_option maxHeartbeats 3200000 in
theorem s_l9Bent (g n : Nat) (w : World) (h : Cur w g) (h1 : 1 ≤ n) (h4 : n ≤ 4) :
    Calls Try.prog 65 #[.pointer (some ⟨g, 0, none⟩), .int .i64 n] w (DrawnG (fun _ => True) g w) := by
  have hg := h.lt
  have H := Lib.hid (cur_alloc h (.cells #[.int .i64 0, .int .i64 0, .int .i64 0, .int .i64 0] 55))
  have X0 := Lib.hid (Bx.new w 55 #[.int .i64 0, .int .i64 0, .int .i64 0, .int .i64 0])
  clear h
  go_enter Try.func65, Try.ntmps65
  go_wp2_with fail
  refine (s_l9Gate g n _ H.out h1 h4).mono ?_
  rintro e w2 ⟨k, a, b, c, rfl, hok, hc2, g2⟩
  have G2 := Lib.hid (dr_un g2)
  have X2 := Lib.hid (dr_bx g2 X0.out (show w.heap.size ≠ g by omega))
  have C2 := Lib.hid hc2
  clear hok hc2 g2 X0 H
  have hs2 : w.heap.size < w2.heap.size := X2.out.lt
  have C3 := Lib.hid (cur_alloc C2.out (.cells #[.int .i64 k, .int .i64 a, .int .i64 b, .int .i64 c] 55))
  have X3 := Lib.hid (X2.out.alloc (.cells #[.int .i64 k, .int .i64 a, .int .i64 b, .int .i64 c] 55))
  have E3 := Lib.hid (Bx.new w2 55 #[.int .i64 k, .int .i64 a, .int .i64 b, .int .i64 c])
  have G3 := Lib.hid (dr_alloc G2.out (.cells #[.int .i64 k, .int .i64 a, .int .i64 b, .int .i64 c] 55))
  clear C2 X2 G2
  go_wp2_with fail
  refine (s_l1Below g 10 _ C3.out (by omega)).mono ?_
  rintro e w4 ⟨z, rfl, _, hc4, g4⟩
  have C4 := Lib.hid hc4
  have X4 := Lib.hid (dr_bx g4 X3.out (show w.heap.size ≠ g by omega))
  have E4 := Lib.hid (dr_bx g4 E3.out (show w2.heap.size ≠ g by omega))
  have G4 := Lib.hid (dr_trans G3.out g4)
  have l4 := E4.out.lt
  have hgs : g + 1 ≤ w4.heap.size := hc4.lt
  clear hc4 g4 C3 X3 E3 G3
  by_cases z0 : z = 0
  · subst z0
    go_wp2_with fail
    refine (s_l1Below g 15 _ C4.out (by omega)).mono ?_
    rintro e w5 ⟨y, rfl, ⟨hy, _⟩, hc, gg⟩
    have C5 := Lib.hid hc
    have X5 := Lib.hid (dr_bx gg X4.out (show w.heap.size ≠ g by omega))
    have E5 := Lib.hid (dr_bx gg E4.out (show w2.heap.size ≠ g by omega))
    have G5 := Lib.hid (dr_trans G4.out gg)
    clear hc gg
    obtain ⟨hy0, hy1⟩ := hy (by omega)
    clear hy
    obtain ⟨q0, q1, q2, q3, f0, f1, f2, f3⟩ := X5.out.four
    obtain ⟨u0, u1, u2, u3, v0, v1, v2, v3⟩ := E5.out.four
    have le5 := E5.out.lt
    go_wp2_with fail
    exact bodyPost_ret (v := .agg #[.int .i64 (y - 1), .int .i64 a, .int .i64 b, .int .i64 c]) (by simp [results, Try.results65, go_sem, q0, q1, q2, q3]) rfl ⟨(y - 1), a, b, c, rfl, trivial, cur4 (C5.out.setCell (by show g < w2.heap.size; omega) _) hg, dr4 (dr_set G5.out (by show w.heap.size ≤ w2.heap.size; omega) _) (Nat.le_refl _)⟩
  · by_cases z1 : z = 1
    · subst z1
      obtain ⟨u0, u1, u2, u3, _⟩ := E4.out.four
      have OL := Lib.hid (show (w4.alloc (.cells #[.int .i64 0, .int .i64 (n : Int), .int .i64 (-1), .int .i64 b] 3)).ownsRow (g + 1) 3 1 (.slice (some ⟨w4.heap.size, 0, none⟩) 4 4) 4 (cellsI [0, (n : Int), (-1), b]) from World.ownsRow_lit w4 #[.int .i64 0, .int .i64 (n : Int), .int .i64 (-1), .int .i64 b] 4 hgs (by simp [maxLen]) rfl)
      go_wp2_with fail
      refine (s_l1PickInt g _ 4 4 [0, (n : Int), (-1), b] _ (cur_alloc C4.out (.cells #[.int .i64 0, .int .i64 (n : Int), .int .i64 (-1), .int .i64 b] 3)) OL.out (by omega) (by omega)).mono ?_
      rintro e w5 ⟨y, rfl, _, hc, gg⟩
      have C5 := Lib.hid hc
      have X5 := Lib.hid (dr_bx gg (X4.out.alloc (.cells #[.int .i64 0, .int .i64 (n : Int), .int .i64 (-1), .int .i64 b] 3)) (show w.heap.size ≠ g by omega))
      have E5 := Lib.hid (dr_bx gg (E4.out.alloc (.cells #[.int .i64 0, .int .i64 (n : Int), .int .i64 (-1), .int .i64 b] 3)) (show w2.heap.size ≠ g by omega))
      have G5 := Lib.hid (dr_trans (dr_alloc G4.out (.cells #[.int .i64 0, .int .i64 (n : Int), .int .i64 (-1), .int .i64 b] 3)) gg)
      clear hc gg
      clear u0 u1 u2 u3
      obtain ⟨q0, q1, q2, q3, f0, f1, f2, f3⟩ := X5.out.four
      obtain ⟨u0, u1, u2, u3, v0, v1, v2, v3⟩ := E5.out.four
      have le5 := E5.out.lt
      go_wp2_with fail
      exact bodyPost_ret (v := .agg #[.int .i64 k, .int .i64 y, .int .i64 b, .int .i64 c]) (by simp [results, Try.results65, go_sem, q0, q1, q2, q3]) rfl ⟨k, y, b, c, rfl, trivial, cur4 (C5.out.setCell (by show g < w2.heap.size; omega) _) hg, dr4 (dr_set G5.out (by show w.heap.size ≤ w2.heap.size; omega) _) (Nat.le_refl _)⟩
    · by_cases z2 : z = 2
      · subst z2
        obtain ⟨u0, u1, u2, u3, _⟩ := E4.out.four
        have OL := Lib.hid (show (w4.alloc (.cells #[.int .i64 0, .int .i64 (n : Int), .int .i64 (-1), .int .i64 a] 3)).ownsRow (g + 1) 3 1 (.slice (some ⟨w4.heap.size, 0, none⟩) 4 4) 4 (cellsI [0, (n : Int), (-1), a]) from World.ownsRow_lit w4 #[.int .i64 0, .int .i64 (n : Int), .int .i64 (-1), .int .i64 a] 4 hgs (by simp [maxLen]) rfl)
        go_wp2_with fail
        refine (s_l1PickInt g _ 4 4 [0, (n : Int), (-1), a] _ (cur_alloc C4.out (.cells #[.int .i64 0, .int .i64 (n : Int), .int .i64 (-1), .int .i64 a] 3)) OL.out (by omega) (by omega)).mono ?_
        rintro e w5 ⟨y, rfl, _, hc, gg⟩
        have C5 := Lib.hid hc
        have X5 := Lib.hid (dr_bx gg (X4.out.alloc (.cells #[.int .i64 0, .int .i64 (n : Int), .int .i64 (-1), .int .i64 a] 3)) (show w.heap.size ≠ g by omega))
        have E5 := Lib.hid (dr_bx gg (E4.out.alloc (.cells #[.int .i64 0, .int .i64 (n : Int), .int .i64 (-1), .int .i64 a] 3)) (show w2.heap.size ≠ g by omega))
        have G5 := Lib.hid (dr_trans (dr_alloc G4.out (.cells #[.int .i64 0, .int .i64 (n : Int), .int .i64 (-1), .int .i64 a] 3)) gg)
        clear hc gg
        clear u0 u1 u2 u3
        obtain ⟨q0, q1, q2, q3, f0, f1, f2, f3⟩ := X5.out.four
        obtain ⟨u0, u1, u2, u3, v0, v1, v2, v3⟩ := E5.out.four
        have le5 := E5.out.lt
        go_wp2_with fail
        exact bodyPost_ret (v := .agg #[.int .i64 k, .int .i64 a, .int .i64 y, .int .i64 c]) (by simp [results, Try.results65, go_sem, q0, q1, q2, q3]) rfl ⟨k, a, y, c, rfl, trivial, cur4 (C5.out.setCell (by show g < w2.heap.size; omega) _) hg, dr4 (dr_set G5.out (by show w.heap.size ≤ w2.heap.size; omega) _) (Nat.le_refl _)⟩
      · by_cases z3 : z = 3
        · subst z3
          have OL := Lib.hid (show (w4.alloc (.cells #[.int .i64 0, .int .i64 1, .int .i64 (n : Int), .int .i64 (-1)] 3)).ownsRow (g + 1) 3 1 (.slice (some ⟨w4.heap.size, 0, none⟩) 4 4) 4 (cellsI [0, 1, (n : Int), (-1)]) from World.ownsRow_lit w4 #[.int .i64 0, .int .i64 1, .int .i64 (n : Int), .int .i64 (-1)] 4 hgs (by simp [maxLen]) rfl)
          go_wp2_with fail
          refine (s_l1PickInt g _ 4 4 [0, 1, (n : Int), (-1)] _ (cur_alloc C4.out (.cells #[.int .i64 0, .int .i64 1, .int .i64 (n : Int), .int .i64 (-1)] 3)) OL.out (by omega) (by omega)).mono ?_
          rintro e w5 ⟨y, rfl, _, hc, gg⟩
          have C5 := Lib.hid hc
          have X5 := Lib.hid (dr_bx gg (X4.out.alloc (.cells #[.int .i64 0, .int .i64 1, .int .i64 (n : Int), .int .i64 (-1)] 3)) (show w.heap.size ≠ g by omega))
          have E5 := Lib.hid (dr_bx gg (E4.out.alloc (.cells #[.int .i64 0, .int .i64 1, .int .i64 (n : Int), .int .i64 (-1)] 3)) (show w2.heap.size ≠ g by omega))
          have G5 := Lib.hid (dr_trans (dr_alloc G4.out (.cells #[.int .i64 0, .int .i64 1, .int .i64 (n : Int), .int .i64 (-1)] 3)) gg)
          clear hc gg
          obtain ⟨q0, q1, q2, q3, f0, f1, f2, f3⟩ := X5.out.four
          obtain ⟨u0, u1, u2, u3, v0, v1, v2, v3⟩ := E5.out.four
          have le5 := E5.out.lt
          go_wp2_with fail
          exact bodyPost_ret (v := .agg #[.int .i64 k, .int .i64 a, .int .i64 b, .int .i64 y]) (by simp [results, Try.results65, go_sem, q0, q1, q2, q3]) rfl ⟨k, a, b, y, rfl, trivial, cur4 (C5.out.setCell (by show g < w2.heap.size; omega) _) hg, dr4 (dr_set G5.out (by show w.heap.size ≤ w2.heap.size; omega) _) (Nat.le_refl _)⟩
        · have e0 : (z == 0) = false := by simpa using z0
          have e1 : (z == 1) = false := by simpa using z1
          have e2 : (z == 2) = false := by simpa using z2
          have e3 : (z == 3) = false := by simpa using z3
          clear z0 z1 z2 z3
          obtain ⟨q0, q1, q2, q3, f0, f1, f2, f3⟩ := X4.out.four
          obtain ⟨u0, u1, u2, u3, v0, v1, v2, v3⟩ := E4.out.four
          have le4 := E4.out.lt
          go_wp2_with fail
          exact bodyPost_ret (v := .agg #[.int .i64 k, .int .i64 a, .int .i64 b, .int .i64 c]) (by simp [results, Try.results65, go_sem, q0, q1, q2, q3]) rfl ⟨k, a, b, c, rfl, trivial, cur4 C4.out hg, dr4 G4.out (Nat.le_refl _)⟩
end Go.Proofs.Ytibhikngiceeeaa
