/- Contracts of the drawing helpers: big, l1New, l1Byte, l1Below. The code has at most 2^20 bytes where a cursor is made. -/
import Derived.Test.YtibhikngiceeeaaProg
import Derived.Test.YtibhikngiceeeaaBase
import Derived.Deep.QuietTactic
import Derived.BigQuiet
import Derived.Laws.BitsAllLaws
import Derived.Laws.BitsLemmas
import Derived.Outline
namespace Go.Proofs.Ytibhikngiceeeaa
open Go.RowKit

def RdB (w : World) (A : Option Addr) (n : Nat) (zs : List Int) : Prop := zs.length = n ∧ Rd w 1 A n (zs.map (Value.int .u8))
theorem RdB.at_ {w : World} {n : Nat} {A : Option Addr} {zs : List Int} (h : RdB w A n zs) {k : Nat} (hk : k < n) : ∃ (b off : Nat) (x : Int), A = some ⟨b, off, none⟩ ∧ b < w.heap.size ∧ x ∈ zs ∧ w.cell? ⟨b, off + k, none⟩ = some (.int .u8 x) := by
  obtain ⟨hl, hr⟩ := h
  obtain ⟨b, off, e, hb, hc⟩ := hr.2 (by omega)
  refine ⟨b, off, zs[k]'(by omega), e, hb, by simp, hc _ _ ?_⟩
  simp only [List.getElem?_map]
  rw [List.getElem?_eq_getElem (by omega)]
  rfl

theorem Rd.setCell0 {w : World} {sz n : Nat} {A : Option Addr} {xs : List Value} (h : Rd w sz A n xs) {p : Addr} (u : Value) (hp : 0 < n → ∀ b off, A = some ⟨b, off, none⟩ → b ≠ p.block) : Rd (w.setCell p u) sz A n xs := by
  rcases Nat.eq_zero_or_pos n with h0 | h0
  · subst h0
    have : xs = [] := List.eq_nil_of_length_eq_zero (by simpa using h.1)
    subst this
    exact Rd.zero _ _ _
  · exact h.setCell u (hp h0)
theorem and_lit (a : Int) (m : Nat) (hm : m < 9223372036854775808) : 0 ≤ bits .and .i64 a (m : Int) ∧ bits .and .i64 a (m : Int) ≤ m := by
  have h : bits .and .i64 a (m : Int) = IntKind.i64.wrap (((BitVec.ofInt 64 a &&& BitVec.ofInt 64 (m : Int)).toNat : Nat) : Int) := rfl
  have h2 : (BitVec.ofInt 64 (m : Int)).toNat = m := by
    rw [BitVec.ofInt_natCast, BitVec.toNat_ofNat]; exact Nat.mod_eq_of_lt (by omega)
  have h3 : (BitVec.ofInt 64 a &&& BitVec.ofInt 64 (m : Int)).toNat ≤ m := by
    rw [BitVec.toNat_and, h2]; exact Nat.and_le_right
  rw [h, IntKind.wrap_i64]
  omega

def Cur (w : World) (g : Nat) : Prop :=
  ∃ (A : Option Addr) (n c : Nat) (i h : Int) (zs : List Int), Bx w g 140 #[.slice A n c, .int .i64 i, .int .i64 h] ∧ RdB w A n zs ∧ (∀ z ∈ zs, 0 ≤ z ∧ z ≤ 255) ∧ 0 ≤ i ∧ i ≤ n ∧ n ≤ 1048576 ∧ (0 < n → ∀ b off, A = some ⟨b, off, none⟩ → b < g)
theorem Cur.below {w w' : World} {g : Nat} (h : Cur w g) (hb : Below w.heap.size w w') : Cur w' g := by
  obtain ⟨A, n, c, i, hh, zs, h1, h2, h3⟩ := h
  exact ⟨A, n, c, i, hh, zs, h1.below hb, ⟨h2.1, h2.2.below hb⟩, h3⟩
theorem Cur.lt {w : World} {g : Nat} (h : Cur w g) : g < w.heap.size := by
  obtain ⟨A, n, c, i, hh, zs, h1, _⟩ := h
  exact h1.lt
theorem Cur.row {w w' : World} {g : Nat} {row : Option Nat} (h : Cur w g) (hg : w.grownBy w' row) (hr : ∀ k, row = some k → g < k) : Cur w' g := by
  obtain ⟨A, n, c, i, hh, zs, h1, h2, h3, h4, h5, h6, h7⟩ := h
  refine ⟨A, n, c, i, hh, zs, h1.grown hg (fun e => by have := hr g e.symm; omega), ⟨h2.1, ?_⟩, h3, h4, h5, h6, h7⟩
  rcases Nat.eq_zero_or_pos n with h0 | h0
  · subst h0
    have : zs = [] := List.eq_nil_of_length_eq_zero h2.1
    subst this
    exact Rd.zero _ _ _
  · exact h2.2.grown hg fun b off e he => by
      have a := h7 h0 b off e
      have b := hr _ he.symm
      omega
theorem Cur.setCell {w : World} {g : Nat} (h : Cur w g) {p : Addr} (hp : g < p.block) (u : Value) : Cur (w.setCell p u) g :=
  h.row (row := some p.block) ⟨rfl, rfl, rfl, by simp [World.setCell], fun k _ hk => Below.heap_setCell w _ u k (fun e => hk (by rw [e]))⟩ (fun k e => by injection e with e; omega)
theorem Cur.bx {w : World} {g : Nat} (h : Cur w g) : ∃ cs, Bx w g 140 cs := by
  obtain ⟨A, n, c, i, hh, zs, h1, _⟩ := h
  exact ⟨_, h1⟩
theorem Cur.grown {w w' : World} {g : Nat} {row : Option Nat} (h : Cur w g) (hg : w.grownBy w' row) (hr : ∀ k, row = some k → w.heap.size ≤ k) : Cur w' g :=
  h.below (below_of_grown hg (Nat.le_refl _) hr)

/-- A number drawn: what holds of it; the cursor still stands; only its block has turned. -/
def Drawn (p : Int → Prop) (g : Nat) (w : World) (e : Ending) (w' : World) : Prop :=
  ∃ x : Int, e = .returned (.int .i64 x) ∧ p x ∧ Cur w' g ∧ w.grownBy w' (some g)

theorem l_big (A : Option Addr) (n cap : Nat) (w : World) (hn : n ≤ 9223372036854775807) :
    Calls Try.prog 17 #[.slice A n cap] w fun e w' => e = .returned (.bool (decide (1048576 < n))) ∧ w = w' := by
  by_cases h : 1048576 < n
  · go_enter Try.func17, Try.ntmps17
    go_wp2
    go_ret
    exact ⟨ret_bool (by simp; omega), rfl⟩
  · go_enter Try.func17, Try.ntmps17
    go_wp2
    go_ret
    exact ⟨ret_bool (by simp; omega), rfl⟩

set_option maxHeartbeats 800000 in
theorem s_l1Byte (g : Nat) (w : World) (h : Cur w g) :
    Calls Try.prog 110 #[.pointer (some ⟨g, 0, none⟩)] w (Drawn (fun x => 0 ≤ x ∧ x ≤ 255) g w) := by
  obtain ⟨A, n, c, i, h, zs, hbx, hr, hz, h0, h1, h2, hA⟩ := h
  obtain ⟨k, rfl⟩ := Int.eq_ofNat_of_zero_le h0
  have HB := Lib.hid hbx
  have HR := Lib.hid hr
  have HZ := Lib.hid hz
  have HA := Lib.hid (show 0 < n → ∀ b off, A = some ⟨b, off, none⟩ → b ≠ g from fun h0 b off e => Nat.ne_of_lt (hA h0 b off e))
  have HA' := Lib.hid hA
  obtain ⟨q0, q1, q2, f0, f1, f2⟩ : w.cell? ⟨g, 0, none⟩ = some (.slice A n c) ∧ w.cell? ⟨g, 1, none⟩ = some (.int .i64 (k : Int)) ∧ w.cell? ⟨g, 2, none⟩ = some (.int .i64 h) ∧ w.frozen? ⟨g, 0, none⟩ = false ∧ w.frozen? ⟨g, 1, none⟩ = false ∧ w.frozen? ⟨g, 2, none⟩ = false :=
    ⟨hbx.cell 0, hbx.cell 1, hbx.cell 2, hbx.free 0, hbx.free 1, hbx.free 2⟩
  clear hbx hr hz hA
  go_enter Try.func110, Try.ntmps110
  go_wp2
  generalize wrap64 (wrap64 (h * 6364136223846793005) + 1442695040888963407) = h'
  obtain ⟨W, hW⟩ : ∃ W, W = w.setCell ⟨g, 2, none⟩ (.int .i64 h') := ⟨_, rfl⟩
  rw [← hW]
  have B1 : Bx W g 140 #[.slice A n c, .int .i64 (k : Int), .int .i64 h'] := by rw [hW]; exact HB.out.set_ 2 _
  have R1 : RdB W A n zs := by rw [hW]; exact ⟨HR.out.1, HR.out.2.setCell0 _ HA.out⟩
  have G1 : w.grownBy W (some g) := by
    rw [hW]
    exact ⟨rfl, rfl, rfl, by simp [World.setCell], fun k hk hne => Below.heap_setCell w _ _ k (fun e => hne (by rw [e]))⟩
  clear hW q0 q1 q2 f0 f1 f2
  obtain ⟨q0, q1, q2, f0, f1, f2⟩ : W.cell? ⟨g, 0, none⟩ = some (.slice A n c) ∧ W.cell? ⟨g, 1, none⟩ = some (.int .i64 (k : Int)) ∧ W.cell? ⟨g, 2, none⟩ = some (.int .i64 h') ∧ W.frozen? ⟨g, 0, none⟩ = false ∧ W.frozen? ⟨g, 1, none⟩ = false ∧ W.frozen? ⟨g, 2, none⟩ = false :=
    ⟨B1.cell 0, B1.cell 1, B1.cell 2, B1.free 0, B1.free 1, B1.free 2⟩
  have HB1 := Lib.hid B1
  have HR1 := Lib.hid R1
  clear B1 R1
  go_quiet (fail)
  go_wp2
  have hx := and_lit (bits BinOp.xor IntKind.i64 (h' / 8589934592) (h' / 35184372088832)) 255 (by omega)
  generalize bits BinOp.and IntKind.i64 (bits BinOp.xor IntKind.i64 (h' / 8589934592) (h' / 35184372088832)) 255 = x at hx ⊢
  by_cases hlt : k < n
  · obtain ⟨b, off, z, rfl, hb, hz, c0⟩ := HR1.out.at_ hlt
    have hzb := HZ.out z hz
    have hne : b ≠ g := HA.out (by omega) b off rfl
    have hi1 : (k : Int) < (n : Int) := by omega
    clear hz
    go_quiet (fail)
    go_wp2
    go_quiet (fail)
    go_wp2
    go_ret
    have hB2 : ∀ m, Bx ((W.drewN m).setCell ⟨g, 1, none⟩ (.int .i64 ((k : Int) + 1))) g 140 #[.slice (some ⟨b, off, none⟩) n c, .int .i64 ((k : Int) + 1), .int .i64 h'] := fun m => Bx.set_ (w := W.drewN m) HB1.out 1 _
    refine ⟨_, rfl, and_lit (x + z) 255 (by omega), ⟨_, n, c, (k : Int) + 1, h', zs, hB2 _, ⟨HR1.out.1, Rd.setCell0 (w := W.drewN _) HR1.out.2 _ HA.out⟩, HZ.out, by omega, by omega, by omega, HA'.out⟩, ?_⟩
    exact ⟨G1.os, G1.tape, G1.output, by simpa [World.setCell] using G1.size, fun j hj hne => (Below.heap_setCell (W.drewN _) ⟨g, 1, none⟩ _ j (fun e => hne (by rw [e]))).trans (G1.block j hj hne)⟩
  · have hi1 : decide ((k : Int) < (n : Int)) = false := by simp; omega
    go_quiet (fail)
    go_wp2
    go_ret
    exact ⟨x, rfl, hx, ⟨A, n, c, k, h', zs, HB1.out, HR1.out, HZ.out, by omega, by omega, by omega, HA'.out⟩, ⟨G1.os, G1.tape, G1.output, G1.size, G1.block⟩⟩

theorem rem_bd (x n : Int) (h1 : 1 ≤ n) : 0 ≤ x % n ∧ x % n < n := ⟨Int.emod_nonneg _ (by omega), Int.emod_lt_of_pos _ (by omega)⟩

set_option maxHeartbeats 800000 in
theorem s_l1Below (g : Nat) (n : Int) (w : World) (h : Cur w g) (hn : n ≤ 1000000) :
    Calls Try.prog 62 #[.pointer (some ⟨g, 0, none⟩), .int .i64 n] w (Drawn (fun x => (1 ≤ n → 0 ≤ x ∧ x < n) ∧ (n ≤ 0 → x = 0)) g w) := by
  have H := Lib.hid h
  clear h
  by_cases h0 : n ≤ 0
  · go_enter Try.func62, Try.ntmps62
    go_wp2_with fail
    go_ret
    exact ⟨0, rfl, ⟨fun h => by omega, fun _ => rfl⟩, H.out, World.grownBy.refl _ _⟩
  · have hn1 : 1 ≤ n := by omega
    by_cases h256 : n ≤ 256
    · go_enter Try.func62, Try.ntmps62
      go_wp2_with fail
      refine (s_l1Byte _ _ H.out).mono ?_
      rintro e w1 ⟨x, rfl, ⟨hx0, hx1⟩, hc1, g1⟩
      go_wp2_with fail
      go_ret
      exact ⟨x % n, rfl, ⟨fun _ => rem_bd x n hn1, fun h => by omega⟩, hc1, g1⟩
    · go_enter Try.func62, Try.ntmps62
      go_wp2_with fail
      refine (s_l1Byte _ _ H.out).mono ?_
      rintro e w1 ⟨x, rfl, ⟨hx0, hx1⟩, hc1, g1⟩
      go_wp2_with fail
      refine (s_l1Byte _ _ hc1).mono ?_
      rintro e w2 ⟨y, rfl, ⟨hy0, hy1⟩, hc2, g2⟩
      go_wp2_with fail
      refine (s_l1Byte _ _ hc2).mono ?_
      rintro e w3 ⟨z, rfl, ⟨hz0, hz1⟩, hc3, g3⟩
      go_wp2_with fail
      refine (s_l1Byte _ _ hc3).mono ?_
      rintro e w4 ⟨u, rfl, ⟨hu0, hu1⟩, hc4, g4⟩
      go_wp2_with fail
      go_ret
      refine ⟨(x * 16777216 + y * 65536 + z * 256 + u) % n, rfl, ⟨fun _ => rem_bd _ n hn1, fun h => by omega⟩, hc4, ((g1.trans g2).trans g3).trans g4⟩

/-- A new cursor over the code. -/
def RetCur (w : World) (e : Ending) (w' : World) : Prop := ∃ g, e = .returned (.pointer (some ⟨g, 0, none⟩)) ∧ Cur w' g ∧ w.heap.size ≤ g ∧ Below w.heap.size w w'

set_option maxRecDepth 100000 in
set_option maxHeartbeats 800000 in
theorem s_l1New (A : Option Addr) (n cap : Nat) (zs : List Int) (w : World) (h : RdB w A n zs) (hz : ∀ z ∈ zs, 0 ≤ z ∧ z ≤ 255) (hn : n ≤ 1048576) :
    Calls Try.prog 61 #[.slice A n cap] w (RetCur w) := by
  have H := Lib.hid h
  have HZ := Lib.hid hz
  clear h hz
  go_enter Try.func61, Try.ntmps61
  go_wp2_with fail
  go_loop [3, 4] (fun s i => ∃ (k : Nat) (x : Int), k ≤ n ∧ i = .int .i64 k ∧ s = .int .i64 x) (fun _ i => n - (intOf i).toNat)
  case atStart => exact ⟨0, _, by omega, rfl, rfl⟩
  case round =>
    obtain ⟨k, x, hk, rfl, rfl⟩ := hrel
    have fin : ∀ y : Int, RetCur w (.returned (.pointer (some ⟨w.heap.size, 0, none⟩))) (w.alloc (.cells #[.slice A n cap, .int .i64 0, .int .i64 y] 140)) := fun y =>
      ⟨_, rfl, ⟨A, n, cap, 0, y, zs, Bx.new w _ _, ⟨H.out.1, H.out.2.alloc _⟩, HZ.out, by omega, by omega, hn, fun h0 b off e => by
        obtain ⟨b', off', e', hb, _⟩ := H.out.2.2 h0
        rw [e] at e'; injection e' with e'; injection e' with e' _; omega⟩, Nat.le_refl _, (Below.refl _ _).alloc (Nat.le_refl _) _⟩
    have FIN := Lib.hid fin
    clear fin
    by_cases hlt : k < n
    · by_cases h4 : k < 4000
      · obtain ⟨b, off, z, rfl, hb, hzm, c0⟩ := H.out.at_ hlt
        have hzb := HZ.out z hzm
        clear hzm
        go_wp2_with fail
        go_round
        case rel => exact ⟨k + 1, _, by omega, by go_num, rfl⟩
        case measure => simp [intOf]; omega
      · go_wp2_with fail
        go_ret
        exact FIN.out x
    · go_wp2_with fail
      go_ret
      exact FIN.out x
end Go.Proofs.Ytibhikngiceeeaa
