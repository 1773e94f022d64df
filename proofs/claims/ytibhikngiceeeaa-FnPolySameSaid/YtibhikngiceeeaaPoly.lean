/- Contracts of the laws' helpers on phase polynomials: sz, to, eq, mark, held. At most 2^20 terms and outputs where they are made. -/
import Derived.Test.YtibhikngiceeeaaPairMPhaseTerm
import Derived.Test.YtibhikngiceeeaaPairMAffineForm
namespace Go.Proofs.Ytibhikngiceeeaa
open Go.RowKit

theorem own_set {w : World} {base : Nat} {e : TypeId} {sz n : Nat} {v : Value} {xs : List Value} (h : w.ownsRow base e sz v n xs) {p : Addr} (hp : p.block < base) (u : Value) : (w.setCell p u).ownsRow base e sz v n xs := by
  have hg : w.grownBy (w.setCell p u) (some p.block) := ⟨rfl, rfl, rfl, by simp [World.setCell], fun k hk hne => Below.heap_setCell w _ _ k (fun e => hne (by rw [e]))⟩
  refine h.kept hg ?_
  cases hv : v.ownBlock with
  | none => exact .inl rfl
  | some k =>
    refine .inr fun e => ?_
    injection e with e
    have := (h.lt k hv).1
    omega

theorem l_szPhaseTermS (A : Option Addr) (n cap : Nat) (x : Int) (hn : n ≤ 9223372036854775807) (hx0 : 0 ≤ x) (hx : x ≤ 1048576) (w : World) :
    Calls Try.prog 41 #[.slice A n cap, .int .i64 x] w fun e w' => e = .returned (.int .i64 (if (n : Int) ≤ x then x - n else -1)) ∧ w = w' := by
  by_cases h : (n : Int) ≤ x
  · go_enter Try.func41, Try.ntmps41
    go_wp2
    go_ret
    exact ⟨ret_int (by first | rfl | (split <;> omega)), rfl⟩
  · go_enter Try.func41, Try.ntmps41
    go_wp2
    go_ret
    exact ⟨ret_int (by first | rfl | (split <;> omega)), rfl⟩
theorem l_szAffineFormS (A : Option Addr) (n cap : Nat) (x : Int) (hn : n ≤ 9223372036854775807) (hx0 : 0 ≤ x) (hx : x ≤ 1048576) (w : World) :
    Calls Try.prog 42 #[.slice A n cap, .int .i64 x] w fun e w' => e = .returned (.int .i64 (if (n : Int) ≤ x then x - n else -1)) ∧ w = w' := by
  by_cases h : (n : Int) ≤ x
  · go_enter Try.func42, Try.ntmps42
    go_wp2
    go_ret
    exact ⟨ret_int (by first | rfl | (split <;> omega)), rfl⟩
  · go_enter Try.func42, Try.ntmps42
    go_wp2
    go_ret
    exact ⟨ret_int (by first | rfl | (split <;> omega)), rfl⟩
theorem l_szPoly (N H : Int) (AT : Option Addr) (nT cT : Nat) (AO : Option Addr) (nO cO : Nat) (x : Int) (hT : nT ≤ 9223372036854775807) (hO : nO ≤ 9223372036854775807) (hx0 : 0 ≤ x) (hx : x ≤ 1048576) (w : World) :
    Calls Try.prog 8 #[.agg #[.int .i64 N, .int .i64 H, .slice AT nT cT, .slice AO nO cO], .int .i64 x] w fun e w' => e = .returned (.int .i64 (if (nT : Int) + nO ≤ x then x - nT - nO else -1)) ∧ Below w.heap.size w w' := by
  by_cases h1 : (nT : Int) ≤ x
  · by_cases h2 : (nO : Int) ≤ x - nT
    · go_enter Try.func8, Try.ntmps8
      go_wp2_with fail
      refine (l_szPhaseTermS _ _ _ _ hT hx0 hx _).mono ?_
      rintro e w' ⟨rfl, rfl⟩
      rw [if_pos h1]
      go_wp2_with fail
      refine (l_szAffineFormS _ _ _ _ hO (by omega) (by omega) _).mono ?_
      rintro e w' ⟨rfl, rfl⟩
      rw [if_pos h2]
      go_wp2_with fail
      go_ret
      exact ⟨ret_int (by first | rfl | (split <;> omega)), (by repeat (first | exact Below.refl _ _ | assumption | refine Below.drew ?_ | refine Below.alloc ?_ (by simp <;> omega) _))⟩
    · go_enter Try.func8, Try.ntmps8
      go_wp2_with fail
      refine (l_szPhaseTermS _ _ _ _ hT hx0 hx _).mono ?_
      rintro e w' ⟨rfl, rfl⟩
      rw [if_pos h1]
      go_wp2_with fail
      refine (l_szAffineFormS _ _ _ _ hO (by omega) (by omega) _).mono ?_
      rintro e w' ⟨rfl, rfl⟩
      rw [if_neg (by omega)]
      go_wp2_with fail
      go_ret
      exact ⟨ret_int (by first | rfl | (split <;> omega)), (by repeat (first | exact Below.refl _ _ | assumption | refine Below.drew ?_ | refine Below.alloc ?_ (by simp <;> omega) _))⟩
  · go_enter Try.func8, Try.ntmps8
    go_wp2_with fail
    refine (l_szPhaseTermS _ _ _ _ hT hx0 hx _).mono ?_
    rintro e w' ⟨rfl, rfl⟩
    rw [if_neg (by omega)]
    go_wp2_with fail
    go_ret
    exact ⟨ret_int (by first | rfl | (split <;> omega)), (by repeat (first | exact Below.refl _ _ | assumption | refine Below.drew ?_ | refine Below.alloc ?_ (by simp <;> omega) _))⟩

/-- A polynomial of the call's own. -/
def OwnPoly (wx : World) (base : Nat) (N H : Int) (t o : List (Int × Int)) (v : Value) : Prop :=
  ∃ (AT : Option Addr) (cT : Nat) (AO : Option Addr) (cO : Nat), v = .agg #[.int .i64 N, .int .i64 H, .slice AT t.length cT, .slice AO o.length cO] ∧ wx.ownsRow base 107 2 (.slice AT t.length cT) t.length (cellsP t) ∧ wx.ownsRow base 109 2 (.slice AO o.length cO) o.length (cellsP o)
def RetPoly (N H : Int) (t o : List (Int × Int)) (w : World) (e : Ending) (w' : World) : Prop := ∃ v, e = .returned v ∧ OwnPoly w' w.heap.size N H t o v ∧ Below w.heap.size w w'

set_option maxHeartbeats 800000 in
theorem l_toPoly (N H : Int) (AT : Option Addr) (nT cT : Nat) (t : List (Int × Int)) (AO : Option Addr) (nO cO : Nat) (o : List (Int × Int)) (w : World) (hT : RdP w AT nT t) (hO : RdP w AO nO o) (hnT : nT ≤ 1048576) (hnO : nO ≤ 1048576) :
    Calls Try.prog 10 #[.agg #[.int .i64 N, .int .i64 H, .slice AT nT cT, .slice AO nO cO]] w (RetPoly N H t o w) := by
  have HT := Lib.hid hT
  have HO := Lib.hid hO
  clear hT hO
  have X0 := Lib.hid ((((Bx.new w 25 #[.int .i64 N, .int .i64 H, .slice AT nT cT, .slice AO nO cO]).alloc (.cells #[.int .i64 0, .int .i64 0, .slice none 0 0, .slice none 0 0] 32)).alloc (.cells #[.int .i64 N, .int .i64 H, .slice none 0 0, .slice none 0 0] 32)))
  have X1 := Lib.hid (((Bx.new (w.alloc (.cells #[.int .i64 N, .int .i64 H, .slice AT nT cT, .slice AO nO cO] 25)) 32 #[.int .i64 0, .int .i64 0, .slice none 0 0, .slice none 0 0]).alloc (.cells #[.int .i64 N, .int .i64 H, .slice none 0 0, .slice none 0 0] 32)))
  have X2 := Lib.hid (Bx.new ((w.alloc (.cells #[.int .i64 N, .int .i64 H, .slice AT nT cT, .slice AO nO cO] 25)).alloc (.cells #[.int .i64 0, .int .i64 0, .slice none 0 0, .slice none 0 0] 32)) 32 #[.int .i64 N, .int .i64 H, .slice none 0 0, .slice none 0 0])
  simp only [World.size_alloc] at X1 X2
  have B0 : Hid (Below w.heap.size w (((w.alloc (.cells #[.int .i64 N, .int .i64 H, .slice AT nT cT, .slice AO nO cO] 25)).alloc (.cells #[.int .i64 0, .int .i64 0, .slice none 0 0, .slice none 0 0] 32)).alloc (.cells #[.int .i64 N, .int .i64 H, .slice none 0 0, .slice none 0 0] 32))) := Lib.hid ((((Below.refl _ _).alloc (Nat.le_refl _) _).alloc (by simp) _).alloc (by simp <;> omega) _)
  go_enter Try.func10, Try.ntmps10
  go_wp2_with fail
  refine (l_toPhaseTermS _ _ _ t _ (HT.out.below B0.out) hnT).mono ?_
  rintro e w1 ⟨A1, c1, rfl, o1, b1⟩
  have Y0 := Lib.hid (X0.out.below b1)
  have Y1 := Lib.hid (X1.out.below b1)
  have Y2 := Lib.hid (X2.out.below b1)
  have B1 := Lib.hid (below_trans B0.out b1)
  simp only [World.size_alloc] at o1
  clear b1 X0 X1 X2 B0
  obtain ⟨p0, p1, p2, p3, _⟩ := Y0.out.four
  obtain ⟨q0, q1, q2, q3, z0, z1, z2, z3⟩ := Y2.out.four
  go_wp2_with fail
  refine (l_toAffineFormS _ _ _ o _ (HO.out.below (B1.out.setCell (by simp <;> omega) _)) hnO).mono ?_
  rintro e w2 ⟨A2, c2, rfl, o2, b2⟩
  have V0 := Lib.hid ((Y0.out.far (by show w.heap.size ≠ w.heap.size + 1 + 1; omega) (.slice A1 nT c1) (p := ⟨w.heap.size + 1 + 1, 2, none⟩)).below b2)
  have V1 := Lib.hid ((Y1.out.far (by show w.heap.size + 1 ≠ w.heap.size + 1 + 1; omega) (.slice A1 nT c1) (p := ⟨w.heap.size + 1 + 1, 2, none⟩)).below b2)
  have V2 : Hid (Bx w2 (w.heap.size + 1 + 1) 32 #[.int .i64 N, .int .i64 H, .slice A1 nT c1, .slice none 0 0]) := Lib.hid (by simpa using (Y2.out.set_ 2 (.slice A1 nT c1)).below b2)
  have B2 := Lib.hid (below_trans (B1.out.setCell (by simp <;> omega) _) b2)
  have hsz : w.heap.size + 1 + 1 + 1 ≤ w1.heap.size := by have := Y2.out.lt; omega
  have O1 := Lib.hid (ownsRow_below (own_set o1 (p := ⟨w.heap.size + 1 + 1, 2, none⟩) (by simp) (.slice A1 nT c1)) b2)
  have O2 := Lib.hid (ownsRow_base o2 (show w.heap.size + 1 + 1 + 1 ≤ _ by simpa [World.setCell] using hsz))
  clear p0 p1 p2 p3 q0 q1 q2 q3 z0 z1 z2 z3 o1 o2 b2 Y0 Y1 Y2 B1 hsz
  obtain ⟨p0, p1, p2, p3, z0, z1, z2, z3⟩ := V1.out.four
  obtain ⟨q0, q1, q2, q3, y0, y1, y2, y3⟩ := V2.out.four
  go_wp2_with fail
  have P2 := own_set O2.out (p := ⟨w.heap.size + 1 + 1, 3, none⟩) (by simp) (.slice A2 nO c2)
  have P1 := own_set O1.out (p := ⟨w.heap.size + 1 + 1, 3, none⟩) (by simp) (.slice A2 nO c2)
  refine bodyPost_ret (v := .agg #[.int .i64 N, .int .i64 H, .slice A1 nT c1, .slice A2 nO c2]) (by simp [results, Try.results10, go_sem, p0, p1, p2, p3]) rfl ⟨_, rfl, ⟨A1, c1, A2, c2, ?_, ?_, ?_⟩, ?_⟩
  · rw [HT.out.1, HO.out.1]
  · rw [HT.out.1]
    exact ownsRow_base (own_set (own_set (own_set (own_set P1 (p := ⟨w.heap.size + 1, 0, none⟩) (by simp) _) (p := ⟨w.heap.size + 1, 1, none⟩) (by simp) _) (p := ⟨w.heap.size + 1, 2, none⟩) (by simp) _) (p := ⟨w.heap.size + 1, 3, none⟩) (by simp) _) (by omega)
  · rw [HO.out.1]
    exact ownsRow_base (own_set (own_set (own_set (own_set P2 (p := ⟨w.heap.size + 1, 0, none⟩) (by simp) _) (p := ⟨w.heap.size + 1, 1, none⟩) (by simp) _) (p := ⟨w.heap.size + 1, 2, none⟩) (by simp) _) (p := ⟨w.heap.size + 1, 3, none⟩) (by simp) _) (by omega)
  · exact ((((B2.out.setCell (by simp <;> omega) _).setCell (by simp) _).setCell (by simp) _).setCell (by simp) _).setCell (by simp) _
end Go.Proofs.Ytibhikngiceeeaa
