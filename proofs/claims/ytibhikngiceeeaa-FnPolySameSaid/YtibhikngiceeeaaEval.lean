/- Contracts of EvalPhasePolynomial (impl, spec). At most 2^39 terms and outputs. -/
import Derived.Test.YtibhikngiceeeaaOnes
import Derived.Test.YtibhikngiceeeaaPolyQ
import Derived.Test.YtibhikngiceeeaaInv
namespace Go.Proofs.Ytibhikngiceeeaa
open Go.RowKit
set_option linter.unusedVariables false

def bitO (i : Int) (o : Int × Int) : Int := (onesI (bits .and .i64 i o.1) + o.2) % 2
def evO (i : Int) : Nat → List (Int × Int) → Int → Int
  | _, [], acc => acc
  | q, o :: r, acc => evO i (q + 1) r (bits .or .i64 acc (wrap64 (bitO i o * 2 ^ min q 64)))
def evT (i : Int) : List (Int × Int) → Int → Int
  | [], k => k
  | p :: r, k => evT i r (if onesI (bits .and .i64 i p.1) % 2 = 1 then wrap64 (k + p.2) else k)

theorem quiet_add_left {P : Program} {f : FuncId} {args : Array Value} {w : World} {a n : Nat} {v : Value}
    (h : Calls P f args (w.drewN (a + n)) fun e w' => e = .returned v ∧ w.drewN (a + n) = w') :
    Calls P f args (w.drewN (a + n)) fun e w'' => e = .returned v ∧ ∃ m, w'' = w.drewN (a + m) :=
  h.mono fun _ _ ⟨he, hm⟩ => ⟨he, n, hm.symm⟩
theorem xor2 (a b : Int) : bits .xor .i64 (a % 2) (b % 2) = (a + b) % 2 := by
  have h1 : a % 2 = 0 ∨ a % 2 = 1 := by omega
  have h2 : b % 2 = 0 ∨ b % 2 = 1 := by omega
  have e00 : bits .xor .i64 0 0 = 0 := by decide
  have e01 : bits .xor .i64 0 1 = 1 := by decide
  have e10 : bits .xor .i64 1 0 = 1 := by decide
  have e11 : bits .xor .i64 1 1 = 0 := by decide
  rcases h1 with h1 | h1 <;> rcases h2 with h2 | h2 <;> rw [h1, h2]
  · rw [e00]; omega
  · rw [e01]; omega
  · rw [e10]; omega
  · rw [e11]; omega
theorem evO_step {i a x y : Int} {k : Nat} {o : List (Int × Int)} (hd : o.drop k = (x, y) :: o.drop (k + 1)) : evO i k (o.drop k) a = evO i (k + 1) (o.drop (k + 1)) (bits .or .i64 a (wrap64 (bitO i (x, y) * 2 ^ min k 64))) := by rw [hd, evO]
theorem evT_one {i a x y : Int} {k : Nat} {o : List (Int × Int)} (hd : o.drop k = (x, y) :: o.drop (k + 1)) (h : onesI (bits .and .i64 i x) % 2 = 1) : evT i (o.drop k) a = evT i (o.drop (k + 1)) (wrap64 (a + y)) := by rw [hd, evT, if_pos h]
theorem evT_no {i a x y : Int} {k : Nat} {o : List (Int × Int)} (hd : o.drop k = (x, y) :: o.drop (k + 1)) (h : onesI (bits .and .i64 i x) % 2 = 0) : evT i (o.drop k) a = evT i (o.drop (k + 1)) a := by rw [hd, evT, if_neg (by show ¬ _ = _; rw [h]; omega)]
theorem evT_mod (i : Int) : ∀ (l : List (Int × Int)) (a b : Int), a % 8 = b % 8 → evT i l a % 8 = evT i l b % 8
  | [], a, b, h => h
  | p :: r, a, b, h => by
    rw [evT, evT]
    split
    · exact evT_mod i r _ _ (by rw [wrap_mod8, wrap_mod8]; omega)
    · exact evT_mod i r _ _ h
theorem evT_spec {i a x y : Int} {k : Nat} {o : List (Int × Int)} (hd : o.drop k = (x, y) :: o.drop (k + 1)) : evT i (o.drop (k + 1)) (wrap64 (a + wrap64 (y * (onesI (bits .and .i64 i x) % 2)))) % 8 = evT i (o.drop k) a % 8 := by
  rw [hd, evT]
  split
  · rename_i h
    have h' : onesI (bits .and .i64 i x) % 2 = 1 := h
    rw [h', Int.mul_one]
    exact evT_mod _ _ _ _ (by rw [wrap_mod8, wrap_mod8]; have := wrap_mod8 y; show _ = (a + y) % 8; omega)
  · rename_i h
    have h' : onesI (bits .and .i64 i x) % 2 = 0 := by
      have : ¬ onesI (bits .and .i64 i x) % 2 = 1 := h
      omega
    rw [h', Int.mul_zero]
    exact evT_mod _ _ _ _ (by rw [wrap_mod8]; have : wrap64 0 = 0 := by unfold wrap64; omega
                              rw [this]; omega)
set_option maxRecDepth 100000 in
set_option maxHeartbeats 3200000 in
theorem i_EvalP (N H : Int) (AT AO : Option Addr) (nT cT nO cO : Nat) (t o : List (Int × Int)) (i : Int) (w : World) (hT : RdP w AT nT t) (hO : RdP w AO nO o) (b1 : nT ≤ 549755813888) (b2 : nO ≤ 549755813888) :
    Calls Try.prog 51 #[.agg #[.int .i64 N, .int .i64 H, .slice AT nT cT, .slice AO nO cO], .int .i64 i] w fun e w' => e = .returned (.tuple #[.int .i64 (evO i 0 o 0), .int .i64 (evT i t H % 8)]) ∧ Below w.heap.size w w' := by
  have HT := Lib.hid hT
  have HO := Lib.hid hO
  clear hT hO
  have X0 := Lib.hid (Bx.new w 32 #[.int .i64 N, .int .i64 H, .slice AT nT cT, .slice AO nO cO])
  have BZ := Lib.hid ((Below.refl w.heap.size w).alloc (Nat.le_refl _) (.cells #[.int .i64 N, .int .i64 H, .slice AT nT cT, .slice AO nO cO] 32))
  obtain ⟨R1, hR1⟩ : ∃ R, evO i 0 o 0 = R := ⟨_, rfl⟩
  obtain ⟨R2, hR2⟩ : ∃ R, evT i t H = R := ⟨_, rfl⟩
  rw [hR1, hR2]
  have HR1 := Lib.hid hR1
  have HR2 := Lib.hid hR2
  clear hR1 hR2
  go_enter Try.func51, Try.ntmps51
  go_wp2_with fail
  go_loopg [6, 15] nO (fun m v j wr => ∃ (k : Nat) (a : Int), k + m = nO ∧ j = .int .i64 k ∧ v = .int .i64 a ∧ evO i k (o.drop k) a = R1 ∧ Bx wr w.heap.size 32 #[.int .i64 N, .int .i64 H, .slice AT nT cT, .slice AO nO cO] ∧ Below w.heap.size w wr)
  case atStart => exact ⟨0, 0, by omega, rfl, rfl, HR1.out, X0.out, BZ.out⟩
  case round =>
    obtain ⟨k, a, hk, rfl, rfl, hq, hx, hb⟩ := hrel
    have HQ := Lib.hid hq
    have HX := Lib.hid hx
    have HB := Lib.hid hb
    have hbs := hb.size
    have hlx := hx.lt
    clear hq hx hb
    by_cases hlt : k < nO
    · obtain ⟨g, off, x, y, rfl, hBb, hd, c0, c1⟩ := (HO.out.below HB.out).at_ hlt
      have HD := Lib.hid hd
      have hkI : (k : Int) < (nO : Int) := by omega
      have hk0 : (0 : Int) ≤ (k : Int) := by omega
      have h1 := onesI_bd (bits .and .i64 i x)
      have e1 := and_one (onesI (bits .and .i64 i x))
      have e2 := and_one y
      clear hd
      go_wp2_with fail
      generalize hW : wr.alloc (.cells #[.int .i64 x, .int .i64 y] 109) = W
      have XW := Lib.hid (show Bx W wr.heap.size 109 #[.int .i64 x, .int .i64 y] from hW ▸ Bx.new wr _ _)
      have XP := Lib.hid (show Bx W w.heap.size 32 _ from hW ▸ HX.out.alloc _)
      have XB := Lib.hid (show Below w.heap.size w W from hW ▸ HB.out.alloc hbs _)
      obtain ⟨p0, p1, _, _⟩ := XW.out.two
      clear hW
      go_quiet ((go_at_call 106; exact quiet_left (i_ones _ _)))
      go_wp2_with fail
      go_roundg (gk - 1)
      case measure => omega
      case rel => exact ⟨k + 1, bits .or .i64 a (wrap64 (bitO i (x, y) * 2 ^ min k 64)), by omega, by go_num, by rw [xor2]; rfl, by rw [← HQ.out, evO_step HD.out], XP.out, below_drewN XB.out _⟩
    · obtain rfl : k = nO := by omega
      have HE : Hid (a = R1) := Lib.hid (by rw [← HQ.out, List.drop_eq_nil_of_le (by have := HO.out.1; omega)]; rfl)
      obtain ⟨p0, p1, p2, p3, _⟩ := HX.out.four
      clear HR1 HQ
      go_wp2_with fail
      obtain ⟨wy, rfl⟩ : ∃ wy, wr = wy := ⟨_, rfl⟩
      go_loopg [9, 40] nT (fun m v j wr => ∃ (q : Nat) (b : Int), q + m = nT ∧ j = .int .i64 q ∧ v = .int .i64 b ∧ evT i (t.drop q) b = R2 ∧ Below w.heap.size w wr)
      case atStart => exact ⟨0, H, by omega, rfl, rfl, HR2.out, HB.out⟩
      case round =>
        obtain ⟨q, b, hk, rfl, rfl, hq, hb⟩ := hrel
        have HQ := Lib.hid hq
        have HB2 := Lib.hid hb
        have hbs2 := hb.size
        clear hq hb
        by_cases hlt : q < nT
        · obtain ⟨g, off, x, y, rfl, hBb, hd, c0, c1⟩ := (HT.out.below HB2.out).at_ hlt
          have HD := Lib.hid hd
          have hkI : (q : Int) < (nT : Int) := by omega
          have hk0 : (0 : Int) ≤ (q : Int) := by omega
          have h1 := onesI_bd (bits .and .i64 i x)
          clear hd
          by_cases hz : onesI (bits .and .i64 i x) % 2 = 1
          · have HZ := Lib.hid hz
            have hz1 : (onesI (bits .and .i64 i x) % 2 == 1) = true := by simpa using hz
            clear hz
            go_wp2_with fail
            refine (i_ones _ _).mono ?_
            rintro e w' ⟨rfl, rfl⟩
            go_wp2_with fail
            go_roundg (gk - 1)
            case measure => omega
            case rel => exact ⟨q + 1, _, by omega, by go_num, rfl, by rw [← HQ.out, evT_one HD.out HZ.out], HB2.out.alloc hbs2 _⟩
          · have HZ := Lib.hid (show onesI (bits .and .i64 i x) % 2 = 0 by omega)
            have hz1 : (onesI (bits .and .i64 i x) % 2 == 1) = false := by simpa using hz
            clear hz
            go_wp2_with fail
            refine (i_ones _ _).mono ?_
            rintro e w' ⟨rfl, rfl⟩
            go_wp2_with fail
            go_roundg (gk - 1)
            case measure => omega
            case rel => exact ⟨q + 1, _, by omega, by go_num, rfl, by rw [← HQ.out, evT_no HD.out HZ.out], HB2.out.alloc hbs2 _⟩
        · have HE2 : Hid (b = R2) := Lib.hid (by rw [← HQ.out, List.drop_eq_nil_of_le (by have := HT.out.1; omega)]; rfl)
          go_wp2_with fail
          refine (i_mod8 _ _).mono ?_
          rintro e w' ⟨rfl, rfl⟩
          go_wp2_with fail
          go_ret2
          exact ⟨by rw [HE.out, HE2.out]; rfl, HB2.out⟩
set_option maxRecDepth 100000 in
set_option maxHeartbeats 3200000 in
theorem s_EvalP (N H : Int) (AT AO : Option Addr) (nT cT nO cO : Nat) (t o : List (Int × Int)) (i : Int) (w : World) (hT : RdP w AT nT t) (hO : RdP w AO nO o) (b1 : nT ≤ 549755813888) (b2 : nO ≤ 549755813888) :
    Calls Try.prog 44 #[.agg #[.int .i64 N, .int .i64 H, .slice AT nT cT, .slice AO nO cO], .int .i64 i] w fun e w' => e = .returned (.tuple #[.int .i64 (evO i 0 o 0), .int .i64 (evT i t H % 8)]) ∧ Below w.heap.size w w' := by
  have BZ := Lib.hid ((Below.refl w.heap.size w).alloc (Nat.le_refl _) (.cells #[.int .i64 N, .int .i64 H, .slice AT nT cT, .slice AO nO cO] 32))
  have HT := Lib.hid (hT.below BZ.out)
  have HO := Lib.hid (hO.below BZ.out)
  clear hT hO
  have X0 := Lib.hid (Bx.new w 32 #[.int .i64 N, .int .i64 H, .slice AT nT cT, .slice AO nO cO])
  obtain ⟨R1, hR1⟩ : ∃ R, evO i 0 o 0 = R := ⟨_, rfl⟩
  obtain ⟨R2, hR2⟩ : ∃ R, evT i t H = R := ⟨_, rfl⟩
  rw [hR1, hR2]
  have HR1 := Lib.hid hR1
  have HR2 := Lib.hid hR2
  clear hR1 hR2
  go_enter Try.func44, Try.ntmps44
  go_wp2_with fail
  generalize w.alloc (.cells #[.int .i64 N, .int .i64 H, .slice AT nT cT, .slice AO nO cO] 32) = wz at HT HO X0 BZ ⊢
  obtain ⟨p0, p1, p2, p3, _⟩ := X0.out.four
  go_loopg [6, 7] nO (fun m v j wr => ∃ (k d : Nat) (a : Int), k + m = nO ∧ j = .int .i64 k ∧ v = .int .i64 a ∧ evO i k (o.drop k) a = R1 ∧ wr = wz.drewN d)
  case atStart => exact ⟨0, 0, 0, by omega, rfl, rfl, HR1.out, rfl⟩
  case round =>
    obtain ⟨k, d, a, hk, rfl, rfl, hq, rfl⟩ := hrel
    have HQ := Lib.hid hq
    clear hq
    by_cases hlt : k < nO
    · obtain ⟨g, off, x, y, rfl, hBb, hd, c0, c1⟩ := HO.out.at_ hlt
      have HD := Lib.hid hd
      have hkI : (k : Int) < (nO : Int) := by omega
      have hk0 : (0 : Int) ≤ (k : Int) := by omega
      have h1 := onesI_bd (bits .and .i64 i x)
      clear hd
      go_wp2_with fail
      go_quiet ((go_at_call 103; exact quiet_add_left (s_ones _ _)))
      go_wp2_with fail
      have HB := Lib.hid (show bits .and .i64 (wrap64 (onesI (bits .and .i64 i x) + y)) 1 = bitO i (x, y) from by rw [and_one]; show _ = (onesI (bits .and .i64 i x) + y) % 2; unfold wrap64; omega)
      go_roundg (gk - 1)
      case measure => omega
      case rel => exact ⟨k + 1, _, bits .or .i64 a (wrap64 (bitO i (x, y) * 2 ^ min k 64)), by omega, by go_num, by rw [HB.out], by rw [← HQ.out, evO_step HD.out], rfl⟩
    · obtain rfl : k = nO := by omega
      have HE : Hid (a = R1) := Lib.hid (by rw [← HQ.out, List.drop_eq_nil_of_le (by have := HO.out.1; omega)]; rfl)
      clear HR1 HQ
      go_wp2_with fail
      go_loopg [8, 9] nT (fun m v j wr => ∃ (q e : Nat) (b : Int), q + m = nT ∧ j = .int .i64 q ∧ v = .int .i64 b ∧ evT i (t.drop q) b % 8 = R2 % 8 ∧ wr = wz.drewN e)
      case atStart => exact ⟨0, _, H, by omega, rfl, rfl, by rw [List.drop_zero, HR2.out], rfl⟩
      case round =>
        obtain ⟨q, e, b, hk, rfl, rfl, hq, rfl⟩ := hrel
        have HQ := Lib.hid hq
        clear hq
        by_cases hlt : q < nT
        · obtain ⟨g, off, x, y, rfl, hBb, hd, c0, c1⟩ := HT.out.at_ hlt
          have HD := Lib.hid hd
          have hkI : (q : Int) < (nT : Int) := by omega
          have hk0 : (0 : Int) ≤ (q : Int) := by omega
          have h1 := onesI_bd (bits .and .i64 i x)
          clear hd
          go_wp2_with fail
          go_quiet ((go_at_call 103; exact quiet_add_left (s_ones _ _)))
          go_wp2_with fail
          go_roundg (gk - 1)
          case measure => omega
          case rel => exact ⟨q + 1, _, _, by omega, by go_num, rfl, by rw [evT_spec HD.out, HQ.out], rfl⟩
        · have HE2 : Hid (b % 8 = R2 % 8) := Lib.hid (by rw [← HQ.out, List.drop_eq_nil_of_le (by have := HT.out.1; omega)]; rfl)
          go_wp2_with fail
          refine (s_l32Rest _ _).mono ?_
          rintro e w' ⟨rfl, rfl⟩
          go_wp2_with fail
          go_ret2
          exact ⟨by rw [← HE.out, ← HE2.out]; rfl, below_drewN BZ.out _⟩
end Go.Proofs.Ytibhikngiceeeaa
