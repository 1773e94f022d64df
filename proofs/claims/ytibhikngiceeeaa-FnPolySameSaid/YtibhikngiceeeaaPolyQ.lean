/- Contract of EqualPhasePolynomial (impl). At most 2^40 terms and outputs. -/
import Derived.Test.YtibhikngiceeeaaPolyE
namespace Go.Proofs.Ytibhikngiceeeaa
open Go.RowKit
set_option linter.unusedVariables false

def eqP (N H N' H' : Int) (t o t' o' : List (Int × Int)) : Bool := (N == N') && ((H == H') && (sameP t t' && sameP o o'))

set_option maxRecDepth 100000 in
set_option maxHeartbeats 3200000 in
theorem i_EqualP (N H N' H' : Int) (AT AT' AO AO' : Option Addr) (nT cT nT' cT' nO cO nO' cO' : Nat) (t t' o o' : List (Int × Int)) (w : World) (hT : RdP w AT nT t) (hT' : RdP w AT' nT' t') (hO : RdP w AO nO o) (hO' : RdP w AO' nO' o') (b1 : nT ≤ 1099511627776) (b2 : nT' ≤ 1099511627776) (b3 : nO ≤ 1099511627776) (b4 : nO' ≤ 1099511627776) :
    Calls Try.prog 24 #[.agg #[.int .i64 N, .int .i64 H, .slice AT nT cT, .slice AO nO cO], .agg #[.int .i64 N', .int .i64 H', .slice AT' nT' cT', .slice AO' nO' cO']] w fun e w' => e = .returned (.bool (eqP N H N' H' t o t' o')) ∧ Below w.heap.size w w' := by
  have HRT := Lib.hid hT
  have HRT' := Lib.hid hT'
  have HRO := Lib.hid hO
  have HRO' := Lib.hid hO'
  clear hT hT' hO hO'
  have X0 := Lib.hid (show Bx ((w.alloc (.cells #[.int .i64 N, .int .i64 H, .slice AT nT cT, .slice AO nO cO] 32)).alloc (.cells #[.int .i64 N', .int .i64 H', .slice AT' nT' cT', .slice AO' nO' cO'] 32)) w.heap.size 32 #[.int .i64 N, .int .i64 H, .slice AT nT cT, .slice AO nO cO] from (Bx.new w _ _).alloc _)
  have X1 := Lib.hid (show Bx ((w.alloc (.cells #[.int .i64 N, .int .i64 H, .slice AT nT cT, .slice AO nO cO] 32)).alloc (.cells #[.int .i64 N', .int .i64 H', .slice AT' nT' cT', .slice AO' nO' cO'] 32)) (w.heap.size + 1) 32 #[.int .i64 N', .int .i64 H', .slice AT' nT' cT', .slice AO' nO' cO'] from Bx.new' (by simp))
  have BZ : Hid (Below w.heap.size w ((w.alloc (.cells #[.int .i64 N, .int .i64 H, .slice AT nT cT, .slice AO nO cO] 32)).alloc (.cells #[.int .i64 N', .int .i64 H', .slice AT' nT' cT', .slice AO' nO' cO'] 32))) := Lib.hid (((Below.refl _ _).alloc (Nat.le_refl _) _).alloc (by simp) _)
  cases e1 : (N == N')
  · have E1 := Lib.hid e1
    go_enter Try.func24, Try.ntmps24
    go_wp2_with fail
    go_ret
    exact ⟨ret_bool (by unfold eqP; rw [E1.out]; simp), BZ.out⟩
  · have E1 := Lib.hid e1
    cases e2 : (H == H')
    · have E2 := Lib.hid e2
      go_enter Try.func24, Try.ntmps24
      go_wp2_with fail
      go_ret
      exact ⟨ret_bool (by unfold eqP; rw [E1.out, E2.out]; simp), BZ.out⟩
    · have E2 := Lib.hid e2
      cases e3 : sameP t t'
      · have E3 := Lib.hid e3
        clear e3
        go_enter Try.func24, Try.ntmps24
        go_wp2_with fail
        refine (i_samePT _ _ _ _ _ _ t t' _ (HRT.out.below BZ.out) (HRT'.out.below BZ.out) b1 b2).mono ?_
        rintro e w1 ⟨rfl, m, rfl⟩
        rw [E3.out]
        have hl0 : w.heap.size < ((w.alloc (.cells #[.int .i64 N, .int .i64 H, .slice AT nT cT, .slice AO nO cO] 32)).alloc (.cells #[.int .i64 N', .int .i64 H', .slice AT' nT' cT', .slice AO' nO' cO'] 32)).heap.size := X0.out.lt
        have hl1 : w.heap.size + 1 < ((w.alloc (.cells #[.int .i64 N, .int .i64 H, .slice AT nT cT, .slice AO nO cO] 32)).alloc (.cells #[.int .i64 N', .int .i64 H', .slice AT' nT' cT', .slice AO' nO' cO'] 32)).heap.size := X1.out.lt
        go_wp2_with fail
        go_ret
        exact ⟨ret_bool (by unfold eqP; rw [E1.out, E2.out, E3.out]; simp), below_drewN BZ.out m⟩
      · have E3 := Lib.hid e3
        clear e3
        go_enter Try.func24, Try.ntmps24
        go_wp2_with fail
        refine (i_samePT _ _ _ _ _ _ t t' _ (HRT.out.below BZ.out) (HRT'.out.below BZ.out) b1 b2).mono ?_
        rintro e w1 ⟨rfl, m, rfl⟩
        rw [E3.out]
        have hl0 : w.heap.size < ((w.alloc (.cells #[.int .i64 N, .int .i64 H, .slice AT nT cT, .slice AO nO cO] 32)).alloc (.cells #[.int .i64 N', .int .i64 H', .slice AT' nT' cT', .slice AO' nO' cO'] 32)).heap.size := X0.out.lt
        have hl1 : w.heap.size + 1 < ((w.alloc (.cells #[.int .i64 N, .int .i64 H, .slice AT nT cT, .slice AO nO cO] 32)).alloc (.cells #[.int .i64 N', .int .i64 H', .slice AT' nT' cT', .slice AO' nO' cO'] 32)).heap.size := X1.out.lt
        go_wp2_with fail
        refine (i_samePA _ _ _ _ _ _ o o' _ ((HRO.out.below BZ.out).drewNN m) ((HRO'.out.below BZ.out).drewNN m) b3 b4).mono ?_
        rintro e w1 ⟨rfl, m2, rfl⟩
        go_wp2_with fail
        go_ret
        exact ⟨ret_bool (by unfold eqP; rw [E1.out, E2.out, E3.out]; simp), below_drewN BZ.out _⟩
set_option maxRecDepth 100000 in
set_option maxHeartbeats 6400000 in
theorem s_EqualP (N H N' H' : Int) (AT AT' AO AO' : Option Addr) (nT cT nT' cT' nO cO nO' cO' : Nat) (t t' o o' : List (Int × Int)) (w : World) (hT : RdP w AT nT t) (hT' : RdP w AT' nT' t') (hO : RdP w AO nO o) (hO' : RdP w AO' nO' o') (b1 : nT ≤ 1099511627776) (b2 : nT' ≤ 1099511627776) (b3 : nO ≤ 1099511627776) (b4 : nO' ≤ 1099511627776) :
    Calls Try.prog 25 #[.agg #[.int .i64 N, .int .i64 H, .slice AT nT cT, .slice AO nO cO], .agg #[.int .i64 N', .int .i64 H', .slice AT' nT' cT', .slice AO' nO' cO']] w fun e w' => e = .returned (.bool (eqP N H N' H' t o t' o')) ∧ Below w.heap.size w w' := by
  have HRT := Lib.hid hT
  have hlT := hT.1
  have HRT' := Lib.hid hT'
  have hlT' := hT'.1
  have HRO := Lib.hid hO
  have hlO := hO.1
  have HRO' := Lib.hid hO'
  have hlO' := hO'.1
  clear hT hT' hO hO'
  have X0 := Lib.hid (show Bx ((w.alloc (.cells #[.int .i64 N, .int .i64 H, .slice AT nT cT, .slice AO nO cO] 32)).alloc (.cells #[.int .i64 N', .int .i64 H', .slice AT' nT' cT', .slice AO' nO' cO'] 32)) w.heap.size 32 #[.int .i64 N, .int .i64 H, .slice AT nT cT, .slice AO nO cO] from (Bx.new w _ _).alloc _)
  have X1 := Lib.hid (show Bx ((w.alloc (.cells #[.int .i64 N, .int .i64 H, .slice AT nT cT, .slice AO nO cO] 32)).alloc (.cells #[.int .i64 N', .int .i64 H', .slice AT' nT' cT', .slice AO' nO' cO'] 32)) (w.heap.size + 1) 32 #[.int .i64 N', .int .i64 H', .slice AT' nT' cT', .slice AO' nO' cO'] from Bx.new' (by simp))
  have BZ : Hid (Below w.heap.size w ((w.alloc (.cells #[.int .i64 N, .int .i64 H, .slice AT nT cT, .slice AO nO cO] 32)).alloc (.cells #[.int .i64 N', .int .i64 H', .slice AT' nT' cT', .slice AO' nO' cO'] 32))) := Lib.hid (((Below.refl _ _).alloc (Nat.le_refl _) _).alloc (by simp) _)
  have HLT := Lib.hid hlT
  have HLT' := Lib.hid hlT'
  have HLO := Lib.hid hlO
  have HLO' := Lib.hid hlO'
  clear hlT hlT' hlO hlO'
  cases e1 : (N == N')
  · have E1 := Lib.hid e1
    have e1' : (N != N') = true := by simp [bne, e1]
    go_enter Try.func25, Try.ntmps25
    go_wp2_with fail
    go_ret
    exact ⟨ret_bool (by unfold eqP; rw [E1.out]; simp), BZ.out⟩
  · have E1 := Lib.hid e1
    have e1' : (N != N') = false := by simp [bne, e1]
    cases e2 : (H == H')
    · have E2 := Lib.hid e2
      have e2' : (H != H') = true := by simp [bne, e2]
      go_enter Try.func25, Try.ntmps25
      go_wp2_with fail
      go_ret
      exact ⟨ret_bool (by unfold eqP; rw [E1.out, E2.out]; simp), BZ.out⟩
    · have E2 := Lib.hid e2
      have e2' : (H != H') = false := by simp [bne, e2]
      by_cases hnT : nT = nT'
      rotate_left
      · have e3' : ((nT : Int) != (nT' : Int)) = true := by simp; omega
        have E3 := Lib.hid (sameP_len (a := t) (b := t') (by have := HLT.out; have := HLT'.out; omega))
        go_enter Try.func25, Try.ntmps25
        go_wp2_with fail
        go_ret
        exact ⟨ret_bool (by unfold eqP; rw [E1.out, E2.out, E3.out]; simp), BZ.out⟩
      subst hnT
      by_cases hnO : nO = nO'
      rotate_left
      · have e3' : ((nO : Int) != (nO' : Int)) = true := by simp; omega
        have E3 := Lib.hid (sameP_len (a := o) (b := o') (by have := HLO.out; have := HLO'.out; omega))
        go_enter Try.func25, Try.ntmps25
        go_wp2_with fail
        go_ret
        exact ⟨ret_bool (by unfold eqP; rw [E1.out, E2.out, E3.out]; simp), BZ.out⟩
      subst hnO
      go_enter Try.func25, Try.ntmps25
      go_wp2_with fail
      have ZT := Lib.hid (HRT.out.below BZ.out)
      have ZT' := Lib.hid (HRT'.out.below BZ.out)
      have ZO := Lib.hid (HRO.out.below BZ.out)
      have ZO' := Lib.hid (HRO'.out.below BZ.out)
      generalize ((w.alloc (.cells #[.int .i64 N, .int .i64 H, .slice AT nT cT, .slice AO nO cO] 32)).alloc (.cells #[.int .i64 N', .int .i64 H', .slice AT' nT cT', .slice AO' nO cO'] 32)) = wz at X0 X1 BZ ZT ZT' ZO ZO' ⊢
      obtain ⟨p0, p1, p2, p3, _⟩ := X0.out.four
      obtain ⟨q0, q1, q2, q3, _⟩ := X1.out.four
      clear e1 e1' e2 e2'
      go_loopg [5] nT (fun m i wr => ∃ (k q : Nat), k + m = nT ∧ i = .int .i64 k ∧ t.take k = t'.take k ∧ wr = wz.drewN q)
      case atStart => exact ⟨0, 0, by omega, rfl, rfl, rfl⟩
      case round =>
        obtain ⟨k, q, hk, rfl, he, rfl⟩ := hrel
        have HE := Lib.hid he
        clear he
        by_cases hlt : k < nT
        · obtain ⟨g, off, x, y, hA, hB, hd, c0, c1⟩ := ZT.out.at_ hlt
          obtain ⟨g', off', x', y', hA', hB', hd', c0', c1'⟩ := ZT'.out.at_ hlt
          subst hA hA'
          have HD := Lib.hid hd
          have HD' := Lib.hid hd'
          clear hd hd'
          have hkI : (k : Int) < (nT : Int) := by omega
          have hk0 : (0 : Int) ≤ (k : Int) := by omega
          by_cases hx : x = x'
          · subst hx
            by_cases hy : y = y'
            · subst hy
              go_wp2_with fail
              go_quiet (fail)
              go_wp2_with fail
              go_roundg (gk - 1)
              case measure => omega
              case rel => exact ⟨k + 1, _, by omega, by go_num, by rw [take_snoc HD.out, take_snoc HD'.out, HE.out], rfl⟩
            · have hy1 : (y == y') = false := by simpa using hy
              have HS := Lib.hid (sameP_ne HD.out HD'.out (by simpa using hy))
              go_wp2_with fail
              go_quiet (fail)
              go_wp2_with fail
              go_ret
              exact ⟨ret_bool (by unfold eqP; rw [E1.out, E2.out, HS.out]; simp), below_drewN (below_drewN BZ.out _) _⟩
          · have hx1 : (x == x') = false := by simpa using hx
            have HS := Lib.hid (sameP_ne HD.out HD'.out (by intro h; injection h; contradiction))
            go_wp2_with fail
            go_quiet (fail)
            go_wp2_with fail
            go_ret
            exact ⟨ret_bool (by unfold eqP; rw [E1.out, E2.out, HS.out]; simp), below_drewN (below_drewN BZ.out _) _⟩
        · have hkn : k = nT := by omega
          have HS : Hid (sameP t t' = true) := Lib.hid (by have e := HE.out; rw [List.take_of_length_le (by have := ZT.out.1; omega), List.take_of_length_le (by have := ZT'.out.1; omega)] at e; rw [e, sameP_self])
          go_wp2_with fail
          have ST := Lib.hid HS.out
          clear HS HE hkn
          go_loopg [6] nO (fun m i wr => ∃ (k q : Nat), k + m = nO ∧ i = .int .i64 k ∧ o.take k = o'.take k ∧ wr = wz.drewN q)
          case atStart => exact ⟨0, _, by omega, rfl, rfl, rfl⟩
          case round =>
            obtain ⟨k, q, hk, rfl, he, rfl⟩ := hrel
            have HE := Lib.hid he
            clear he
            by_cases hlt : k < nO
            · obtain ⟨g, off, x, y, hA, hB, hd, c0, c1⟩ := ZO.out.at_ hlt
              obtain ⟨g', off', x', y', hA', hB', hd', c0', c1'⟩ := ZO'.out.at_ hlt
              subst hA hA'
              have HD := Lib.hid hd
              have HD' := Lib.hid hd'
              clear hd hd'
              have hkI : (k : Int) < (nO : Int) := by omega
              have hk0 : (0 : Int) ≤ (k : Int) := by omega
              by_cases hx : x = x'
              · subst hx
                by_cases hy : y = y'
                · subst hy
                  go_wp2_with fail
                  go_quiet (fail)
                  go_wp2_with fail
                  go_roundg (gk - 1)
                  case measure => omega
                  case rel => exact ⟨k + 1, _, by omega, by go_num, by rw [take_snoc HD.out, take_snoc HD'.out, HE.out], rfl⟩
                · have hy1 : (y == y') = false := by simpa using hy
                  have HS := Lib.hid (sameP_ne HD.out HD'.out (by simpa using hy))
                  go_wp2_with fail
                  go_quiet (fail)
                  go_wp2_with fail
                  go_ret
                  exact ⟨ret_bool (by unfold eqP; rw [E1.out, E2.out, ST.out, HS.out]; simp), below_drewN (below_drewN BZ.out _) _⟩
              · have hx1 : (x == x') = false := by simpa using hx
                have HS := Lib.hid (sameP_ne HD.out HD'.out (by intro h; injection h; contradiction))
                go_wp2_with fail
                go_quiet (fail)
                go_wp2_with fail
                go_ret
                exact ⟨ret_bool (by unfold eqP; rw [E1.out, E2.out, ST.out, HS.out]; simp), below_drewN (below_drewN BZ.out _) _⟩
            · have hkn : k = nO := by omega
              have HS : Hid (sameP o o' = true) := Lib.hid (by have e := HE.out; rw [List.take_of_length_le (by have := ZO.out.1; omega), List.take_of_length_le (by have := ZO'.out.1; omega)] at e; rw [e, sameP_self])
              go_wp2_with fail
              go_ret
              exact ⟨ret_bool (by unfold eqP; rw [E1.out, E2.out, ST.out, HS.out]; rfl), below_drewN BZ.out _⟩
end Go.Proofs.Ytibhikngiceeeaa
