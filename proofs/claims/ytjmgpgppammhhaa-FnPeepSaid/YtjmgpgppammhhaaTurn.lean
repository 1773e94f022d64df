/- Contracts of TCount (spec), tCount, sameGates, DrawRotationGates. At most 2^40 gates. -/
import Derived.Test.YtjmgpgppammhhaaSwapCount
import Derived.Test.YtjmgpgppammhhaaGateT
import Derived.Test.YtjmgpgppammhhaaDraw
import Derived.Deep.RegionHeld3
namespace Go.Proofs.Ytjmgpgppammhhaa
open Go.RowKit

def tcnt (gs : List Gt) : Int := cnt 7 gs + cnt 8 gs
theorem tcnt_bd (gs : List Gt) : 0 ≤ tcnt gs ∧ tcnt gs ≤ gs.length + gs.length := by
  have h1 := cnt_bd 7 gs
  have h2 := cnt_bd 8 gs
  unfold tcnt
  omega

set_option maxRecDepth 100000 in
set_option maxHeartbeats 1600000 in
theorem s_TCount (N : Int) (A : Option Addr) (n cap : Nat) (gs : List Gt) (w : World) (h : RdG w A n gs) (hn : n ≤ 1099511627776) :
    Calls Try.prog 52 #[.agg #[.int .i64 N, .slice A n cap]] w fun e w' => e = .returned (.int .i64 (tcnt gs)) ∧ Below w.heap.size w w' := by
  have HTA : RdG (w.alloc (.cells #[.int .i64 N, .slice A n cap] 61)).drew A n gs := (h.alloc _).drew
  have hl := h.1
  have h7 := cnt_bd 7 gs
  have h8 := cnt_bd 8 gs
  rw [hl] at h7 h8
  have HTC : Hid (tcnt gs = cnt 7 gs + cnt 8 gs) := rfl
  clear h hl
  go_enter Try.func52, Try.ntmps52
  go_wp2_with fail
  go_region_held3 (fun w' => w'.cell? ⟨w.heap.size, 0, none⟩ = some (.int .i64 N) ∧ w'.cell? ⟨w.heap.size, 1, none⟩ = some (.slice A n cap))
    (first | go_keep)
    (first
      | (go_at_call 121; (with_reducible refine (s_CountGates _ _ _ _ _ gs _ HTA hn).mono ?_); rintro e w1 ⟨rfl, b1⟩; have HTB := HTA.below b1; have k0 := b1.cell (p := ⟨w.heap.size, 0, none⟩) (by simp); have k1 := b1.cell (p := ⟨w.heap.size, 1, none⟩) (by simp))
      | (go_at_call 121; (with_reducible refine (s_CountGates _ _ _ _ _ gs _ HTB hn).mono ?_); rintro e w2 ⟨rfl, b2⟩; have m0 := b2.cell (p := ⟨w.heap.size, 0, none⟩) (by have := b1.size; simp at this ⊢; omega); have m1 := b2.cell (p := ⟨w.heap.size, 1, none⟩) (by have := b1.size; simp at this ⊢; omega)))
  all_goals go_wp2_with fail
  all_goals go_ret
  all_goals exact ⟨ret_int (by rw [HTC.out, IntKind.wrap_i64]; omega), below_trans (below_alloc (below_drew b1)) b2⟩

theorem l_tCount (A : Option Addr) (n cap : Nat) (gs : List Gt) (w : World) (h : RdG w A n gs) (hn : n ≤ 1099511627776) :
    Calls Try.prog 15 #[.slice A n cap] w fun e w' => e = .returned (.int .i64 (tcnt gs)) ∧ Below w.heap.size w w' := by
  have H := Lib.hid h
  clear h
  go_enter Try.func15, Try.ntmps15
  go_wp2_with fail
  refine (s_TCount _ _ _ _ _ _ H.out hn).mono ?_
  rintro e w1 ⟨rfl, b1⟩
  go_wp2_with fail
  go_ret
  exact ⟨rfl, b1⟩

theorem eqGateV (k a b c k' a' b' c' : Int) (w : World) : (Op.equalIn 10000 33 (.agg #[.int .i64 k, .int .i64 a, .int .i64 b, .int .i64 c]) (.agg #[.int .i64 k', .int .i64 a', .int .i64 b', .int .i64 c'])).run Try.prog w = .ok (k == k' && (a == a' && (b == b' && c == c'))) w := by
  have u3 := Try.underlying3
  have a3 := Try.isAgg3
  have z3 := Try.sizeOf3
  have hS : Try.prog.underlying 33 = some (.struct (Try.prog.fieldsOf 33)) := by kernel_rfl
  rw [show (10000 : Nat) = 9999 + 1 from rfl, run_equalIn_agg w 9999 33 _ _ hS (by kernel_rfl)]
  simp only [Program.fieldsOf, Try.underlying33]
  go_simp
  by_cases h1 : k = k' <;> by_cases h2 : a = a' <;> by_cases h3 : b = b' <;> by_cases h4 : c = c' <;> simp [h1, h2, h3, h4]

set_option maxRecDepth 100000 in
set_option maxHeartbeats 400000 in
theorem l_sameGates_same (A A' : Option Addr) (n c c' : Nat) (gs : List Gt) (w : World) (h : RdG w A n gs) (h' : RdG w A' n gs) (hn : n ≤ 1099511627776) :
    Calls Try.prog 12 #[.slice A n c, .slice A' n c'] w fun e w' => e = .returned (.bool true) ∧ Below w.heap.size w w' := by
  have H := Lib.hid h
  have H' := Lib.hid h'
  clear h h'
  go_enter Try.func12, Try.ntmps12
  go_wp2
  go_loopg [5] n (fun m i wr => ∃ k : Nat, k + m = n ∧ i = .int .i64 k ∧ Below w.heap.size w wr)
  case atStart => exact ⟨0, by omega, rfl, Below.refl _ _⟩
  case round =>
    obtain ⟨k, hk, rfl, hb⟩ := hrel
    by_cases hlt : k < n
    · obtain ⟨b, off, g, rfl, hB, hd, c0, c1, c2, c3⟩ := (H.out.below hb).at_ hlt
      obtain ⟨b', off', g', rfl, hB', hd', c0', c1', c2', c3'⟩ := (H'.out.below hb).at_ hlt
      obtain rfl : g = g' := by rw [hd] at hd'; injection hd'
      clear hd hd'
      have hi0 : (0 : Int) ≤ (k : Int) := by omega
      have hi1 : (k : Int) < (n : Int) := by omega
      have hE : ∀ w, (Op.equalIn 10000 33 (.agg #[.int .i64 g.k, .int .i64 g.a, .int .i64 g.b, .int .i64 g.c]) (.agg #[.int .i64 g.k, .int .i64 g.a, .int .i64 g.b, .int .i64 g.c])).run Try.prog w = .ok true w := fun w => by rw [eqGateV]; simp
      have hM : Try.prog.eqGuardType Try.prog.depth 33 = false := by kernel_rfl
      go_wp2_with fail
      go_quiet (fail)
      go_wp2
      go_roundg (gk - 1)
      case measure => omega
      case rel => exact ⟨k + 1, by omega, by go_num, ⟨hb.os, hb.tape, hb.output, hb.size, hb.block⟩⟩
    · go_wp2
      go_ret
      exact ⟨rfl, hb⟩

end Go.Proofs.Ytjmgpgppammhhaa
