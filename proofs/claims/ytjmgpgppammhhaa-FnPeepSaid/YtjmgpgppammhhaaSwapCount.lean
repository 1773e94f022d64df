/- Contracts of CountGates (spec), SwapCount (spec, impl). The list has at most 2^40 gates. -/
import Derived.Test.YtjmgpgppammhhaaGateS
namespace Go.Proofs.Ytjmgpgppammhhaa
open Go.RowKit

def cnt (kd : Int) : List Gt → Int
  | [] => 0
  | g :: r => (if g.k == kd then 1 else 0) + cnt kd r
theorem cnt_bd (kd : Int) (l : List Gt) : 0 ≤ cnt kd l ∧ cnt kd l ≤ l.length := by
  induction l with
  | nil => simp [cnt]
  | cons g r ih => simp only [cnt, List.length_cons]; split <;> omega
theorem cnt_nil (kd : Int) {l : List Gt} {k : Nat} (h : l.length ≤ k) : cnt kd (l.drop k) = 0 := by rw [List.drop_eq_nil_of_le h]; rfl

set_option maxHeartbeats 400000 in
theorem s_CountGates (N : Int) (A : Option Addr) (n cap : Nat) (kd : Int) (gs : List Gt) (w : World) (h : RdG w A n gs) (hn : n ≤ 1099511627776) :
    Calls Try.prog 121 #[.agg #[.int .i64 N, .slice A n cap], .int .i64 kd] w fun e w' => e = .returned (.int .i64 (cnt kd gs)) ∧ Below w.heap.size w w' := by
  have H := Lib.hid h
  clear h
  go_enter Try.func121, Try.ntmps121
  go_wp2
  go_loopg [5, 6] n (fun m s i wr => ∃ (k : Nat) (x : Int), k + m = n ∧ i = .int .i64 k ∧ s = .int .i64 x ∧ 0 ≤ x ∧ x ≤ k ∧ x + cnt kd (gs.drop k) = cnt kd gs ∧ wr = w.alloc (.cells #[.int .i64 N, .slice A n cap] 61))
  case atStart => exact ⟨0, 0, by omega, rfl, rfl, by omega, by omega, by simp, rfl⟩
  case round =>
    obtain ⟨k, x, hk, rfl, rfl, h0, h1, hx, rfl⟩ := hrel
    have HX := Lib.hid hx
    clear hx
    by_cases hlt : k < n
    · obtain ⟨b, off, g, rfl, hB, hd, c0, c1, c2, c3⟩ := H.out.at_ hlt
      have HD := Lib.hid hd
      clear hd
      have hne : b ≠ w.heap.size := by omega
      go_wp2
      all_goals
        go_roundg (gk - 1)
        case measure => omega
        case rel =>
          have := HX.out
          rw [HD.out, cnt] at this
          first
          | exact ⟨k + 1, x + 1, by omega, by go_num, rfl, by omega, by omega, by rw [if_pos ‹_›] at this; omega, rfl⟩
          | exact ⟨k + 1, x, by omega, by go_num, rfl, by omega, by omega, by rw [if_neg (by simpa using ‹(g.k == kd) = false›)] at this; omega, rfl⟩
    · go_wp2
      go_ret
      have := HX.out
      rw [cnt_nil kd (by have := H.out.1; omega)] at this
      exact ⟨ret_int (by omega), (Below.refl _ _).alloc (Nat.le_refl _) _⟩

end Go.Proofs.Ytjmgpgppammhhaa
