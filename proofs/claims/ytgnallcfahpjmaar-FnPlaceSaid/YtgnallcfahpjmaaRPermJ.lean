/- Contract of impl.AllPermutations. No condition. -/
import Derived.Test.YtgnallcfahpjmaaRPermI
import Derived.Laws.EntriesVeiled
namespace Go.Proofs.YtgnallcfahpjmaaR
open Go.RowKit

set_option maxRecDepth 100000 in
set_option maxHeartbeats 1600000 in
theorem i_AllPermutations (N : Int) (w : World) : Calls Try.prog 39 #[.int .i64 N] w (RetII (perms N) w) := by
  have hmf : ∀ (fn : Fn) (first cap : Array Value) (w : World), (Instr.makeFunc fn first cap).run Try.prog w = .ok (.func fn first cap) w := fun _ _ _ _ => rfl
  by_cases h : 1 ≤ N ∧ N ≤ 4
  · obtain ⟨h1, h4⟩ := h
    obtain ⟨n, rfl⟩ : ∃ n : Nat, N = n := ⟨N.toNat, by omega⟩
    have HP := Lib.hid (perms_in h1 h4)
    have hin : Hid (inB (n : Int) 1 4 = true) := Lib.hid (inB_iff.2 ⟨h1, h4⟩)
    go_enter Try.func39, Try.ntmps39
    go_wp2_with fail
    refine (i_in _ _ _ _).mono ?_
    rintro e w1 ⟨rfl, rfl⟩
    rw [hin.out]
    go_wp2_with fail
    have X4 : Hid (Ext ((((w.alloc (.cells #[.int .i64 (n : Int)] 3)).alloc (.cells #[] 47)).alloc (.cells #[.slice (some ⟨w.heap.size + 1, 0, none⟩) 0 0] 54)).alloc (.cells #[.func (.func 98) #[] #[.pointer (some ⟨w.heap.size, 0, none⟩), .pointer (some ⟨w.heap.size + 1 + 1, 0, none⟩), .pointer (some ⟨w.heap.size + 1 + 1 + 1, 0, none⟩)]] 107)) w.heap.size n w.heap.size (w.heap.size + 1 + 1) (w.heap.size + 1 + 1 + 1) [] (some ⟨w.heap.size + 1, 0, none⟩) 0) :=
      Lib.hid ⟨((((Bx.new w _ _).alloc _).alloc _).alloc _), ((Bx.new' (by simp)).alloc _), Bx.new' (by simp), by have := (((OwnSS.lit0 (base := w.heap.size) (w.alloc (.cells #[.int .i64 (n : Int)] 3)) (by simp) 47 3 1 cellsI)).alloc (.cells #[.slice (some ⟨w.heap.size + 1, 0, none⟩) 0 0] 54)).alloc (.cells #[.func (.func 98) #[] #[.pointer (some ⟨w.heap.size, 0, none⟩), .pointer (some ⟨w.heap.size + 1 + 1, 0, none⟩), .pointer (some ⟨w.heap.size + 1 + 1 + 1, 0, none⟩)]] 107); simpa using this, by simp; omega, by omega⟩
    have B4 := Lib.hid (show Below w.heap.size w ((((w.alloc (.cells #[.int .i64 (n : Int)] 3)).alloc (.cells #[] 47)).alloc (.cells #[.slice (some ⟨w.heap.size + 1, 0, none⟩) 0 0] 54)).alloc (.cells #[.func (.func 98) #[] #[.pointer (some ⟨w.heap.size, 0, none⟩), .pointer (some ⟨w.heap.size + 1 + 1, 0, none⟩), .pointer (some ⟨w.heap.size + 1 + 1 + 1, 0, none⟩)]] 107)) from ((((Below.refl _ _).alloc (Nat.le_refl _) _).alloc (by simp) _).alloc (by simp; omega) _).alloc (by simp; omega) _)
    have hn4 : n ≤ 4 := by omega
    refine (i_ext n hn4 n none 0 0 [] _ _ _ _ [] _ _ _ (World.ownsRow_nil _ _ _ _) (by simp) X4.out (by have := growP_le n hn4 n hn4 []; simp; omega)).mono ?_
    rintro e w2 ⟨rfl, A2, c2, x2, b2, _⟩
    obtain ⟨q0, q1⟩ := x2.bo.one
    obtain ⟨l, hl⟩ : ∃ l, [] ++ growP n n [] = l := ⟨_, rfl⟩
    rw [hl] at x2 q0
    have HL := Lib.hid hl
    have XX := Lib.hid x2
    have BB := Lib.hid b2
    clear hl x2 b2
    go_wp2_with fail
    go_ret
    rw [HP.out, Int.toNat_natCast, ← List.nil_append (growP n n []), HL.out]
    exact ⟨A2, c2, rfl, XX.out.rows, B4.out.trans BB.out⟩
  · have HP := Lib.hid (perms_out (N := N) (by omega))
    have hin : Hid (inB N 1 4 = false) := Lib.hid (by rw [← Bool.not_eq_true, inB_iff]; exact h)
    go_enter Try.func39, Try.ntmps39
    go_wp2_with fail
    refine (i_in _ _ _ _).mono ?_
    rintro e w1 ⟨rfl, rfl⟩
    rw [hin.out]
    go_wp2_with fail
    go_ret
    rw [HP.out]
    exact ⟨_, _, rfl, OwnSS.nil _ _ _ _ _ _, (Below.refl _ _).alloc (Nat.le_refl _) _⟩
end Go.Proofs.YtgnallcfahpjmaaR
