/- Contracts of HasEdge and AreCoupled (spec, impl). The graph has at most 2^40 edges. -/
import Derived.Test.YtibhikngiceeeaaProg
import Derived.Test.YtibhikngiceeeaaPairs
namespace Go.Proofs.Ytibhikngiceeeaa
open Go.RowKit

def hasE (ps : List (Int × Int)) (a b : Int) : Bool := ps.any fun p => p.1 == a && p.2 == b
def coup (ps : List (Int × Int)) (a b : Int) : Bool := hasE ps a b || hasE ps b a
theorem hasE_hit {ps r : List (Int × Int)} {k : Nat} {x y a b : Int} (hd : ps.drop k = (x, y) :: r) (h1 : (x == a) = true) (h2 : (y == b) = true) : hasE ps a b = true := by
  have : (x, y) ∈ ps := List.mem_of_mem_drop (by rw [hd]; simp)
  exact List.any_eq_true.2 ⟨_, this, by simp_all⟩
theorem hasE_nil {ps : List (Int × Int)} {k : Nat} {a b : Int} (h : ps.length ≤ k) : hasE (ps.drop k) a b = false := by rw [List.drop_eq_nil_of_le h]; rfl

set_option maxHeartbeats 400000 in
theorem s_HasEdge (N : Int) (A : Option Addr) (n cap : Nat) (a b : Int) (ps : List (Int × Int)) (w : World) (h : RdP w A n ps) (hn : n ≤ 1099511627776) :
    Calls Try.prog 182 #[.agg #[.int .i64 N, .slice A n cap], .int .i64 a, .int .i64 b] w fun e w' => e = .returned (.bool (hasE ps a b)) ∧ Below w.heap.size w w' := by
  have H := Lib.hid h
  clear h
  go_enter Try.func182, Try.ntmps182
  go_wp2
  go_loopg [7] n (fun m i wr => ∃ (k : Nat), k + m = n ∧ i = .int .i64 k ∧ hasE (ps.drop k) a b = hasE ps a b ∧ wr = w.alloc (.cells #[.int .i64 N, .slice A n cap] 61))
  case atStart => exact ⟨0, by omega, rfl, by simp, rfl⟩
  case round =>
    obtain ⟨k, hk, rfl, hx, rfl⟩ := hrel
    have HX := Lib.hid hx
    clear hx
    by_cases hlt : k < n
    · obtain ⟨bb, off, x, y, rfl, hB, hd, c0, c1⟩ := H.out.at_ hlt
      have HD := Lib.hid hd
      clear hd
      have hne : bb ≠ w.heap.size := by omega
      by_cases h1 : (x == a) = true
      · by_cases h2 : (y == b) = true
        · go_wp2
          go_ret
          exact ⟨ret_bool (hasE_hit HD.out h1 h2).symm, (Below.refl _ _).alloc (Nat.le_refl _) _⟩
        · have h2' : (y == b) = false := by simpa using h2
          go_wp2
          go_roundg (gk - 1)
          case measure => omega
          case rel =>
            refine ⟨k + 1, by omega, by go_num, ?_, rfl⟩
            rw [← HX.out, HD.out]
            simp [hasE, h2']
      · have h1' : (x == a) = false := by simpa using h1
        go_wp2
        go_roundg (gk - 1)
        case measure => omega
        case rel =>
          refine ⟨k + 1, by omega, by go_num, ?_, rfl⟩
          rw [← HX.out, HD.out]
          simp [hasE, h1']
    · go_wp2
      go_ret
      exact ⟨ret_bool (by rw [← HX.out, hasE_nil (by have := H.out.1; omega)]), (Below.refl _ _).alloc (Nat.le_refl _) _⟩

set_option maxHeartbeats 400000 in
theorem i_HasEdge (N : Int) (A : Option Addr) (n cap : Nat) (a b : Int) (ps : List (Int × Int)) (w : World) (h : RdP w A n ps) (hn : n ≤ 1099511627776) :
    Calls Try.prog 152 #[.agg #[.int .i64 N, .slice A n cap], .int .i64 a, .int .i64 b] w fun e w' => e = .returned (.bool (hasE ps a b)) ∧ Below w.heap.size w w' := by
  have H := Lib.hid h
  clear h
  go_enter Try.func152, Try.ntmps152
  go_wp2
  go_loopg [12] n (fun m i wr => ∃ (k : Nat), k + m = n ∧ i = .int .i64 k ∧ hasE (ps.drop k) a b = hasE ps a b ∧ Below w.heap.size w wr)
  case atStart => exact ⟨0, by omega, rfl, by simp, (Below.refl _ _).alloc (Nat.le_refl _) _⟩
  case round =>
    obtain ⟨k, hk, rfl, hx, hb⟩ := hrel
    have HX := Lib.hid hx
    clear hx
    by_cases hlt : k < n
    · obtain ⟨bb, off, x, y, rfl, hB, hd, c0, c1⟩ := (H.out.below hb).at_ hlt
      have HD := Lib.hid hd
      clear hd
      by_cases h1 : (x == a) = true
      · by_cases h2 : (y == b) = true
        · go_wp2
          go_ret
          exact ⟨ret_bool (hasE_hit HD.out h1 h2).symm, hb.alloc hb.size _⟩
        · have h2' : (y == b) = false := by simpa using h2
          go_wp2
          go_roundg (gk - 1)
          case measure => omega
          case rel =>
            refine ⟨k + 1, by omega, by go_num, ?_, hb.alloc hb.size _⟩
            rw [← HX.out, HD.out]
            simp [hasE, h2']
      · have h1' : (x == a) = false := by simpa using h1
        go_wp2
        go_roundg (gk - 1)
        case measure => omega
        case rel =>
          refine ⟨k + 1, by omega, by go_num, ?_, hb.alloc hb.size _⟩
          rw [← HX.out, HD.out]
          simp [hasE, h1']
    · go_wp2
      go_ret
      exact ⟨ret_bool (by rw [← HX.out, hasE_nil (by have := H.out.1; omega)]), hb⟩

theorem s_AreCoupled (N : Int) (A : Option Addr) (n cap : Nat) (a b : Int) (ps : List (Int × Int)) (w : World) (h : RdP w A n ps) (hn : n ≤ 1099511627776) :
    Calls Try.prog 168 #[.agg #[.int .i64 N, .slice A n cap], .int .i64 a, .int .i64 b] w fun e w' => e = .returned (.bool (coup ps a b)) ∧ Below w.heap.size w w' := by
  have H := Lib.hid h
  clear h
  have HC : Hid (coup ps a b = (hasE ps a b || hasE ps b a)) := rfl
  go_enter Try.func168, Try.ntmps168
  go_wp2_with fail
  refine (s_HasEdge _ _ _ _ _ _ _ _ (H.out.alloc _) hn).mono ?_
  rintro e w1 ⟨rfl, b1⟩
  have x1 := (Bx.new w 61 #[.int .i64 N, .slice A n cap]).below b1
  obtain ⟨q0, q1, _, _⟩ := x1.two
  have H1 := Lib.hid ((H.out.alloc _).below b1)
  cases h1 : hasE ps a b
  · go_wp2_with fail
    refine (s_HasEdge _ _ _ _ _ _ _ _ H1.out hn).mono ?_
    rintro e w2 ⟨rfl, b2⟩
    go_wp2_with fail
    go_ret
    exact ⟨ret_bool (by rw [HC.out, h1]; rfl), below_trans (below_alloc b1) b2⟩
  · go_wp2_with fail
    go_ret
    exact ⟨ret_bool (by rw [HC.out, h1]; rfl), below_alloc b1⟩

theorem i_AreCoupled (N : Int) (A : Option Addr) (n cap : Nat) (a b : Int) (ps : List (Int × Int)) (w : World) (h : RdP w A n ps) (hn : n ≤ 1099511627776) :
    Calls Try.prog 98 #[.agg #[.int .i64 N, .slice A n cap], .int .i64 a, .int .i64 b] w fun e w' => e = .returned (.bool (coup ps a b)) ∧ Below w.heap.size w w' := by
  have H := Lib.hid h
  clear h
  have HC : Hid (coup ps a b = (hasE ps a b || hasE ps b a)) := rfl
  go_enter Try.func98, Try.ntmps98
  go_wp2_with fail
  refine (i_HasEdge _ _ _ _ _ _ _ _ (H.out.alloc _) hn).mono ?_
  rintro e w1 ⟨rfl, b1⟩
  have x1 := (Bx.new w 61 #[.int .i64 N, .slice A n cap]).below b1
  obtain ⟨q0, q1, _, _⟩ := x1.two
  have H1 := Lib.hid ((H.out.alloc _).below b1)
  cases h1 : hasE ps a b
  · go_wp2_with fail
    refine (i_HasEdge _ _ _ _ _ _ _ _ H1.out hn).mono ?_
    rintro e w2 ⟨rfl, b2⟩
    go_wp2_with fail
    go_ret
    exact ⟨ret_bool (by rw [HC.out, h1]; rfl), below_trans (below_alloc b1) b2⟩
  · go_wp2_with fail
    go_ret
    exact ⟨ret_bool (by rw [HC.out, h1]; rfl), below_alloc b1⟩
end Go.Proofs.Ytibhikngiceeeaa
