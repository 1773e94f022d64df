/- Plain: the shortest path that both sides walk. No program in sight. -/
import Derived.Test.YtibhikngiceeeaaGraphR
import Derived.Test.YtibhikngiceeeaaConn
namespace Go.Proofs.Ytibhikngiceeeaa
open Go.RowKit
def firstK (p : Int → Bool) (n : Int) : Nat → Option Int
  | 0 => none
  | m + 1 => if p (n - (m + 1 : Nat)) then some (n - (m + 1 : Nat)) else firstK p n m
theorem firstK_step {p : Int → Bool} {n k m : Nat} (h : k + m = n) (hk : k < n) : firstK p n m = if p k then some (k : Int) else firstK p n (m - 1) := by
  obtain ⟨j, rfl⟩ : ∃ j, m = j + 1 := ⟨m - 1, by omega⟩
  rw [firstK, Nat.add_sub_cancel, show (n : Int) - ((j + 1 : Nat) : Int) = (k : Int) by omega]
theorem firstK_some {p : Int → Bool} {n : Nat} : ∀ (m : Nat) {x : Int}, m ≤ n → firstK p n m = some x → p x = true ∧ 0 ≤ x ∧ x < n
  | 0, x, _, h => by cases h
  | m + 1, x, hm, h => by
    rw [firstK] at h
    split at h
    · rename_i hp
      injection h with h; subst h
      exact ⟨hp, by omega, by omega⟩
    · exact firstK_some m (by omega) h
theorem firstK_ex {p : Int → Bool} {n : Nat} : ∀ (m : Nat) (x : Nat), m ≤ n → n - m ≤ x → x < n → p x = true → ∃ y, firstK p n m = some y
  | 0, x, _, h1, h2, _ => by omega
  | m + 1, x, hm, h1, h2, hp => by
    rw [firstK]
    split
    · exact ⟨_, rfl⟩
    · rename_i h3
      refine firstK_ex m x (by omega) ?_ h2 hp
      rcases Nat.lt_or_ge x (n - m) with h4 | h4
      · have : (n : Int) - ((m + 1 : Nat) : Int) = (x : Int) := by omega
        rw [this] at h3
        exact absurd hp h3
      · exact h4
/-- Is k a neighbour of a, at distance d of b? -/
def nearer (ps : List (Int × Int)) (N b a : Int) (d : Nat) (k : Int) : Bool := coup ps a k && gd ps N k b == (d : Int)
def nxt (ps : List (Int × Int)) (N b a : Int) (d : Nat) : Option Int := firstK (nearer ps N b a d) N N.toNat
def pS (ps : List (Int × Int)) (N b : Int) : Nat → Int → List Int
  | 0, _ => []
  | d + 1, a => (nxt ps N b a d).getD a :: pS ps N b d ((nxt ps N b a d).getD a)
def spath (ps : List (Int × Int)) (N a b : Int) : List Int := if gd ps N a b < 0 then [] else a :: pS ps N b (gd ps N a b).toNat a
theorem nxt_ok {ps : List (Int × Int)} {N a b : Nat} {d : Nat} (hN1 : 1 ≤ N) (hN4 : N ≤ 4) (ha : a < N) (hb : b < N) (h : gd ps N a b = ((d + 1 : Nat) : Int)) :
    ∃ x : Nat, nxt ps N b a d = some (x : Int) ∧ x < N ∧ coup ps a x = true ∧ gd ps N x b = d := by
  have h1 := nb_ok (coup ps 0 0) (coup ps 0 1) (coup ps 0 2) (coup ps 0 3) (coup ps 1 1) (coup ps 1 2) (coup ps 1 3) (coup ps 2 2) (coup ps 2 3) (coup ps 3 3) N a b hN1 hN4 (by omega) (by omega) (by omega) (by omega)
  change nbB (mat ps) N a b = true at h1
  have e0 : gdI (mat ps) N a b = ((d + 1 : Nat) : Int) := by rw [← gd_in (by omega) (by omega) (by omega) (by omega) (by omega) (by omega), h]
  unfold nbB at h1
  rw [e0, decide_eq_false (by omega), Bool.false_or, List.any_eq_true] at h1
  obtain ⟨y, hy, hp⟩ := h1
  rw [List.mem_range] at hy
  rw [Bool.and_eq_true] at hp
  have e1 : gd ps N y b = (d : Int) := by
    rw [gd_in (by omega) (by omega) (by omega) (by omega) (by omega) (by omega), eq_of_beq hp.2]; omega
  have e2 : coup ps a y = true := by rw [← mat_at ps a y (by omega) (by omega)]; exact hp.1
  obtain ⟨x, hx⟩ := firstK_ex (p := nearer ps N b a d) (n := N) N y (Nat.le_refl _) (by omega) hy (by unfold nearer; rw [e2, e1]; simp)
  obtain ⟨h3, h4, h5⟩ := firstK_some N (Nat.le_refl _) hx
  unfold nearer at h3
  rw [Bool.and_eq_true] at h3
  refine ⟨x.toNat, ?_, by omega, ?_, ?_⟩
  · rw [show ((x.toNat : Nat) : Int) = x by omega]; exact hx
  · rw [show ((x.toNat : Nat) : Int) = x by omega]; exact h3.1
  · rw [show ((x.toNat : Nat) : Int) = x by omega]; exact eq_of_beq h3.2
theorem pS_step {ps : List (Int × Int)} {N b a x : Int} {d : Nat} (h : nxt ps N b a d = some x) : pS ps N b (d + 1) a = x :: pS ps N b d x := by
  rw [pS, h]; rfl
theorem sF_lt (l : List Bool) (n : Int) (b : Int) : ∀ (m : Nat) (met : List Int), 0 ≤ n → sF l n b m met < n
  | 0, met, _ => by rw [sF]; omega
  | m + 1, met, h => by
    rw [sF]
    split
    · omega
    · exact sF_lt l n b m _ h
theorem gd_lt (ps : List (Int × Int)) (N a b : Int) : gd ps N a b < 4 := by
  rcases inB_cases N 1 4 with ⟨c1, d1, d2⟩ | ⟨c1, _⟩
  · rcases inB_cases a 0 (N - 1) with ⟨c2, d3, d4⟩ | ⟨c2, _⟩
    · rcases inB_cases b 0 (N - 1) with ⟨c3, d5, d6⟩ | ⟨c3, _⟩
      · rw [gd_inS d1 d2 d3 d4 d5 d6]
        have := sF_lt (mat ps) N b N.toNat [a] (by omega)
        unfold gdS
        omega
      · rw [gd_out3 c3]; omega
    · rw [gd_out2 c2]; omega
  · rw [gd_out1 c1]; omega
theorem gd_rng {ps : List (Int × Int)} {N a b : Int} (h : 0 ≤ gd ps N a b) : (1 ≤ N ∧ N ≤ 4) ∧ (0 ≤ a ∧ a < N) ∧ 0 ≤ b ∧ b < N := by
  rcases inB_cases N 1 4 with ⟨c1, d1, d2⟩ | ⟨c1, _⟩
  · rcases inB_cases a 0 (N - 1) with ⟨c2, d3, d4⟩ | ⟨c2, _⟩
    · rcases inB_cases b 0 (N - 1) with ⟨c3, d5, d6⟩ | ⟨c3, _⟩
      · exact ⟨⟨d1, d2⟩, ⟨d3, by omega⟩, d5, by omega⟩
      · rw [gd_out3 c3] at h; omega
    · rw [gd_out2 c2] at h; omega
  · rw [gd_out1 c1] at h; omega
theorem spath_len (ps : List (Int × Int)) (N b : Int) : ∀ (d : Nat) (a : Int), (pS ps N b d a).length = d
  | 0, _ => rfl
  | d + 1, a => by rw [pS, List.length_cons, spath_len]
end Go.Proofs.Ytibhikngiceeeaa
