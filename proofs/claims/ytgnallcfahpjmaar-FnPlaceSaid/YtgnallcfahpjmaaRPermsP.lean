/- Plain: all permutations, grown place by place. Nothing is asked. -/
import Derived.Test.YtgnallcfahpjmaaRPerm
namespace Go.Proofs.YtgnallcfahpjmaaR

/-- The rows that begin with 'head' and have m places more, the next place from k on. -/
def growK (g : List Int → List (List Int)) (head : List Int) : Nat → Nat → List (List Int)
  | _, 0 => []
  | k, r + 1 => (if hasI head (k : Int) = true then [] else g (head ++ [(k : Int)])) ++ growK g head (k + 1) r
def growP (n : Nat) : Nat → List Int → List (List Int)
  | 0, head => [head]
  | m + 1, head => growK (growP n m) head 0 n
def perms (N : Int) : List (List Int) := if 1 ≤ N ∧ N ≤ 4 then growP N.toNat N.toNat [] else []
theorem growK_len (g : List Int → List (List Int)) (head : List Int) (b : Nat) (h : ∀ x, (g x).length ≤ b) : ∀ (r k : Nat), (growK g head k r).length ≤ r * b
  | 0, _ => by simp [growK]
  | r + 1, k => by
    have h1 := growK_len g head b h r (k + 1)
    have h2 := h (head ++ [(k : Int)])
    rw [growK, List.length_append, Nat.add_mul]
    split
    · simp; omega
    · omega
theorem growP_len (n : Nat) (hn : n ≤ 4) : ∀ (m : Nat) (head : List Int), (growP n m head).length ≤ 4 ^ m
  | 0, _ => by simp [growP]
  | m + 1, head => by
    rw [growP]
    have h := growK_len (growP n m) head (4 ^ m) (growP_len n hn m) n 0
    have : n * 4 ^ m ≤ 4 * 4 ^ m := Nat.mul_le_mul_right _ hn
    rw [Nat.pow_succ]
    omega
theorem growP_le (n : Nat) (hn : n ≤ 4) (m : Nat) (hm : m ≤ 4) (head : List Int) : (growP n m head).length ≤ 256 := by
  have h := growP_len n hn m head
  have : 4 ^ m ≤ 4 ^ 4 := Nat.pow_le_pow_right (by omega) hm
  omega
theorem growK_all (P : List Int → Prop) (g : List Int → List (List Int)) (head : List Int) (h : ∀ x : Int, ∀ y ∈ g (head ++ [x]), P y) : ∀ (r k : Nat), ∀ y ∈ growK g head k r, P y
  | 0, _, y, hy => by simp [growK] at hy
  | r + 1, k, y, hy => by
    rw [growK, List.mem_append] at hy
    rcases hy with hy | hy
    · split at hy
      · simp at hy
      · exact h _ y hy
    · exact growK_all P g head h r (k + 1) y hy
theorem growP_row (n : Nat) : ∀ (m : Nat) (head : List Int), ∀ y ∈ growP n m head, y.length = head.length + m
  | 0, head, y, hy => by simp [growP] at hy; subst hy; simp
  | m + 1, head, y, hy => by
    rw [growP] at hy
    refine growK_all (fun y => y.length = head.length + (m + 1)) (growP n m) head (fun x y hy => ?_) n 0 y hy
    rw [growP_row n m _ y hy, List.length_append, List.length_singleton]
    omega
theorem perms_row (N : Int) : ∀ y ∈ perms N, (y.length : Int) = N ∧ y.length ≤ 4 := by
  intro y hy
  unfold perms at hy
  split at hy
  · have := growP_row _ _ _ y hy
    simp at this
    omega
  · simp at hy
theorem perms_le (N : Int) : (perms N).length ≤ 256 := by
  unfold perms
  split
  · exact growP_le _ (by omega) _ (by omega) _
  · simp
theorem perms_ok (N : Int) : ∀ y ∈ perms N, isPerm y = true := by
  intro y hy
  unfold perms at hy
  split at hy
  · rename_i h
    obtain h | h | h | h : N = 1 ∨ N = 2 ∨ N = 3 ∨ N = 4 := by omega
    all_goals
      subst h
      revert y
      decide +kernel
  · simp at hy
theorem perms_nodup (N : Int) : (perms N).Nodup := by
  unfold perms
  split
  · rename_i h
    obtain h | h | h | h : N = 1 ∨ N = 2 ∨ N = 3 ∨ N = 4 := by omega
    all_goals
      subst h
      decide +kernel
  · simp
theorem perms_in {N : Int} (h1 : 1 ≤ N) (h4 : N ≤ 4) : perms N = growP N.toNat N.toNat [] := by unfold perms; rw [if_pos ⟨h1, h4⟩]
theorem perms_out {N : Int} (h : N < 1 ∨ 4 < N) : perms N = [] := by unfold perms; rw [if_neg (by omega)]
theorem growK_step {g : List Int → List (List Int)} {head : List Int} {k r n : Nat} (h : k + r = n) (hk : k < n) : growK g head k r = (if hasI head (k : Int) = true then [] else g (head ++ [(k : Int)])) ++ growK g head (k + 1) (r - 1) := by
  obtain ⟨r', rfl⟩ : ∃ r', r = r' + 1 := ⟨r - 1, by omega⟩
  rw [growK]; rfl
end Go.Proofs.YtgnallcfahpjmaaR
