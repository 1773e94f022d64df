/- Plain: the peephole step. Nothing is asked. -/
import Derived.Test.YtmenmibfkojnoaaGreatQ08
import Derived.Test.YtmenmibfkojnoaaGreatQ11
set_option maxHeartbeats 16000000
namespace Go.Proofs.YtmenmibfkojnoaaGreat
def scanB (g : Gt) : List Gt -> Nat -> Option Nat
 |[], _ => none
 |h :: r, k => if mergeOk g h then some k else if comm g h then scanB g r (k + 1) else none
def findStep : List Gt -> Nat -> Option (Nat × Nat)
 |[], _ => none
 |g :: r, i => match scanB g r (i + 1) with | some k => some (i, k) | none => findStep r (i + 1)
def g0 : Gt := ⟨0, 0, 0, 0⟩
def outOf (l : List Gt) (i k : Nat) : List Gt := l.take i ++ ((l.drop (i + 1)).take (k - (i + 1)) ++ (mergeL (l.getD i g0) (l.getD k g0) ++ l.drop (k + 1)))
def stepL (l : List Gt) : List Gt := match findStep l 0 with | none => l | some (i, k) => outOf l i k
def stepOk (l : List Gt) : Bool := (findStep l 0).isSome
theorem scanB_yes {g h : Gt} {r : List Gt} {k : Nat} (hm : mergeOk g h = true) : scanB g (h :: r) k = some k := by simp [scanB, hm]
theorem scanB_on {g h : Gt} {r : List Gt} {k : Nat} (hm : mergeOk g h = false) (hc : comm g h = true) : scanB g (h :: r) k = scanB g r (k + 1) := by simp [scanB, hm, hc]
theorem scanB_no {g h : Gt} {r : List Gt} {k : Nat} (hm : mergeOk g h = false) (hc : comm g h = false) : scanB g (h :: r) k = none := by simp [scanB, hm, hc]
theorem getD_drop {l r : List Gt} {i : Nat} {g : Gt} (h : l.drop i = g :: r) : l.getD i g0 = g := by
 have hl : i < l.length := by
  rcases Nat.lt_or_ge i l.length with h1 | h1
  ·exact h1
  ·rw [List.drop_eq_nil_of_le h1] at h; cases h
 rw [drop_cons hl] at h
 injection h with h1 _
 rw [List.getD_eq_getElem?_getD, List.getElem?_eq_getElem hl, h1]; rfl
theorem mergeL_short (g h : Gt) : (mergeL g h).length <= 1 := by
 unfold mergeL
 split
 ·simp
 ·split
  ·rename_i h1; rw [rotG_len]; simp [rotOne] at h1; omega
  ·simp
theorem out_len {l : List Gt} {i k : Nat} (h1 : i < k) (h2 : k < l.length) : (outOf l i k).length + 1 <= l.length := by
 have := mergeL_short (l.getD i g0) (l.getD k g0)
 simp only [outOf, List.length_append, List.length_take, List.length_drop]
 omega
theorem scanB_range {g : Gt} : ∀ {r : List Gt} {j k : Nat}, scanB g r j = some k -> j <= k /\ k < j + r.length
 |[], j, k, h => by simp [scanB] at h
 |a :: r, j, k, h => by
  simp only [scanB] at h
  split at h
  ·injection h with h; subst h; simp
  ·split at h
   ·have := scanB_range h; simp; omega
   ·cases h
theorem findStep_range : ∀ {r : List Gt} {j i k : Nat}, findStep r j = some (i, k) -> j <= i /\ i < k /\ k < j + r.length
 |[], j, i, k, h => by simp [findStep] at h
 |a :: r, j, i, k, h => by
  simp only [findStep] at h
  split at h
  ·rename_i k' hk
   injection h with h
   injection h with h1 h2
   subst h1 h2
   have := scanB_range hk
   simp; omega
  ·have := findStep_range h
   simp; omega
theorem step_len {l : List Gt} (h : stepOk l = true) : (stepL l).length + 1 <= l.length := by
 unfold stepOk at h
 unfold stepL
 split
 ·rename_i hn; rw [hn] at h; cases h
 ·rename_i i k hk
  have := findStep_range hk
  exact out_len this.2.1 (by omega)
end Go.Proofs.YtmenmibfkojnoaaGreat
