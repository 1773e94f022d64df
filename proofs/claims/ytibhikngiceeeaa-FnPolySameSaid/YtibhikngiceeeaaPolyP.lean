/- Plain: phase polynomials, their terms and how a gate acts on them. No program in sight; nothing is asked. -/
import Derived.Test.YtibhikngiceeeaaOkGate
import Derived.Test.YtibhikngiceeeaaPairs
namespace Go.Proofs.Ytibhikngiceeeaa
open Go.RowKit

structure Po where
  N : Int
  H : Int
  t : List (Int × Int)
  o : List (Int × Int)
  deriving DecidableEq
def Po.zero : Po := ⟨0, 0, [], []⟩

def atL (m : Int) : Nat → List (Int × Int) → Option Nat
  | _, [] => none
  | i, p :: r => if (p.1 == m) = true then some i else atL m (i + 1) r
def plL (m : Int) : Nat → List (Int × Int) → Nat
  | i, [] => i
  | i, p :: r => if decide (p.1 ≤ m) = true then plL m (i + 1) r else i
def withT (t : List (Int × Int)) (m : Int) : List (Int × Int) :=
  match atL m 0 t with
  | some _ => t
  | none => t.take (plL m 0 t) ++ (m, 0) :: t.drop (plL m 0 t)
def atT (t : List (Int × Int)) (m : Int) : Nat :=
  match atL m 0 t with
  | some k => k
  | none => plL m 0 t
def nz (l : List (Int × Int)) : List (Int × Int) := l.filter fun p => !(p.2 == 0)
def bump (l : List (Int × Int)) (k : Nat) (c : Int) : List (Int × Int) := l.set k ((l.getD k (0, 0)).1, ((l.getD k (0, 0)).2 + c) % 8)
def addT (t : List (Int × Int)) (m c : Int) : List (Int × Int) := nz (bump (withT t m) (atT t m) c)

theorem plL_ge (m : Int) : ∀ (i : Nat) (t : List (Int × Int)), i ≤ plL m i t ∧ plL m i t ≤ i + t.length
  | i, [] => ⟨Nat.le_refl _, by simp [plL]⟩
  | i, p :: r => by
    rw [plL]
    have := plL_ge m (i + 1) r
    split
    · exact ⟨by omega, by simp; omega⟩
    · exact ⟨Nat.le_refl _, by simp⟩
theorem atL_lt (m : Int) : ∀ (i : Nat) (t : List (Int × Int)) (k : Nat), atL m i t = some k → i ≤ k ∧ k < i + t.length
  | i, [], k, h => by cases h
  | i, p :: r, k, h => by
    rw [atL] at h
    split at h
    · injection h with h; subst h; exact ⟨Nat.le_refl _, by simp⟩
    · have := atL_lt m (i + 1) r k h
      exact ⟨by omega, by simp; omega⟩
theorem withT_len (t : List (Int × Int)) (m : Int) : t.length ≤ (withT t m).length ∧ (withT t m).length ≤ t.length + 1 := by
  unfold withT
  split
  · exact ⟨Nat.le_refl _, by omega⟩
  · have := plL_ge m 0 t
    simp only [List.length_append, List.length_take, List.length_cons, List.length_drop]
    exact ⟨by omega, by omega⟩
theorem atT_lt (t : List (Int × Int)) (m : Int) : atT t m < (withT t m).length := by
  unfold atT withT
  split
  · have := atL_lt m 0 t _ (by assumption); omega
  · have := plL_ge m 0 t
    simp only [List.length_append, List.length_take, List.length_cons, List.length_drop]
    omega
theorem bump_len (l : List (Int × Int)) (k : Nat) (c : Int) : (bump l k c).length = l.length := by simp [bump]
theorem nz_le (l : List (Int × Int)) : (nz l).length ≤ l.length := List.length_filter_le _ _
theorem addT_len (t : List (Int × Int)) (m c : Int) : (addT t m c).length ≤ t.length + 1 := by
  have h1 := nz_le (bump (withT t m) (atT t m) c)
  have h2 := (withT_len t m).2
  rw [bump_len] at h1
  unfold addT
  omega
theorem bump_mod (l : List (Int × Int)) (k : Nat) (c c' : Int) (h : c % 8 = c' % 8) : bump l k c = bump l k c' := by
  unfold bump
  rw [Int.add_emod, h, ← Int.add_emod]
theorem addT_mod (t : List (Int × Int)) (m c c' : Int) (h : c % 8 = c' % 8) : addT t m c = addT t m c' := by
  unfold addT
  rw [bump_mod _ _ c c' h]

theorem withT_has {t : List (Int × Int)} {m : Int} {k : Nat} (h : atL m 0 t = some k) : withT t m = t ∧ atT t m = k := by
  unfold withT atT; rw [h]; exact ⟨rfl, rfl⟩
theorem withT_new {t : List (Int × Int)} {m : Int} (h : atL m 0 t = none) : withT t m = t.take (plL m 0 t) ++ (m, 0) :: t.drop (plL m 0 t) ∧ atT t m = plL m 0 t := by
  unfold withT atT; rw [h]; exact ⟨rfl, rfl⟩
theorem nz_snoc (l : List (Int × Int)) (p : Int × Int) : nz (l ++ [p]) = nz l ++ (if (p.2 == 0) = true then [] else [p]) := by
  unfold nz
  rw [List.filter_append]
  congr 1
  by_cases h : p.2 = 0 <;> simp [h]
theorem wrap_mod8 (n : Int) : wrap64 n % 8 = n % 8 := by unfold wrap64; omega

def idO (n : Nat) : List (Int × Int) := (List.range n).map fun i => ((2 : Int) ^ i, 0)
theorem idO_snoc (k : Nat) : idO (k + 1) = idO k ++ [((2 : Int) ^ k, 0)] := by simp [idO, List.range_succ]
theorem idO_len (k : Nat) : (idO k).length = k := by simp [idO]
def idP (n : Int) : Po := if inB n 1 4 = true then ⟨n, 0, [], idO n.toNat⟩ else Po.zero

def at2 (o : List (Int × Int)) (a : Int) : Int × Int := o.getD a.toNat (0, 0)
/-- How a gate acts on a polynomial. -/
def actP (p : Po) (g : Gt) : Po × Bool :=
  if (g.k == 1) = true then (⟨p.N, p.H, p.t, p.o.set g.a.toNat ((at2 p.o g.a).1, wrap64 (1 - (at2 p.o g.a).2))⟩, true)
  else if (g.k == 9) = true then (⟨p.N, p.H, p.t, p.o.set g.b.toNat (bits .xor .i64 (at2 p.o g.a).1 (at2 p.o g.b).1, bits .xor .i64 (at2 p.o g.a).2 (at2 p.o g.b).2)⟩, true)
  else if (g.k == 11) = true then (⟨p.N, p.H, p.t, (p.o.set g.a.toNat (at2 p.o g.b)).set g.b.toNat (at2 p.o g.a)⟩, true)
  else if (units g.k == 0) = true then (Po.zero, false)
  else if ((at2 p.o g.a).2 == 0) = true then (⟨p.N, p.H, addT p.t (at2 p.o g.a).1 (units g.k), p.o⟩, true)
  else (⟨p.N, (p.H + units g.k) % 8, addT p.t (at2 p.o g.a).1 (- units g.k), p.o⟩, true)
def okP (p : Po) (g : Gt) : Bool := okG g.k g.a g.b g.c p.N && decide ((p.o.length : Int) = p.N)
def applyP (p : Po) (g : Gt) : Po × Bool := if okP p g = true then actP p g else (Po.zero, false)
def compL : Po → List Gt → Po × Bool
  | p, [] => (p, true)
  | p, g :: r => if (applyP p g).2 = true then compL (applyP p g).1 r else (Po.zero, false)
def compP (gs : List Gt) (n : Int) : Po × Bool := if inB n 1 4 = true then compL (idP n) gs else (Po.zero, false)
theorem applyP_no {p : Po} {g : Gt} (h : okP p g = false) : applyP p g = (Po.zero, false) := by unfold applyP; rw [h]; rfl
theorem applyP_yes {p : Po} {g : Gt} (h : okP p g = true) : applyP p g = actP p g := by unfold applyP; rw [h]; rfl
theorem actP_fail {p : Po} {g : Gt} (h : (actP p g).2 = false) : (actP p g).1 = Po.zero := by
  unfold actP at h ⊢
  by_cases h1 : (g.k == 1) = true
  · rw [if_pos h1] at h; cases h
  · rw [if_neg h1] at h ⊢
    by_cases h2 : (g.k == 9) = true
    · rw [if_pos h2] at h; cases h
    · rw [if_neg h2] at h ⊢
      by_cases h3 : (g.k == 11) = true
      · rw [if_pos h3] at h; cases h
      · rw [if_neg h3] at h ⊢
        by_cases h4 : (units g.k == 0) = true
        · rw [if_pos h4]
        · rw [if_neg h4] at h ⊢
          by_cases h5 : ((at2 p.o g.a).2 == 0) = true
          · rw [if_pos h5] at h; cases h
          · rw [if_neg h5] at h; cases h
theorem applyP_fail {p : Po} {g : Gt} (h : (applyP p g).2 = false) : (applyP p g).1 = Po.zero := by
  cases hk : okP p g
  · rw [applyP_no hk]
  · rw [applyP_yes hk] at h ⊢; exact actP_fail h
end Go.Proofs.Ytibhikngiceeeaa
