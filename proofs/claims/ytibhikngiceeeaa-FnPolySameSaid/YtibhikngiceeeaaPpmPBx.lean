/- Plain: what the gates of a rotation do to a phase polynomial. Nothing is asked. Plain: what a phase polynomial says of each basis state is what the gates do to it. Nothing else is asked. Contract of apart (laws) at three and at four qubits, where both lists do the same on every basis state. Contracts of flipped (impl), l7Column, l7Columns (spec): square matrices of at most 16 rows. Plain: the matrix of a phase polynomial, and what it says of a row of gates. No program in sight; nothing is asked. -/
import Derived.Test.YtibhikngiceeeaaCanon
import Derived.Test.YtibhikngiceeeaaDrawG
import Derived.Test.YtibhikngiceeeaaDomP
import Derived.Test.YtibhikngiceeeaaEval
import Derived.Test.YtibhikngiceeeaaStK
import Derived.Test.YtibhikngiceeeaaDomF
import Derived.Test.YtibhikngiceeeaaPairs
namespace Go.Proofs.Ytibhikngiceeeaa
open Go.RowKit

def sg (y c : Int) : Int := if (y == 0) = true then c else -c
theorem app_rot {q : Po} {k a x y : Int} (hk : 3 ≤ k) (hk8 : k ≤ 8) (hk4 : k ≠ 4) (h1 : 1 ≤ q.N) (h4 : q.N ≤ 4) (ha : 0 ≤ a) (ha2 : a < q.N) (ho : (q.o.length : Int) = q.N) (hx : at2 q.o a = (x, y)) :
    applyP q ⟨k, a, 0, 0⟩ = (⟨q.N, if (y == 0) = true then q.H else (q.H + units k) % 8, addT q.t x (sg y (units k)), q.o⟩, true) := by
  have har : arity k = 1 := by rcases arity_cases k with h | h | h | h <;> omega
  have hok : okP q ⟨k, a, 0, 0⟩ = true := by
    unfold okP
    rw [okG_1 har h1 h4 ha (by omega)]
    simp [ho]
  rw [applyP_yes hok]
  have hu : (units k == 0) = false := by rcases units_cases k with h | h | h | h | h | h <;> simp <;> omega
  unfold actP sg
  rw [if_neg (by simp; omega), if_neg (by simp; omega), if_neg (by simp; omega), if_neg (by show ¬ ((units k == 0) = true); rw [hu]; simp)]
  show (if ((at2 q.o a).2 == 0) = true then _ else _) = _
  rw [hx]
  by_cases hy : (y == 0) = true
  · rw [if_pos hy]; simp only [if_pos hy]
  · rw [if_neg hy]; simp only [if_neg hy]
theorem addT_0 {t : List (Int × Int)} (h : Canon t) (x : Int) : addT t x 0 = t := by
  obtain ⟨_, c1, e1⟩ := oddS_add h x 0
  refine canon_ext c1 h fun m => ?_
  rw [e1]
  split
  · rename_i hm
    have := coefT_bd x h
    rw [hm]; omega
  · rfl
/-- The gates that make up a rotation, one behind another. -/
theorem run_rot {q : Po} {c a x y : Int} (hc0 : 0 ≤ c) (hc7 : c ≤ 7) (h1 : 1 ≤ q.N) (h4 : q.N ≤ 4) (ha : 0 ≤ a) (ha2 : a < q.N) (ho : (q.o.length : Int) = q.N) (hx : at2 q.o a = (x, y)) (hC : Canon q.t) (hH : 0 ≤ q.H ∧ q.H ≤ 7) :
    ∃ H', 0 ≤ H' ∧ H' ≤ 7 ∧ compL q (rotG c a) = (⟨q.N, H', addT q.t x (sg y c), q.o⟩, true) := by
  have one : ∀ k, 3 ≤ k → k ≤ 8 → k ≠ 4 → ∃ H', 0 ≤ H' ∧ H' ≤ 7 ∧ compL q [⟨k, a, 0, 0⟩] = (⟨q.N, H', addT q.t x (sg y (units k)), q.o⟩, true) := by
    intro k b1 b2 b3
    have e := app_rot b1 b2 b3 h1 h4 ha ha2 ho hx
    refine ⟨if (y == 0) = true then q.H else (q.H + units k) % 8, ?_, ?_, ?_⟩
    · split <;> omega
    · split <;> omega
    · rw [compL_go (by rw [e]), e]; rfl
  have two : ∀ k k', 3 ≤ k → k ≤ 8 → k ≠ 4 → 3 ≤ k' → k' ≤ 8 → k' ≠ 4 → ∃ H', 0 ≤ H' ∧ H' ≤ 7 ∧ compL q [⟨k, a, 0, 0⟩, ⟨k', a, 0, 0⟩] = (⟨q.N, H', addT q.t x (sg y (units k + units k')), q.o⟩, true) := by
    intro k k' b1 b2 b3 d1 d2 d3
    have e := app_rot b1 b2 b3 h1 h4 ha ha2 ho hx
    rw [compL_go (by rw [e]), e]
    have e2 := app_rot (q := ⟨q.N, if (y == 0) = true then q.H else (q.H + units k) % 8, addT q.t x (sg y (units k)), q.o⟩) d1 d2 d3 h1 h4 ha ha2 ho hx
    refine ⟨if (y == 0) = true then (if (y == 0) = true then q.H else (q.H + units k) % 8) else ((if (y == 0) = true then q.H else (q.H + units k) % 8) + units k') % 8, ?_, ?_, ?_⟩
    · split <;> omega
    · split <;> omega
    · rw [compL_go (by rw [e2]), e2]
      show (_, true) = (_, true)
      have e3 : sg y (units k + units k') = sg y (units k) + sg y (units k') := by unfold sg; split <;> omega
      rw [e3, ← addT_add hC]
  obtain h | h | h | h | h | h | h | h : c = 0 ∨ c = 1 ∨ c = 2 ∨ c = 3 ∨ c = 4 ∨ c = 5 ∨ c = 6 ∨ c = 7 := by omega
  all_goals subst h
  · refine ⟨q.H, hH.1, hH.2, ?_⟩
    have e : sg y 0 = 0 := by unfold sg; split <;> rfl
    rw [e, addT_0 hC]
    rfl
  · exact one 7 (by omega) (by omega) (by omega)
  · exact one 5 (by omega) (by omega) (by omega)
  · exact two 5 7 (by omega) (by omega) (by omega) (by omega) (by omega) (by omega)
  · exact one 3 (by omega) (by omega) (by omega)
  · exact two 3 7 (by omega) (by omega) (by omega) (by omega) (by omega) (by omega)
  · exact one 6 (by omega) (by omega) (by omega)
  · exact one 8 (by omega) (by omega) (by omega)
def Flip (o : List (Int × Int)) : Prop := ∀ q ∈ o, q.2 = 0 ∨ q.2 = 1
theorem at2_flip {o : List (Int × Int)} (h : Flip o) (a : Int) : (at2 o a).2 = 0 ∨ (at2 o a).2 = 1 := by
  unfold at2
  rw [List.getD_eq_getElem?_getD]
  cases e : o[a.toNat]? with
  | none => exact .inl rfl
  | some q => exact h q (List.mem_of_getElem? e)
theorem flip_set {o : List (Int × Int)} (h : Flip o) (k : Nat) (x y : Int) (hy : y = 0 ∨ y = 1) : Flip (o.set k (x, y)) := by
  intro q hq
  rcases List.mem_or_eq_of_mem_set hq with h1 | h1
  · exact h q h1
  · rw [h1]; exact hy
theorem xor01 {a b : Int} (ha : a = 0 ∨ a = 1) (hb : b = 0 ∨ b = 1) : bits .xor .i64 a b = 0 ∨ bits .xor .i64 a b = 1 := by
  rcases ha with rfl | rfl <;> rcases hb with rfl | rfl
  · left; decide
  · right; decide
  · right; decide
  · left; decide
/-- What stays of a polynomial under a gate that fits. -/
def Inv (p : Po) : Prop := Canon p.t ∧ Flip p.o ∧ 0 ≤ p.H ∧ p.H ≤ 7
theorem actP_inv {p : Po} {g : Gt} (h : Inv p) (hs : (actP p g).2 = true) : Inv (actP p g).1 ∧ (actP p g).1.N = p.N ∧ (actP p g).1.o.length = p.o.length ∧ oddS (actP p g).1.t ≤ oddS p.t + (if g.k = 7 ∨ g.k = 8 then 1 else 0) := by
  obtain ⟨hC, hF, h0, h7⟩ := h
  have hz : (0 : Int) ≤ if g.k = 7 ∨ g.k = 8 then 1 else 0 := by split <;> omega
  unfold actP at hs ⊢
  by_cases h1 : (g.k == 1) = true
  · rw [if_pos h1]
    refine ⟨⟨hC, flip_set hF _ _ _ ?_, h0, h7⟩, rfl, by simp, by show oddS p.t ≤ _; omega⟩
    rcases at2_flip hF g.a with h | h <;> rw [h]
    · right; unfold wrap64; omega
    · left; unfold wrap64; omega
  · rw [if_neg h1] at hs ⊢
    by_cases h2 : (g.k == 9) = true
    · rw [if_pos h2]
      exact ⟨⟨hC, flip_set hF _ _ _ (xor01 (at2_flip hF _) (at2_flip hF _)), h0, h7⟩, rfl, by simp, by show oddS p.t ≤ _; omega⟩
    · rw [if_neg h2] at hs ⊢
      by_cases h3 : (g.k == 11) = true
      · rw [if_pos h3]
        exact ⟨⟨hC, flip_set (flip_set hF _ _ _ (at2_flip hF _)) _ _ _ (at2_flip hF _), h0, h7⟩, rfl, by simp, by show oddS p.t ≤ _; omega⟩
      · rw [if_neg h3] at hs ⊢
        by_cases h4 : (units g.k == 0) = true
        · rw [if_pos h4] at hs; cases hs
        · rw [if_neg h4]
          have hu : units g.k % 2 ≤ (if g.k = 7 ∨ g.k = 8 then 1 else 0) ∧ (-units g.k) % 2 ≤ (if g.k = 7 ∨ g.k = 8 then 1 else 0) := by
            rcases units_cases g.k with h | h | h | h | h | h
            · rw [if_pos (.inl h.1)]; omega
            · rw [if_neg (by omega)]; omega
            · rw [if_neg (by omega)]; omega
            · rw [if_neg (by omega)]; omega
            · rw [if_pos (.inr h.1)]; omega
            · rw [if_neg (by omega)]; omega
          by_cases h5 : ((at2 p.o g.a).2 == 0) = true
          · rw [if_pos h5]
            obtain ⟨e1, e2, _⟩ := oddS_add hC (at2 p.o g.a).1 (units g.k)
            exact ⟨⟨e2, hF, h0, h7⟩, rfl, rfl, by show oddS (addT _ _ _) ≤ _; omega⟩
          · rw [if_neg h5]
            obtain ⟨e1, e2, _⟩ := oddS_add hC (at2 p.o g.a).1 (-units g.k)
            refine ⟨⟨e2, hF, ?_, ?_⟩, rfl, rfl, by show oddS (addT _ _ _) ≤ _; omega⟩
            · show 0 ≤ (p.H + units g.k) % 8; omega
            · show (p.H + units g.k) % 8 ≤ 7; omega
theorem applyP_inv {p q : Po} {g : Gt} (h : Inv p) (hs : applyP p g = (q, true)) : Inv q ∧ q.N = p.N ∧ q.o.length = p.o.length ∧ oddS q.t ≤ oddS p.t + (if g.k = 7 ∨ g.k = 8 then 1 else 0) := by
  have hk : okP p g = true := applyP_okP (by rw [hs])
  rw [applyP_yes hk] at hs
  have := actP_inv h (g := g) (by rw [hs])
  rw [hs] at this
  exact this
theorem idP_inv {n : Int} (h : inB n 1 4 = true) : Inv (idP n) ∧ (idP n).N = n ∧ ((idP n).o.length : Int) = n ∧ oddS (idP n).t = 0 := by
  obtain ⟨h1, h4⟩ := inB_iff.1 h
  have e : idP n = ⟨n, 0, [], idO n.toNat⟩ := by unfold idP; rw [if_pos h]
  rw [e]
  refine ⟨⟨trivial, ?_, by show (0 : Int) ≤ 0; omega, by show (0 : Int) ≤ 7; omega⟩, rfl, by show ((idO n.toNat).length : Int) = n; rw [idO_len]; omega, rfl⟩
  intro q hq
  simp only [idO, List.mem_map] at hq
  obtain ⟨i, _, rfl⟩ := hq
  exact .inl rfl
/-- A gate that is no rotation turns the outputs alone, whatever the terms. -/
theorem app_non {p p1 q : Po} {g : Gt} (hu : (units g.k == 0) = true) (hs : applyP p g = (p1, true)) (hN : q.N = p.N) (ho : q.o = p.o) : p1.t = p.t ∧ p1.N = p.N ∧ applyP q g = (⟨q.N, q.H, q.t, p1.o⟩, true) := by
  have hk : okP p g = true := applyP_okP (by rw [hs])
  have hkq : okP q g = true := by unfold okP at hk ⊢; rw [hN, ho]; exact hk
  rw [applyP_yes hk] at hs
  rw [applyP_yes hkq]
  unfold actP at hs ⊢
  by_cases h1 : (g.k == 1) = true
  · rw [if_pos h1] at hs ⊢
    injection hs with hs _
    subst hs
    exact ⟨rfl, rfl, by rw [ho]⟩
  · rw [if_neg h1] at hs ⊢
    by_cases h2 : (g.k == 9) = true
    · rw [if_pos h2] at hs ⊢
      injection hs with hs _
      subst hs
      exact ⟨rfl, rfl, by rw [ho]⟩
    · rw [if_neg h2] at hs ⊢
      by_cases h3 : (g.k == 11) = true
      · rw [if_pos h3] at hs ⊢
        injection hs with hs _
        subst hs
        exact ⟨rfl, rfl, by rw [ho]⟩
      · rw [if_neg h3, if_pos hu] at hs
        injection hs with _ hs
        cases hs
/-- A rotation turns the term of its mask alone. -/
theorem app_is_rot {p p1 : Po} {g : Gt} (hu : (units g.k == 0) = false) (hs : applyP p g = (p1, true)) (hC : Canon p.t) : p1.o = p.o ∧ p1.N = p.N ∧ (∀ m, m ≠ (at2 p.o g.a).1 → coefT p1.t m = coefT p.t m) ∧ 0 ≤ g.a ∧ g.a < p.N ∧ 1 ≤ p.N ∧ p.N ≤ 4 := by
  have hk : okP p g = true := applyP_okP (by rw [hs])
  obtain ⟨hg, hl⟩ := okP_parts hk
  have hab := okG_abn hg
  rw [applyP_yes hk] at hs
  have hn : ¬ (g.k == 1) = true ∧ ¬ (g.k == 9) = true ∧ ¬ (g.k == 11) = true := by
    simp at hu
    rcases units_cases g.k with h | h | h | h | h | h <;> simp <;> omega
  unfold actP at hs
  rw [if_neg hn.1, if_neg hn.2.1, if_neg hn.2.2, if_neg (by rw [hu]; simp)] at hs
  by_cases h5 : ((at2 p.o g.a).2 == 0) = true
  · rw [if_pos h5] at hs
    injection hs with hs _
    subst hs
    obtain ⟨_, _, e3⟩ := oddS_add hC (at2 p.o g.a).1 (units g.k)
    exact ⟨rfl, rfl, fun m hm => by show coefT (addT _ _ _) m = _; rw [e3, if_neg hm], by omega, by omega, by omega, by omega⟩
  · rw [if_neg h5] at hs
    injection hs with hs _
    subst hs
    obtain ⟨_, _, e3⟩ := oddS_add hC (at2 p.o g.a).1 (-units g.k)
    exact ⟨rfl, rfl, fun m hm => by show coefT (addT _ _ _) m = _; rw [e3, if_neg hm], by omega, by omega, by omega, by omega⟩
end Go.Proofs.Ytibhikngiceeeaa
namespace Go.Proofs.Ytibhikngiceeeaa
open Go.RowKit
set_option linter.unusedVariables false

def parI (b m : Int) : Int := onesI (bits .and .i64 b m) % 2
theorem parI_01 (b m : Int) : parI b m = 0 ∨ parI b m = 1 := by unfold parI; omega
def sumT (b : Int) : List (Int × Int) → Int
  | [] => 0
  | p :: r => p.2 * parI b p.1 + sumT b r
theorem sumT_app (b : Int) : ∀ l m : List (Int × Int), sumT b (l ++ m) = sumT b l + sumT b m
  | [], m => by simp [sumT]
  | p :: r, m => by rw [List.cons_append, sumT, sumT, sumT_app b r m]; omega
theorem evT_sum (b : Int) : ∀ (t : List (Int × Int)) (k : Int), evT b t k % 8 = (k + sumT b t) % 8
  | [], k => by simp [evT, sumT]
  | p :: r, k => by
    rw [evT, sumT]
    by_cases h : onesI (bits .and .i64 b p.1) % 2 = 1
    · rw [if_pos h, evT_sum b r]
      have e : parI b p.1 = 1 := h
      have hw := wrap_mod8 (k + p.2)
      rw [e]
      omega
    · rw [if_neg h, evT_sum b r]
      have e : parI b p.1 = 0 := by
        rcases parI_01 b p.1 with h1 | h1
        · exact h1
        · exact absurd h1 h
      rw [e]
      omega
theorem sumT_nz (b : Int) : ∀ l : List (Int × Int), sumT b (nz l) = sumT b l
  | [] => rfl
  | p :: r => by
    have ih := sumT_nz b r
    unfold nz at ih ⊢
    rw [List.filter_cons]
    by_cases h : p.2 = 0
    · rw [if_neg (by simp [h]), ih, sumT, h]
      omega
    · rw [if_pos (by simp [h]), sumT, sumT, ih]
theorem sumT_bump (b c : Int) : ∀ (l : List (Int × Int)) (k : Nat), k < l.length → sumT b (bump l k c) % 8 = (sumT b l + c * parI b (l.getD k (0, 0)).1) % 8
  | [], k, h => by simp at h
  | p :: r, 0, h => by
    show ((p.2 + c) % 8 * parI b p.1 + sumT b r) % 8 = (p.2 * parI b p.1 + sumT b r + c * parI b p.1) % 8
    rcases parI_01 b p.1 with e | e <;> rw [e] <;> omega
  | p :: r, k + 1, h => by
    have ih := sumT_bump b c r k (by simpa using h)
    show (p.2 * parI b p.1 + sumT b (bump r k c)) % 8 = (p.2 * parI b p.1 + sumT b r + c * parI b (r.getD k (0, 0)).1) % 8
    omega
theorem atL_has (m : Int) : ∀ (t : List (Int × Int)) (i k : Nat), atL m i t = some k → (t.getD (k - i) (0, 0)).1 = m
  | [], i, k, h => by cases h
  | p :: r, i, k, h => by
    have hk := atL_lt m i (p :: r) k h
    rw [atL] at h
    split at h
    · rename_i hm
      injection h with h
      subst h
      rw [Nat.sub_self]
      exact by simpa using hm
    · have hk2 := atL_lt m (i + 1) r k h
      have := atL_has m r (i + 1) k h
      rw [show k - i = (k - (i + 1)) + 1 by omega]
      exact this
theorem withT_at (t : List (Int × Int)) (m : Int) : ((withT t m).getD (atT t m) (0, 0)).1 = m := by
  cases h : atL m 0 t with
  | some k =>
    obtain ⟨e1, e2⟩ := withT_has h
    rw [e1, e2]
    exact atL_has m t 0 k h
  | none =>
    obtain ⟨e1, e2⟩ := withT_new h
    have hp := plL_ge m 0 t
    rw [e1, e2, List.getD_eq_getElem?_getD, List.getElem?_append_right (by rw [List.length_take]; omega), List.length_take, show plL m 0 t - min (plL m 0 t) t.length = 0 by omega]
    rfl
theorem sumT_with (b : Int) (t : List (Int × Int)) (m : Int) : sumT b (withT t m) = sumT b t := by
  cases h : atL m 0 t with
  | some k => rw [(withT_has h).1]
  | none =>
    rw [(withT_new h).1, sumT_app, sumT]
    have := sumT_app b (t.take (plL m 0 t)) (t.drop (plL m 0 t))
    rw [List.take_append_drop] at this
    omega
theorem sumT_add (b : Int) (t : List (Int × Int)) (m c : Int) : sumT b (addT t m c) % 8 = (sumT b t + c * parI b m) % 8 := by
  unfold addT
  rw [sumT_nz, sumT_bump b c _ _ (atT_lt t m), withT_at, sumT_with]

/-- A row of bits as a number, the lowest first. -/
def valN : List Nat → Nat
  | [] => 0
  | x :: r => x + 2 * valN r
def bitN (b : Int) (o : Int × Int) : Nat := (bitO b o).toNat
theorem bitO_01 (b : Int) (o : Int × Int) : bitO b o = 0 ∨ bitO b o = 1 := by unfold bitO; omega
theorem bitN_01 (b : Int) (o : Int × Int) : bitN b o ≤ 1 := by unfold bitN; have := bitO_01 b o; omega
theorem evO_val (b : Int) {o : List (Int × Int)} (h : o.length ≤ 4) : evO b 0 o 0 = (valN (o.map (bitN b)) : Nat) := by
  have e : ∀ q, bitO b q = (bitN b q : Nat) := fun q => by unfold bitN; have := bitO_01 b q; omega
  have e0 : ∀ q, bitN b q = 0 ∨ bitN b q = 1 := fun q => by have := bitN_01 b q; omega
  match o, h with
  | [], _ => rfl
  | [o0], _ =>
    simp only [evO, List.map, valN, e]
    rcases e0 o0 with h0 | h0 <;> rw [h0] <;> decide +kernel
  | [o0, o1], _ =>
    simp only [evO, List.map, valN, e]
    rcases e0 o0 with h0 | h0 <;> rcases e0 o1 with h1 | h1 <;> rw [h0, h1] <;> decide +kernel
  | [o0, o1, o2], _ =>
    simp only [evO, List.map, valN, e]
    rcases e0 o0 with h0 | h0 <;> rcases e0 o1 with h1 | h1 <;> rcases e0 o2 with h2 | h2 <;> rw [h0, h1, h2] <;> decide +kernel
  | [o0, o1, o2, o3], _ =>
    simp only [evO, List.map, valN, e]
    rcases e0 o0 with h0 | h0 <;> rcases e0 o1 with h1 | h1 <;> rcases e0 o2 with h2 | h2 <;> rcases e0 o3 with h3 | h3 <;> rw [h0, h1, h2, h3] <;> decide +kernel
  | _ :: _ :: _ :: _ :: _ :: _, h => simp at h

def mono (g : Gt) : Bool := g.k == 1 || (g.k == 9 || (g.k == 11 || !(units g.k == 0)))
def mvX (g : Gt) (xs : List Nat) : List Nat :=
  if g.k = 1 then xs.set g.a.toNat (1 - xs.getD g.a.toNat 0)
  else if g.k = 9 then xs.set g.b.toNat ((xs.getD g.a.toNat 0 + xs.getD g.b.toNat 0) % 2)
  else if g.k = 11 then (xs.set g.a.toNat (xs.getD g.b.toNat 0)).set g.b.toNat (xs.getD g.a.toNat 0)
  else xs
def mvK (g : Gt) (xs : List Nat) : Nat := if g.k = 1 then 0 else if g.k = 9 then 0 else if g.k = 11 then 0 else (units g.k).toNat * xs.getD g.a.toNat 0
def allB : Nat → List (List Nat)
  | 0 => [[]]
  | n + 1 => (allB n).flatMap fun r => [0 :: r, 1 :: r]
theorem allB_mem : ∀ {n : Nat} {xs : List Nat}, xs.length = n → (∀ x ∈ xs, x ≤ 1) → xs ∈ allB n
  | 0, xs, h, _ => by rw [List.eq_nil_of_length_eq_zero h]; exact List.mem_singleton.2 rfl
  | n + 1, [], h, _ => by simp at h
  | n + 1, x :: r, h, hb => by
    have ih := allB_mem (n := n) (xs := r) (by simpa using h) (fun y hy => hb y (by simp [hy]))
    have hx := hb x (by simp)
    refine List.mem_flatMap.2 ⟨r, ih, ?_⟩
    obtain rfl | rfl : x = 0 ∨ x = 1 := by omega
    · simp
    · simp
def chkM (n : Nat) : Bool := (gatesN n).all fun g => !mono g || (allB n).all fun xs => decide (goes g (valN xs) = [(valN (mvX g xs), phD (mvK g xs))]) && (decide (valN xs < 2 ^ n) && (decide (mvX g (mvX g xs) = xs) && (mvX g xs).all fun x => decide (x ≤ 1)))
theorem chkM1 : chkM 1 = true := by decide +kernel
theorem chkM2 : chkM 2 = true := by decide +kernel
theorem chkM3 : chkM 3 = true := by decide +kernel
theorem chkM4 : chkM 4 = true := by decide +kernel
theorem chkM_all {n : Nat} (h : 1 ≤ n ∧ n ≤ 4) : chkM n = true := by
  obtain rfl | rfl | rfl | rfl : n = 1 ∨ n = 2 ∨ n = 3 ∨ n = 4 := by omega
  · exact chkM1
  · exact chkM2
  · exact chkM3
  · exact chkM4
theorem mv_at {n : Nat} {g : Gt} {xs : List Nat} (hg : okN n g = true) (hm : mono g = true) (hl : xs.length = n) (h01 : ∀ x ∈ xs, x ≤ 1) :
    goes g (valN xs) = [(valN (mvX g xs), phD (mvK g xs))] ∧ valN xs < 2 ^ n ∧ mvX g (mvX g xs) = xs ∧ ∀ x ∈ mvX g xs, x ≤ 1 := by
  have h := List.all_eq_true.1 (chkM_all (okN_in hg)) g (okN_mem hg)
  rw [hm] at h
  simp only [Bool.not_true, Bool.false_or] at h
  have h2 := List.all_eq_true.1 h xs (allB_mem hl h01)
  simp only [Bool.and_eq_true, decide_eq_true_eq, List.all_eq_true] at h2
  exact ⟨h2.1, h2.2.1, h2.2.2.1, h2.2.2.2⟩
theorem mvX_len (g : Gt) (xs : List Nat) : (mvX g xs).length = xs.length := by
  unfold mvX
  split
  · rw [List.length_set]
  · split
    · rw [List.length_set]
    · split
      · rw [List.length_set, List.length_set]
      · rfl
def chkX : Bool := (List.range 16).all fun a => (List.range 16).all fun c => (decide (0 ≤ bits .xor .i64 (a : Int) (c : Int)) && decide (bits .xor .i64 (a : Int) (c : Int) < 16)) && (List.range 16).all fun b => decide (parI (b : Int) (bits .xor .i64 (a : Int) (c : Int)) = (parI (b : Int) (a : Int) + parI (b : Int) (c : Int)) % 2)
theorem chkX_t : chkX = true := by decide +kernel
theorem xor_par {a c : Int} (ha : 0 ≤ a ∧ a < 16) (hc : 0 ≤ c ∧ c < 16) : (0 ≤ bits .xor .i64 a c ∧ bits .xor .i64 a c < 16) ∧ ∀ b : Nat, b < 16 → parI (b : Int) (bits .xor .i64 a c) = (parI (b : Int) a + parI (b : Int) c) % 2 := by
  have h1 := List.all_eq_true.1 (List.all_eq_true.1 chkX_t a.toNat (List.mem_range.2 (by omega))) c.toNat (List.mem_range.2 (by omega))
  rw [show ((a.toNat : Nat) : Int) = a by omega, show ((c.toNat : Nat) : Int) = c by omega] at h1
  simp only [Bool.and_eq_true, decide_eq_true_eq] at h1
  refine ⟨h1.1, fun b hb => ?_⟩
  have := List.all_eq_true.1 h1.2 b (List.mem_range.2 hb)
  simpa using this
def Mk (o : List (Int × Int)) : Prop := ∀ q ∈ o, 0 ≤ q.1 ∧ q.1 < 16
theorem at2_mk {o : List (Int × Int)} (h : Mk o) (a : Int) : 0 ≤ (at2 o a).1 ∧ (at2 o a).1 < 16 := by
  unfold at2
  rw [List.getD_eq_getElem?_getD]
  cases e : o[a.toNat]? with
  | none => exact ⟨Int.le_refl _, by decide⟩
  | some q => exact h q (List.mem_of_getElem? e)
theorem mk_set {o : List (Int × Int)} (h : Mk o) (k : Nat) (q : Int × Int) (hq : 0 ≤ q.1 ∧ q.1 < 16) : Mk (o.set k q) := by
  intro x hx
  rcases List.mem_or_eq_of_mem_set hx with h1 | h1
  · exact h x h1
  · rw [h1]; exact hq
def bitsP (b : Nat) (p : Po) : List Nat := p.o.map (bitN (b : Int))
def phP (b : Nat) (p : Po) : Int := (p.H + sumT (b : Int) p.t) % 8
theorem bits_at (b : Nat) {p : Po} {a : Int} (h : a.toNat < p.o.length) : (bitsP b p).getD a.toNat 0 = bitN (b : Int) (at2 p.o a) := by
  unfold bitsP at2
  rw [List.getD_eq_getElem?_getD, List.getD_eq_getElem?_getD, List.getElem?_map, List.getElem?_eq_getElem h]
  rfl
theorem set_map (b : Nat) (o : List (Int × Int)) (k : Nat) (q : Int × Int) : (o.set k q).map (bitN (b : Int)) = (o.map (bitN (b : Int))).set k (bitN (b : Int) q) := List.map_set
/-- One gate: the polynomial after it says what the gate does. -/
theorem act_step {p q : Po} {g : Gt} {n b : Nat} (hs : applyP p g = (q, true)) (hN : p.N = (n : Int)) (hF : Flip p.o) (hM : Mk p.o) (hb : b < 16) :
    okN n g = true ∧ mono g = true ∧ q.N = (n : Int) ∧ Flip q.o ∧ Mk q.o ∧ p.o.length = n ∧ bitsP b q = mvX g (bitsP b p) ∧ phP b q = (phP b p + mvK g (bitsP b p)) % 8 := by
  have hk : okP p g = true := applyP_okP (by rw [hs])
  obtain ⟨hg, hl⟩ := okP_parts hk
  have hab := okG_abn hg
  rw [applyP_yes hk] at hs
  have hgn : okN n g = true := by unfold okN; rw [← hN]; exact hg
  have hln : p.o.length = n := by omega
  have la : g.a.toNat < p.o.length := by omega
  have lb : g.b.toNat < p.o.length := by omega
  have fa := at2_flip hF g.a
  have fb := at2_flip hF g.b
  have ma := at2_mk hM g.a
  have mb := at2_mk hM g.b
  have ea := bits_at b (p := p) la
  have eb := bits_at b (p := p) lb
  unfold actP at hs
  by_cases h1 : (g.k == 1) = true
  · have h1' : g.k = 1 := by simpa using h1
    rw [if_pos h1] at hs
    injection hs with hs _
    subst hs
    refine ⟨hgn, by simp [mono, h1'], hN, flip_set hF _ _ _ ?_, mk_set hM _ _ ma, hln, ?_, ?_⟩
    · unfold wrap64; omega
    · unfold bitsP at ea ⊢
      show (p.o.set _ _).map _ = _
      unfold mvX
      rw [if_pos h1', set_map, ea]
      congr 1
      unfold bitN bitO wrap64
      simp only
      omega
    · unfold mvK
      rw [if_pos h1']
      show (p.H + sumT b p.t) % 8 = ((p.H + sumT b p.t) % 8 + ((0 : Nat) : Int)) % 8
      omega
  · have h1' : ¬ g.k = 1 := by simpa using h1
    rw [if_neg h1] at hs
    by_cases h2 : (g.k == 9) = true
    · have h2' : g.k = 9 := by simpa using h2
      rw [if_pos h2] at hs
      injection hs with hs _
      subst hs
      obtain ⟨x1, x2⟩ := xor_par ma mb
      refine ⟨hgn, by simp [mono, h2'], hN, flip_set hF _ _ _ (xor01 fa fb), mk_set hM _ _ x1, hln, ?_, ?_⟩
      · unfold bitsP at ea eb ⊢
        show (p.o.set _ _).map _ = _
        unfold mvX
        rw [if_neg h1', if_pos h2', set_map, ea, eb]
        congr 1
        have xb := x2 b hb
        unfold parI at xb
        have xf : bits .xor .i64 (at2 p.o g.a).2 (at2 p.o g.b).2 = ((at2 p.o g.a).2 + (at2 p.o g.b).2) % 2 := by
          have := xor2 (at2 p.o g.a).2 (at2 p.o g.b).2
          rw [show (at2 p.o g.a).2 % 2 = (at2 p.o g.a).2 by omega, show (at2 p.o g.b).2 % 2 = (at2 p.o g.b).2 by omega] at this
          exact this
        unfold bitN bitO
        simp only
        rw [xf]
        omega
      · unfold mvK
        rw [if_neg h1', if_pos h2']
        show (p.H + sumT b p.t) % 8 = ((p.H + sumT b p.t) % 8 + ((0 : Nat) : Int)) % 8
        omega
    · have h2' : ¬ g.k = 9 := by simpa using h2
      rw [if_neg h2] at hs
      by_cases h3 : (g.k == 11) = true
      · have h3' : g.k = 11 := by simpa using h3
        rw [if_pos h3] at hs
        injection hs with hs _
        subst hs
        refine ⟨hgn, by simp [mono, h3'], hN, flip_set (flip_set hF _ _ _ fb) _ _ _ fa, mk_set (mk_set hM _ _ mb) _ _ ma, hln, ?_, ?_⟩
        · unfold bitsP at ea eb ⊢
          show ((p.o.set _ _).set _ _).map _ = _
          unfold mvX
          rw [if_neg h1', if_neg h2', if_pos h3', set_map, set_map, ea, eb]
        · unfold mvK
          rw [if_neg h1', if_neg h2', if_pos h3']
          show (p.H + sumT b p.t) % 8 = ((p.H + sumT b p.t) % 8 + ((0 : Nat) : Int)) % 8
          omega
      · have h3' : ¬ g.k = 11 := by simpa using h3
        rw [if_neg h3] at hs
        by_cases h4 : (units g.k == 0) = true
        · rw [if_pos h4] at hs
          injection hs with _ hs
          cases hs
        · rw [if_neg h4] at hs
          have hu : 0 ≤ units g.k := by rcases units_cases g.k with h | h | h | h | h | h <;> omega
          have hmo : mono g = true := by
            unfold mono
            rw [show (units g.k == 0) = false by simpa using h4]
            simp
          have emv : mvX g (bitsP b p) = bitsP b p := by unfold mvX; rw [if_neg h1', if_neg h2', if_neg h3']
          have ek : mvK g (bitsP b p) = (units g.k).toNat * bitN (b : Int) (at2 p.o g.a) := by unfold mvK; rw [if_neg h1', if_neg h2', if_neg h3', ea]
          have e2 : ((mvK g (bitsP b p) : Nat) : Int) = units g.k * bitO (b : Int) (at2 p.o g.a) := by
            rw [ek, Int.natCast_mul]
            congr 1
            · omega
            · unfold bitN
              have := bitO_01 (b : Int) (at2 p.o g.a)
              omega
          have eb2 : bitO (b : Int) (at2 p.o g.a) = (parI (b : Int) (at2 p.o g.a).1 + (at2 p.o g.a).2) % 2 := by unfold bitO parI; omega
          have hp := parI_01 (b : Int) (at2 p.o g.a).1
          by_cases h5 : ((at2 p.o g.a).2 == 0) = true
          · rw [if_pos h5] at hs
            injection hs with hs _
            subst hs
            have hf : (at2 p.o g.a).2 = 0 := by simpa using h5
            refine ⟨hgn, hmo, hN, hF, hM, hln, emv.symm, ?_⟩
            rw [e2, eb2, hf]
            have hs := sumT_add (b : Int) p.t (at2 p.o g.a).1 (units g.k)
            show (p.H + sumT b (addT p.t (at2 p.o g.a).1 (units g.k))) % 8 = ((p.H + sumT b p.t) % 8 + _) % 8
            rcases hp with hp | hp <;> rw [hp] at hs ⊢ <;> simp only [Int.mul_zero, Int.mul_one, Int.add_zero, Int.zero_emod, show (1 : Int) % 2 = 1 from rfl] at hs ⊢ <;> omega
          · rw [if_neg h5] at hs
            injection hs with hs _
            subst hs
            have hf : (at2 p.o g.a).2 = 1 := by
              rcases fa with h | h
              · exact absurd (by simpa using h) h5
              · exact h
            refine ⟨hgn, hmo, hN, hF, hM, hln, emv.symm, ?_⟩
            rw [e2, eb2, hf]
            have hs := sumT_add (b : Int) p.t (at2 p.o g.a).1 (-units g.k)
            show ((p.H + units g.k) % 8 + sumT b (addT p.t (at2 p.o g.a).1 (-units g.k))) % 8 = ((p.H + sumT b p.t) % 8 + _) % 8
            rcases hp with hp | hp <;> rw [hp] at hs ⊢ <;> simp only [Int.mul_zero, Int.mul_one, Int.zero_add, Int.add_zero, show (1 : Int) % 2 = 1 from rfl, show ((1 : Int) + 1) % 2 = 0 from rfl] at hs ⊢ <;> omega
theorem bitsP_01 (b : Nat) (p : Po) : ∀ x ∈ bitsP b p, x ≤ 1 := by
  intro x hx
  obtain ⟨q, _, rfl⟩ := List.mem_map.1 hx
  exact bitN_01 _ _
theorem bitsP_len (b : Nat) (p : Po) : (bitsP b p).length = p.o.length := by unfold bitsP; rw [List.length_map]
def mvs : List Gt → List Nat → List Nat
  | [], xs => xs
  | g :: r, xs => mvs r (mvX g xs)
/-- Gates one behind another. -/
theorem acts_run {n : Nat} : ∀ (gs : List Gt) (p q : Po), compL p gs = (q, true) → p.N = (n : Int) → p.o.length = n → 1 ≤ n ∧ n ≤ 4 → Flip p.o → Mk p.o →
    (∀ g ∈ gs, okN n g = true ∧ mono g = true) ∧ q.N = (n : Int) ∧ q.o.length = n ∧ ∀ b, b < 16 → bitsP b q = mvs gs (bitsP b p) ∧ (∃ k : Nat, phP b q = (phP b p + k) % 8 ∧ actG gs (eN (2 ^ n) (valN (bitsP b p))) = scl (phZ k) (eN (2 ^ n) (valN (bitsP b q)))) ∧ valN (bitsP b q) < 2 ^ n
  | [], p, q, hc, hN, hl, hn, hF, hM => by
    injection hc with hc _
    subst hc
    refine ⟨by simp, hN, hl, fun b hb => ⟨rfl, ⟨0, ?_, ?_⟩, ?_⟩⟩
    · unfold phP; omega
    · rw [scl_0]; rfl
    · have hx : bitsP b p ∈ allB n := allB_mem (by rw [bitsP_len, hl]) (bitsP_01 b p)
      have : ∀ m : Nat, ∀ xs : List Nat, xs.length = m → (∀ x ∈ xs, x ≤ 1) → valN xs < 2 ^ m := by
        intro m
        induction m with
        | zero => intro xs h _; rw [List.eq_nil_of_length_eq_zero h]; decide
        | succ m ih =>
          intro xs h h1
          match xs, h with
          | x :: r, h =>
            have h2 := ih r (by simpa using h) (fun y hy => h1 y (by simp [hy]))
            have h3 := h1 x (by simp)
            show x + 2 * valN r < 2 ^ (m + 1)
            rw [Nat.pow_succ]
            omega
      exact this n _ (by rw [bitsP_len, hl]) (bitsP_01 b p)
  | g :: r, p, q, hc, hN, hl, hn, hF, hM => by
    obtain ⟨h1, _⟩ := compL_ok (p := p) (g := g) (r := r) (by rw [hc])
    obtain ⟨p1, hp1⟩ : ∃ p1, applyP p g = (p1, true) := ⟨_, Prod.ext rfl h1⟩
    have hp2 : compL p1 r = (q, true) := by rw [compL_go (by rw [hp1]), hp1] at hc; exact hc
    obtain ⟨a1, a2, a3, a4, a5, a6, _, _⟩ := act_step (b := 0) hp1 hN hF hM (by omega)
    have l1 : p1.o.length = n := by
      have e7 := (act_step (b := 0) hp1 hN hF hM (by omega)).2.2.2.2.2.2.1
      have := congrArg List.length e7
      rw [mvX_len, bitsP_len, bitsP_len] at this
      omega
    obtain ⟨i1, i2, i3, i4⟩ := acts_run r p1 q hp2 a3 l1 hn a4 a5
    refine ⟨fun x hx => ?_, i2, i3, fun b hb => ?_⟩
    · rcases List.mem_cons.1 hx with rfl | hx
      · exact ⟨a1, a2⟩
      · exact i1 x hx
    · obtain ⟨j1, ⟨k, j2, j3⟩, j4⟩ := i4 b hb
      obtain ⟨_, _, _, _, _, _, s1, s2⟩ := act_step (b := b) hp1 hN hF hM hb
      obtain ⟨m1, m2, m3, m4⟩ := mv_at a1 a2 (xs := bitsP b p) (by rw [bitsP_len, hl]) (bitsP_01 b p)
      have m5 := (mv_at a1 a2 (xs := mvX g (bitsP b p)) (by rw [mvX_len, bitsP_len, hl]) m4).2.1
      refine ⟨?_, ⟨mvK g (bitsP b p) + k, ?_, ?_⟩, j4⟩
      · rw [j1, s1]; rfl
      · rw [j2, s2, Int.natCast_add]; omega
      · show actG r (act g _) = _
        rw [act_unit m2 m5 m1, (actG_linN r (fun x hx => (i1 x hx).1)).2.1 _ _ (eN_len _ _), ← s1, j3, scl_ph, Nat.add_comm k]
def chkI (n : Nat) : Bool := (List.range (2 ^ n)).all fun b => decide (valN ((idO n).map (bitN (b : Int))) = b)
theorem chkI_all {n : Nat} (h : 1 ≤ n ∧ n ≤ 4) : chkI n = true := by
  obtain rfl | rfl | rfl | rfl : n = 1 ∨ n = 2 ∨ n = 3 ∨ n = 4 := by omega
  all_goals decide +kernel
theorem pow_le16 {n : Nat} (h : n ≤ 4) : 2 ^ n ≤ 16 := Nat.pow_le_pow_right (n := 2) (by omega) h
theorem idP_mk {n : Nat} (h : 1 ≤ n ∧ n ≤ 4) : idP (n : Int) = ⟨n, 0, [], idO n⟩ ∧ Mk (idO n) ∧ Flip (idO n) := by
  refine ⟨?_, ?_, ?_⟩
  · unfold idP
    rw [if_pos (inB_t (by omega) (by omega)), Int.toNat_natCast]
  · intro q hq
    simp only [idO, List.mem_map] at hq
    obtain ⟨i, hi, rfl⟩ := hq
    have := List.mem_range.1 hi
    obtain rfl | rfl | rfl | rfl : i = 0 ∨ i = 1 ∨ i = 2 ∨ i = 3 := by omega
    all_goals decide
  · intro q hq
    simp only [idO, List.mem_map] at hq
    obtain ⟨i, _, rfl⟩ := hq
    exact .inl rfl
/-- The polynomial of a row of gates says what they do to every basis state. -/
theorem poly_acts {gs : List Gt} {n : Nat} {M : Po} (h : compP gs (n : Int) = (M, true)) :
    (1 ≤ n ∧ n ≤ 4) ∧ (∀ g ∈ gs, okN n g = true ∧ mono g = true) ∧ M.N = (n : Int) ∧ M.o.length = n ∧
    (∀ b, b < 2 ^ n → actG gs (eN (2 ^ n) b) = scl (phZ (phP b M).toNat) (eN (2 ^ n) (valN (bitsP b M))) ∧ valN (bitsP b M) < 2 ^ n) ∧
    (∀ b c, b < 2 ^ n → c < 2 ^ n → valN (bitsP b M) = valN (bitsP c M) → b = c) := by
  obtain ⟨hin, hc⟩ := compP_in h
  obtain ⟨n1, n4⟩ := inB_iff.1 hin
  have hn : 1 ≤ n ∧ n ≤ 4 := by omega
  have h16 := pow_le16 hn.2
  obtain ⟨e0, mk, fl⟩ := idP_mk hn
  rw [e0] at hc
  obtain ⟨i1, i2, i3, i4⟩ := acts_run gs ⟨n, 0, [], idO n⟩ M hc rfl (by rw [idO_len]) hn fl mk
  have hid : ∀ b, b < 2 ^ n → valN (bitsP b ⟨n, 0, [], idO n⟩) = b := by
    intro b hb
    have := List.all_eq_true.1 (chkI_all hn) b (List.mem_range.2 hb)
    exact of_decide_eq_true this
  refine ⟨hn, i1, i2, i3, fun b hb => ?_, fun b c hb hc' he => ?_⟩
  · obtain ⟨j1, ⟨k, j2, j3⟩, j4⟩ := i4 b (by omega)
    refine ⟨?_, j4⟩
    rw [hid b hb] at j3
    rw [j3]
    have e : phP b ⟨n, 0, [], idO n⟩ = 0 := rfl
    rw [e] at j2
    have : phZ (phP b M).toNat = phZ k := by
      rw [j2, show ((0 + (k : Int)) % 8).toNat = k % 8 by omega]
      unfold phZ
      rw [Nat.mod_mod]
    rw [this]
  · have vinj : ∀ m : Nat, ∀ xs ys : List Nat, xs.length = m → ys.length = m → (∀ x ∈ xs, x ≤ 1) → (∀ x ∈ ys, x ≤ 1) → valN xs = valN ys → xs = ys := by
      intro m
      induction m with
      | zero => intro xs ys h1 h2 _ _ _; rw [List.eq_nil_of_length_eq_zero h1, List.eq_nil_of_length_eq_zero h2]
      | succ m ih =>
        intro xs ys h1 h2 b1 b2 hv
        match xs, ys, h1, h2 with
        | x :: r, y :: s, h1, h2 =>
          have c1 := b1 x (by simp)
          have c2 := b2 y (by simp)
          have hv2 : x + 2 * valN r = y + 2 * valN s := hv
          have := ih r s (by simpa using h1) (by simpa using h2) (fun z hz => b1 z (by simp [hz])) (fun z hz => b2 z (by simp [hz])) (by omega)
          rw [this, show x = y by omega]
    have hmv : ∀ (l : List Gt) (xs ys : List Nat), (∀ g ∈ l, okN n g = true ∧ mono g = true) → xs.length = n → ys.length = n → (∀ x ∈ xs, x ≤ 1) → (∀ x ∈ ys, x ≤ 1) → mvs l xs = mvs l ys → xs = ys := by
      intro l
      induction l with
      | nil => intro xs ys _ _ _ _ _ h; exact h
      | cons g r ih =>
        intro xs ys hg h1 h2 b1 b2 hh
        obtain ⟨g1, g2⟩ := hg g (by simp)
        obtain ⟨_, _, m3, m4⟩ := mv_at g1 g2 h1 b1
        obtain ⟨_, _, k3, k4⟩ := mv_at g1 g2 h2 b2
        have := ih (mvX g xs) (mvX g ys) (fun x hx => hg x (by simp [hx])) (by rw [mvX_len, h1]) (by rw [mvX_len, h2]) m4 k4 hh
        rw [← m3, ← k3, this]
    obtain ⟨j1, _, _⟩ := i4 b (by omega)
    obtain ⟨k1, _, _⟩ := i4 c (by omega)
    have e1 := vinj n (bitsP b M) (bitsP c M) (by rw [bitsP_len, i3]) (by rw [bitsP_len, i3]) (bitsP_01 _ _) (bitsP_01 _ _) he
    rw [j1, k1] at e1
    have e2 := hmv gs _ _ i1 (by rw [bitsP_len]; exact idO_len n) (by rw [bitsP_len]; exact idO_len n) (bitsP_01 _ _) (bitsP_01 _ _) e1
    rw [← hid b hb, ← hid c hc', e2]
theorem evO_to {b : Nat} {p : Po} (h : p.o.length ≤ 4) : evO (b : Int) 0 p.o 0 = (valN (bitsP b p) : Nat) := evO_val _ h
theorem evT_ph (b : Nat) (p : Po) : evT (b : Int) p.t p.H % 8 = phP b p := evT_sum _ _ _
theorem mono_hc {g : Gt} (h : mono g = true) : hc g = 0 := by
  unfold hc
  split
  · rename_i h4
    unfold mono at h
    rw [h4] at h
    exact absurd h (by decide)
  · rfl
theorem mono_hcs : ∀ {gs : List Gt}, (∀ g ∈ gs, mono g = true) → hcs gs = 0
  | [], _ => rfl
  | g :: r, h => by
    show hc g + hcs r = 0
    rw [mono_hc (h g (by simp)), mono_hcs (fun x hx => h x (by simp [hx]))]
end Go.Proofs.Ytibhikngiceeeaa
namespace Go.Proofs.Ytibhikngiceeeaa
open Go.RowKit
set_option linter.unusedVariables false

section
variable {P : Program} {w : World}
theorem wpList_appOne {ops : Array Oper} {rest : List Oper} {o : Oper} {a : Act} {Q : Exit → Act → World → Prop} (hgd : o.guard = none) (s x : Operand) (t : TypeId)
    (ho : o.op = .call { callee := .builtin .append, args := #[s, x], argTypes := #[t, t] })
    {base e : Nat} {z : Value} {bytes : Nat} (ht : P.underlying t = some (.slice e)) (hinfo : (P.info? e).map (fun i => (i.zero, i.size, i.bytes)) = some (some z, 1, bytes))
    (hzs : z.cells.size = 1) {A : Option Addr} {n c : Nat} {xs : List Value} (hs : a.eval s = .slice A n c) (hown : w.ownsRow base e 1 (.slice A n c) n xs)
    {B : Nat} {u : Value} (hx : a.eval x = .slice (some ⟨B, 0, none⟩) 1 1) (hB : Bx w B e #[u]) (h1 : u.oneCell' = true) (hn : n ≤ 1000) (hbytes : bytes ≤ 1000) (hbase : base ≤ w.heap.size)
    (h : ∀ g cap w', w'.ownsRow base e 1 (.slice (some ⟨g, 0, none⟩) (n + 1) cap) (n + 1) (xs ++ [u]) → w.grownBy w' (Value.slice A n c).ownBlock → ((Value.slice A n c).ownBlock = some g ∨ g = w.heap.size) → wpList P ops Q rest (a.put o.dst (.slice (some ⟨g, 0, none⟩) (n + 1) cap)) w') : wpList P ops Q (o :: rest) a w := by
  obtain ⟨i, hi, hz, hs', hby⟩ := info_parts hinfo
  have hm : (n + 1) * bytes ≤ 1001 * 1000 := Nat.mul_le_mul (by omega) hbytes
  exact wpList_append_lies w hgd s x t ho base e i z 1 bytes ht hi hz hs' hby hzs (by omega) _ n xs hs hown ⟨B, 0, none⟩ 1 1 [u] hx rfl (World.news_of_block hB) (by simpa using h1) (by omega) (by unfold maxLen; omega) (by omega) hbase _ rfl (fun g cap w' q1 q2 q3 _ => h g cap w' q1 q2 q3)
end
theorem own_own_ne' {w : World} {b b' : Nat} {e e' : TypeId} {sz sz' n n' : Nat} {v v' : Value} {xs xs' : List Value} (h : w.ownsRow b e sz v n xs) (h' : w.ownsRow b' e' sz' v' n' xs') (hne : e ≠ e') : v.ownBlock = none ∨ v.ownBlock ≠ v'.ownBlock := by
  rcases h.2 with ⟨rfl, _⟩ | ⟨g, cap, cur, rfl, _, hh, _⟩
  · exact .inl rfl
  · right
    intro he
    rcases h'.2 with ⟨rfl, _⟩ | ⟨g', cap', cur', rfl, _, hh', _⟩
    · cases he
    · simp only [Value.ownBlock, Option.some.injEq] at he
      subst he
      rw [hh] at hh'
      injection hh' with hh'
      injection hh' with _ h2
      exact hne h2
/-- A row of rows of numbers, all of the call's own. -/
def RowsD (w : World) (base g n c : Nat) (l : List (List Dw)) : Prop :=
  l.length = n ∧ ∃ vs : List Value, w.ownsRow base 79 1 (.slice (some ⟨g, 0, none⟩) n c) n vs ∧ ∀ (j : Nat) (x : List Dw), l[j]? = some x → ∃ B c', vs[j]? = some (Value.slice B x.length c') ∧ w.ownsRow base 83 5 (.slice B x.length c') x.length (cellsD x)
section
variable {w w' : World} {base g n c : Nat} {l : List (List Dw)}
theorem RowsD.below (h : RowsD w base g n c l) (hb : Below w.heap.size w w') : RowsD w' base g n c l := by
  obtain ⟨hl, vs, h1, h2⟩ := h
  exact ⟨hl, vs, ownsRow_below h1 hb, fun j x hx => (h2 j x hx).imp fun B h => h.imp fun c' h => ⟨h.1, ownsRow_below h.2 hb⟩⟩
theorem RowsD.rd (h : RowsD w base g n c l) : RdSS cellsD w 5 (some ⟨g, 0, none⟩) n l := by
  obtain ⟨hl, vs, h1, h2⟩ := h
  exact ⟨hl, vs, Rd.own h1, fun j x hx => (h2 j x hx).imp fun B h => h.imp fun c' h => ⟨h.1, ownsRow_cap h.2, Rd.own h.2⟩⟩
theorem RowsD.lt (h : RowsD w base g n c l) : g < w.heap.size := by
  obtain ⟨hl, vs, h1, h2⟩ := h
  exact (h1.lt g rfl).2
theorem RowsD.other {k : Nat} (h : RowsD w base g n c l) (hg : w.grownBy w' (some k)) (hne : g ≠ k) (ht : ∀ B m cc x, w.ownsRow base 83 5 (.slice B m cc) m x → (Value.slice B m cc).ownBlock = none ∨ (Value.slice B m cc).ownBlock ≠ some k) : RowsD w' base g n c l := by
  obtain ⟨hl, vs, h1, h2⟩ := h
  exact ⟨hl, vs, h1.kept hg (.inr fun e => hne (by injection e)), fun j x hx => (h2 j x hx).imp fun B h => h.imp fun c' h => ⟨h.1, h.2.kept hg (ht _ _ _ _ h.2)⟩⟩
theorem RowsD.app {g' c' n0 : Nat} {B : Option Addr} {cx : Nat} {x : List Dw} {vs : List Value} (hl : l.length = n) (h1 : w.ownsRow base 79 1 (.slice (some ⟨g, 0, none⟩) n c) n vs) (h2 : ∀ (j : Nat) (x : List Dw), l[j]? = some x → ∃ B c', vs[j]? = some (Value.slice B x.length c') ∧ w.ownsRow base 83 5 (.slice B x.length c') x.length (cellsD x))
    (hx0 : x.length = n0) (hx : w.ownsRow base 83 5 (.slice B n0 cx) n0 (cellsD x)) (ho : w'.ownsRow base 79 1 (.slice (some ⟨g', 0, none⟩) (n + 1) c') (n + 1) (vs ++ [.slice B n0 cx])) (hg : w.grownBy w' (Value.slice (some ⟨g, 0, none⟩) n c).ownBlock) : RowsD w' base g' (n + 1) c' (l ++ [x]) := by
  subst hx0
  have hvl : vs.length = n := by have := h1.1; omega
  refine ⟨by simp [hl], vs ++ [.slice B x.length cx], ho, fun j y hy => ?_⟩
  rcases Nat.lt_or_ge j n with hj | hj
  · rw [List.getElem?_append_left (by omega)] at hy
    obtain ⟨B', c2, a1, a2⟩ := h2 j y hy
    exact ⟨B', c2, by rw [List.getElem?_append_left (by omega)]; exact a1, a2.kept hg (own_own_ne' a2 h1 (by decide))⟩
  · rw [List.getElem?_append_right (by omega)] at hy
    have hj0 : j = n := by
      have := (List.getElem?_eq_some_iff.1 hy).1
      simp at this
      omega
    subst hj0
    rw [hl, Nat.sub_self] at hy
    obtain rfl : x = y := by simpa using hy
    exact ⟨B, cx, by rw [List.getElem?_append_right (by omega), hvl, Nat.sub_self]; rfl, hx.kept hg (own_own_ne' hx h1 (by decide))⟩
theorem RowsD.alloc (h : RowsD w base g n c l) (o : Obj) : RowsD (w.alloc o) base g n c l := h.below ((Below.refl _ _).alloc (Nat.le_refl _) _)
end
theorem ap_ne {gx gy g1 k cx : Nat} {w : World} {o : Obj} (hne : gx ≠ gy) (ly : gy < w.heap.size) (e : (Value.slice (some ⟨gx, 0, none⟩) k cx).ownBlock = some g1 ∨ g1 = (w.alloc o).heap.size) : g1 ≠ gy := by
  rcases e with e | e
  · have e' : some gx = some g1 := e
    injection e' with e'
    omega
  · have : (w.alloc o).heap.size = w.heap.size + 1 := by simp
    omega
theorem appGL_len : ∀ (gs : List Gt) (v o : List Dw), appGL gs v = some o → o.length = v.length
  | [], v, o, h => by rw [appGL] at h; injection h with h; rw [h]
  | g :: r, v, o, h => by
    rw [appGL] at h
    cases hq : appG g v with
    | none => rw [hq] at h; cases h
    | some o2 => rw [hq] at h; rw [appGL_len r _ _ h, appG_len hq]
theorem appGs_len {gs : List Gt} {v o : List Dw} (h : appGs gs v = some o) : o.length = v.length := by
  unfold appGs at h
  split at h
  · exact appGL_len _ _ _ h
  · cases h
/-- What both lists do, state by state. -/
def outU (gs : List Gt) (q i : Nat) : List Dw := (appGs gs (basis q i)).getD []
theorem outU_law {a b : List Gt} {q : Nat} (h : sameAll a b q = true) {i : Nat} (hi : i < 2 ^ q) : appGs a (basis q i) = some (outU a q i) ∧ appGs b (basis q i) = some (outU a q i) ∧ (outU a q i).length = 2 ^ q ∧ ∀ v ∈ outU a q i, okD v = true := by
  obtain ⟨u, h1, h2, h3⟩ := sameAll_at h hi
  have e : outU a q i = u := by unfold outU; rw [h1]; rfl
  rw [e]
  refine ⟨h1, h2, ?_, ?_⟩
  · rw [appGs_len h1]; simp [basis]
  · simp only [okS, Bool.and_eq_true, List.all_eq_true] at h3
    exact h3.1
theorem rows_succ (f : Nat → List Dw) (k : Nat) : (List.range (k + 1)).map f = (List.range k).map f ++ [f k] := by rw [List.range_succ, List.map_append]; rfl

set_option maxRecDepth 100000 in
set_option maxHeartbeats 6400000 in
theorem l_apart3 (A : Option Addr) (n ca : Nat) (a : List Gt) (B : Option Addr) (m cb : Nat) (b : List Gt) (w : World) (ha : RdG w A n a) (hb : RdG w B m b) (hn : n ≤ 1048576) (hm : m ≤ 1048576) (hs : sameAll a b 3 = true) : Calls Try.prog 31 #[.slice A n ca, .slice B m cb, .int .i64 3] w fun e w' => e = .returned (.tuple #[.int .i64 0, .bool true]) ∧ Below w.heap.size w w' := by
  have HA := Lib.hid ha
  have HB := Lib.hid hb
  have HS := Lib.hid (fun i (hi : i < 8) => outU_law (i := i) hs (by simpa using hi))
  obtain ⟨U, hU⟩ : ∃ U : Nat → List Dw, outU a 3 = U := ⟨_, rfl⟩
  rw [hU] at HS
  have X0 := Lib.hid (show RowsD ((w.alloc (.cells #[] 79)).alloc (.cells #[] 79)) w.heap.size w.heap.size 0 0 ((List.range 0).map U) from ⟨rfl, [], (World.ownsRow_lit w #[] 0 (Nat.le_refl _) (by simp [maxLen]) rfl).alloc _, fun j x hx => by simp at hx⟩)
  have Y0 := Lib.hid (show RowsD ((w.alloc (.cells #[] 79)).alloc (.cells #[] 79)) w.heap.size (w.heap.size + 1) 0 0 ((List.range 0).map U) from ⟨rfl, [], ownsRow_lit' _ #[] 0 (by simp) (by simp) (by simp [maxLen]) rfl rfl, fun j x hx => by simp at hx⟩)
  have B0 := Lib.hid (show Below w.heap.size w ((w.alloc (.cells #[] 79)).alloc (.cells #[] 79)) from ((Below.refl _ _).alloc (Nat.le_refl _) _).alloc (by simp) _)
  clear ha hb hs hU
  go_enter Try.func31, Try.ntmps31
  go_wp2_with fail
  go_loopg [8, 9, 10] 8 (fun r xs ys i wr => ∃ (k gx cx gy cy : Nat), k + r = 8 ∧ i = .int .i64 k ∧ xs = .slice (some ⟨gx, 0, none⟩) k cx ∧ ys = .slice (some ⟨gy, 0, none⟩) k cy ∧ gx ≠ gy ∧ RowsD wr w.heap.size gx k cx ((List.range k).map U) ∧ RowsD wr w.heap.size gy k cy ((List.range k).map U) ∧ Below w.heap.size w wr)
  case atStart => exact ⟨0, w.heap.size, 0, w.heap.size + 1, 0, by omega, rfl, rfl, rfl, by omega, X0.out, Y0.out, B0.out⟩
  case round =>
    obtain ⟨k, gx, cx, gy, cy, hk, rfl, rfl, rfl, hne, hx, hy, hbb⟩ := hrel
    have RX := Lib.hid hx
    have RY := Lib.hid hy
    have BB := Lib.hid hbb
    clear hx hy hbb X0 Y0 B0
    by_cases hlt : k < 8
    · obtain ⟨u1, u2, u3, u4⟩ := HS.out k hlt
      obtain ⟨u, hu⟩ : ∃ u, U k = u := ⟨_, rfl⟩
      rw [hu] at u1 u2 u3 u4
      have U1 := Lib.hid u1
      have U2 := Lib.hid u2
      have U3 := Lib.hid (show u.length = 8 from u3)
      have HU := Lib.hid hu
      clear u1 u2 u3 u4 hu
      go_wp2_with fail
      refine (s_Basis 3 k _ (by omega) (by omega) hlt).mono ?_
      rintro e w3 ⟨A3, c3, rfl, o3, b3⟩
      have R3 := Lib.hid (show RdD w3 A3 8 (basis 3 k) from RdD.own o3)
      clear o3
      go_wp2_with fail
      refine (s_ApplyGs _ n _ a _ 8 _ 3 _ u _ ((HA.out.below BB.out).below b3) hn R3.out (by omega) (by omega) (by decide) U1.out).mono ?_
      rintro e w4 ⟨A4, c4, rfl, o4, b4⟩
      have V4 := below_trans b3 b4
      have O4 := Lib.hid (ownsRow_base o4 (show w.heap.size ≤ w3.heap.size from Nat.le_trans BB.out.size b3.size))
      have RX4 := Lib.hid (RX.out.below V4)
      have RY4 := Lib.hid (RY.out.below V4)
      have B4 := Lib.hid (BB.out.trans (V4.mono BB.out.size))
      clear o4 b3 b4 V4 R3 RX RY BB
      go_wp2_with fail
      refine (s_Basis 3 k _ (by omega) (by omega) hlt).mono ?_
      rintro e w5 ⟨A5, c5, rfl, o5, b5⟩
      have R5 := Lib.hid (show RdD w5 A5 8 (basis 3 k) from RdD.own o5)
      clear o5
      go_wp2_with fail
      refine (s_ApplyGs _ m _ b _ 8 _ 3 _ u _ ((HB.out.below B4.out).below b5) hm R5.out (by omega) (by omega) (by decide) U2.out).mono ?_
      rintro e w6 ⟨A6, c6, rfl, o6, b6⟩
      have V6 := below_trans b5 b6
      have O6 := Lib.hid (ownsRow_base o6 (show w.heap.size ≤ w5.heap.size from Nat.le_trans B4.out.size b5.size))
      have P4 := Lib.hid (ownsRow_below O4.out V6)
      have RX6 := Lib.hid (RX4.out.below V6)
      have RY6 := Lib.hid (RY4.out.below V6)
      have B6 := Lib.hid (B4.out.trans (V6.mono B4.out.size))
      clear o6 b5 b6 V6 R5 O4 RX4 RY4 B4
      have lx := RX6.out.lt
      have ly := RY6.out.lt
      have bs := B6.out.size
      obtain ⟨hlx, vx, rx1, rx2⟩ := RX6.out
      obtain ⟨hly, vy, ry1, ry2⟩ := RY6.out
      have AX1 := Lib.hid (rx1.alloc (.cells #[.slice A4 8 c4] 79))
      have RY6a := Lib.hid (RY6.out.alloc (.cells #[.slice A4 8 c4] 79))
      have IX := Lib.hid (show ∀ (j : Nat) (x : List Dw), ((List.range k).map U)[j]? = some x → ∃ B c', vx[j]? = some (Value.slice B x.length c') ∧ (w6.alloc (.cells #[.slice A4 8 c4] 79)).ownsRow w.heap.size 83 5 (.slice B x.length c') x.length (cellsD x) from fun j x hx => (rx2 j x hx).imp fun B h => h.imp fun c' h => ⟨h.1, h.2.alloc _⟩)
      have PA := Lib.hid (P4.out.alloc (.cells #[.slice A4 8 c4] 79))
      have OA := Lib.hid (O6.out.alloc (.cells #[.slice A4 8 c4] 79))
      have BA := Lib.hid (B6.out.alloc bs (.cells #[.slice A4 8 c4] 79))
      clear rx1 rx2 ry1 ry2 hly vy
      go_wp2_with (first
        | (at_builtin; refine wpList_appOne rfl (.tmp 46) (.tmp 48) 27 rfl Try.underlying27 infoDOmegaS rfl rfl AX1.out rfl (Bx.new w6 _ _) rfl (by omega) (by decide) (by simp; omega) ?_; intro g1 cap1 w7 p7 g7 e7; have RX7 := RowsD.app hlx AX1.out IX.out U3.out PA.out p7 g7; have RY7 := RY6a.out.other g7 (fun e => hne e.symm) (fun B m cc x hx => own_own_ne' hx AX1.out (by decide)); have O7 := OA.out.kept g7 (own_own_ne' OA.out AX1.out (by decide)); have B7 := below_grown BA.out (by simp; omega) AX1.out (Nat.le_refl _) g7; have ne7 := ap_ne hne ly e7; have ⟨hly, vy, ry1, ry2⟩ := RY7; have bs7 := B7.size)
        | (at_builtin; refine wpList_appOne rfl (.tmp 50) (.tmp 52) 27 rfl Try.underlying27 infoDOmegaS rfl rfl (ry1.alloc _) rfl (Bx.new w7 _ _) rfl (by omega) (by decide) (by simp; omega) ?_; intro g2 cap2 w8 p8 g8 e8)
        | fail)
      go_roundg (gk - 1)
      case measure => omega
      case rel =>
        refine ⟨k + 1, g1, cap1, g2, cap2, by omega, by go_num, rfl, rfl, ?_, ?_, ?_, below_grown (B7.alloc bs7 _) (by simp; omega) (ry1.alloc _) (Nat.le_refl _) g8⟩
        · exact (ap_ne (fun e => ne7 e.symm) RX7.lt e8).symm
        · rw [rows_succ, HU.out]
          exact (RX7.alloc _).other g8 ne7 (fun B m cc x hx => own_own_ne' hx (ry1.alloc _) (by decide))
        · rw [rows_succ, HU.out]
          exact RowsD.app hly (ry1.alloc _) (fun j x hx => (ry2 j x hx).imp fun B h => h.imp fun c' h => ⟨h.1, h.2.alloc _⟩) U3.out (O7.alloc _) p8 g8
    · obtain rfl : k = 8 := by omega
      have HLL := Lib.hid (show ∀ x ∈ (List.range 8).map U, x.length = 8 ∧ ∀ v ∈ x, okD v = true from fun x hx => by
        obtain ⟨j, hj, rfl⟩ := List.mem_map.1 hx
        obtain ⟨_, _, h3, h4⟩ := HS.out j (List.mem_range.1 hj)
        exact ⟨h3, h4⟩)
      go_wp2_with fail
      refine (s_GPhase _ 8 _ 3 _ _ ((List.range 8).map U) _ RX.out.rd RY.out.rd (by omega) (by omega) (by decide) HLL.out).mono ?_
      rintro e w9 ⟨rfl, b9⟩
      go_wp2_with fail
      exact bodyPost_ret (v := .tuple #[.int .i64 0, .bool true]) (by simp [results, Try.results31, go_sem]) rfl ⟨rfl, BB.out.trans (b9.mono BB.out.size)⟩

set_option maxRecDepth 100000 in
set_option maxHeartbeats 6400000 in
theorem l_apart4 (A : Option Addr) (n ca : Nat) (a : List Gt) (B : Option Addr) (m cb : Nat) (b : List Gt) (w : World) (ha : RdG w A n a) (hb : RdG w B m b) (hn : n ≤ 1048576) (hm : m ≤ 1048576) (hs : sameAll a b 4 = true) : Calls Try.prog 31 #[.slice A n ca, .slice B m cb, .int .i64 4] w fun e w' => e = .returned (.tuple #[.int .i64 0, .bool true]) ∧ Below w.heap.size w w' := by
  have HA := Lib.hid ha
  have HB := Lib.hid hb
  have HS := Lib.hid (fun i (hi : i < 16) => outU_law (i := i) hs (by simpa using hi))
  obtain ⟨U, hU⟩ : ∃ U : Nat → List Dw, outU a 4 = U := ⟨_, rfl⟩
  rw [hU] at HS
  have X0 := Lib.hid (show RowsD ((w.alloc (.cells #[] 79)).alloc (.cells #[] 79)) w.heap.size w.heap.size 0 0 ((List.range 0).map U) from ⟨rfl, [], (World.ownsRow_lit w #[] 0 (Nat.le_refl _) (by simp [maxLen]) rfl).alloc _, fun j x hx => by simp at hx⟩)
  have Y0 := Lib.hid (show RowsD ((w.alloc (.cells #[] 79)).alloc (.cells #[] 79)) w.heap.size (w.heap.size + 1) 0 0 ((List.range 0).map U) from ⟨rfl, [], ownsRow_lit' _ #[] 0 (by simp) (by simp) (by simp [maxLen]) rfl rfl, fun j x hx => by simp at hx⟩)
  have B0 := Lib.hid (show Below w.heap.size w ((w.alloc (.cells #[] 79)).alloc (.cells #[] 79)) from ((Below.refl _ _).alloc (Nat.le_refl _) _).alloc (by simp) _)
  clear ha hb hs hU
  go_enter Try.func31, Try.ntmps31
  go_wp2_with fail
  go_loopg [8, 9, 10] 16 (fun r xs ys i wr => ∃ (k gx cx gy cy : Nat), k + r = 16 ∧ i = .int .i64 k ∧ xs = .slice (some ⟨gx, 0, none⟩) k cx ∧ ys = .slice (some ⟨gy, 0, none⟩) k cy ∧ gx ≠ gy ∧ RowsD wr w.heap.size gx k cx ((List.range k).map U) ∧ RowsD wr w.heap.size gy k cy ((List.range k).map U) ∧ Below w.heap.size w wr)
  case atStart => exact ⟨0, w.heap.size, 0, w.heap.size + 1, 0, by omega, rfl, rfl, rfl, by omega, X0.out, Y0.out, B0.out⟩
  case round =>
    obtain ⟨k, gx, cx, gy, cy, hk, rfl, rfl, rfl, hne, hx, hy, hbb⟩ := hrel
    have RX := Lib.hid hx
    have RY := Lib.hid hy
    have BB := Lib.hid hbb
    clear hx hy hbb X0 Y0 B0
    by_cases hlt : k < 16
    · obtain ⟨u1, u2, u3, u4⟩ := HS.out k hlt
      obtain ⟨u, hu⟩ : ∃ u, U k = u := ⟨_, rfl⟩
      rw [hu] at u1 u2 u3 u4
      have U1 := Lib.hid u1
      have U2 := Lib.hid u2
      have U3 := Lib.hid (show u.length = 16 from u3)
      have HU := Lib.hid hu
      clear u1 u2 u3 u4 hu
      go_wp2_with fail
      refine (s_Basis 4 k _ (by omega) (by omega) hlt).mono ?_
      rintro e w3 ⟨A3, c3, rfl, o3, b3⟩
      have R3 := Lib.hid (show RdD w3 A3 16 (basis 4 k) from RdD.own o3)
      clear o3
      go_wp2_with fail
      refine (s_ApplyGs _ n _ a _ 16 _ 4 _ u _ ((HA.out.below BB.out).below b3) hn R3.out (by omega) (by omega) (by decide) U1.out).mono ?_
      rintro e w4 ⟨A4, c4, rfl, o4, b4⟩
      have V4 := below_trans b3 b4
      have O4 := Lib.hid (ownsRow_base o4 (show w.heap.size ≤ w3.heap.size from Nat.le_trans BB.out.size b3.size))
      have RX4 := Lib.hid (RX.out.below V4)
      have RY4 := Lib.hid (RY.out.below V4)
      have B4 := Lib.hid (BB.out.trans (V4.mono BB.out.size))
      clear o4 b3 b4 V4 R3 RX RY BB
      go_wp2_with fail
      refine (s_Basis 4 k _ (by omega) (by omega) hlt).mono ?_
      rintro e w5 ⟨A5, c5, rfl, o5, b5⟩
      have R5 := Lib.hid (show RdD w5 A5 16 (basis 4 k) from RdD.own o5)
      clear o5
      go_wp2_with fail
      refine (s_ApplyGs _ m _ b _ 16 _ 4 _ u _ ((HB.out.below B4.out).below b5) hm R5.out (by omega) (by omega) (by decide) U2.out).mono ?_
      rintro e w6 ⟨A6, c6, rfl, o6, b6⟩
      have V6 := below_trans b5 b6
      have O6 := Lib.hid (ownsRow_base o6 (show w.heap.size ≤ w5.heap.size from Nat.le_trans B4.out.size b5.size))
      have P4 := Lib.hid (ownsRow_below O4.out V6)
      have RX6 := Lib.hid (RX4.out.below V6)
      have RY6 := Lib.hid (RY4.out.below V6)
      have B6 := Lib.hid (B4.out.trans (V6.mono B4.out.size))
      clear o6 b5 b6 V6 R5 O4 RX4 RY4 B4
      have lx := RX6.out.lt
      have ly := RY6.out.lt
      have bs := B6.out.size
      obtain ⟨hlx, vx, rx1, rx2⟩ := RX6.out
      obtain ⟨hly, vy, ry1, ry2⟩ := RY6.out
      have AX1 := Lib.hid (rx1.alloc (.cells #[.slice A4 16 c4] 79))
      have RY6a := Lib.hid (RY6.out.alloc (.cells #[.slice A4 16 c4] 79))
      have IX := Lib.hid (show ∀ (j : Nat) (x : List Dw), ((List.range k).map U)[j]? = some x → ∃ B c', vx[j]? = some (Value.slice B x.length c') ∧ (w6.alloc (.cells #[.slice A4 16 c4] 79)).ownsRow w.heap.size 83 5 (.slice B x.length c') x.length (cellsD x) from fun j x hx => (rx2 j x hx).imp fun B h => h.imp fun c' h => ⟨h.1, h.2.alloc _⟩)
      have PA := Lib.hid (P4.out.alloc (.cells #[.slice A4 16 c4] 79))
      have OA := Lib.hid (O6.out.alloc (.cells #[.slice A4 16 c4] 79))
      have BA := Lib.hid (B6.out.alloc bs (.cells #[.slice A4 16 c4] 79))
      clear rx1 rx2 ry1 ry2 hly vy
      go_wp2_with (first
        | (at_builtin; refine wpList_appOne rfl (.tmp 46) (.tmp 48) 27 rfl Try.underlying27 infoDOmegaS rfl rfl AX1.out rfl (Bx.new w6 _ _) rfl (by omega) (by decide) (by simp; omega) ?_; intro g1 cap1 w7 p7 g7 e7; have RX7 := RowsD.app hlx AX1.out IX.out U3.out PA.out p7 g7; have RY7 := RY6a.out.other g7 (fun e => hne e.symm) (fun B m cc x hx => own_own_ne' hx AX1.out (by decide)); have O7 := OA.out.kept g7 (own_own_ne' OA.out AX1.out (by decide)); have B7 := below_grown BA.out (by simp; omega) AX1.out (Nat.le_refl _) g7; have ne7 := ap_ne hne ly e7; have ⟨hly, vy, ry1, ry2⟩ := RY7; have bs7 := B7.size)
        | (at_builtin; refine wpList_appOne rfl (.tmp 50) (.tmp 52) 27 rfl Try.underlying27 infoDOmegaS rfl rfl (ry1.alloc _) rfl (Bx.new w7 _ _) rfl (by omega) (by decide) (by simp; omega) ?_; intro g2 cap2 w8 p8 g8 e8)
        | fail)
      go_roundg (gk - 1)
      case measure => omega
      case rel =>
        refine ⟨k + 1, g1, cap1, g2, cap2, by omega, by go_num, rfl, rfl, ?_, ?_, ?_, below_grown (B7.alloc bs7 _) (by simp; omega) (ry1.alloc _) (Nat.le_refl _) g8⟩
        · exact (ap_ne (fun e => ne7 e.symm) RX7.lt e8).symm
        · rw [rows_succ, HU.out]
          exact (RX7.alloc _).other g8 ne7 (fun B m cc x hx => own_own_ne' hx (ry1.alloc _) (by decide))
        · rw [rows_succ, HU.out]
          exact RowsD.app hly (ry1.alloc _) (fun j x hx => (ry2 j x hx).imp fun B h => h.imp fun c' h => ⟨h.1, h.2.alloc _⟩) U3.out (O7.alloc _) p8 g8
    · obtain rfl : k = 16 := by omega
      have HLL := Lib.hid (show ∀ x ∈ (List.range 16).map U, x.length = 16 ∧ ∀ v ∈ x, okD v = true from fun x hx => by
        obtain ⟨j, hj, rfl⟩ := List.mem_map.1 hx
        obtain ⟨_, _, h3, h4⟩ := HS.out j (List.mem_range.1 hj)
        exact ⟨h3, h4⟩)
      go_wp2_with fail
      refine (s_GPhase _ 16 _ 4 _ _ ((List.range 16).map U) _ RX.out.rd RY.out.rd (by omega) (by omega) (by decide) HLL.out).mono ?_
      rintro e w9 ⟨rfl, b9⟩
      go_wp2_with fail
      exact bodyPost_ret (v := .tuple #[.int .i64 0, .bool true]) (by simp [results, Try.results31, go_sem]) rfl ⟨rfl, BB.out.trans (b9.mono BB.out.size)⟩
end Go.Proofs.Ytibhikngiceeeaa
namespace Go.Proofs.Ytibhikngiceeeaa
open Go.RowKit
set_option linter.unusedVariables false

def flipL (l : List (List Dw)) : List (List Dw) := (List.range l.length).map fun i => l.map fun r => r.getD i Dw.zero
theorem flipL_len (l : List (List Dw)) : (flipL l).length = l.length := by unfold flipL; rw [List.length_map, List.length_range]
theorem flipL_drop {l : List (List Dw)} {i : Nat} (h : i < l.length) : (flipL l).drop i = (l.map fun r => r.getD i Dw.zero) :: (flipL l).drop (i + 1) := by
  rw [drop_cons (l := flipL l) (k := i) (by rw [flipL_len]; exact h)]
  congr 1
  simp [flipL]
theorem own_uniqD {w : World} {b1 b2 : Nat} {e : TypeId} {sz n : Nat} {v : Value} {xs ys : List Value} (h1 : w.ownsRow b1 e sz v n xs) (h2 : w.ownsRow b2 e sz v n ys) : xs = ys := by
  have l1 := h1.1
  have l2 := h2.1
  rcases h1.2 with ⟨rfl, rfl⟩ | ⟨g, cap, cur, rfl, _, hh, _, _, _, ht⟩
  · rw [List.eq_nil_of_length_eq_zero (by omega : xs.length = 0), List.eq_nil_of_length_eq_zero (by omega : ys.length = 0)]
  · rcases h2.2 with ⟨h3, _⟩ | ⟨g', cap', cur', h3, _, hh', _, _, _, ht'⟩
    · simp at h3
    · simp only [Value.slice.injEq, Option.some.injEq, Addr.mk.injEq, and_true, true_and] at h3
      obtain ⟨rfl, rfl⟩ := h3
      rw [hh] at hh'
      injection hh' with hh'
      injection hh' with hc _
      subst hc
      rw [← ht, ← ht']
section
variable {α : Type} {cs : List α → List Value} {sz : Nat}
/-- One more row, made later than all others. -/
theorem OwnSS.app1 {base B eo ei n m c : Nat} {v v'' : Value} {l : List (List α)} {x : List α} {D : Option Addr} {w0 w1 w2 : World} {vs : List Value} (hne : eo ≠ ei) (h : OwnSS cs w0 base eo ei sz v l) (hB : w0.heap.size ≤ B) (hb : base ≤ B) (h01 : Below w0.heap.size w0 w1)
    (hm : x.length = m) (hx : w1.ownsRow B ei sz (.slice D m c) m (cs x)) (hn : l.length = n) (hvs : w1.ownsRow base eo 1 v n vs) (hg : w1.grownBy w2 v.ownBlock) (ho : w2.ownsRow base eo 1 v'' (n + 1) (vs ++ [.slice D m c])) : OwnSS cs w2 base eo ei sz v'' (l ++ [x]) := by
  subst hm hn
  refine h.app (l' := [x]) (vs' := [.slice D x.length c]) hne hB hb h01 (fun j y hy => ?_) (fun i j u u' hij hu hu' => ?_) rfl hg (fun vs' h1 => ?_)
  · have h0 : j = 0 := by have := (List.getElem?_eq_some_iff.1 hy).1; simp at this; omega
    subst h0
    simp at hy
    subst hy
    exact ⟨D, c, rfl, hx⟩
  · have h1 := (List.getElem?_eq_some_iff.1 hu).1
    have h2 := (List.getElem?_eq_some_iff.1 hu').1
    simp at h1 h2
    omega
  · rw [own_uniqD h1 hvs]
    exact ho
end
/-- A slice of slices of numbers of the call's own. -/
def RetSD (l : List (List Dw)) (w : World) (e : Ending) (w' : World) : Prop :=
  ∃ A c, e = .returned (.slice A l.length c) ∧ OwnSS cellsD w' w.heap.size 79 83 5 (.slice A l.length c) l ∧ Below w.heap.size w w'

set_option maxRecDepth 100000 in
set_option maxHeartbeats 3200000 in
theorem i_flipped (A : Option Addr) (n cap : Nat) (l : List (List Dw)) (w : World) (h : RdSS cellsD w 5 A n l) (hn : n ≤ 16) (hl : ∀ x ∈ l, x.length = n) : Calls Try.prog 53 #[.slice A n cap] w (RetSD (flipL l) w) := by
  have HL := Lib.hid hl
  have HLL := Lib.hid h.1
  have H := Lib.hid h
  clear h hl
  go_enter Try.func53, Try.ntmps53
  go_wp2_with fail
  go_loopg [3, 11] n (fun r v j wr => ∃ (i : Nat) (A : Option Addr) (c : Nat), i + r = n ∧ j = .int .i64 i ∧ v = .slice A i c ∧ OwnSS cellsD wr w.heap.size 79 83 5 (.slice A i c) ((flipL l).take i) ∧ Below w.heap.size w wr)
  case atStart => exact ⟨0, _, 0, by omega, rfl, rfl, OwnSS.lit0 w (Nat.le_refl _) _ _ _ _, (Below.refl _ _).alloc (Nat.le_refl _) _⟩
  case round =>
    obtain ⟨i, A3, c3, hi, rfl, rfl, ho, hb⟩ := hrel
    have HO := Lib.hid ho
    have HB := Lib.hid hb
    have hs0 := hb.size
    clear ho hb
    by_cases hlt : i < n
    · obtain ⟨w0, rfl⟩ : ∃ w0, w0 = wr := ⟨_, rfl⟩
      obtain ⟨go, rfl⟩ : ∃ go, go = gk := ⟨_, rfl⟩
      have O0 := Lib.hid (show (w0.alloc (.cells #[] 83)).ownsRow w0.heap.size 83 5 (.slice (some ⟨w0.heap.size, 0, none⟩) 0 0) 0 (cellsD []) from World.ownsRow_lit w0 #[] 0 (Nat.le_refl _) (by simp [maxLen]) rfl)
      go_wp2_with fail
      go_loopg [5, 17] n (fun r v j wx => ∃ (k : Nat) (D : Option Addr) (c : Nat), k + r = n ∧ j = .int .i64 k ∧ v = .slice D k c ∧ wx.ownsRow w0.heap.size 83 5 (.slice D k c) k (cellsD ((l.take k).map fun r => r.getD i Dw.zero)) ∧ Below w0.heap.size w0 wx)
      case atStart => exact ⟨0, _, 0, by omega, rfl, rfl, O0.out, (Below.refl _ _).alloc (Nat.le_refl _) _⟩
      case round =>
        obtain ⟨k, D, c, hk, rfl, rfl, hrow, hbx⟩ := hrel
        have HR := Lib.hid hrow
        have HX := Lib.hid hbx
        have hsx := hbx.size
        clear hrow hbx O0
        by_cases hkl : k < n
        · obtain ⟨b, off, x, B, cb, rfl, hBb, hd, c0, hxc, hxr⟩ := ((H.out.below HB.out).below HX.out).at_ hkl
          have hxl := HL.out x (List.mem_of_mem_drop (i := k) (by rw [hd]; simp))
          rw [hxl] at c0 hxc hxr
          have RX : RdD wr B n x := ⟨hxl, hxr⟩
          obtain ⟨b2, off2, y, rfl, hB2, hd2, y0, y1, y2, y3, y4⟩ := RX.at_ hlt
          have HY := Lib.hid (show (l.take (k + 1)).map (fun r => r.getD i Dw.zero) = (l.take k).map (fun r => r.getD i Dw.zero) ++ [y] by
            rw [take_snoc hd, List.map_append]
            have : x.getD i Dw.zero = y := by
              have := congrArg (fun r => r.getD 0 Dw.zero) hd2
              simp only [List.getD_eq_getElem?_getD, List.getElem?_drop, Nat.add_zero, List.getElem?_cons_zero, Option.getD_some] at this
              rw [List.getD_eq_getElem?_getD]
              exact this
            rw [← this]
            rfl)
          clear hd hxl hxc hxr RX hd2
          have hi0 : (0 : Int) ≤ (i : Int) := by omega
          have hi1 : (i : Int) < (n : Int) := by omega
          have hk0 : (0 : Int) ≤ (k : Int) := by omega
          have hk1 : (k : Int) < (n : Int) := by omega
          go_wp2_with (at_builtin; refine wpList_app rfl (.tmp 21) (.tmp 26) 79 rfl Try.underlying79 infoDOmega rfl (by decide) rfl (HR.out.alloc _) rfl (Rd.lit wr 83 #[.int .i64 y.n.a, .int .i64 y.n.b, .int .i64 y.n.c, .int .i64 y.n.d, .int .i64 y.e] 1 5 rfl) (by simp [Value.oneCell']) (by omega) (by decide) (by simp <;> omega) ?_; intro A9 c9 w9 o9 g9)
          go_roundg (gk - 1)
          case measure => omega
          case rel =>
            refine ⟨k + 1, A9, c9, by omega, by go_num, rfl, ?_, below_grown (HX.out.alloc hsx _) (by simp <;> omega) (HR.out.alloc _) (Nat.le_refl _) g9⟩
            rw [HY.out, cellsD_append]
            exact o9
        · obtain rfl : k = n := by omega
          have e : l.take k = l := List.take_of_length_le (by rw [HLL.out]; omega)
          rw [e] at HR
          have hrl : (l.map fun r => r.getD i Dw.zero).length = k := by rw [List.length_map]; exact HLL.out
          have HW := Lib.hid (HO.out.below HX.out)
          obtain ⟨vs, a1, a2, a3⟩ := HW.out
          have htl : ((flipL l).take i).length = i := by rw [List.length_take, flipL_len, HLL.out]; omega
          rw [htl] at a1
          have A1 := Lib.hid a1
          clear a1 a2 a3 e
          go_wp2_with (at_builtin; refine wpList_app rfl (.tmp 29) (.tmp 31) 27 rfl Try.underlying27 infoDOmegaS rfl (by decide) rfl (A1.out.alloc _) rfl (Rd.lit wr 79 #[.slice D k c] 1 1 rfl) (by simp [Value.oneCell']) (by omega) (by decide) (by simp <;> omega) ?_; intro A9 c9 w9 o9 g9)
          go_roundg (go - 1)
          case measure => omega
          case rel =>
            refine ⟨i + 1, A9, c9, by omega, by go_num, rfl, ?_, below_grown ((HB.out.trans (HX.out.mono hs0)).alloc (by omega) _) (by simp <;> omega) (A1.out.alloc _) (Nat.le_refl _) g9⟩
            rw [take_snoc (flipL_drop (l := l) (i := i) (by rw [HLL.out]; exact hlt))]
            exact OwnSS.app1 (by decide) HO.out (Nat.le_refl _) hs0 (HX.out.alloc hsx _) hrl (HR.out.alloc _) htl (A1.out.alloc _) g9 o9
    · obtain rfl : i = n := by omega
      have e : (flipL l).take i = flipL l := List.take_of_length_le (by rw [flipL_len, HLL.out]; omega)
      rw [e] at HO
      have hfl : (flipL l).length = i := by rw [flipL_len]; exact HLL.out
      go_wp2_with fail
      go_ret
      exact ⟨A3, c3, by rw [hfl]; rfl, by rw [hfl]; exact HO.out, HB.out⟩
set_option maxRecDepth 100000 in
set_option maxHeartbeats 3200000 in
theorem s_l7Col (A : Option Addr) (n cap i : Nat) (l : List (List Dw)) (w : World) (h : RdSS cellsD w 5 A n l) (hn : n ≤ 16) (hl : ∀ x ∈ l, x.length = n) (hlt : i < n) : Calls Try.prog 101 #[.slice A n cap, .int .i64 i] w fun e w' => ∃ D c, e = .returned (.slice D n c) ∧ w'.ownsRow w.heap.size 83 5 (.slice D n c) n (cellsD (l.map fun r => r.getD i Dw.zero)) ∧ Below w.heap.size w w' := by
  have HL := Lib.hid hl
  have HLL := Lib.hid h.1
  have H := Lib.hid h
  clear h hl
  have O0 := Lib.hid (show (w.alloc (.cells #[] 83)).ownsRow w.heap.size 83 5 (.slice (some ⟨w.heap.size, 0, none⟩) 0 0) 0 (cellsD []) from World.ownsRow_lit w #[] 0 (Nat.le_refl _) (by simp [maxLen]) rfl)
  go_enter Try.func101, Try.ntmps101
  go_wp2_with fail
  go_loopg [5, 6] n (fun r v j wx => ∃ (k : Nat) (D : Option Addr) (c : Nat), k + r = n ∧ j = .int .i64 k ∧ v = .slice D k c ∧ wx.ownsRow w.heap.size 83 5 (.slice D k c) k (cellsD ((l.take k).map fun r => r.getD i Dw.zero)) ∧ Below w.heap.size w wx)
  case atStart => exact ⟨0, _, 0, by omega, rfl, rfl, O0.out, (Below.refl _ _).alloc (Nat.le_refl _) _⟩
  case round =>
    obtain ⟨k, D, c, hk, rfl, rfl, hrow, hbx⟩ := hrel
    have HR := Lib.hid hrow
    have HX := Lib.hid hbx
    have hsx := hbx.size
    clear hrow hbx O0
    by_cases hkl : k < n
    · obtain ⟨b, off, x, B, cb, rfl, hBb, hd, c0, hxc, hxr⟩ := (H.out.below HX.out).at_ hkl
      have hxl := HL.out x (List.mem_of_mem_drop (i := k) (by rw [hd]; simp))
      rw [hxl] at c0 hxc hxr
      have RX : RdD wr B n x := ⟨hxl, hxr⟩
      obtain ⟨b2, off2, y, rfl, hB2, hd2, y0, y1, y2, y3, y4⟩ := RX.at_ hlt
      have HY := Lib.hid (show (l.take (k + 1)).map (fun r => r.getD i Dw.zero) = (l.take k).map (fun r => r.getD i Dw.zero) ++ [y] by
        rw [take_snoc hd, List.map_append]
        have : x.getD i Dw.zero = y := by
          have := congrArg (fun r => r.getD 0 Dw.zero) hd2
          simp only [List.getD_eq_getElem?_getD, List.getElem?_drop, Nat.add_zero, List.getElem?_cons_zero, Option.getD_some] at this
          rw [List.getD_eq_getElem?_getD]
          exact this
        rw [← this]
        rfl)
      clear hd hxl hxc hxr RX hd2
      have hi0 : (0 : Int) ≤ (i : Int) := by omega
      have hi1 : (i : Int) < (n : Int) := by omega
      have hk0 : (0 : Int) ≤ (k : Int) := by omega
      have hk1 : (k : Int) < (n : Int) := by omega
      go_wp2_with (at_builtin; refine wpList_app rfl (.tmp 14) (.tmp 22) 79 rfl Try.underlying79 infoDOmega rfl (by decide) rfl (HR.out.alloc _) rfl (Rd.lit wr 83 #[.int .i64 y.n.a, .int .i64 y.n.b, .int .i64 y.n.c, .int .i64 y.n.d, .int .i64 y.e] 1 5 rfl) (by simp [Value.oneCell']) (by omega) (by decide) (by simp <;> omega) ?_; intro A9 c9 w9 o9 g9)
      go_roundg (gk - 1)
      case measure => omega
      case rel =>
        refine ⟨k + 1, A9, c9, by omega, by go_num, rfl, ?_, below_grown (HX.out.alloc hsx _) (by simp <;> omega) (HR.out.alloc _) (Nat.le_refl _) g9⟩
        rw [HY.out, cellsD_append]
        exact o9
    · obtain rfl : k = n := by omega
      have e : l.take k = l := List.take_of_length_le (by rw [HLL.out]; omega)
      rw [e] at HR
      go_wp2_with fail
      go_ret
      exact ⟨D, c, rfl, HR.out, HX.out⟩
set_option maxRecDepth 100000 in
set_option maxHeartbeats 3200000 in
theorem s_l7Cols (A : Option Addr) (n cap : Nat) (l : List (List Dw)) (w : World) (h : RdSS cellsD w 5 A n l) (hn : n ≤ 16) (hl : ∀ x ∈ l, x.length = n) : Calls Try.prog 47 #[.slice A n cap] w (RetSD (flipL l) w) := by
  have HL := Lib.hid hl
  have HLL := Lib.hid h.1
  have H := Lib.hid h
  clear h hl
  go_enter Try.func47, Try.ntmps47
  go_wp2_with fail
  go_loopg [3, 4] n (fun r v j wr => ∃ (i : Nat) (A : Option Addr) (c : Nat), i + r = n ∧ j = .int .i64 i ∧ v = .slice A i c ∧ OwnSS cellsD wr w.heap.size 79 83 5 (.slice A i c) ((flipL l).take i) ∧ Below w.heap.size w wr)
  case atStart => exact ⟨0, _, 0, by omega, rfl, rfl, OwnSS.lit0 w (Nat.le_refl _) _ _ _ _, (Below.refl _ _).alloc (Nat.le_refl _) _⟩
  case round =>
    obtain ⟨i, A3, c3, hi, rfl, rfl, ho, hb⟩ := hrel
    have HO := Lib.hid ho
    have HB := Lib.hid hb
    have hs0 := hb.size
    clear ho hb
    by_cases hlt : i < n
    · have hrl : (l.map fun r => r.getD i Dw.zero).length = n := by rw [List.length_map]; exact HLL.out
      have htl : ((flipL l).take i).length = i := by rw [List.length_take, flipL_len, HLL.out]; omega
      go_wp2_with fail
      refine (s_l7Col _ _ _ i l _ (H.out.below HB.out) hn HL.out hlt).mono ?_
      rintro e wx ⟨D, c, rfl, od, hbx⟩
      have HR := Lib.hid od
      have HX := Lib.hid hbx
      have hsx := hbx.size
      have HW := Lib.hid (HO.out.below HX.out)
      obtain ⟨vs, a1, a2, a3⟩ := HW.out
      rw [htl] at a1
      have A1 := Lib.hid a1
      clear a1 a2 a3 od hbx
      go_wp2_with (at_builtin; refine wpList_app rfl (.tmp 12) (.tmp 16) 27 rfl Try.underlying27 infoDOmegaS rfl (by decide) rfl (A1.out.alloc _) rfl (Rd.lit wx 79 #[.slice D n c] 1 1 rfl) (by simp [Value.oneCell']) (by omega) (by decide) (by simp <;> omega) ?_; intro A9 c9 w9 o9 g9)
      go_roundg (gk - 1)
      case measure => omega
      case rel =>
        refine ⟨i + 1, A9, c9, by omega, by go_num, rfl, ?_, below_grown ((HB.out.trans (HX.out.mono hs0)).alloc (by omega) _) (by simp <;> omega) (A1.out.alloc _) (Nat.le_refl _) g9⟩
        rw [take_snoc (flipL_drop (l := l) (i := i) (by rw [HLL.out]; exact hlt))]
        exact OwnSS.app1 (by decide) HO.out (Nat.le_refl _) hs0 (HX.out.alloc hsx _) hrl (HR.out.alloc _) htl (A1.out.alloc _) g9 o9
    · obtain rfl : i = n := by omega
      have e : (flipL l).take i = flipL l := List.take_of_length_le (by rw [flipL_len, HLL.out]; omega)
      rw [e] at HO
      have hfl : (flipL l).length = i := by rw [flipL_len]; exact HLL.out
      go_wp2_with fail
      go_ret
      exact ⟨A3, c3, by rw [hfl]; rfl, by rw [hfl]; exact HO.out, HB.out⟩
end Go.Proofs.Ytibhikngiceeeaa
namespace Go.Proofs.Ytibhikngiceeeaa
open Go.RowKit
set_option linter.unusedVariables false

theorem valN_lt : ∀ (m : Nat) (xs : List Nat), xs.length = m → (∀ x ∈ xs, x ≤ 1) → valN xs < 2 ^ m
  | 0, xs, h, _ => by rw [List.eq_nil_of_length_eq_zero h]; decide
  | m + 1, [], h, _ => by simp at h
  | m + 1, x :: r, h, h1 => by
    have h2 := valN_lt m r (by simpa using h) (fun y hy => h1 y (by simp [hy]))
    have h3 := h1 x (by simp)
    show x + 2 * valN r < 2 ^ (m + 1)
    rw [Nat.pow_succ]
    omega
def toN (p : Po) (i : Nat) : Nat := valN (bitsP i p)
def phN (p : Po) (i : Nat) : Nat := (phP i p).toNat
theorem toN_lt (p : Po) (i : Nat) : toN p i < 2 ^ p.o.length := valN_lt _ _ (bitsP_len i p) (bitsP_01 i p)
theorem phN_lt (p : Po) (i : Nat) : phN p i < 8 := by unfold phN phP; omega
theorem phN_int (p : Po) (i : Nat) : evT (i : Int) p.t p.H % 8 = (phN p i : Nat) := by rw [evT_ph]; unfold phN phP; omega
theorem toN_int {p : Po} (h : p.o.length ≤ 4) (i : Nat) : evO (i : Int) 0 p.o 0 = (toN p i : Nat) := evO_to h
def colP (p : Po) (n i : Nat) : List Dw := (List.replicate (2 ^ n) Dw.zero).set (toN p i) (phD (phN p i))
def tosP (p : Po) (i : Nat) : List Int := (List.range i).map fun j => ((toN p j : Nat) : Int)
def dupP (p : Po) (i : Nat) : Bool := (tosP p i).any (· == ((toN p i : Nat) : Int))
def colsP (p : Po) (n i : Nat) : List (List Dw) := (List.range i).map (colP p n)
/-- The matrix of a polynomial on n qubits, with as many outputs. -/
def ppmN (p : Po) (n : Nat) : List (List Dw) := if (List.range (2 ^ n)).any (dupP p) = true then [] else flipL (colsP p n (2 ^ n))
def ppm (p : Po) : List (List Dw) := if inB p.N 1 4 = true ∧ (p.o.length : Int) = p.N then ppmN p p.N.toNat else []
theorem tosP_succ (p : Po) (i : Nat) : tosP p (i + 1) = tosP p i ++ [((toN p i : Nat) : Int)] := by unfold tosP; rw [List.range_succ, List.map_append]; rfl
theorem colsP_succ (p : Po) (n i : Nat) : colsP p n (i + 1) = colsP p n i ++ [colP p n i] := by unfold colsP; rw [List.range_succ, List.map_append]; rfl
theorem colsP_len (p : Po) (n i : Nat) : (colsP p n i).length = i := by unfold colsP; rw [List.length_map, List.length_range]
theorem tosP_len (p : Po) (i : Nat) : (tosP p i).length = i := by unfold tosP; rw [List.length_map, List.length_range]
theorem colP_len (p : Po) (n i : Nat) : (colP p n i).length = 2 ^ n := by unfold colP; rw [List.length_set, List.length_replicate]
theorem colsP_all (p : Po) (n i : Nat) : ∀ x ∈ colsP p n i, x.length = 2 ^ n := by
  intro x hx
  obtain ⟨j, _, rfl⟩ := List.mem_map.1 hx
  exact colP_len p n j
theorem ppm_no {p : Po} (h : ¬ (inB p.N 1 4 = true ∧ (p.o.length : Int) = p.N)) : ppm p = [] := by unfold ppm; rw [if_neg h]
theorem ppm_n {p : Po} {n : Nat} (hn : 1 ≤ n ∧ n ≤ 4) (h : p.N = (n : Int)) (hl : p.o.length = n) : ppm p = ppmN p n := by
  unfold ppm
  rw [if_pos ⟨by rw [h]; exact inB_t (by omega) (by omega), by rw [h, hl]⟩, h]
  rfl
theorem ppmN_dup {p : Po} {n i : Nat} (hi : i < 2 ^ n) (h : dupP p i = true) : ppmN p n = [] := by
  unfold ppmN
  rw [if_pos (List.any_eq_true.2 ⟨i, List.mem_range.2 hi, h⟩)]
theorem ppmN_ok {p : Po} {n : Nat} (h : ∀ i, i < 2 ^ n → dupP p i = false) : ppmN p n = flipL (colsP p n (2 ^ n)) := by
  unfold ppmN
  rw [if_neg]
  intro hc
  obtain ⟨i, hi, hd⟩ := List.any_eq_true.1 hc
  rw [h i (List.mem_range.1 hi)] at hd
  cases hd
theorem ppmN_len {p : Po} {n : Nat} (h : n ≤ 4) : (ppmN p n).length ≤ 16 := by
  unfold ppmN
  split
  · simp
  · rw [flipL_len, colsP_len]; exact pow_le16 h
/-- The columns of a polynomial's matrix are what the gates do. -/
theorem colP_acts {gs : List Gt} {n : Nat} {M : Po} (h : compP gs (n : Int) = (M, true)) {b : Nat} (hb : b < 2 ^ n) : colP M n b = NV (actG gs (eN (2 ^ n) b)) 0 := by
  obtain ⟨_, _, _, _, m4, _⟩ := poly_acts h
  obtain ⟨e, _⟩ := m4 b hb
  rw [e]
  have e2 : scl (phZ (phP b M).toNat) (eN (2 ^ n) (valN (bitsP b M))) = (List.replicate (2 ^ n) Zw.zero).set (toN M b) (phZ (phN M b)) := by
    unfold scl eN
    rw [List.map_set, List.map_replicate, times_zero, one_times]
    rfl
  have e3 : phD (phN M b) = nf (phZ (phN M b)) 0 := rfl
  rw [e2, ← NV_set, NV_zero]
  rfl
theorem dupP_no {gs : List Gt} {n : Nat} {M : Po} (h : compP gs (n : Int) = (M, true)) {i : Nat} (hi : i < 2 ^ n) : dupP M i = false := by
  obtain ⟨_, _, _, _, _, m5⟩ := poly_acts h
  cases hd : dupP M i
  · rfl
  · obtain ⟨x, hx, he⟩ := List.any_eq_true.1 hd
    obtain ⟨j, hj, rfl⟩ := List.mem_map.1 hx
    have hj' := List.mem_range.1 hj
    have e : toN M j = toN M i := by
      have := eq_of_beq he
      omega
    have := m5 j i (by omega) hi e
    omega
def matG (gs : List Gt) (n : Nat) : List (List Dw) := flipL ((List.range (2 ^ n)).map fun b => NV (actG gs (eN (2 ^ n) b)) 0)
theorem ppm_comp {gs : List Gt} {n : Nat} {M : Po} (h : compP gs (n : Int) = (M, true)) : ppm M = matG gs n := by
  obtain ⟨hn, _, m2, m3, _, _⟩ := poly_acts h
  rw [ppm_n hn m2 m3, ppmN_ok (fun i hi => dupP_no h hi)]
  unfold matG colsP
  congr 1
  exact List.map_congr_left fun b hb => colP_acts h (List.mem_range.1 hb)
theorem eqP_eq {P Q : Po} (h : eqP P.N P.H Q.N Q.H P.t P.o Q.t Q.o = true) : P = Q := by
  unfold eqP sameP at h
  simp only [Bool.and_eq_true, decide_eq_true_eq, beq_iff_eq] at h
  obtain ⟨h1, h2, h3, h4⟩ := h
  cases P
  cases Q
  simp_all
/-- Rows of gates with equal polynomials have equal matrices. -/
theorem matG_same {a b : List Gt} {n : Nat} {P Q : Po} (ha : compP a (n : Int) = (P, true)) (hb : compP b (n : Int) = (Q, true)) (h : eqP P.N P.H Q.N Q.H P.t P.o Q.t Q.o = true) : matG a n = matG b n := by
  rw [← ppm_comp ha, ← ppm_comp hb, eqP_eq h]
theorem compL_bad : ∀ (gs : List Gt) (p M : Po), compL p gs = (M, false) → M = Po.zero
  | [], p, M, h => by injection h with _ h; cases h
  | g :: r, p, M, h => by
    rw [compL] at h
    split at h
    · exact compL_bad r _ _ h
    · injection h with h _
      exact h.symm
theorem compP_no {gs : List Gt} {n : Int} {M : Po} (h : compP gs n = (M, false)) : M = Po.zero := by
  unfold compP at h
  split at h
  · exact compL_bad _ _ _ h
  · injection h with h _
    exact h.symm
theorem flipL_rows (l : List (List Dw)) : ∀ x ∈ flipL l, x.length = l.length := by
  intro x hx
  unfold flipL at hx
  obtain ⟨j, _, rfl⟩ := List.mem_map.1 hx
  rw [List.length_map]
theorem matG_len (gs : List Gt) (n : Nat) : (matG gs n).length = 2 ^ n := by unfold matG; rw [flipL_len, List.length_map, List.length_range]
theorem matG_rows (gs : List Gt) (n : Nat) : ∀ x ∈ matG gs n, x.length = (matG gs n).length := by
  intro x hx
  rw [matG_len]
  have := flipL_rows _ x hx
  rwa [List.length_map, List.length_range] at this
/-- What the walk asks of a row of gates that has a polynomial. -/
theorem comp_outs {gs : List Gt} {n : Nat} {M : Po} (h : compP gs (n : Int) = (M, true)) : (1 ≤ n ∧ n ≤ 4) ∧ (∀ g ∈ gs, okN n g = true) ∧ ∀ i, i < 2 ^ n → appGs gs (basis n i) = some (NV (actG gs (eN (2 ^ n) i)) 0) ∧ (NV (actG gs (eN (2 ^ n) i)) 0).length = 2 ^ n := by
  obtain ⟨hn, m1, _⟩ := poly_acts h
  have hg : ∀ g ∈ gs, okN n g = true := fun g hg => (m1 g hg).1
  have h0 : hcs gs = 0 := mono_hcs fun g hg => (m1 g hg).2
  refine ⟨hn, hg, fun i _ => ?_⟩
  obtain ⟨a1, _, a3, _⟩ := appGs_nfN hn hg (by omega) i
  rw [h0] at a1
  exact ⟨a1, by rw [NV_len, a3]⟩
end Go.Proofs.Ytibhikngiceeeaa
