/- Plain: what the gates of a rotation do to a phase polynomial. Nothing is asked. -/
import Derived.Test.YtibhikngiceeeaaCanon
import Derived.Test.YtibhikngiceeeaaDrawG
namespace Go.Proofs.Ytibhikngiceeeaa
open Go.RowKit

def sg (y c : Int) : Int := if (y == 0) = true then c else -c
theorem app_rot {q : Po} {k a x y : Int} (hk : 3 ≤ k) (hk8 : k ≤ 8) (hk4 : k ≠ 4) (h1 : 1 ≤ q.N) (h4 : q.N ≤ 4) (ha : 0 ≤ a) (ha2 : a < q.N) (ho : (q.o.length : Int) = q.N) (hx : at2 q.o a = (x, y)) :
    applyP q ⟨k, a, 0, 0⟩ = (⟨q.N, if (y == 0) = true then q.H else (q.H + units k) % 8, addT q.t x (sg y (units k)), q.o⟩, true) := by
  have har : arity k = 1 := by rcases arity_cases k with h | h | h | h <;> omega
  have hok : okP q ⟨k, a, 0, 0⟩ = true := by
    unfold okP
    rw [okG_1 har h1 h4 ha (by omega)]
    simp [ho]
  rw [applyP_yes hok]
  have hu : (units k == 0) = false := by rcases units_cases k with h | h | h | h | h | h <;> simp <;> omega
  unfold actP sg
  rw [if_neg (by simp; omega), if_neg (by simp; omega), if_neg (by simp; omega), if_neg (by show ¬ ((units k == 0) = true); rw [hu]; simp)]
  show (if ((at2 q.o a).2 == 0) = true then _ else _) = _
  rw [hx]
  by_cases hy : (y == 0) = true
  · rw [if_pos hy]; simp only [if_pos hy]
  · rw [if_neg hy]; simp only [if_neg hy]
theorem addT_0 {t : List (Int × Int)} (h : Canon t) (x : Int) : addT t x 0 = t := by
  obtain ⟨_, c1, e1⟩ := oddS_add h x 0
  refine canon_ext c1 h fun m => ?_
  rw [e1]
  split
  · rename_i hm
    have := coefT_bd x h
    rw [hm]; omega
  · rfl
/-- The gates that make up a rotation, one behind another. -/
theorem run_rot {q : Po} {c a x y : Int} (hc0 : 0 ≤ c) (hc7 : c ≤ 7) (h1 : 1 ≤ q.N) (h4 : q.N ≤ 4) (ha : 0 ≤ a) (ha2 : a < q.N) (ho : (q.o.length : Int) = q.N) (hx : at2 q.o a = (x, y)) (hC : Canon q.t) (hH : 0 ≤ q.H ∧ q.H ≤ 7) :
    ∃ H', 0 ≤ H' ∧ H' ≤ 7 ∧ compL q (rotG c a) = (⟨q.N, H', addT q.t x (sg y c), q.o⟩, true) := by
  have one : ∀ k, 3 ≤ k → k ≤ 8 → k ≠ 4 → ∃ H', 0 ≤ H' ∧ H' ≤ 7 ∧ compL q [⟨k, a, 0, 0⟩] = (⟨q.N, H', addT q.t x (sg y (units k)), q.o⟩, true) := by
    intro k b1 b2 b3
    have e := app_rot b1 b2 b3 h1 h4 ha ha2 ho hx
    refine ⟨if (y == 0) = true then q.H else (q.H + units k) % 8, ?_, ?_, ?_⟩
    · split <;> omega
    · split <;> omega
    · rw [compL_go (by rw [e]), e]; rfl
  have two : ∀ k k', 3 ≤ k → k ≤ 8 → k ≠ 4 → 3 ≤ k' → k' ≤ 8 → k' ≠ 4 → ∃ H', 0 ≤ H' ∧ H' ≤ 7 ∧ compL q [⟨k, a, 0, 0⟩, ⟨k', a, 0, 0⟩] = (⟨q.N, H', addT q.t x (sg y (units k + units k')), q.o⟩, true) := by
    intro k k' b1 b2 b3 d1 d2 d3
    have e := app_rot b1 b2 b3 h1 h4 ha ha2 ho hx
    rw [compL_go (by rw [e]), e]
    have e2 := app_rot (q := ⟨q.N, if (y == 0) = true then q.H else (q.H + units k) % 8, addT q.t x (sg y (units k)), q.o⟩) d1 d2 d3 h1 h4 ha ha2 ho hx
    refine ⟨if (y == 0) = true then (if (y == 0) = true then q.H else (q.H + units k) % 8) else ((if (y == 0) = true then q.H else (q.H + units k) % 8) + units k') % 8, ?_, ?_, ?_⟩
    · split <;> omega
    · split <;> omega
    · rw [compL_go (by rw [e2]), e2]
      show (_, true) = (_, true)
      have e3 : sg y (units k + units k') = sg y (units k) + sg y (units k') := by unfold sg; split <;> omega
      rw [e3, ← addT_add hC]
  obtain h | h | h | h | h | h | h | h : c = 0 ∨ c = 1 ∨ c = 2 ∨ c = 3 ∨ c = 4 ∨ c = 5 ∨ c = 6 ∨ c = 7 := by omega
  all_goals subst h
  · refine ⟨q.H, hH.1, hH.2, ?_⟩
    have e : sg y 0 = 0 := by unfold sg; split <;> rfl
    rw [e, addT_0 hC]
    rfl
  · exact one 7 (by omega) (by omega) (by omega)
  · exact one 5 (by omega) (by omega) (by omega)
  · exact two 5 7 (by omega) (by omega) (by omega) (by omega) (by omega) (by omega)
  · exact one 3 (by omega) (by omega) (by omega)
  · exact two 3 7 (by omega) (by omega) (by omega) (by omega) (by omega) (by omega)
  · exact one 6 (by omega) (by omega) (by omega)
  · exact one 8 (by omega) (by omega) (by omega)
def Flip (o : List (Int × Int)) : Prop := ∀ q ∈ o, q.2 = 0 ∨ q.2 = 1
theorem at2_flip {o : List (Int × Int)} (h : Flip o) (a : Int) : (at2 o a).2 = 0 ∨ (at2 o a).2 = 1 := by
  unfold at2
  rw [List.getD_eq_getElem?_getD]
  cases e : o[a.toNat]? with
  | none => exact .inl rfl
  | some q => exact h q (List.mem_of_getElem? e)
theorem flip_set {o : List (Int × Int)} (h : Flip o) (k : Nat) (x y : Int) (hy : y = 0 ∨ y = 1) : Flip (o.set k (x, y)) := by
  intro q hq
  rcases List.mem_or_eq_of_mem_set hq with h1 | h1
  · exact h q h1
  · rw [h1]; exact hy
theorem xor01 {a b : Int} (ha : a = 0 ∨ a = 1) (hb : b = 0 ∨ b = 1) : bits .xor .i64 a b = 0 ∨ bits .xor .i64 a b = 1 := by
  rcases ha with rfl | rfl <;> rcases hb with rfl | rfl
  · left; decide
  · right; decide
  · right; decide
  · left; decide
/-- What stays of a polynomial under a gate that fits. -/
def Inv (p : Po) : Prop := Canon p.t ∧ Flip p.o ∧ 0 ≤ p.H ∧ p.H ≤ 7
theorem actP_inv {p : Po} {g : Gt} (h : Inv p) (hs : (actP p g).2 = true) : Inv (actP p g).1 ∧ (actP p g).1.N = p.N ∧ (actP p g).1.o.length = p.o.length ∧ oddS (actP p g).1.t ≤ oddS p.t + (if g.k = 7 ∨ g.k = 8 then 1 else 0) := by
  obtain ⟨hC, hF, h0, h7⟩ := h
  have hz : (0 : Int) ≤ if g.k = 7 ∨ g.k = 8 then 1 else 0 := by split <;> omega
  unfold actP at hs ⊢
  by_cases h1 : (g.k == 1) = true
  · rw [if_pos h1]
    refine ⟨⟨hC, flip_set hF _ _ _ ?_, h0, h7⟩, rfl, by simp, by show oddS p.t ≤ _; omega⟩
    rcases at2_flip hF g.a with h | h <;> rw [h]
    · right; unfold wrap64; omega
    · left; unfold wrap64; omega
  · rw [if_neg h1] at hs ⊢
    by_cases h2 : (g.k == 9) = true
    · rw [if_pos h2]
      exact ⟨⟨hC, flip_set hF _ _ _ (xor01 (at2_flip hF _) (at2_flip hF _)), h0, h7⟩, rfl, by simp, by show oddS p.t ≤ _; omega⟩
    · rw [if_neg h2] at hs ⊢
      by_cases h3 : (g.k == 11) = true
      · rw [if_pos h3]
        exact ⟨⟨hC, flip_set (flip_set hF _ _ _ (at2_flip hF _)) _ _ _ (at2_flip hF _), h0, h7⟩, rfl, by simp, by show oddS p.t ≤ _; omega⟩
      · rw [if_neg h3] at hs ⊢
        by_cases h4 : (units g.k == 0) = true
        · rw [if_pos h4] at hs; cases hs
        · rw [if_neg h4]
          have hu : units g.k % 2 ≤ (if g.k = 7 ∨ g.k = 8 then 1 else 0) ∧ (-units g.k) % 2 ≤ (if g.k = 7 ∨ g.k = 8 then 1 else 0) := by
            rcases units_cases g.k with h | h | h | h | h | h
            · rw [if_pos (.inl h.1)]; omega
            · rw [if_neg (by omega)]; omega
            · rw [if_neg (by omega)]; omega
            · rw [if_neg (by omega)]; omega
            · rw [if_pos (.inr h.1)]; omega
            · rw [if_neg (by omega)]; omega
          by_cases h5 : ((at2 p.o g.a).2 == 0) = true
          · rw [if_pos h5]
            obtain ⟨e1, e2, _⟩ := oddS_add hC (at2 p.o g.a).1 (units g.k)
            exact ⟨⟨e2, hF, h0, h7⟩, rfl, rfl, by show oddS (addT _ _ _) ≤ _; omega⟩
          · rw [if_neg h5]
            obtain ⟨e1, e2, _⟩ := oddS_add hC (at2 p.o g.a).1 (-units g.k)
            refine ⟨⟨e2, hF, ?_, ?_⟩, rfl, rfl, by show oddS (addT _ _ _) ≤ _; omega⟩
            · show 0 ≤ (p.H + units g.k) % 8; omega
            · show (p.H + units g.k) % 8 ≤ 7; omega
theorem applyP_inv {p q : Po} {g : Gt} (h : Inv p) (hs : applyP p g = (q, true)) : Inv q ∧ q.N = p.N ∧ q.o.length = p.o.length ∧ oddS q.t ≤ oddS p.t + (if g.k = 7 ∨ g.k = 8 then 1 else 0) := by
  have hk : okP p g = true := applyP_okP (by rw [hs])
  rw [applyP_yes hk] at hs
  have := actP_inv h (g := g) (by rw [hs])
  rw [hs] at this
  exact this
theorem idP_inv {n : Int} (h : inB n 1 4 = true) : Inv (idP n) ∧ (idP n).N = n ∧ ((idP n).o.length : Int) = n ∧ oddS (idP n).t = 0 := by
  obtain ⟨h1, h4⟩ := inB_iff.1 h
  have e : idP n = ⟨n, 0, [], idO n.toNat⟩ := by unfold idP; rw [if_pos h]
  rw [e]
  refine ⟨⟨trivial, ?_, by show (0 : Int) ≤ 0; omega, by show (0 : Int) ≤ 7; omega⟩, rfl, by show ((idO n.toNat).length : Int) = n; rw [idO_len]; omega, rfl⟩
  intro q hq
  simp only [idO, List.mem_map] at hq
  obtain ⟨i, _, rfl⟩ := hq
  exact .inl rfl
/-- A gate that is no rotation turns the outputs alone, whatever the terms. -/
theorem app_non {p p1 q : Po} {g : Gt} (hu : (units g.k == 0) = true) (hs : applyP p g = (p1, true)) (hN : q.N = p.N) (ho : q.o = p.o) : p1.t = p.t ∧ p1.N = p.N ∧ applyP q g = (⟨q.N, q.H, q.t, p1.o⟩, true) := by
  have hk : okP p g = true := applyP_okP (by rw [hs])
  have hkq : okP q g = true := by unfold okP at hk ⊢; rw [hN, ho]; exact hk
  rw [applyP_yes hk] at hs
  rw [applyP_yes hkq]
  unfold actP at hs ⊢
  by_cases h1 : (g.k == 1) = true
  · rw [if_pos h1] at hs ⊢
    injection hs with hs _
    subst hs
    exact ⟨rfl, rfl, by rw [ho]⟩
  · rw [if_neg h1] at hs ⊢
    by_cases h2 : (g.k == 9) = true
    · rw [if_pos h2] at hs ⊢
      injection hs with hs _
      subst hs
      exact ⟨rfl, rfl, by rw [ho]⟩
    · rw [if_neg h2] at hs ⊢
      by_cases h3 : (g.k == 11) = true
      · rw [if_pos h3] at hs ⊢
        injection hs with hs _
        subst hs
        exact ⟨rfl, rfl, by rw [ho]⟩
      · rw [if_neg h3, if_pos hu] at hs
        injection hs with _ hs
        cases hs
/-- A rotation turns the term of its mask alone. -/
theorem app_is_rot {p p1 : Po} {g : Gt} (hu : (units g.k == 0) = false) (hs : applyP p g = (p1, true)) (hC : Canon p.t) : p1.o = p.o ∧ p1.N = p.N ∧ (∀ m, m ≠ (at2 p.o g.a).1 → coefT p1.t m = coefT p.t m) ∧ 0 ≤ g.a ∧ g.a < p.N ∧ 1 ≤ p.N ∧ p.N ≤ 4 := by
  have hk : okP p g = true := applyP_okP (by rw [hs])
  obtain ⟨hg, hl⟩ := okP_parts hk
  have hab := okG_abn hg
  rw [applyP_yes hk] at hs
  have hn : ¬ (g.k == 1) = true ∧ ¬ (g.k == 9) = true ∧ ¬ (g.k == 11) = true := by
    simp at hu
    rcases units_cases g.k with h | h | h | h | h | h <;> simp <;> omega
  unfold actP at hs
  rw [if_neg hn.1, if_neg hn.2.1, if_neg hn.2.2, if_neg (by rw [hu]; simp)] at hs
  by_cases h5 : ((at2 p.o g.a).2 == 0) = true
  · rw [if_pos h5] at hs
    injection hs with hs _
    subst hs
    obtain ⟨_, _, e3⟩ := oddS_add hC (at2 p.o g.a).1 (units g.k)
    exact ⟨rfl, rfl, fun m hm => by show coefT (addT _ _ _) m = _; rw [e3, if_neg hm], by omega, by omega, by omega, by omega⟩
  · rw [if_neg h5] at hs
    injection hs with hs _
    subst hs
    obtain ⟨_, _, e3⟩ := oddS_add hC (at2 p.o g.a).1 (-units g.k)
    exact ⟨rfl, rfl, fun m hm => by show coefT (addT _ _ _) m = _; rw [e3, if_neg hm], by omega, by omega, by omega, by omega⟩
end Go.Proofs.Ytibhikngiceeeaa
