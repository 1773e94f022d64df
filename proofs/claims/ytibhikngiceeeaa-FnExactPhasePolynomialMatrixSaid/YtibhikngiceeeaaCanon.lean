/- Plain: rows of terms that are sorted by mask, with coefficients from 1 to 7: addT on them, their coefficients. Nothing is asked. -/
import Derived.Test.YtibhikngiceeeaaFoldP
namespace Go.Proofs.Ytibhikngiceeeaa
open Go.RowKit

def Canon : List (Int × Int) → Prop
  | [] => True
  | p :: r => (∀ q ∈ r, p.1 < q.1) ∧ 1 ≤ p.2 ∧ p.2 ≤ 7 ∧ Canon r
def insT : List (Int × Int) → Int → Int → List (Int × Int)
  | [], m, c => if c % 8 = 0 then [] else [(m, c % 8)]
  | p :: r, m, c =>
    if m < p.1 then (if c % 8 = 0 then p :: r else (m, c % 8) :: p :: r)
    else if p.1 = m then (if (p.2 + c) % 8 = 0 then r else (m, (p.2 + c) % 8) :: r)
    else p :: insT r m c
theorem nz_canon : ∀ (l : List (Int × Int)), Canon l → nz l = l
  | [], _ => rfl
  | p :: r, h => by
    have ih := nz_canon r h.2.2.2
    unfold nz at ih ⊢
    rw [List.filter_cons, if_pos (by have := h.2.1; simp; omega), ih]
theorem atL_shift (m : Int) : ∀ (l : List (Int × Int)) (i : Nat), atL m (i + 1) l = (atL m i l).map (· + 1)
  | [], _ => rfl
  | p :: r, i => by
    rw [atL, atL]
    split
    · rfl
    · exact atL_shift m r (i + 1)
theorem plL_shift (m : Int) : ∀ (l : List (Int × Int)) (i : Nat), plL m (i + 1) l = plL m i l + 1
  | [], _ => rfl
  | p :: r, i => by
    rw [plL, plL]
    split
    · exact plL_shift m r (i + 1)
    · rfl
theorem atL_none (m : Int) : ∀ (l : List (Int × Int)) (i : Nat), (∀ q ∈ l, m < q.1) → atL m i l = none
  | [], _, _ => rfl
  | p :: r, i, h => by
    have := h p (by simp)
    rw [atL, if_neg (by simp; omega)]
    exact atL_none m r (i + 1) fun q hq => h q (by simp [hq])
theorem withT_cons {p : Int × Int} {r : List (Int × Int)} {m : Int} (h : p.1 < m) : withT (p :: r) m = p :: withT r m ∧ atT (p :: r) m = atT r m + 1 := by
  have e1 : atL m 0 (p :: r) = (atL m 0 r).map (· + 1) := by rw [atL, if_neg (by simp; omega), atL_shift]
  have e2 : plL m 0 (p :: r) = plL m 0 r + 1 := by rw [plL, if_pos (by simp; omega), plL_shift]
  unfold withT atT
  rw [e1, e2]
  cases atL m 0 r with
  | none => simp
  | some k => simp
theorem bump_cons (p : Int × Int) (l : List (Int × Int)) (k : Nat) (c : Int) : bump (p :: l) (k + 1) c = p :: bump l k c := by
  simp [bump]
theorem addT_ins (m c : Int) : ∀ (t : List (Int × Int)), Canon t → addT t m c = insT t m c
  | [], _ => by
    unfold addT withT atT
    simp only [atL, plL, insT, bump, nz]
    by_cases h : c % 8 = 0 <;> simp [h]
  | p :: r, h => by
    have ih := addT_ins m c r h.2.2.2
    have hr := nz_canon r h.2.2.2
    rw [insT]
    by_cases h1 : m < p.1
    · rw [if_pos h1]
      have e1 : atL m 0 (p :: r) = none := atL_none m _ 0 (by
        intro q hq
        rcases List.mem_cons.1 hq with hq | hq
        · rw [hq]; exact h1
        · have := h.1 q hq; omega)
      have e2 : plL m 0 (p :: r) = 0 := by rw [plL, if_neg (by simp; omega)]
      obtain ⟨w1, w2⟩ := withT_new e1
      unfold addT
      rw [w1, w2, e2]
      have hpr := nz_canon (p :: r) h
      simp only [List.take_zero, List.nil_append, List.drop_zero, bump, List.getD_cons_zero, List.set_cons_zero, Int.zero_add]
      unfold nz at hpr ⊢
      rw [List.filter_cons]
      by_cases hc : c % 8 = 0
      · rw [if_neg (by simp [hc]), hpr, if_pos hc]
      · rw [if_pos (by simp [hc]), hpr, if_neg hc]
    · rw [if_neg h1]
      by_cases h2 : p.1 = m
      · rw [if_pos h2]
        have e1 : atL m 0 (p :: r) = some 0 := by rw [atL, if_pos (by simp [h2])]
        obtain ⟨w1, w2⟩ := withT_has e1
        unfold addT
        rw [w1, w2]
        simp only [bump, List.getD_cons_zero, List.set_cons_zero]
        unfold nz at hr ⊢
        rw [List.filter_cons, h2]
        by_cases hc : (p.2 + c) % 8 = 0
        · rw [if_neg (by simp [hc]), hr, if_pos hc]
        · rw [if_pos (by simp [hc]), hr, if_neg hc]
      · rw [if_neg h2]
        obtain ⟨w1, w2⟩ := withT_cons (p := p) (r := r) (m := m) (by omega)
        unfold addT at ih ⊢
        rw [w1, w2, bump_cons]
        unfold nz at ih ⊢
        rw [List.filter_cons, if_pos (by have := h.2.1; simp; omega), ih]
theorem insT_mem (m c : Int) : ∀ (t : List (Int × Int)), ∀ q ∈ insT t m c, q.1 = m ∨ ∃ q' ∈ t, q'.1 = q.1
  | [], q, hq => by
    rw [insT] at hq
    split at hq
    · simp at hq
    · simp at hq; exact .inl (by rw [hq])
  | p :: r, q, hq => by
    rw [insT] at hq
    split at hq
    · split at hq
      · exact .inr ⟨q, hq, rfl⟩
      · rcases List.mem_cons.1 hq with h | h
        · exact .inl (by rw [h])
        · exact .inr ⟨q, h, rfl⟩
    · split at hq
      · split at hq
        · exact .inr ⟨q, by simp [hq], rfl⟩
        · rcases List.mem_cons.1 hq with h | h
          · exact .inl (by rw [h])
          · exact .inr ⟨q, by simp [h], rfl⟩
      · rcases List.mem_cons.1 hq with h | h
        · exact .inr ⟨p, by simp, by rw [h]⟩
        · rcases insT_mem m c r q h with h3 | ⟨q', h3, h4⟩
          · exact .inl h3
          · exact .inr ⟨q', by simp [h3], h4⟩
theorem insT_canon (m c : Int) : ∀ (t : List (Int × Int)), Canon t → Canon (insT t m c)
  | [], _ => by
    rw [insT]
    split
    · trivial
    · exact ⟨by simp, by show 1 ≤ c % 8; omega, by show c % 8 ≤ 7; omega, trivial⟩
  | p :: r, h => by
    rw [insT]
    split
    · split
      · exact h
      · refine ⟨?_, by show 1 ≤ c % 8; omega, by show c % 8 ≤ 7; omega, h⟩
        intro q hq
        rcases List.mem_cons.1 hq with h1 | h1
        · rw [h1]; assumption
        · have := h.1 q h1; show m < q.1; omega
    · split
      · split
        · exact h.2.2.2
        · refine ⟨fun q hq => ?_, by show 1 ≤ (p.2 + c) % 8; omega, by show (p.2 + c) % 8 ≤ 7; omega, h.2.2.2⟩
          have := h.1 q hq
          show m < q.1
          omega
      · refine ⟨fun q hq => ?_, h.2.1, h.2.2.1, insT_canon m c r h.2.2.2⟩
        rcases insT_mem m c r q hq with h1 | ⟨q', h1, h2⟩
        · rw [h1]; omega
        · rw [← h2]; exact h.1 q' h1
theorem coefT_out {m : Int} : ∀ {t : List (Int × Int)}, (∀ q ∈ t, m < q.1) → coefT t m = 0
  | [], _ => rfl
  | p :: r, h => by
    have := h p (by simp)
    rw [coefT, if_neg (by simp; omega)]
    exact coefT_out fun q hq => h q (by simp [hq])
theorem coefT_bd : ∀ {t : List (Int × Int)} (m : Int), Canon t → 0 ≤ coefT t m ∧ coefT t m ≤ 7
  | [], _, _ => by simp [coefT]
  | p :: r, m, h => by
    rw [coefT]
    split
    · exact ⟨by have := h.2.1; omega, h.2.2.1⟩
    · exact coefT_bd m h.2.2.2
theorem coefT_ins (m c m' : Int) : ∀ (t : List (Int × Int)), Canon t → coefT (insT t m c) m' = if m' = m then (coefT t m + c) % 8 else coefT t m'
  | [], _ => by
    rw [insT]
    by_cases hm : m' = m
    · subst hm
      rw [if_pos rfl]
      split
      · simp only [coefT]; omega
      · simp only [coefT, beq_self_eq_true, if_true]; omega
    · rw [if_neg hm]
      split
      · rfl
      · simp only [coefT]; rw [if_neg (by simp; omega)]
  | p :: r, h => by
    have ih := coefT_ins m c m' r h.2.2.2
    have hp := h.2
    rw [insT]
    by_cases h1 : m < p.1
    · rw [if_pos h1]
      have h0 : coefT (p :: r) m = 0 := coefT_out (by
        intro q hq
        rcases List.mem_cons.1 hq with hq | hq
        · rw [hq]; exact h1
        · have := h.1 q hq; omega)
      by_cases hm : m' = m
      · subst hm
        rw [if_pos rfl, h0]
        split
        · rw [h0]; omega
        · rw [coefT, if_pos (by simp)]; simp
      · rw [if_neg hm]
        split
        · rfl
        · rw [coefT, if_neg (by simp; omega)]
    · rw [if_neg h1]
      by_cases h2 : p.1 = m
      · rw [if_pos h2]
        have h0 : coefT r m = 0 := coefT_out (by rw [← h2]; exact h.1)
        have h3 : coefT (p :: r) m = p.2 := by rw [coefT, if_pos (by simp [h2])]
        by_cases hm : m' = m
        · subst hm
          rw [if_pos rfl, h3]
          split
          · rw [h0]; omega
          · rw [coefT, if_pos (by simp)]
        · rw [if_neg hm]
          have h4 : coefT (p :: r) m' = coefT r m' := by rw [coefT, if_neg (by simp; omega)]
          rw [h4]
          split
          · rfl
          · rw [coefT, if_neg (by simp; omega)]
      · rw [if_neg h2]
        have h3 : coefT (p :: r) m = coefT r m := by rw [coefT, if_neg (by simp; omega)]
        rw [h3, coefT, ih]
        by_cases hm : m' = m
        · subst hm
          rw [if_pos rfl, if_neg (by simp; omega)]
          simp
        · rw [if_neg hm, if_neg hm, coefT]
theorem canon_ext : ∀ {a b : List (Int × Int)}, Canon a → Canon b → (∀ m, coefT a m = coefT b m) → a = b
  | [], [], _, _, _ => rfl
  | [], q :: s, _, hb, h => by
    have := h q.1
    rw [coefT, coefT, if_pos (by simp)] at this
    have := hb.2.1
    omega
  | p :: r, [], ha, _, h => by
    have h1 := h p.1
    have h2 : coefT (p :: r) p.1 = p.2 := by rw [coefT, if_pos (by simp)]
    have h3 : coefT [] p.1 = 0 := rfl
    have := ha.2.1
    omega
  | p :: r, q :: s, ha, hb, h => by
    have hlt : ∀ {p q : Int × Int} {r s : List (Int × Int)}, Canon (p :: r) → Canon (q :: s) → (∀ m, coefT (p :: r) m = coefT (q :: s) m) → ¬ p.1 < q.1 := by
      intro p q r s ha hb h hl
      have h1 := h p.1
      rw [coefT, if_pos (by simp), coefT_out (by
        intro x hx
        rcases List.mem_cons.1 hx with hx | hx
        · rw [hx]; exact hl
        · have := hb.1 x hx; omega)] at h1
      have := ha.2.1
      omega
    have e1 : p.1 = q.1 := by
      have h1 := hlt ha hb h
      have h2 := hlt hb ha (fun m => (h m).symm)
      omega
    have e2 : p.2 = q.2 := by
      have h1 := h p.1
      rw [coefT, if_pos (by simp), coefT, if_pos (by simp [e1])] at h1
      exact h1
    have e3 : p = q := Prod.ext e1 e2
    subst e3
    rw [canon_ext ha.2.2.2 hb.2.2.2 (fun m => ?_)]
    have h1 := h m
    rw [coefT, coefT] at h1
    by_cases hm : (p.1 == m) = true
    · have hm' : p.1 = m := by simpa using hm
      rw [coefT_out (by rw [← hm']; exact ha.1), coefT_out (by rw [← hm']; exact hb.1)]
    · rw [if_neg hm, if_neg hm] at h1
      exact h1
/-- The number of odd coefficients. -/
def oddS : List (Int × Int) → Int
  | [] => 0
  | p :: r => p.2 % 2 + oddS r
theorem oddS_ins (m c : Int) : ∀ (t : List (Int × Int)), Canon t → oddS (insT t m c) + coefT t m % 2 = oddS t + (coefT t m + c) % 8 % 2
  | [], _ => by
    rw [insT]
    split
    · simp only [oddS, coefT]; omega
    · simp only [oddS, coefT]; omega
  | p :: r, h => by
    have ih := oddS_ins m c r h.2.2.2
    rw [insT]
    by_cases h1 : m < p.1
    · rw [if_pos h1]
      have h0 : coefT (p :: r) m = 0 := coefT_out (by
        intro q hq
        rcases List.mem_cons.1 hq with hq | hq
        · rw [hq]; exact h1
        · have := h.1 q hq; omega)
      rw [h0]
      split
      · omega
      · simp only [oddS]; omega
    · rw [if_neg h1]
      by_cases h2 : p.1 = m
      · rw [if_pos h2]
        have h3 : coefT (p :: r) m = p.2 := by rw [coefT, if_pos (by simp [h2])]
        rw [h3]
        split
        · simp only [oddS]; omega
        · simp only [oddS]; omega
      · rw [if_neg h2]
        have h3 : coefT (p :: r) m = coefT r m := by rw [coefT, if_neg (by simp; omega)]
        rw [h3]
        simp only [oddS]
        omega
theorem oddS_add {t : List (Int × Int)} (h : Canon t) (m c : Int) : oddS (addT t m c) ≤ oddS t + c % 2 ∧ Canon (addT t m c) ∧ ∀ m', coefT (addT t m c) m' = if m' = m then (coefT t m + c) % 8 else coefT t m' := by
  rw [addT_ins m c t h]
  have h1 := oddS_ins m c t h
  have h2 := coefT_bd m h
  exact ⟨by omega, insT_canon m c t h, fun m' => coefT_ins m c m' t h⟩
theorem addT_add {t : List (Int × Int)} (h : Canon t) (m a b : Int) : addT (addT t m a) m b = addT t m (a + b) := by
  obtain ⟨_, c1, e1⟩ := oddS_add h m a
  obtain ⟨_, c2, e2⟩ := oddS_add c1 m b
  obtain ⟨_, c3, e3⟩ := oddS_add h m (a + b)
  refine canon_ext c2 c3 fun m' => ?_
  rw [e2, e3, e1, e1]
  by_cases hm : m' = m
  · rw [if_pos hm, if_pos hm, if_pos rfl]; omega
  · rw [if_neg hm, if_neg hm, if_neg hm]
theorem compL_app : ∀ (a b : List Gt) (p : Po), (compL p a).2 = true → compL p (a ++ b) = compL (compL p a).1 b
  | [], b, p, _ => rfl
  | g :: r, b, p, h => by
    obtain ⟨h1, h2⟩ := compL_ok h
    rw [List.cons_append, compL_go h1, compL_go h1]
    exact compL_app r b _ h2
end Go.Proofs.Ytibhikngiceeeaa
