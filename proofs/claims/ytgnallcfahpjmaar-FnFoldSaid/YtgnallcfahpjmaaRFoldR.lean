/- Plain law of phase folding: the folded row reckons to the same polynomial but for its phase, and has one T gate an odd term. Nothing is asked. -/
import Derived.Test.YtgnallcfahpjmaaRFoldQ
import Derived.Test.YtgnallcfahpjmaaRTurn
import Derived.Test.YtgnallcfahpjmaaRPolyQ
namespace Go.Proofs.YtgnallcfahpjmaaR
open Go.RowKit

theorem tcnt_app (a b : List Gt) : tcnt (a ++ b) = tcnt a + tcnt b := by
  have h : ∀ (k : Int) (a b : List Gt), cnt k (a ++ b) = cnt k a + cnt k b := by
    intro k a b
    induction a with
    | nil => simp [cnt]
    | cons g r ih => rw [List.cons_append, cnt, cnt, ih]; omega
  unfold tcnt
  rw [h, h]; omega
theorem tcnt_one (g : Gt) : tcnt [g] = if g.k = 7 ∨ g.k = 8 then 1 else 0 := by
  unfold tcnt
  simp only [cnt]
  by_cases h7 : g.k = 7
  · simp [h7]
  · by_cases h8 : g.k = 8
    · simp [h8]
    · simp [h7, h8]
theorem tcnt_rot (c q : Int) (h0 : 0 ≤ c) (h7 : c ≤ 7) : tcnt (rotG c q) = c % 2 := by
  obtain h | h | h | h | h | h | h | h : c = 0 ∨ c = 1 ∨ c = 2 ∨ c = 3 ∨ c = 4 ∨ c = 5 ∨ c = 6 ∨ c = 7 := by omega
  all_goals subst h; rfl
theorem tcnt_non {g : Gt} (hu : (units g.k == 0) = true) : tcnt [g] = 0 := by
  rw [tcnt_one, if_neg]
  simp at hu
  rcases units_cases g.k with h | h | h | h | h | h <;> omega
theorem fold_run (T : List (Int × Int)) (hT : Canon T) (q0 : Po) : ∀ (r : List Gt) (p : Po) (met : List Int) (acc : List Gt) (q pe : Po), compL p r = (pe, true) → compL q0 acc = (q, true) → Inv p → Inv q → q.N = p.N → q.o = p.o →
    (∀ m, coefT q.t m = if met.any (· == m) = true then coefT T m else 0) → (∀ m, coefT p.t m ≠ 0 → met.any (· == m) = true) → tcnt acc = oddS q.t →
    ∃ (qe : Po) (mete : List Int), compL q0 (foldL T p met acc r) = (qe, true) ∧ Inv pe ∧ Inv qe ∧ qe.N = pe.N ∧ qe.o = pe.o ∧ (∀ m, coefT qe.t m = if mete.any (· == m) = true then coefT T m else 0) ∧ (∀ m, coefT pe.t m ≠ 0 → mete.any (· == m) = true) ∧ tcnt (foldL T p met acc r) = oddS qe.t ∧ oddS pe.t ≤ oddS p.t + tcnt r
  | [], p, met, acc, q, pe, hp, hq, ip, iq, hN, ho, hm, hpm, ht => by
    injection hp with hp _
    subst hp
    refine ⟨q, met, hq, ip, iq, hN, ho, hm, hpm, ht, ?_⟩
    show oddS p.t ≤ oddS p.t + tcnt []
    have : tcnt [] = 0 := rfl
    omega
  | g :: r, p, met, acc, q, pe, hp, hq, ip, iq, hN, ho, hm, hpm, ht => by
    obtain ⟨h1, _⟩ := compL_ok (p := p) (g := g) (r := r) (by rw [hp])
    obtain ⟨p1, hp1⟩ : ∃ p1, applyP p g = (p1, true) := ⟨_, Prod.ext rfl h1⟩
    have hp2 : compL p1 r = (pe, true) := by rw [compL_go (by rw [hp1]), hp1] at hp; exact hp
    obtain ⟨ip1, n1, l1, o1⟩ := applyP_inv ip hp1
    have hlen : (p.o.length : Int) = p.N := (okP_parts (applyP_okP h1)).2
    have htc : tcnt (g :: r) = tcnt [g] + tcnt r := by rw [← List.singleton_append, tcnt_app]
    rw [← tcnt_one g] at o1
    cases hu : (units g.k == 0)
    · obtain ⟨e1, e2, e3, e4, e5, e6, e7⟩ := app_is_rot hu hp1 ip.1
      obtain ⟨⟨x, y⟩, hxy⟩ : ∃ z, at2 p.o g.a = z := ⟨_, rfl⟩
      rw [hxy] at e3
      have hy : y = 0 ∨ y = 1 := by have := at2_flip ip.2.1 g.a; rw [hxy] at this; exact this
      have hcb := coefT_bd x hT
      cases hmt : met.any (· == x)
      · rw [foldL_new hu hxy hmt hp1]
        have hc0 : 0 ≤ turnC (coefT T x) y ∧ turnC (coefT T x) y ≤ 7 := by unfold turnC; split <;> omega
        obtain ⟨H', b1, b2, b3⟩ := run_rot (q := q) (c := turnC (coefT T x) y) (a := g.a) (x := x) (y := y) hc0.1 hc0.2 (by omega) (by omega) e4 (by omega) (by rw [ho, hN]; exact hlen) (by rw [ho]; exact hxy) iq.1 iq.2.2
        obtain ⟨a1, a2, a3⟩ := oddS_add iq.1 x (sg y (turnC (coefT T x) y))
        have hqx : coefT q.t x = 0 := by rw [hm, hmt]; rfl
        have hval : (0 + sg y (turnC (coefT T x) y)) % 8 = coefT T x := by
          unfold sg turnC
          rcases hy with rfl | rfl
          · simp; omega
          · simp; omega
        have hodd : oddS (addT q.t x (sg y (turnC (coefT T x) y))) = oddS q.t + turnC (coefT T x) y % 2 := by
          have := oddS_ins x (sg y (turnC (coefT T x) y)) q.t iq.1
          rw [← addT_ins x _ q.t iq.1, hqx, hval] at this
          have h3 : turnC (coefT T x) y % 2 = coefT T x % 2 := by unfold turnC; split <;> omega
          omega
        have hacc : compL q0 (acc ++ rotG (turnC (coefT T x) y) g.a) = (⟨q.N, H', addT q.t x (sg y (turnC (coefT T x) y)), q.o⟩, true) := by
          rw [compL_app _ _ _ (by rw [hq]), hq]; exact b3
        have ⟨qe, mete, k1, k2, k3, k4, k5, k6, k7, k8, k9⟩ := fold_run T hT q0 r p1 (met ++ [x]) (acc ++ rotG (turnC (coefT T x) y) g.a) ⟨q.N, H', addT q.t x (sg y (turnC (coefT T x) y)), q.o⟩ pe hp2 hacc ip1 ⟨a2, iq.2.1, b1, b2⟩ (by rw [n1]; exact hN) (by rw [e1]; exact ho)
          (by
            intro m
            show coefT (addT _ _ _) m = _
            rw [a3, List.any_append]
            by_cases hmx : m = x
            · subst hmx; rw [if_pos rfl, hqx, hval]; simp
            · rw [if_neg hmx, hm]
              have : [x].any (· == m) = false := by simp; omega
              rw [this, Bool.or_false])
          (by
            intro m h
            rw [List.any_append]
            by_cases hmx : m = x
            · subst hmx; simp
            · rw [e3 m hmx] at h; rw [hpm m h]; rfl)
          (by rw [tcnt_app, ht, tcnt_rot _ _ hc0.1 hc0.2]; exact hodd.symm)
        exact ⟨qe, mete, k1, k2, k3, k4, k5, k6, k7, k8, by omega⟩
      · rw [foldL_old hu hxy hmt hp1]
        have ⟨qe, mete, k1, k2, k3, k4, k5, k6, k7, k8, k9⟩ := fold_run T hT q0 r p1 met acc q pe hp2 hq ip1 iq (by rw [n1]; exact hN) (by rw [e1]; exact ho) hm
          (by
            intro m h
            by_cases hmx : m = x
            · subst hmx; exact hmt
            · rw [e3 m hmx] at h; exact hpm m h) ht
        exact ⟨qe, mete, k1, k2, k3, k4, k5, k6, k7, k8, by omega⟩
    · rw [foldL_0 hu hp1]
      obtain ⟨e1, e2, e3⟩ := app_non hu hp1 hN ho
      have hacc : compL q0 (acc ++ [g]) = (⟨q.N, q.H, q.t, p1.o⟩, true) := by
        rw [compL_app _ _ _ (by rw [hq]), hq]
        show compL q [g] = _
        rw [compL_go (by rw [e3]), e3]; rfl
      have ⟨qe, mete, k1, k2, k3, k4, k5, k6, k7, k8, k9⟩ := fold_run T hT q0 r p1 met (acc ++ [g]) ⟨q.N, q.H, q.t, p1.o⟩ pe hp2 hacc ip1 ⟨iq.1, ip1.2.1, iq.2.2⟩ (by rw [n1]; exact hN) rfl hm (by intro m h; rw [e1] at h; exact hpm m h)
        (by rw [tcnt_app, tcnt_non hu, ht]; show oddS q.t + 0 = oddS q.t; omega)
      exact ⟨qe, mete, k1, k2, k3, k4, k5, k6, k7, k8, by omega⟩
/-- The whole: what FnFold asks, once the row can be reckoned. -/
theorem fold_law {gs : List Gt} {n : Int} {M : Po} (h : compP gs n = (M, true)) :
    ∃ Q : Po, compP (foldP gs n).1 n = (Q, true) ∧ Q.N = M.N ∧ Q.t = M.t ∧ Q.o = M.o ∧ (Q.H + (foldP gs n).2) % 8 = M.H ∧ 0 ≤ Q.H ∧ Q.H ≤ 7 ∧ 0 ≤ (foldP gs n).2 ∧ (foldP gs n).2 ≤ 7 ∧ tcnt (foldP gs n).1 = oddS M.t ∧ oddS M.t ≤ tcnt gs ∧ Canon M.t := by
  obtain ⟨hin, hc⟩ := compP_in h
  obtain ⟨i1, i2, i3, i4⟩ := idP_inv hin
  have hMi : Inv M := by
    obtain ⟨_, _, _, k2, _⟩ := fold_run [] trivial (idP n) gs (idP n) [] [] (idP n) M hc rfl i1 i1 rfl rfl (by
      intro m; have e : idP n = ⟨n, 0, [], idO n.toNat⟩ := by unfold idP; rw [if_pos hin]
      rw [e]; rfl) (by
      intro m hm; have e : idP n = ⟨n, 0, [], idO n.toNat⟩ := by unfold idP; rw [if_pos hin]
      rw [e] at hm; exact absurd rfl hm) (by rw [i4]; rfl)
    exact k2
  have e0 : idP n = ⟨n, 0, [], idO n.toNat⟩ := by unfold idP; rw [if_pos hin]
  obtain ⟨qe, mete, k1, k2, k3, k4, k5, k6, k7, k8, k9⟩ := fold_run M.t hMi.1 (idP n) gs (idP n) [] [] (idP n) M hc rfl i1 i1 rfl rfl (by intro m; rw [e0]; rfl) (by intro m hm; rw [e0] at hm; exact absurd rfl hm) (by rw [i4]; rfl)
  have hf := foldP_yes (gs := gs) (n := n) (by rw [h])
  rw [h] at hf
  have hco : compP (foldL M.t (idP n) [] [] gs) n = (qe, true) := by unfold compP; rw [if_pos hin]; exact k1
  have hte : qe.t = M.t := canon_ext k3.1 hMi.1 fun m => by
    rw [k6]
    split
    · rfl
    · rename_i hno
      cases hd : decide (coefT M.t m = 0)
      · exact absurd (k7 m (by simpa using hd)) hno
      · have : coefT M.t m = 0 := by simpa using hd
        exact this.symm
  rw [hf]
  have h1 := hMi.2.2
  have h2 := k3.2.2
  refine ⟨qe, hco, k4, hte, k5, ?_, h2.1, h2.2, ?_, ?_, by rw [k8, hte], by rw [i4] at k9; omega, hMi.1⟩
  · show (qe.H + (M.H - (compP (foldL M.t (idP n) [] [] gs) n).1.H) % 8) % 8 = M.H
    rw [hco]
    show (qe.H + (M.H - qe.H) % 8) % 8 = M.H
    omega
  · show 0 ≤ (M.H - _) % 8
    omega
  · show (M.H - _) % 8 ≤ 7
    omega
theorem oddS_bd : ∀ {t : List (Int × Int)}, Canon t → 0 ≤ oddS t ∧ oddS t ≤ t.length
  | [], _ => by simp [oddS]
  | p :: r, h => by
    have := oddS_bd h.2.2.2
    simp only [oddS, List.length_cons]
    omega
theorem eqP_self (N H : Int) (t o : List (Int × Int)) : eqP N H N H t o t o = true := by simp [eqP, sameP]
end Go.Proofs.YtgnallcfahpjmaaR
