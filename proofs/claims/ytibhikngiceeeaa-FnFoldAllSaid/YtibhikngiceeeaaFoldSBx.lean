/- Contracts of TCount (spec), tCount, sameGates, DrawRotationGates. At most 2^40 gates. Plain law of phase folding: the folded row reckons to the same polynomial but for its phase, and has one T gate an odd term. Nothing is asked. Contracts of eqPhasePolynomial, markPhasePolynomial, heldPhasePolynomial. At most 2^39 terms and outputs. A box that holds a polynomial of the call's own: what the ways through a drawn region have in common. Contracts of coefficient (impl) and l33Coef (spec); what the loops of FoldPhases keep. At most 2^40 terms. Contract of ComputePhasePolynomial (spec). At most 2^36 gates. Contract of FoldPhases (impl). At most 2^20 gates. Contract of FoldPhases (spec). At most 2^20 gates. -/
import Derived.Test.YtibhikngiceeeaaGateTBx
import Derived.Test.YtibhikngiceeeaaDraw
import Derived.Test.YtibhikngiceeeaaFoldQ
import Derived.Test.YtibhikngiceeeaaPolyC
import Derived.Test.YtibhikngiceeeaaPolyB
import Derived.Test.YtibhikngiceeeaaPolyK
import Derived.Test.YtibhikngiceeeaaFoldP
import Derived.Test.YtibhikngiceeeaaMapI
import Derived.Test.YtibhikngiceeeaaReads
import Derived.Test.YtibhikngiceeeaaIntS
import Derived.Deep.RegionHeld3
import Derived.Outline
import Derived.WideMake
namespace Go.Proofs.Ytibhikngiceeeaa
open Go.RowKit

def tcnt (gs : List Gt) : Int := cnt 7 gs + cnt 8 gs
theorem tcnt_bd (gs : List Gt) : 0 ≤ tcnt gs ∧ tcnt gs ≤ gs.length + gs.length := by
  have h1 := cnt_bd 7 gs
  have h2 := cnt_bd 8 gs
  unfold tcnt
  omega

set_option maxRecDepth 100000 in
set_option maxHeartbeats 1600000 in
theorem s_TCount (N : Int) (A : Option Addr) (n cap : Nat) (gs : List Gt) (w : World) (h : RdG w A n gs) (hn : n ≤ 1099511627776) :
    Calls Try.prog 87 #[.agg #[.int .i64 N, .slice A n cap]] w fun e w' => e = .returned (.int .i64 (tcnt gs)) ∧ Below w.heap.size w w' := by
  have HTA : RdG (w.alloc (.cells #[.int .i64 N, .slice A n cap] 50)).drew A n gs := (h.alloc _).drew
  have hl := h.1
  have h7 := cnt_bd 7 gs
  have h8 := cnt_bd 8 gs
  rw [hl] at h7 h8
  have HTC : Hid (tcnt gs = cnt 7 gs + cnt 8 gs) := rfl
  clear h hl
  go_enter Try.func87, Try.ntmps87
  go_wp2_with fail
  go_region_held3 (fun w' => w'.cell? ⟨w.heap.size, 0, none⟩ = some (.int .i64 N) ∧ w'.cell? ⟨w.heap.size, 1, none⟩ = some (.slice A n cap))
    (first | go_keep)
    (first
      | (go_at_call 134; (with_reducible refine (s_CountGates _ _ _ _ _ gs _ HTA hn).mono ?_); rintro e w1 ⟨rfl, b1⟩; have HTB := HTA.below b1; have k0 := b1.cell (p := ⟨w.heap.size, 0, none⟩) (by simp); have k1 := b1.cell (p := ⟨w.heap.size, 1, none⟩) (by simp))
      | (go_at_call 134; (with_reducible refine (s_CountGates _ _ _ _ _ gs _ HTB hn).mono ?_); rintro e w2 ⟨rfl, b2⟩; have m0 := b2.cell (p := ⟨w.heap.size, 0, none⟩) (by have := b1.size; simp at this ⊢; omega); have m1 := b2.cell (p := ⟨w.heap.size, 1, none⟩) (by have := b1.size; simp at this ⊢; omega)))
  all_goals go_wp2_with fail
  all_goals go_ret
  all_goals exact ⟨ret_int (by rw [HTC.out, IntKind.wrap_i64]; omega), below_trans (below_alloc (below_drew b1)) b2⟩

theorem l_tCount (A : Option Addr) (n cap : Nat) (gs : List Gt) (w : World) (h : RdG w A n gs) (hn : n ≤ 1099511627776) :
    Calls Try.prog 32 #[.slice A n cap] w fun e w' => e = .returned (.int .i64 (tcnt gs)) ∧ Below w.heap.size w w' := by
  have H := Lib.hid h
  clear h
  go_enter Try.func32, Try.ntmps32
  go_wp2_with fail
  refine (s_TCount _ _ _ _ _ _ H.out hn).mono ?_
  rintro e w1 ⟨rfl, b1⟩
  go_wp2_with fail
  go_ret
  exact ⟨rfl, b1⟩

theorem eqGateV (k a b c k' a' b' c' : Int) (w : World) : (Op.equalIn 10000 55 (.agg #[.int .i64 k, .int .i64 a, .int .i64 b, .int .i64 c]) (.agg #[.int .i64 k', .int .i64 a', .int .i64 b', .int .i64 c'])).run Try.prog w = .ok (k == k' && (a == a' && (b == b' && c == c'))) w := by
  have u3 := Try.underlying3
  have a3 := Try.isAgg3
  have z3 := Try.sizeOf3
  have hS : Try.prog.underlying 55 = some (.struct (Try.prog.fieldsOf 55)) := by kernel_rfl
  rw [show (10000 : Nat) = 9999 + 1 from rfl, run_equalIn_agg w 9999 55 _ _ hS (by kernel_rfl)]
  simp only [Program.fieldsOf, Try.underlying55]
  go_simp
  by_cases h1 : k = k' <;> by_cases h2 : a = a' <;> by_cases h3 : b = b' <;> by_cases h4 : c = c' <;> simp [h1, h2, h3, h4]

set_option maxRecDepth 100000 in
set_option maxHeartbeats 400000 in
theorem l_sameGates_same (A A' : Option Addr) (n c c' : Nat) (gs : List Gt) (w : World) (h : RdG w A n gs) (h' : RdG w A' n gs) (hn : n ≤ 1099511627776) :
    Calls Try.prog 29 #[.slice A n c, .slice A' n c'] w fun e w' => e = .returned (.bool true) ∧ Below w.heap.size w w' := by
  have H := Lib.hid h
  have H' := Lib.hid h'
  clear h h'
  go_enter Try.func29, Try.ntmps29
  go_wp2
  go_loopg [5] n (fun m i wr => ∃ k : Nat, k + m = n ∧ i = .int .i64 k ∧ Below w.heap.size w wr)
  case atStart => exact ⟨0, by omega, rfl, Below.refl _ _⟩
  case round =>
    obtain ⟨k, hk, rfl, hb⟩ := hrel
    by_cases hlt : k < n
    · obtain ⟨b, off, g, rfl, hB, hd, c0, c1, c2, c3⟩ := (H.out.below hb).at_ hlt
      obtain ⟨b', off', g', rfl, hB', hd', c0', c1', c2', c3'⟩ := (H'.out.below hb).at_ hlt
      obtain rfl : g = g' := by rw [hd] at hd'; injection hd'
      clear hd hd'
      have hi0 : (0 : Int) ≤ (k : Int) := by omega
      have hi1 : (k : Int) < (n : Int) := by omega
      have hE : ∀ w, (Op.equalIn 10000 55 (.agg #[.int .i64 g.k, .int .i64 g.a, .int .i64 g.b, .int .i64 g.c]) (.agg #[.int .i64 g.k, .int .i64 g.a, .int .i64 g.b, .int .i64 g.c])).run Try.prog w = .ok true w := fun w => by rw [eqGateV]; simp
      have hM : Try.prog.eqGuardType Try.prog.depth 55 = false := by kernel_rfl
      go_wp2_with fail
      go_quiet (fail)
      go_wp2
      go_roundg (gk - 1)
      case measure => omega
      case rel => exact ⟨k + 1, by omega, by go_num, ⟨hb.os, hb.tape, hb.output, hb.size, hb.block⟩⟩
    · go_wp2
      go_ret
      exact ⟨rfl, hb⟩

end Go.Proofs.Ytibhikngiceeeaa
namespace Go.Proofs.Ytibhikngiceeeaa
open Go.RowKit

theorem tcnt_app (a b : List Gt) : tcnt (a ++ b) = tcnt a + tcnt b := by
  have h : ∀ (k : Int) (a b : List Gt), cnt k (a ++ b) = cnt k a + cnt k b := by
    intro k a b
    induction a with
    | nil => simp [cnt]
    | cons g r ih => rw [List.cons_append, cnt, cnt, ih]; omega
  unfold tcnt
  rw [h, h]; omega
theorem tcnt_one (g : Gt) : tcnt [g] = if g.k = 7 ∨ g.k = 8 then 1 else 0 := by
  unfold tcnt
  simp only [cnt]
  by_cases h7 : g.k = 7
  · simp [h7]
  · by_cases h8 : g.k = 8
    · simp [h8]
    · simp [h7, h8]
theorem tcnt_rot (c q : Int) (h0 : 0 ≤ c) (h7 : c ≤ 7) : tcnt (rotG c q) = c % 2 := by
  obtain h | h | h | h | h | h | h | h : c = 0 ∨ c = 1 ∨ c = 2 ∨ c = 3 ∨ c = 4 ∨ c = 5 ∨ c = 6 ∨ c = 7 := by omega
  all_goals subst h; rfl
theorem tcnt_non {g : Gt} (hu : (units g.k == 0) = true) : tcnt [g] = 0 := by
  rw [tcnt_one, if_neg]
  simp at hu
  rcases units_cases g.k with h | h | h | h | h | h <;> omega
theorem fold_run (T : List (Int × Int)) (hT : Canon T) (q0 : Po) : ∀ (r : List Gt) (p : Po) (met : List Int) (acc : List Gt) (q pe : Po), compL p r = (pe, true) → compL q0 acc = (q, true) → Inv p → Inv q → q.N = p.N → q.o = p.o →
    (∀ m, coefT q.t m = if met.any (· == m) = true then coefT T m else 0) → (∀ m, coefT p.t m ≠ 0 → met.any (· == m) = true) → tcnt acc = oddS q.t →
    ∃ (qe : Po) (mete : List Int), compL q0 (foldL T p met acc r) = (qe, true) ∧ Inv pe ∧ Inv qe ∧ qe.N = pe.N ∧ qe.o = pe.o ∧ (∀ m, coefT qe.t m = if mete.any (· == m) = true then coefT T m else 0) ∧ (∀ m, coefT pe.t m ≠ 0 → mete.any (· == m) = true) ∧ tcnt (foldL T p met acc r) = oddS qe.t ∧ oddS pe.t ≤ oddS p.t + tcnt r
  | [], p, met, acc, q, pe, hp, hq, ip, iq, hN, ho, hm, hpm, ht => by
    injection hp with hp _
    subst hp
    refine ⟨q, met, hq, ip, iq, hN, ho, hm, hpm, ht, ?_⟩
    show oddS p.t ≤ oddS p.t + tcnt []
    have : tcnt [] = 0 := rfl
    omega
  | g :: r, p, met, acc, q, pe, hp, hq, ip, iq, hN, ho, hm, hpm, ht => by
    obtain ⟨h1, _⟩ := compL_ok (p := p) (g := g) (r := r) (by rw [hp])
    obtain ⟨p1, hp1⟩ : ∃ p1, applyP p g = (p1, true) := ⟨_, Prod.ext rfl h1⟩
    have hp2 : compL p1 r = (pe, true) := by rw [compL_go (by rw [hp1]), hp1] at hp; exact hp
    obtain ⟨ip1, n1, l1, o1⟩ := applyP_inv ip hp1
    have hlen : (p.o.length : Int) = p.N := (okP_parts (applyP_okP h1)).2
    have htc : tcnt (g :: r) = tcnt [g] + tcnt r := by rw [← List.singleton_append, tcnt_app]
    rw [← tcnt_one g] at o1
    cases hu : (units g.k == 0)
    · obtain ⟨e1, e2, e3, e4, e5, e6, e7⟩ := app_is_rot hu hp1 ip.1
      obtain ⟨⟨x, y⟩, hxy⟩ : ∃ z, at2 p.o g.a = z := ⟨_, rfl⟩
      rw [hxy] at e3
      have hy : y = 0 ∨ y = 1 := by have := at2_flip ip.2.1 g.a; rw [hxy] at this; exact this
      have hcb := coefT_bd x hT
      cases hmt : met.any (· == x)
      · rw [foldL_new hu hxy hmt hp1]
        have hc0 : 0 ≤ turnC (coefT T x) y ∧ turnC (coefT T x) y ≤ 7 := by unfold turnC; split <;> omega
        obtain ⟨H', b1, b2, b3⟩ := run_rot (q := q) (c := turnC (coefT T x) y) (a := g.a) (x := x) (y := y) hc0.1 hc0.2 (by omega) (by omega) e4 (by omega) (by rw [ho, hN]; exact hlen) (by rw [ho]; exact hxy) iq.1 iq.2.2
        obtain ⟨a1, a2, a3⟩ := oddS_add iq.1 x (sg y (turnC (coefT T x) y))
        have hqx : coefT q.t x = 0 := by rw [hm, hmt]; rfl
        have hval : (0 + sg y (turnC (coefT T x) y)) % 8 = coefT T x := by
          unfold sg turnC
          rcases hy with rfl | rfl
          · simp; omega
          · simp; omega
        have hodd : oddS (addT q.t x (sg y (turnC (coefT T x) y))) = oddS q.t + turnC (coefT T x) y % 2 := by
          have := oddS_ins x (sg y (turnC (coefT T x) y)) q.t iq.1
          rw [← addT_ins x _ q.t iq.1, hqx, hval] at this
          have h3 : turnC (coefT T x) y % 2 = coefT T x % 2 := by unfold turnC; split <;> omega
          omega
        have hacc : compL q0 (acc ++ rotG (turnC (coefT T x) y) g.a) = (⟨q.N, H', addT q.t x (sg y (turnC (coefT T x) y)), q.o⟩, true) := by
          rw [compL_app _ _ _ (by rw [hq]), hq]; exact b3
        have ⟨qe, mete, k1, k2, k3, k4, k5, k6, k7, k8, k9⟩ := fold_run T hT q0 r p1 (met ++ [x]) (acc ++ rotG (turnC (coefT T x) y) g.a) ⟨q.N, H', addT q.t x (sg y (turnC (coefT T x) y)), q.o⟩ pe hp2 hacc ip1 ⟨a2, iq.2.1, b1, b2⟩ (by rw [n1]; exact hN) (by rw [e1]; exact ho)
          (by
            intro m
            show coefT (addT _ _ _) m = _
            rw [a3, List.any_append]
            by_cases hmx : m = x
            · subst hmx; rw [if_pos rfl, hqx, hval]; simp
            · rw [if_neg hmx, hm]
              have : [x].any (· == m) = false := by simp; omega
              rw [this, Bool.or_false])
          (by
            intro m h
            rw [List.any_append]
            by_cases hmx : m = x
            · subst hmx; simp
            · rw [e3 m hmx] at h; rw [hpm m h]; rfl)
          (by rw [tcnt_app, ht, tcnt_rot _ _ hc0.1 hc0.2]; exact hodd.symm)
        exact ⟨qe, mete, k1, k2, k3, k4, k5, k6, k7, k8, by omega⟩
      · rw [foldL_old hu hxy hmt hp1]
        have ⟨qe, mete, k1, k2, k3, k4, k5, k6, k7, k8, k9⟩ := fold_run T hT q0 r p1 met acc q pe hp2 hq ip1 iq (by rw [n1]; exact hN) (by rw [e1]; exact ho) hm
          (by
            intro m h
            by_cases hmx : m = x
            · subst hmx; exact hmt
            · rw [e3 m hmx] at h; exact hpm m h) ht
        exact ⟨qe, mete, k1, k2, k3, k4, k5, k6, k7, k8, by omega⟩
    · rw [foldL_0 hu hp1]
      obtain ⟨e1, e2, e3⟩ := app_non hu hp1 hN ho
      have hacc : compL q0 (acc ++ [g]) = (⟨q.N, q.H, q.t, p1.o⟩, true) := by
        rw [compL_app _ _ _ (by rw [hq]), hq]
        show compL q [g] = _
        rw [compL_go (by rw [e3]), e3]; rfl
      have ⟨qe, mete, k1, k2, k3, k4, k5, k6, k7, k8, k9⟩ := fold_run T hT q0 r p1 met (acc ++ [g]) ⟨q.N, q.H, q.t, p1.o⟩ pe hp2 hacc ip1 ⟨iq.1, ip1.2.1, iq.2.2⟩ (by rw [n1]; exact hN) rfl hm (by intro m h; rw [e1] at h; exact hpm m h)
        (by rw [tcnt_app, tcnt_non hu, ht]; show oddS q.t + 0 = oddS q.t; omega)
      exact ⟨qe, mete, k1, k2, k3, k4, k5, k6, k7, k8, by omega⟩
/-- The whole: what FnFold asks, once the row can be reckoned. -/
theorem fold_law {gs : List Gt} {n : Int} {M : Po} (h : compP gs n = (M, true)) :
    ∃ Q : Po, compP (foldP gs n).1 n = (Q, true) ∧ Q.N = M.N ∧ Q.t = M.t ∧ Q.o = M.o ∧ (Q.H + (foldP gs n).2) % 8 = M.H ∧ 0 ≤ Q.H ∧ Q.H ≤ 7 ∧ 0 ≤ (foldP gs n).2 ∧ (foldP gs n).2 ≤ 7 ∧ tcnt (foldP gs n).1 = oddS M.t ∧ oddS M.t ≤ tcnt gs ∧ Canon M.t := by
  obtain ⟨hin, hc⟩ := compP_in h
  obtain ⟨i1, i2, i3, i4⟩ := idP_inv hin
  have hMi : Inv M := by
    obtain ⟨_, _, _, k2, _⟩ := fold_run [] trivial (idP n) gs (idP n) [] [] (idP n) M hc rfl i1 i1 rfl rfl (by
      intro m; have e : idP n = ⟨n, 0, [], idO n.toNat⟩ := by unfold idP; rw [if_pos hin]
      rw [e]; rfl) (by
      intro m hm; have e : idP n = ⟨n, 0, [], idO n.toNat⟩ := by unfold idP; rw [if_pos hin]
      rw [e] at hm; exact absurd rfl hm) (by rw [i4]; rfl)
    exact k2
  have e0 : idP n = ⟨n, 0, [], idO n.toNat⟩ := by unfold idP; rw [if_pos hin]
  obtain ⟨qe, mete, k1, k2, k3, k4, k5, k6, k7, k8, k9⟩ := fold_run M.t hMi.1 (idP n) gs (idP n) [] [] (idP n) M hc rfl i1 i1 rfl rfl (by intro m; rw [e0]; rfl) (by intro m hm; rw [e0] at hm; exact absurd rfl hm) (by rw [i4]; rfl)
  have hf := foldP_yes (gs := gs) (n := n) (by rw [h])
  rw [h] at hf
  have hco : compP (foldL M.t (idP n) [] [] gs) n = (qe, true) := by unfold compP; rw [if_pos hin]; exact k1
  have hte : qe.t = M.t := canon_ext k3.1 hMi.1 fun m => by
    rw [k6]
    split
    · rfl
    · rename_i hno
      cases hd : decide (coefT M.t m = 0)
      · exact absurd (k7 m (by simpa using hd)) hno
      · have : coefT M.t m = 0 := by simpa using hd
        exact this.symm
  rw [hf]
  have h1 := hMi.2.2
  have h2 := k3.2.2
  refine ⟨qe, hco, k4, hte, k5, ?_, h2.1, h2.2, ?_, ?_, by rw [k8, hte], by rw [i4] at k9; omega, hMi.1⟩
  · show (qe.H + (M.H - (compP (foldL M.t (idP n) [] [] gs) n).1.H) % 8) % 8 = M.H
    rw [hco]
    show (qe.H + (M.H - qe.H) % 8) % 8 = M.H
    omega
  · show 0 ≤ (M.H - _) % 8
    omega
  · show (M.H - _) % 8 ≤ 7
    omega
theorem oddS_bd : ∀ {t : List (Int × Int)}, Canon t → 0 ≤ oddS t ∧ oddS t ≤ t.length
  | [], _ => by simp [oddS]
  | p :: r, h => by
    have := oddS_bd h.2.2.2
    simp only [oddS, List.length_cons]
    omega
theorem eqP_self (N H : Int) (t o : List (Int × Int)) : eqP N H N H t o t o = true := by simp [eqP, sameP]
end Go.Proofs.Ytibhikngiceeeaa
namespace Go.Proofs.Ytibhikngiceeeaa
open Go.RowKit

/-- The frame of markPhasePolynomial: new blocks, and writes to two rows. -/
def Marked (w w' : World) (v1 v2 : Value) : Prop := ∃ o wm, (w.alloc o).grownBy wm v1.ownBlock ∧ wm.grownBy w' v2.ownBlock
section
variable {w w' : World} {v1 v2 : Value}
theorem Marked.size (h : Marked w w' v1 v2) : w.heap.size ≤ w'.heap.size := by
  obtain ⟨o, wm, h1, h2⟩ := h
  have := h1.size
  have := h2.size
  simp at *
  omega
theorem Marked.own {base n sz : Nat} {e : TypeId} {v : Value} {xs : List Value} (h : Marked w w' v1 v2) (ho : w.ownsRow base e sz v n xs) (a1 : v.ownBlock = none ∨ v.ownBlock ≠ v1.ownBlock) (a2 : v.ownBlock = none ∨ v.ownBlock ≠ v2.ownBlock) : w'.ownsRow base e sz v n xs := by
  obtain ⟨o, wm, h1, h2⟩ := h
  exact ((ho.alloc o).kept h1 a1).kept h2 a2
theorem Marked.bx {g t : Nat} {cs : Array Value} (h : Marked w w' v1 v2) (hb : Bx w g t cs) (n1 : some g ≠ v1.ownBlock) (n2 : some g ≠ v2.ownBlock) : Bx w' g t cs := by
  obtain ⟨o, wm, h1, h2⟩ := h
  exact ((hb.alloc o).grown h1 n1).grown h2 n2
theorem Marked.below {B : Nat} {a : World} (h : Marked w w' v1 v2) (hb : Below B a w) (hs : B ≤ w.heap.size) (l1 : ∀ k, v1.ownBlock = some k → B ≤ k) (l2 : ∀ k, v2.ownBlock = some k → B ≤ k) : Below B a w' := by
  obtain ⟨o, wm, h1, h2⟩ := h
  have s1 : B ≤ (w.alloc o).heap.size := by simp; omega
  exact ((hb.alloc hs o).grown h1 s1 l1).grown h2 (Nat.le_trans s1 h1.size) l2
end

set_option maxHeartbeats 800000 in
theorem l_eqPoly_same (N H : Int) (AT AT' : Option Addr) (nT cT cT' : Nat) (t : List (Int × Int)) (AO AO' : Option Addr) (nO cO cO' : Nat) (o : List (Int × Int)) (w : World) (hT : RdP w AT nT t) (hT' : RdP w AT' nT t) (hO : RdP w AO nO o) (hO' : RdP w AO' nO o) (hnT : nT ≤ 1099511627776) (hnO : nO ≤ 1099511627776) :
    Calls Try.prog 13 #[.agg #[.int .i64 N, .int .i64 H, .slice AT nT cT, .slice AO nO cO], .agg #[.int .i64 N, .int .i64 H, .slice AT' nT cT', .slice AO' nO cO']] w fun e w' => e = .returned (.bool true) ∧ Below w.heap.size w w' := by
  have HT := Lib.hid hT
  have HO := Lib.hid hO
  have HT' := Lib.hid hT'
  have HO' := Lib.hid hO'
  clear hT hO hT' hO'
  have X0 := Lib.hid (show Bx ((w.alloc (.cells #[.int .i64 N, .int .i64 H, .slice AT nT cT, .slice AO nO cO] 32)).alloc (.cells #[.int .i64 N, .int .i64 H, .slice AT' nT cT', .slice AO' nO cO'] 32)) w.heap.size 32 _ from (Bx.new w _ _).alloc _)
  have X1 := Lib.hid (show Bx ((w.alloc (.cells #[.int .i64 N, .int .i64 H, .slice AT nT cT, .slice AO nO cO] 32)).alloc (.cells #[.int .i64 N, .int .i64 H, .slice AT' nT cT', .slice AO' nO cO'] 32)) (w.heap.size + 1) 32 _ from Bx.new' (by simp))
  have BZ : Hid (Below w.heap.size w ((w.alloc (.cells #[.int .i64 N, .int .i64 H, .slice AT nT cT, .slice AO nO cO] 32)).alloc (.cells #[.int .i64 N, .int .i64 H, .slice AT' nT cT', .slice AO' nO cO'] 32))) := Lib.hid (((Below.refl _ _).alloc (Nat.le_refl _) _).alloc (by simp) _)
  go_enter Try.func13, Try.ntmps13
  go_wp2_with fail
  refine (l_eqPhaseTermS_same _ _ _ _ _ t _ (HT.out.below BZ.out) (HT'.out.below BZ.out) hnT).mono ?_
  rintro e w1 ⟨rfl, b1⟩
  have B1 := Lib.hid (below_trans BZ.out b1)
  obtain ⟨p0, p1, p2, p3, _⟩ := (X0.out.below b1).four
  obtain ⟨q0, q1, q2, q3, _⟩ := (X1.out.below b1).four
  go_wp2_with fail
  refine (l_eqAffineFormS_same _ _ _ _ _ o _ (HO.out.below B1.out) (HO'.out.below B1.out) hnO).mono ?_
  rintro e w2 ⟨rfl, b2⟩
  go_wp2_with fail
  go_ret
  exact ⟨rfl, below_trans B1.out b2⟩

set_option maxHeartbeats 800000 in
theorem l_markPoly (base : Nat) (N H : Int) (AT : Option Addr) (nT cT : Nat) (xT : List Value) (AO : Option Addr) (nO cO : Nat) (xO : List Value) (j0 : Int) (w : World) (hT : w.ownsRow base 107 2 (.slice AT nT cT) nT xT) (hO : w.ownsRow base 109 2 (.slice AO nO cO) nO xO)
    (hnT : nT ≤ 549755813888) (hnO : nO ≤ 549755813888) (hj : 0 ≤ j0) (hj2 : j0 ≤ 549755813888) :
    Calls Try.prog 14 #[.agg #[.int .i64 N, .int .i64 H, .slice AT nT cT, .slice AO nO cO], .int .i64 j0] w fun e w' => e = .returned (.int .i64 (j0 + 2 * nT + 2 * nO)) ∧ w'.ownsRow base 107 2 (.slice AT nT cT) nT (cellsP (markP nT j0)) ∧ w'.ownsRow base 109 2 (.slice AO nO cO) nO (cellsP (markP nO (j0 + 2 * nT))) ∧ Marked w w' (.slice AT nT cT) (.slice AO nO cO) := by
  have HT := Lib.hid (hT.alloc (.cells #[.int .i64 N, .int .i64 H, .slice AT nT cT, .slice AO nO cO] 32))
  have HO := Lib.hid (hO.alloc (.cells #[.int .i64 N, .int .i64 H, .slice AT nT cT, .slice AO nO cO] 32))
  have X0 := Lib.hid (Bx.new w 32 #[.int .i64 N, .int .i64 H, .slice AT nT cT, .slice AO nO cO])
  clear hT hO
  go_enter Try.func14, Try.ntmps14
  go_wp2_with fail
  refine (l_markPhaseTermS _ _ _ _ _ _ _ _ HT.out (by omega) hj (by omega)).mono ?_
  rintro e w1 ⟨rfl, o1, g1⟩
  have O1 := Lib.hid o1
  have G1 := Lib.hid g1
  obtain ⟨p0, p1, p2, p3, _⟩ := (kept_app HT.out g1 X0.out (by decide)).four
  have HO1 := Lib.hid (HO.out.kept g1 (own_types HO.out HT.out (by decide)))
  clear o1 g1
  go_wp2_with fail
  refine (l_markAffineFormS _ _ _ _ _ _ _ _ HO1.out (by omega) (by omega) (by omega)).mono ?_
  rintro e w2 ⟨rfl, o2, g2⟩
  go_wp2_with fail
  go_ret
  exact ⟨rfl, O1.out.kept g2 (own_types O1.out HO1.out (by decide)), o2, _, _, G1.out, g2⟩
end Go.Proofs.Ytibhikngiceeeaa
namespace Go.Proofs.Ytibhikngiceeeaa
open Go.RowKit

def PolyBox (N H : Int) (t o : List (Int × Int)) (nT nO : Nat) (wz : World) (p : Value) (wx : World) : Prop :=
  ∃ (g : Nat) (A : Option Addr) (c : Nat) (B : Option Addr) (d : Nat), p = .pointer (some ⟨g, 0, none⟩) ∧ Bx wx g 32 #[.int .i64 N, .int .i64 H, .slice A nT c, .slice B nO d] ∧
    wx.ownsRow wz.heap.size 107 2 (.slice A nT c) nT (cellsP t) ∧ wx.ownsRow wz.heap.size 109 2 (.slice B nO d) nO (cellsP o) ∧ Below wz.heap.size wz wx
section
variable {N H : Int} {t o : List (Int × Int)} {nT nO : Nat} {wz w' : World} {b g : Nat} {A B : Option Addr} {c d : Nat}
theorem PolyBox.new (hT : w'.ownsRow b 107 2 (.slice A nT c) nT (cellsP t)) (hO : w'.ownsRow b 109 2 (.slice B nO d) nO (cellsP o)) (hB : Below wz.heap.size wz w') (hb : wz.heap.size ≤ b) :
    PolyBox N H t o nT nO wz (.pointer (some ⟨w'.heap.size, 0, none⟩)) (w'.alloc (.cells #[.int .i64 N, .int .i64 H, .slice A nT c, .slice B nO d] 32)) :=
  ⟨_, A, c, B, d, rfl, Bx.new _ _ _, (ownsRow_base hT hb).alloc _, (ownsRow_base hO hb).alloc _, hB.alloc hB.size _⟩
theorem PolyBox.old {cs : Array Value} (hX : Bx w' g 32 cs) (hcs : cs.size = 4) (hg : wz.heap.size ≤ g) (hT : w'.ownsRow b 107 2 (.slice A nT c) nT (cellsP t)) (hO : w'.ownsRow b 109 2 (.slice B nO d) nO (cellsP o)) (hB : Below wz.heap.size wz w') (hb : wz.heap.size ≤ b) :
    PolyBox N H t o nT nO wz (.pointer (some ⟨g, 0, none⟩)) ((((w'.setCell ⟨g, 0, none⟩ (.int .i64 N)).setCell ⟨g, 1, none⟩ (.int .i64 H)).setCell ⟨g, 2, none⟩ (.slice A nT c)).setCell ⟨g, 3, none⟩ (.slice B nO d)) := by
  obtain ⟨a0, a1, a2, a3, rfl⟩ : ∃ a0 a1 a2 a3, cs = #[a0, a1, a2, a3] := by
    obtain ⟨l⟩ := cs
    match l, hcs with
    | [a0, a1, a2, a3], _ => exact ⟨a0, a1, a2, a3, rfl⟩
  exact ⟨_, A, c, B, d, rfl, (((hX.s0 _).s1 _).s2 _).s3 _, own_set_ne4 (ownsRow_base hT hb) (own_bx_ne hT hX (by decide)), own_set_ne4 (ownsRow_base hO hb) (own_bx_ne hO hX (by decide)), below_set4 hB hg⟩
end
end Go.Proofs.Ytibhikngiceeeaa
namespace Go.Proofs.Ytibhikngiceeeaa
open Go.RowKit
set_option linter.unusedVariables false

theorem coefT_hit {t r : List (Int × Int)} {k : Nat} {x y m : Int} (hd : t.drop k = (x, y) :: r) (h : (x == m) = true) : coefT (t.drop k) m = y := by rw [hd, coefT, if_pos h]
theorem coefT_miss {t r : List (Int × Int)} {k : Nat} {x y m : Int} (hd : t.drop k = (x, y) :: r) (h : (x == m) = false) : coefT (t.drop k) m = coefT r m := by rw [hd, coefT, if_neg (by rw [h]; simp)]
set_option maxHeartbeats 1600000 in
theorem i_coef (N H : Int) (AT AO : Option Addr) (nT cT nO cO : Nat) (t : List (Int × Int)) (m : Int) (w : World) (hT : RdP w AT nT t) (b1 : nT ≤ 1099511627776) :
    Calls Try.prog 123 #[.agg #[.int .i64 N, .int .i64 H, .slice AT nT cT, .slice AO nO cO], .int .i64 m] w fun e w' => e = .returned (.int .i64 (coefT t m)) ∧ Below w.heap.size w w' := by
  have HT := Lib.hid hT
  clear hT
  have BZ := Lib.hid ((Below.refl w.heap.size w).alloc (Nat.le_refl _) (.cells #[.int .i64 N, .int .i64 H, .slice AT nT cT, .slice AO nO cO] 32))
  obtain ⟨R, hR⟩ : ∃ R, coefT t m = R := ⟨_, rfl⟩
  rw [hR]
  have HR := Lib.hid hR
  clear hR
  go_enter Try.func123, Try.ntmps123
  go_wp2_with fail
  go_loopg [10] nT (fun r j wr => ∃ k : Nat, k + r = nT ∧ j = .int .i64 k ∧ coefT (t.drop k) m = R ∧ Below w.heap.size w wr)
  case atStart => exact ⟨0, by omega, rfl, HR.out, BZ.out⟩
  case round =>
    obtain ⟨k, hk, rfl, hq, hb⟩ := hrel
    have HQ := Lib.hid hq
    have HB := Lib.hid hb
    have hbs := hb.size
    clear hq hb
    by_cases hlt : k < nT
    · obtain ⟨g, off, x, y, rfl, hBb, hd, c0, c1⟩ := (HT.out.below HB.out).at_ hlt
      have HD := Lib.hid hd
      have hkI : (k : Int) < (nT : Int) := by omega
      clear hd
      cases hxm : x == m
      · have H1 := Lib.hid hxm
        go_wp2_with fail
        go_roundg (gk - 1)
        case measure => omega
        case rel => exact ⟨k + 1, by omega, by go_num, by rw [← HQ.out, coefT_miss HD.out H1.out], HB.out.alloc hbs _⟩
      · have H1 := Lib.hid hxm
        go_wp2_with fail
        go_ret
        exact ⟨ret_int (by rw [← HQ.out, coefT_hit HD.out H1.out]), HB.out.alloc hbs _⟩
    · have HE : Hid (0 = R) := Lib.hid (by rw [← HQ.out, List.drop_eq_nil_of_le (by have := HT.out.1; omega)]; rfl)
      go_wp2_with fail
      go_ret
      exact ⟨ret_int HE.out, HB.out⟩
set_option maxHeartbeats 1600000 in
theorem s_coef (N H : Int) (AT AO : Option Addr) (nT cT nO cO : Nat) (t : List (Int × Int)) (m : Int) (w : World) (hT : RdP w AT nT t) (b1 : nT ≤ 1099511627776) :
    Calls Try.prog 126 #[.agg #[.int .i64 N, .int .i64 H, .slice AT nT cT, .slice AO nO cO], .int .i64 m] w fun e w' => e = .returned (.int .i64 (coefT t m)) ∧ Below w.heap.size w w' := by
  have BZ := Lib.hid ((Below.refl w.heap.size w).alloc (Nat.le_refl _) (.cells #[.int .i64 N, .int .i64 H, .slice AT nT cT, .slice AO nO cO] 32))
  have HT := Lib.hid (hT.below BZ.out)
  clear hT
  have X0 := Lib.hid (Bx.new w 32 #[.int .i64 N, .int .i64 H, .slice AT nT cT, .slice AO nO cO])
  obtain ⟨R, hR⟩ : ∃ R, coefT t m = R := ⟨_, rfl⟩
  rw [hR]
  have HR := Lib.hid hR
  clear hR
  go_enter Try.func126, Try.ntmps126
  go_wp2_with fail
  generalize w.alloc (.cells #[.int .i64 N, .int .i64 H, .slice AT nT cT, .slice AO nO cO] 32) = wz at HT X0 BZ ⊢
  obtain ⟨p0, p1, p2, p3, _⟩ := X0.out.four
  go_loopg [5] nT (fun r j wr => ∃ k : Nat, k + r = nT ∧ j = .int .i64 k ∧ coefT (t.drop k) m = R ∧ wr = wz)
  case atStart => exact ⟨0, by omega, rfl, HR.out, rfl⟩
  case round =>
    obtain ⟨k, hk, rfl, hq, rfl⟩ := hrel
    have HQ := Lib.hid hq
    clear hq
    by_cases hlt : k < nT
    · obtain ⟨g, off, x, y, rfl, hBb, hd, c0, c1⟩ := HT.out.at_ hlt
      have HD := Lib.hid hd
      have hkI : (k : Int) < (nT : Int) := by omega
      clear hd
      cases hxm : x == m
      · have H1 := Lib.hid hxm
        go_wp2_with fail
        go_roundg (gk - 1)
        case measure => omega
        case rel => exact ⟨k + 1, by omega, by go_num, by rw [← HQ.out, coefT_miss HD.out H1.out], rfl⟩
      · have H1 := Lib.hid hxm
        go_wp2_with fail
        go_ret
        exact ⟨ret_int (by rw [← HQ.out, coefT_hit HD.out H1.out]), BZ.out⟩
    · have HE : Hid (0 = R) := Lib.hid (by rw [← HQ.out, List.drop_eq_nil_of_le (by have := HT.out.1; omega)]; rfl)
      go_wp2_with fail
      go_ret
      exact ⟨ret_int HE.out, BZ.out⟩
theorem own_new_ne {w : World} {base : Nat} {e : TypeId} {sz n : Nat} {v : Value} {xs : List Value} (h : w.ownsRow base e sz v n xs) : some w.heap.size ≠ v.ownBlock := fun he => by have := (h.lt _ he.symm).2; omega
theorem own_map_ne {w : World} {base : Nat} {e : TypeId} {sz n : Nat} {v : Value} {xs : List Value} {r : Nat} {es : Array MapEntry} {ck : Nat} (h : w.ownsRow base e sz v n xs) (hm : w.heap[r]? = some (.map es ck)) : some r ≠ v.ownBlock := by
  rcases h.2 with ⟨rfl, _⟩ | ⟨g', cap, cur, rfl, _, hh, _⟩
  · simp [Value.ownBlock]
  · intro he
    have : r = g' := by simpa [Value.ownBlock] using he
    subst this
    rw [hm] at hh
    cases hh
theorem bx_map_ne {w : World} {g t r : Nat} {cs : Array Value} {es : Array MapEntry} {ck : Nat} (h : Bx w g t cs) (hm : w.heap[r]? = some (.map es ck)) : g ≠ r := by
  rintro rfl
  unfold Bx at h
  rw [hm] at h
  cases h
theorem own_setObjI {w : World} {base : Nat} {e : TypeId} {sz n : Nat} {v : Value} {xs : List Value} {r : Nat} {es : Array MapEntry} {ck : Nat} (h : w.ownsRow base e sz v n xs) (hm : w.heap[r]? = some (.map es ck)) (o : Obj) : ({ w with heap := w.heap.setIfInBounds r o } : World).ownsRow base e sz v n xs := by
  have hne := own_map_ne h hm
  refine ⟨h.1, ?_⟩
  rcases h.2 with h0 | ⟨g, cap, cur, hv, h2, h3, h4⟩
  · exact .inl h0
  · refine .inr ⟨g, cap, cur, hv, h2, ?_, h4⟩
    show (w.heap.setIfInBounds r o)[g]? = _
    rw [Array.getElem?_setIfInBounds_ne (by intro e; subst e; exact hne (by rw [hv]; rfl))]
    exact h3
theorem map_grown {w w' : World} {r : Nat} {o : Obj} {row : Option Nat} (h : w.heap[r]? = some o) (hg : w.grownBy w' row) (hne : some r ≠ row) : w'.heap[r]? = some o := (hg.block r (Array.getElem?_eq_some_iff.1 h).1 hne).trans h
theorem map_set {w : World} {r : Nat} {o : Obj} (h : w.heap[r]? = some o) {p : Addr} (u : Value) (hne : r ≠ p.block) : (w.setCell p u).heap[r]? = some o := (Below.heap_setCell w p u r hne).trans h

def FI (g6 g10 : Nat) (M : Po) (AW : Option Addr) (cW : Nat) (BW : Option Addr) (dW : Nat) (w0 : World) (p : Po) (A2 : Option Addr) (c2 : Nat) (B2 : Option Addr) (d2 : Nat) (gm : Nat) (es : Array MapEntry) (ck : Nat) (met : List Int) (A : Option Addr) (c : Nat) (acc : List Gt) (wr : World) : Prop :=
  Bx wr g6 32 #[.int .i64 M.N, .int .i64 M.H, .slice AW M.t.length cW, .slice BW M.o.length dW] ∧ Bx wr g10 32 #[.int .i64 p.N, .int .i64 p.H, .slice A2 p.t.length c2, .slice B2 p.o.length d2] ∧
    wr.ownsRow w0.heap.size 107 2 (.slice AW M.t.length cW) M.t.length (cellsP M.t) ∧ wr.ownsRow w0.heap.size 107 2 (.slice A2 p.t.length c2) p.t.length (cellsP p.t) ∧ wr.ownsRow w0.heap.size 109 2 (.slice B2 p.o.length d2) p.o.length (cellsP p.o) ∧
    wr.ownsRow w0.heap.size 55 4 (.slice A acc.length c) acc.length (cellsG acc) ∧ (wr.heap[gm]? = some (.map es ck) ∧ EntsI es.toList met ∧ w0.heap.size ≤ gm) ∧ Below w0.heap.size w0 wr ∧ w0.heap.size ≤ g10 ∧ g6 ≠ g10
def FS (g6 g10 : Nat) (M : Po) (AW : Option Addr) (cW : Nat) (BW : Option Addr) (dW : Nat) (w0 : World) (p : Po) (A2 : Option Addr) (c2 : Nat) (B2 : Option Addr) (d2 : Nat) (AM : Option Addr) (cM : Nat) (met : List Int) (A : Option Addr) (c : Nat) (acc : List Gt) (wr : World) : Prop :=
  Bx wr g6 32 #[.int .i64 M.N, .int .i64 M.H, .slice AW M.t.length cW, .slice BW M.o.length dW] ∧ Bx wr g10 32 #[.int .i64 p.N, .int .i64 p.H, .slice A2 p.t.length c2, .slice B2 p.o.length d2] ∧
    wr.ownsRow w0.heap.size 107 2 (.slice AW M.t.length cW) M.t.length (cellsP M.t) ∧ wr.ownsRow w0.heap.size 107 2 (.slice A2 p.t.length c2) p.t.length (cellsP p.t) ∧ wr.ownsRow w0.heap.size 109 2 (.slice B2 p.o.length d2) p.o.length (cellsP p.o) ∧
    wr.ownsRow w0.heap.size 55 4 (.slice A acc.length c) acc.length (cellsG acc) ∧ wr.ownsRow w0.heap.size 3 1 (.slice AM met.length cM) met.length (cellsI met) ∧ Below w0.heap.size w0 wr ∧ w0.heap.size ≤ g10 ∧ g6 ≠ g10
section
variable {g6 g10 : Nat} {M : Po} {AW : Option Addr} {cW : Nat} {BW : Option Addr} {dW : Nat} {w0 : World} {p : Po} {A2 : Option Addr} {c2 : Nat} {B2 : Option Addr} {d2 : Nat} {gm : Nat} {es : Array MapEntry} {ck : Nat} {met : List Int} {A : Option Addr} {c : Nat} {acc : List Gt} {wr w' : World}
theorem FI.alloc (h : FI g6 g10 M AW cW BW dW w0 p A2 c2 B2 d2 gm es ck met A c acc wr) (o : Obj) : FI g6 g10 M AW cW BW dW w0 p A2 c2 B2 d2 gm es ck met A c acc (wr.alloc o) := by
  obtain ⟨x6, x10, tw, tp, op, ga, ⟨hm, he, hgm⟩, hb, h10, hne⟩ := h
  exact ⟨x6.alloc o, x10.alloc o, tw.alloc o, tp.alloc o, op.alloc o, ga.alloc o, ⟨map_allocI hm, he, hgm⟩, hb.alloc hb.size o, h10, hne⟩
theorem FI.below (h : FI g6 g10 M AW cW BW dW w0 p A2 c2 B2 d2 gm es ck met A c acc wr) (b : Below wr.heap.size wr w') : FI g6 g10 M AW cW BW dW w0 p A2 c2 B2 d2 gm es ck met A c acc w' := by
  obtain ⟨x6, x10, tw, tp, op, ga, ⟨hm, he, hgm⟩, hb, h10, hne⟩ := h
  exact ⟨x6.below b, x10.below b, ownsRow_below tw b, ownsRow_below tp b, ownsRow_below op b, ownsRow_below ga b, ⟨map_belowI hm b, he, hgm⟩, below_trans hb b, h10, hne⟩
theorem FI.app (h : FI g6 g10 M AW cW BW dW w0 p A2 c2 B2 d2 gm es ck met A c acc wr) {A' : Option Addr} {n' c' : Nat} {acc' : List Gt} (hg : wr.grownBy w' (Value.slice A acc.length c).ownBlock) (ho : w'.ownsRow w0.heap.size 55 4 (.slice A' n' c') n' (cellsG acc')) : FI g6 g10 M AW cW BW dW w0 p A2 c2 B2 d2 gm es ck met A' c' acc' w' := by
  obtain ⟨x6, x10, tw, tp, op, ga, ⟨hm, he, hgm⟩, hb, h10, hne⟩ := h
  have hn : n' = acc'.length := by have := ho.1; rw [length_cellsG] at this; omega
  subst hn
  exact ⟨kept_app ga hg x6 (by decide), kept_app ga hg x10 (by decide), tw.kept hg (own_types tw ga (by decide)), tp.kept hg (own_types tp ga (by decide)), op.kept hg (own_types op ga (by decide)), ho, ⟨map_grown hm hg (own_map_ne ga hm), he, hgm⟩, below_grown hb hb.size ga (Nat.le_refl _) hg, h10, hne⟩
theorem FI.poly (h : FI g6 g10 M AW cW BW dW w0 p A2 c2 B2 d2 gm es ck met A c acc wr) {b : Nat} {q : Po} {A6 : Option Addr} {c6 : Nat} {B6 : Option Addr} {d6 : Nat} (ht : wr.ownsRow b 107 2 (.slice A6 q.t.length c6) q.t.length (cellsP q.t)) (ho : wr.ownsRow b 109 2 (.slice B6 q.o.length d6) q.o.length (cellsP q.o)) (hbb : w0.heap.size ≤ b) : FI g6 g10 M AW cW BW dW w0 q A6 c6 B6 d6 gm es ck met A c acc ((((wr.setCell ⟨g10, 0, none⟩ (.int .i64 q.N)).setCell ⟨g10, 1, none⟩ (.int .i64 q.H)).setCell ⟨g10, 2, none⟩ (.slice A6 q.t.length c6)).setCell ⟨g10, 3, none⟩ (.slice B6 q.o.length d6)) := by
  obtain ⟨x6, x10, tw, tp, op, ga, ⟨hm, he, hgm⟩, hb, h10, hne⟩ := h
  exact ⟨set4K x6 hne, (((x10.s0 _).s1 _).s2 _).s3 _, own_set_ne4 tw (own_bx_ne tw x10 (by decide)), own_set_ne4 (ownsRow_base ht hbb) (own_bx_ne ht x10 (by decide)), own_set_ne4 (ownsRow_base ho hbb) (own_bx_ne ho x10 (by decide)), own_set_ne4 ga (own_bx_ne ga x10 (by decide)), ⟨map_set (map_set (map_set (map_set hm _ (bx_map_ne x10 hm).symm) _ (bx_map_ne x10 hm).symm) _ (bx_map_ne x10 hm).symm) _ (bx_map_ne x10 hm).symm, he, hgm⟩, below_set4 hb h10, h10, hne⟩
theorem FI.upd (h : FI g6 g10 M AW cW BW dW w0 p A2 c2 B2 d2 gm es ck met A c acc wr) (x : Int) : FI g6 g10 M AW cW BW dW w0 p A2 c2 B2 d2 gm (es.push { key := .int .i64 x, val := .bool true, born := ck }) (ck + 1) (met ++ [x]) A c acc { wr with heap := wr.heap.setIfInBounds gm (.map (es.push { key := .int .i64 x, val := .bool true, born := ck }) (ck + 1)) } := by
  obtain ⟨x6, x10, tw, tp, op, ga, ⟨hm, he, hgm⟩, hb, h10, hne⟩ := h
  exact ⟨x6.setObjI (bx_map_ne x6 hm) _, x10.setObjI (bx_map_ne x10 hm) _, own_setObjI tw hm _, own_setObjI tp hm _, own_setObjI op hm _, own_setObjI ga hm _, ⟨map_setObjI hm, he.push x ck, hgm⟩, below_setObjI hb hgm _, h10, hne⟩
end
section
variable {g6 g10 : Nat} {M : Po} {AW : Option Addr} {cW : Nat} {BW : Option Addr} {dW : Nat} {w0 : World} {p : Po} {A2 : Option Addr} {c2 : Nat} {B2 : Option Addr} {d2 : Nat} {AM : Option Addr} {cM : Nat} {met : List Int} {A : Option Addr} {c : Nat} {acc : List Gt} {wr w' : World}
theorem FS.alloc (h : FS g6 g10 M AW cW BW dW w0 p A2 c2 B2 d2 AM cM met A c acc wr) (o : Obj) : FS g6 g10 M AW cW BW dW w0 p A2 c2 B2 d2 AM cM met A c acc (wr.alloc o) := by
  obtain ⟨x6, x10, tw, tp, op, ga, hm, hb, h10, hne⟩ := h
  exact ⟨x6.alloc o, x10.alloc o, tw.alloc o, tp.alloc o, op.alloc o, ga.alloc o, hm.alloc o, hb.alloc hb.size o, h10, hne⟩
theorem FS.below (h : FS g6 g10 M AW cW BW dW w0 p A2 c2 B2 d2 AM cM met A c acc wr) (b : Below wr.heap.size wr w') : FS g6 g10 M AW cW BW dW w0 p A2 c2 B2 d2 AM cM met A c acc w' := by
  obtain ⟨x6, x10, tw, tp, op, ga, hm, hb, h10, hne⟩ := h
  exact ⟨x6.below b, x10.below b, ownsRow_below tw b, ownsRow_below tp b, ownsRow_below op b, ownsRow_below ga b, ownsRow_below hm b, below_trans hb b, h10, hne⟩
theorem FS.app (h : FS g6 g10 M AW cW BW dW w0 p A2 c2 B2 d2 AM cM met A c acc wr) {A' : Option Addr} {n' c' : Nat} {acc' : List Gt} (hg : wr.grownBy w' (Value.slice A acc.length c).ownBlock) (ho : w'.ownsRow w0.heap.size 55 4 (.slice A' n' c') n' (cellsG acc')) : FS g6 g10 M AW cW BW dW w0 p A2 c2 B2 d2 AM cM met A' c' acc' w' := by
  obtain ⟨x6, x10, tw, tp, op, ga, hm, hb, h10, hne⟩ := h
  have hn : n' = acc'.length := by have := ho.1; rw [length_cellsG] at this; omega
  subst hn
  exact ⟨kept_app ga hg x6 (by decide), kept_app ga hg x10 (by decide), tw.kept hg (own_types tw ga (by decide)), tp.kept hg (own_types tp ga (by decide)), op.kept hg (own_types op ga (by decide)), ho, hm.kept hg (own_types hm ga (by decide)), below_grown hb hb.size ga (Nat.le_refl _) hg, h10, hne⟩
theorem FS.poly (h : FS g6 g10 M AW cW BW dW w0 p A2 c2 B2 d2 AM cM met A c acc wr) {b : Nat} {q : Po} {A6 : Option Addr} {c6 : Nat} {B6 : Option Addr} {d6 : Nat} (ht : wr.ownsRow b 107 2 (.slice A6 q.t.length c6) q.t.length (cellsP q.t)) (ho : wr.ownsRow b 109 2 (.slice B6 q.o.length d6) q.o.length (cellsP q.o)) (hbb : w0.heap.size ≤ b) : FS g6 g10 M AW cW BW dW w0 q A6 c6 B6 d6 AM cM met A c acc ((((wr.setCell ⟨g10, 0, none⟩ (.int .i64 q.N)).setCell ⟨g10, 1, none⟩ (.int .i64 q.H)).setCell ⟨g10, 2, none⟩ (.slice A6 q.t.length c6)).setCell ⟨g10, 3, none⟩ (.slice B6 q.o.length d6)) := by
  obtain ⟨x6, x10, tw, tp, op, ga, hm, hb, h10, hne⟩ := h
  exact ⟨set4K x6 hne, (((x10.s0 _).s1 _).s2 _).s3 _, own_set_ne4 tw (own_bx_ne tw x10 (by decide)), own_set_ne4 (ownsRow_base ht hbb) (own_bx_ne ht x10 (by decide)), own_set_ne4 (ownsRow_base ho hbb) (own_bx_ne ho x10 (by decide)), own_set_ne4 ga (own_bx_ne ga x10 (by decide)), own_set_ne4 hm (own_bx_ne hm x10 (by decide)), below_set4 hb h10, h10, hne⟩
theorem FS.metApp (h : FS g6 g10 M AW cW BW dW w0 p A2 c2 B2 d2 AM cM met A c acc wr) {A' : Option Addr} {n' c' : Nat} {met' : List Int} (hg : wr.grownBy w' (Value.slice AM met.length cM).ownBlock) (ho : w'.ownsRow w0.heap.size 3 1 (.slice A' n' c') n' (cellsI met')) : FS g6 g10 M AW cW BW dW w0 p A2 c2 B2 d2 A' c' met' A c acc w' := by
  obtain ⟨x6, x10, tw, tp, op, ga, hm, hb, h10, hne⟩ := h
  have hn : n' = met'.length := by have := ho.1; rw [length_cellsI] at this; omega
  subst hn
  exact ⟨kept_app hm hg x6 (by decide), kept_app hm hg x10 (by decide), tw.kept hg (own_types tw hm (by decide)), tp.kept hg (own_types tp hm (by decide)), op.kept hg (own_types op hm (by decide)), ga.kept hg (own_types ga hm (by decide)), ho, below_grown hb hb.size hm (Nat.le_refl _) hg, h10, hne⟩
end
end Go.Proofs.Ytibhikngiceeeaa
namespace Go.Proofs.Ytibhikngiceeeaa
open Go.RowKit

def compS : Po → List Gt → Po × Bool
  | p, [] => (p, decide (p.N > 0))
  | p, g :: r => if (applyP p g).2 = true then compS (applyP p g).1 r else (Po.zero, false)
theorem cs4 {w' : World} {g g1 i : Nat} {u a b c d : Value} (h : w'.cell? ⟨g, i, none⟩ = some u) (hg : g ≠ g1) : ((((w'.setCell ⟨g1, 0, none⟩ a).setCell ⟨g1, 1, none⟩ b).setCell ⟨g1, 2, none⟩ c).setCell ⟨g1, 3, none⟩ d).cell? ⟨g, i, none⟩ = some u := by
  have e : ((((w'.setCell ⟨g1, 0, none⟩ a).setCell ⟨g1, 1, none⟩ b).setCell ⟨g1, 2, none⟩ c).setCell ⟨g1, 3, none⟩ d).heap[g]? = w'.heap[g]? :=
    ((((Below.heap_setCell _ ⟨g1, 3, none⟩ d g hg).trans (Below.heap_setCell _ ⟨g1, 2, none⟩ c g hg)).trans (Below.heap_setCell _ ⟨g1, 1, none⟩ b g hg)).trans (Below.heap_setCell _ ⟨g1, 0, none⟩ a g hg))
  exact (World.cell?_of_block (a := ⟨g, i, none⟩) e).trans h
theorem drew_cell (w : World) (a : Addr) : w.drew.cell? a = w.cell? a := rfl
theorem cs4d {w' : World} {g g1 i : Nat} {u a b c d : Value} (h : w'.cell? ⟨g, i, none⟩ = some u) (hg : g ≠ g1) : ((((w'.setCell ⟨g1, 0, none⟩ a).setCell ⟨g1, 1, none⟩ b).setCell ⟨g1, 2, none⟩ c).setCell ⟨g1, 3, none⟩ d).drew.cell? ⟨g, i, none⟩ = some u := (drew_cell _ _).trans (cs4 h hg)
theorem compS_go {p : Po} {g : Gt} {r : List Gt} (h : (applyP p g).2 = true) : compS p (g :: r) = compS (applyP p g).1 r := by rw [compS, if_pos h]
theorem compS_no {p : Po} {g : Gt} {r : List Gt} (h : (applyP p g).2 = false) : compS p (g :: r) = (Po.zero, false) := by rw [compS, if_neg (by rw [h]; simp)]
theorem compS_L : ∀ (gs : List Gt) (p : Po), 0 < p.N → compS p gs = compL p gs
  | [], p, h => by rw [compS, compL, decide_eq_true (show p.N > 0 from h)]
  | g :: r, p, h => by
    cases h1 : (applyP p g).2
    · rw [compS_no h1, compL_no h1]
    · rw [compS_go h1, compL_go h1]
      exact compS_L r _ (by rw [(applyP_bd p g).2.2 h1]; exact h)
theorem compS_P (gs : List Gt) (N : Int) : compS (idP N) gs = compP gs N := by
  unfold compP
  cases hin : inB N 1 4
  · rw [if_neg (by simp)]
    have e : idP N = Po.zero := by unfold idP; rw [hin]; rfl
    rw [e]
    cases gs with
    | nil => rfl
    | cons g r =>
      rw [compS_no]
      have : okP Po.zero g = false := by
        unfold okP okG
        rw [show inB Po.zero.N 1 4 = false from rfl]
        rfl
      rw [applyP_no this]
  · rw [if_pos (by rfl)]
    have e : idP N = ⟨N, 0, [], idO N.toNat⟩ := by unfold idP; rw [hin]; rfl
    exact compS_L gs _ (by rw [e]; have := (inB_iff.1 hin).1; show 0 < N; omega)

set_option maxRecDepth 100000 in
set_option maxHeartbeats 3200000 in
theorem s_CompP (A : Option Addr) (n cap : Nat) (gs : List Gt) (N : Int) (w : World) (h : RdG w A n gs) (hn : n ≤ 68719476736) :
    Calls Try.prog 21 #[.slice A n cap, .int .i64 N] w (RetPB (compP gs N) w) := by
  have H := Lib.hid h
  have HL := Lib.hid h.1
  clear h
  have X0 := Lib.hid (Bx.new w 32 #[.int .i64 0, .int .i64 0, .slice none 0 0, .slice none 0 0])
  have BZ : Hid (Below w.heap.size w (w.alloc (.cells #[.int .i64 0, .int .i64 0, .slice none 0 0, .slice none 0 0] 32))) := Lib.hid ((Below.refl _ _).alloc (Nat.le_refl _) _)
  obtain ⟨R, hR⟩ : ∃ R, compP gs N = R := ⟨_, rfl⟩
  have HR := Lib.hid hR
  rw [hR]
  clear hR
  have HC : Hid (compS (idP N) gs = R) := Lib.hid (by rw [← HR.out]; exact compS_P gs N)
  have hid0 : (idP N).t.length = 0 ∧ (idP N).o.length ≤ 4 := by
    unfold idP
    split
    · exact ⟨rfl, by rw [idO_len]; have := inB_iff.1 ‹_›; omega⟩
    · exact ⟨rfl, by simp [Po.zero]⟩
  have HID := Lib.hid hid0
  clear hid0 HR
  go_enter Try.func21, Try.ntmps21
  go_wp2_with fail
  refine (s_IdP _ _).mono ?_
  rintro e w1 ⟨v, rfl, ⟨A1, c1, B1, d1, rfl, t1, o1⟩, b1⟩
  have X1 := Lib.hid ((X0.out.below b1).alloc (.cells #[.int .i64 (idP N).N, .int .i64 (idP N).H, .slice A1 (idP N).t.length c1, .slice B1 (idP N).o.length d1] 32))
  have XP := Lib.hid (Bx.new w1 32 #[.int .i64 (idP N).N, .int .i64 (idP N).H, .slice A1 (idP N).t.length c1, .slice B1 (idP N).o.length d1])
  have T1 := Lib.hid (ownsRow_base (t1.alloc (.cells #[.int .i64 (idP N).N, .int .i64 (idP N).H, .slice A1 (idP N).t.length c1, .slice B1 (idP N).o.length d1] 32)) (show w.heap.size + 1 ≤ _ by simp))
  have O1 := Lib.hid (ownsRow_base (o1.alloc (.cells #[.int .i64 (idP N).N, .int .i64 (idP N).H, .slice A1 (idP N).t.length c1, .slice B1 (idP N).o.length d1] 32)) (show w.heap.size + 1 ≤ _ by simp))
  have BB := Lib.hid ((below_trans BZ.out b1).alloc (below_trans BZ.out b1).size (.cells #[.int .i64 (idP N).N, .int .i64 (idP N).H, .slice A1 (idP N).t.length c1, .slice B1 (idP N).o.length d1] 32))
  have hs1 : w.heap.size < w1.heap.size := (X0.out.below b1).lt
  clear t1 o1 b1 X0 BZ
  generalize idP N = p0 at HC HID X1 XP T1 O1 BB ⊢
  go_wp2_with fail
  generalize hgp : w1.heap.size = gp at XP hs1 ⊢
  go_loopg [7] n (fun r i wr => ∃ (k : Nat) (p : Po) (A2 : Option Addr) (c2 : Nat) (B2 : Option Addr) (d2 : Nat), k + r = n ∧ i = .int .i64 k ∧ compS p (gs.drop k) = R ∧ p.t.length ≤ k ∧ p.o.length ≤ 4 ∧ Bx wr w.heap.size 32 #[.int .i64 0, .int .i64 0, .slice none 0 0, .slice none 0 0] ∧ Bx wr gp 32 #[.int .i64 p.N, .int .i64 p.H, .slice A2 p.t.length c2, .slice B2 p.o.length d2] ∧ wr.ownsRow (w.heap.size + 1) 107 2 (.slice A2 p.t.length c2) p.t.length (cellsP p.t) ∧ wr.ownsRow (w.heap.size + 1) 109 2 (.slice B2 p.o.length d2) p.o.length (cellsP p.o) ∧ Below w.heap.size w wr)
  case atStart => exact ⟨0, p0, A1, c1, B1, d1, by omega, rfl, HC.out, by have := HID.out.1; omega, HID.out.2, X1.out, XP.out, T1.out, O1.out, BB.out⟩
  case round =>
    clear X1 XP T1 O1 BB HC HID
    obtain ⟨k, p, A2, c2, B2, d2, hk, rfl, hq, htl, hol, hx0, hxp, ht, ho, hbw⟩ := hrel
    have HQ := Lib.hid hq
    have HX0 := Lib.hid hx0
    have HXP := Lib.hid hxp
    have HT := Lib.hid ht
    have HO := Lib.hid ho
    have HB := Lib.hid hbw
    have hbs := hbw.size
    have hcap := ownsRow_cap ht
    have hl0 := hx0.lt
    have hlp := hxp.lt
    clear hq hx0 hxp ht ho hbw
    obtain ⟨p0', p1, p2, p3, f0, f1, f2, f3⟩ := HXP.out.four
    by_cases hlt : k < n
    · obtain ⟨bb, off, g, rfl, hBb, hd, c0, c1', c2', c3⟩ := (H.out.below HB.out).at_ hlt
      have HD := Lib.hid hd
      have hkI : (k : Int) < (n : Int) := by omega
      have hk0 : (0 : Int) ≤ (k : Int) := by omega
      clear hd
      have GB := Lib.hid (Bx.new wr 55 #[.int .i64 g.k, .int .i64 g.a, .int .i64 g.b, .int .i64 g.c])
      have hcap' := hcap
      have hng : gp ≠ wr.heap.size := by omega
      have hnb : bb ≠ wr.heap.size := by omega
      go_wp2_with fail
      go_region_held3 (fun w' => w'.cell? ⟨gp, 0, none⟩ = some (.int .i64 p.N) ∧ w'.cell? ⟨gp, 1, none⟩ = some (.int .i64 p.H) ∧ w'.cell? ⟨gp, 2, none⟩ = some (.slice A2 p.t.length c2) ∧ w'.cell? ⟨gp, 3, none⟩ = some (.slice B2 p.o.length d2) ∧ w'.cell? ⟨bb, off + k * 4, none⟩ = some (.int .i64 g.k) ∧ w'.cell? ⟨bb, off + k * 4 + 1, none⟩ = some (.int .i64 g.a) ∧ w'.cell? ⟨bb, off + k * 4 + 2, none⟩ = some (.int .i64 g.b) ∧ w'.cell? ⟨bb, off + k * 4 + 3, none⟩ = some (.int .i64 g.c))
        (first | with_reducible exact ⟨s0, s1, s2, s3, y0, y1, y2, y3⟩ | with_reducible exact ⟨cs4 s0 hng, cs4 s1 hng, cs4 s2 hng, cs4 s3 hng, cs4 y0 hnb, cs4 y1 hnb, cs4 y2 hnb, cs4 y3 hnb⟩ | go_keep)
        (first
          | (go_at_call 70; (with_reducible refine (s_ApplyP p.N p.H A2 p.t.length c2 p.t B2 p.o.length d2 p.o g _ (RdP.drew (RdP.own HT.out)) (RdP.drew (RdP.own HO.out)) (by omega) (by omega) hcap').mono ?_); rintro e w5 ⟨v, rfl, ⟨A5, c5, B5, d5, rfl, t5, o5⟩, b5'⟩; have b5 := below_drew b5'; have ⟨s0, s1, s2, s3, _, _, _, _⟩ := (HXP.out.below b5).four; have y0 := (b5.cell (p := ⟨bb, off + k * 4, none⟩) hBb).trans c0; have y1 := (b5.cell (p := ⟨bb, off + k * 4 + 1, none⟩) hBb).trans c1'; have y2 := (b5.cell (p := ⟨bb, off + k * 4 + 2, none⟩) hBb).trans c2'; have y3 := (b5.cell (p := ⟨bb, off + k * 4 + 3, none⟩) hBb).trans c3; have ny0 := World.block_lt_of_cell? _ _ y0; have ns0 := World.block_lt_of_cell? _ _ s0)
          | (go_at_call 70; (with_reducible refine (s_ApplyP p.N p.H A2 p.t.length c2 p.t B2 p.o.length d2 p.o g _ (RdP.drew (RdP.own (HT.out.alloc _))) (RdP.drew (RdP.own (HO.out.alloc _))) (by omega) (by omega) hcap').mono ?_); rintro e w5 ⟨v, rfl, ⟨A5, c5, B5, d5, rfl, t5, o5⟩, b5'⟩; have b5 := below_alloc (below_drew b5'); have ⟨s0, s1, s2, s3, _, _, _, _⟩ := (HXP.out.below b5).four; have y0 := (b5.cell (p := ⟨bb, off + k * 4, none⟩) hBb).trans c0; have y1 := (b5.cell (p := ⟨bb, off + k * 4 + 1, none⟩) hBb).trans c1'; have y2 := (b5.cell (p := ⟨bb, off + k * 4 + 2, none⟩) hBb).trans c2'; have y3 := (b5.cell (p := ⟨bb, off + k * 4 + 3, none⟩) hBb).trans c3; have ny0 := World.block_lt_of_cell? _ _ y0; have ns0 := World.block_lt_of_cell? _ _ s0; have XB := (show Bx w5 wr.heap.size 32 #[.int .i64 0, .int .i64 0, .slice none 0 0, .slice none 0 0] from (Bx.new wr _ _).below (below_drew b5')); have ⟨v0, v1, v2, v3, z0, z1, z2, z3⟩ := XB.four)
          | fail)
      all_goals
        have hbd := applyP_bd p g
        obtain ⟨q, hq⟩ : ∃ q, applyP p g = q := ⟨_, rfl⟩
        rw [show applyP ⟨p.N, p.H, p.t, p.o⟩ g = q from hq] at t5 o5 ⊢
        rw [hq] at hbd
        have hb1 := hbd.1
        have hb2 := hbd.2.1
        clear hbd
        have HQQ := Lib.hid hq
        have X5 := Lib.hid (HX0.out.below b5)
        have XP5 := Lib.hid (HXP.out.below b5)
        have B5w := Lib.hid (below_trans HB.out b5)
        have hl05 := X5.out.lt
        have hlp5 := XP5.out.lt
        clear s0 s1 s2 s3 y0 y1 y2 y3
        obtain ⟨r0, r1, r2, r3, e0, e1, e2, e3⟩ := X5.out.four
        obtain ⟨s0, s1, s2, s3, g0, g1, g2, g3⟩ := XP5.out.four
        have T5 := Lib.hid (ownsRow_base t5 (show w.heap.size + 1 ≤ _ by first | (show w.heap.size + 1 ≤ wr.heap.size; omega) | (simp; omega)))
        have O5 := Lib.hid (ownsRow_base o5 (show w.heap.size + 1 ≤ _ by first | (show w.heap.size + 1 ≤ wr.heap.size; omega) | (simp; omega)))
        have hcap5 := ownsRow_cap t5
        clear t5 o5 b5 b5' hq p0' p1 p2 p3 f0 f1 f2 f3
        obtain ⟨⟨qN, qH, qt, qo⟩, qb⟩ := q
        dsimp only at *
      · cases qb
        · have HZ : Hid (R = (Po.zero, false)) := Lib.hid (by rw [← HQ.out, HD.out, compS_no (by rw [HQQ.out])])
          go_wp2_with fail
          refine bodyPost_ret (v := .tuple #[.agg #[.int .i64 0, .int .i64 0, .slice none 0 0, .slice none 0 0], .bool false]) (by simp [results, Try.results21, go_sem, r0, r1, r2, r3, hl05]) rfl ⟨_, by rw [HZ.out], by rw [HZ.out]; exact ⟨none, 0, none, 0, rfl, World.ownsRow_nil _ _ _ _, World.ownsRow_nil _ _ _ _⟩, ?_⟩
          exact below_al (below_set4 B5w.out (Nat.le_refl _))
        · go_wp2_with fail
          go_roundg (gk - 1)
          case measure => omega
          case rel =>
            exact ⟨k + 1, ⟨qN, qH, qt, qo⟩, A5, c5, B5, d5, by omega, by go_num, by rw [← HQ.out, HD.out, compS_go (by rw [HQQ.out]), HQQ.out], by show qt.length ≤ k + 1; omega, by show qo.length ≤ 4; omega, (set4K X5.out (by omega)).alloc _, ((((XP5.out.s0 _).s1 _).s2 _).s3 _).alloc _, (own_set_ne4 T5.out (own_bx_ne T5.out XP5.out (by decide))).alloc _, (own_set_ne4 O5.out (own_bx_ne O5.out XP5.out (by decide))).alloc _, below_al (below_set4 B5w.out (by omega))⟩
      · have hn1 : w.heap.size ≠ wr.heap.size := by omega
        have hn2 : wr.heap.size ≠ gp := by omega
        have hn3 : wr.heap.size ≠ w.heap.size := by omega
        have HXB := Lib.hid XB
        cases qb
        · have HZ : Hid (R = (Po.zero, false)) := Lib.hid (by rw [← HQ.out, HD.out, compS_no (by rw [HQQ.out])])
          go_wp2_with fail
          refine bodyPost_ret (v := .tuple #[.agg #[.int .i64 0, .int .i64 0, .slice none 0 0, .slice none 0 0], .bool false]) (by simp [results, Try.results21, go_sem, r0, r1, r2, r3]) rfl ⟨_, by rw [HZ.out], by rw [HZ.out]; exact ⟨none, 0, none, 0, rfl, World.ownsRow_nil _ _ _ _, World.ownsRow_nil _ _ _ _⟩, ?_⟩
          exact below_set4 (below_set4 B5w.out (by omega)) (Nat.le_refl _)
        · go_wp2_with fail
          go_roundg (gk - 1)
          case measure => omega
          case rel =>
            exact ⟨k + 1, ⟨qN, qH, qt, qo⟩, A5, c5, B5, d5, by omega, by go_num, by rw [← HQ.out, HD.out, compS_go (by rw [HQQ.out]), HQQ.out], by show qt.length ≤ k + 1; omega, by show qo.length ≤ 4; omega, set4K (set4K X5.out hn1) (by omega), (((((set4K XP5.out hng).s0 _).s1 _).s2 _).s3 _), own_set_ne4 (own_set_ne4 T5.out (own_bx_ne T5.out HXB.out (by decide))) (own_bx_ne T5.out XP5.out (by decide)), own_set_ne4 (own_set_ne4 O5.out (own_bx_ne O5.out HXB.out (by decide))) (own_bx_ne O5.out XP5.out (by decide)), below_set4 (below_set4 B5w.out (by omega)) (by omega)⟩
    · have hkn : k = n := by omega
      have HZ : Hid (R = (p, decide (p.N > 0))) := Lib.hid (by rw [← HQ.out, List.drop_eq_nil_of_le (by have := HL.out; omega)]; rfl)
      obtain ⟨r0, r1, r2, r3, e0, e1, e2, e3⟩ := HX0.out.four
      have hgn : gp ≠ w.heap.size := by omega
      by_cases hN : 0 < p.N
      · have hNd : decide (p.N > 0) = true := by simpa using hN
        have HND := Lib.hid hNd
        go_wp2_with fail
        go_region_held3 (fun w' => w'.cell? ⟨gp, 0, none⟩ = some (.int .i64 p.N) ∧ w'.cell? ⟨gp, 1, none⟩ = some (.int .i64 p.H) ∧ w'.cell? ⟨gp, 2, none⟩ = some (.slice A2 p.t.length c2) ∧ w'.cell? ⟨gp, 3, none⟩ = some (.slice B2 p.o.length d2))
          (first | with_reducible exact ⟨p0', p1, p2, p3⟩ | with_reducible exact ⟨cs4d p0' hgn, cs4d p1 hgn, cs4d p2 hgn, cs4d p3 hgn⟩ | go_keep)
          (fail)
        go_wp2_with fail
        refine bodyPost_ret (v := .tuple #[.agg #[.int .i64 p.N, .int .i64 p.H, .slice A2 p.t.length c2, .slice B2 p.o.length d2], .bool true]) (by simp [results, Try.results21, go_sem, r0, r1, r2, r3]) rfl ⟨_, by rw [HZ.out, HND.out], by rw [HZ.out]; exact ⟨A2, c2, B2, d2, rfl, ownsRow_base (ownsRow_drew (own_set4 HT.out (by omega))) (by omega), ownsRow_base (ownsRow_drew (own_set4 HO.out (by omega))) (by omega)⟩, ?_⟩
        exact Below.drew (below_set4 HB.out (Nat.le_refl _))
      · have hNd : decide (p.N > 0) = false := by simpa using hN
        have HND := Lib.hid hNd
        go_wp2_with fail
        go_region_held3 (fun w' => w'.cell? ⟨gp, 0, none⟩ = some (.int .i64 p.N) ∧ w'.cell? ⟨gp, 1, none⟩ = some (.int .i64 p.H) ∧ w'.cell? ⟨gp, 2, none⟩ = some (.slice A2 p.t.length c2) ∧ w'.cell? ⟨gp, 3, none⟩ = some (.slice B2 p.o.length d2))
          (first | with_reducible exact ⟨p0', p1, p2, p3⟩ | with_reducible exact ⟨cs4d p0' hgn, cs4d p1 hgn, cs4d p2 hgn, cs4d p3 hgn⟩ | go_keep)
          (fail)
        go_wp2_with fail
        refine bodyPost_ret (v := .tuple #[.agg #[.int .i64 p.N, .int .i64 p.H, .slice A2 p.t.length c2, .slice B2 p.o.length d2], .bool false]) (by simp [results, Try.results21, go_sem, r0, r1, r2, r3]) rfl ⟨_, by rw [HZ.out, HND.out], by rw [HZ.out]; exact ⟨A2, c2, B2, d2, rfl, ownsRow_base (ownsRow_drew (own_set4 HT.out (by omega))) (by omega), ownsRow_base (ownsRow_drew (own_set4 HO.out (by omega))) (by omega)⟩, ?_⟩
        exact Below.drew (below_set4 HB.out (Nat.le_refl _))
end Go.Proofs.Ytibhikngiceeeaa
namespace Go.Proofs.Ytibhikngiceeeaa
open Go.RowKit
set_option linter.unusedVariables false

set_option maxRecDepth 100000 in
set_option maxHeartbeats 12800000 in
theorem i_FoldP (A : Option Addr) (n cap : Nat) (gs : List Gt) (N : Int) (w : World) (h : RdG w A n gs) (hn : n ≤ 1048576) :
    Calls Try.prog 78 #[.slice A n cap, .int .i64 N] w (RetGI (foldP gs N) w) := by
  have H := Lib.hid h
  have HL := Lib.hid h.1
  clear h
  obtain ⟨⟨M, mb⟩, hM⟩ : ∃ R, compP gs N = R := ⟨_, rfl⟩
  have HM := Lib.hid hM
  have hbd := compP_bd gs N
  rw [hM, HL.out] at hbd
  obtain ⟨hb1, hb2⟩ : M.t.length ≤ n ∧ M.o.length ≤ 4 := hbd
  cases mb
  · have HF := Lib.hid (foldP_no (gs := gs) (n := N) (by rw [hM]))
    clear hM
    rw [HF.out]
    go_enter Try.func78, Try.ntmps78
    go_wp2_with fail
    refine (i_CompP _ _ _ gs N _ H.out (by omega)).mono ?_
    rintro e w1 ⟨v, rfl, ⟨A1, c1, B1, d1, rfl, t1, o1⟩, b1⟩
    rw [HM.out] at t1 o1 ⊢
    dsimp only at t1 o1 ⊢
    have BX := Lib.hid (b1.alloc b1.size (.cells #[.int .i64 M.N, .int .i64 M.H, .slice A1 M.t.length c1, .slice B1 M.o.length d1] 32))
    go_wp2_with fail
    refine (i_copyGates _ _ _ _ _ (H.out.below BX.out) (by omega)).mono ?_
    rintro e w2 ⟨A2, c2, rfl, o2, b2⟩
    go_wp2_with fail
    go_ret2
    have hl := HL.out
    subst hl
    exact ⟨A2, c2, rfl, ownsRow_base o2 BX.out.size, below_trans BX.out b2⟩
  · have HF := Lib.hid (foldP_yes (gs := gs) (n := N) (by rw [hM]))
    obtain ⟨hin, hcl⟩ := compP_in hM
    obtain ⟨i1, i2⟩ := idP_len hin
    have I1 := Lib.hid i1
    clear i1
    have HC := Lib.hid hcl
    clear hM hin hcl
    rw [HF.out, HM.out]
    dsimp only
    have hOl := foldL_len M.t gs (idP N) [] []
    rw [HL.out, List.length_nil, Nat.zero_add] at hOl
    obtain ⟨OUT, hO⟩ : ∃ O, foldL M.t (idP N) [] [] gs = O := ⟨_, rfl⟩
    rw [hO] at hOl ⊢
    have HO := Lib.hid hO
    clear hO
    obtain ⟨Q, hQ⟩ : ∃ Q, compP OUT N = Q := ⟨_, rfl⟩
    rw [hQ]
    have HQ := Lib.hid hQ
    clear hQ
    go_enter Try.func78, Try.ntmps78
    go_wp2_with fail
    refine (i_CompP _ _ _ gs N _ H.out (by omega)).mono ?_
    rintro e w1 ⟨v, rfl, ⟨A1, c1, B1, d1, rfl, t1, o1⟩, b1⟩
    rw [HM.out] at t1 o1 ⊢
    dsimp only at t1 o1 ⊢
    have hs1 := b1.size
    have hmk := run_makeMap_plain (P := Try.prog) (w := (w1.alloc (.cells #[.int .i64 M.N, .int .i64 M.H, .slice A1 M.t.length c1, .slice B1 M.o.length d1] 32)).alloc (.cells #[] 55)) 88
    obtain ⟨w3, hw3⟩ : ∃ w3, w3 = ((w1.alloc (.cells #[.int .i64 M.N, .int .i64 M.H, .slice A1 M.t.length c1, .slice B1 M.o.length d1] 32)).alloc (.cells #[] 55)).alloc (.map #[] 0) := ⟨_, rfl⟩
    have X6 := Lib.hid (show Bx w3 w1.heap.size 32 #[.int .i64 M.N, .int .i64 M.H, .slice A1 M.t.length c1, .slice B1 M.o.length d1] from hw3 ▸ ((Bx.new w1 _ _).alloc _).alloc _)
    have T1 := Lib.hid (show w3.ownsRow w.heap.size 107 2 (.slice A1 M.t.length c1) M.t.length (cellsP M.t) from hw3 ▸ ((t1.alloc _).alloc _).alloc _)
    have B3 := Lib.hid (show Below w.heap.size w w3 from hw3 ▸ ((b1.alloc (by omega) _).alloc (by simp <;> omega) _).alloc (by simp <;> omega) _)
    have OG := Lib.hid (show w3.ownsRow w.heap.size 55 4 (.slice (some ⟨w1.heap.size + 1, 0, none⟩) 0 0) 0 (cellsG []) from hw3 ▸ (own0_bx (by omega) (Bx.new' (by simp))).alloc _)
    have MP := Lib.hid (show w3.heap[w1.heap.size + 1 + 1]? = some (.map #[] 0) from by rw [hw3]; have := heap_alloc_new ((w1.alloc (.cells #[.int .i64 M.N, .int .i64 M.H, .slice A1 M.t.length c1, .slice B1 M.o.length d1] 32)).alloc (.cells #[] 55)) (.map #[] 0); simpa using this)
    go_wp2_with fail
    rw [← hw3]
    clear hw3 t1 o1 b1 hmk
    refine (i_IdP _ _).mono ?_
    rintro e w4 ⟨v, rfl, ⟨A4, c4, B4, d4, rfl, t4, o4⟩, b4⟩
    have hs3 := B3.out.size
    have l6 := (X6.out.below b4).lt
    have hw1 : w.heap.size ≤ w4.heap.size := (below_trans B3.out b4).size
    have ST := Lib.hid (show FI w1.heap.size w4.heap.size M A1 c1 B1 d1 w (idP N) A4 c4 B4 d4 (w1.heap.size + 1 + 1) #[] 0 [] (some ⟨w1.heap.size + 1, 0, none⟩) 0 [] (w4.alloc (.cells #[.int .i64 (idP N).N, .int .i64 (idP N).H, .slice A4 (idP N).t.length c4, .slice B4 (idP N).o.length d4] 32)) from ⟨(X6.out.below b4).alloc _, Bx.new _ _ _, (ownsRow_below T1.out b4).alloc _, (ownsRow_base t4 hs3).alloc _, (ownsRow_base o4 hs3).alloc _, (ownsRow_below OG.out b4).alloc _, ⟨map_allocI (map_belowI MP.out b4), by simp [EntsI], by omega⟩, (below_trans B3.out b4).alloc hw1 _, hw1, by omega⟩)
    clear t4 o4 b4 X6 T1 B3 OG MP
    go_wp2_with fail
    generalize idP N = p0 at HC HO I1 i2 ST ⊢
    generalize hg6 : w1.heap.size = g6 at ST l6 ⊢
    generalize hg10 : w4.heap.size = g10 at ST l6 hw1 ⊢
    clear hs1 hs3 hg6 hg10
    obtain ⟨w5, hw5⟩ : ∃ w5, w5 = w4.alloc (.cells #[.int .i64 p0.N, .int .i64 p0.H, .slice A4 p0.t.length c4, .slice B4 p0.o.length d4] 32) := ⟨_, rfl⟩
    rw [← hw5] at ST ⊢
    clear hw5
    go_loopg [8, 33] n (fun r s i wr => ∃ (k : Nat) (p : Po) (A2 : Option Addr) (c2 : Nat) (B2 : Option Addr) (d2 : Nat) (es : Array MapEntry) (ck : Nat) (met : List Int) (A3 : Option Addr) (c3 : Nat) (acc : List Gt), k + r = n ∧ i = .int .i64 k ∧ s = .slice A3 acc.length c3 ∧ foldL M.t p met acc (gs.drop k) = OUT ∧ (compL p (gs.drop k)).2 = true ∧ p.t.length ≤ k ∧ p.o.length ≤ 4 ∧ acc.length ≤ 2 * k ∧ met.length ≤ k ∧ FI g6 g10 M A1 c1 B1 d1 w p A2 c2 B2 d2 (g6 + 1 + 1) es ck met A3 c3 acc wr)
    case atStart => exact ⟨0, p0, A4, c4, B4, d4, #[], 0, [], _, 0, [], by omega, rfl, rfl, HO.out, by rw [List.drop_zero, HC.out], by have := I1.out; omega, i2, by simp, by simp, ST.out⟩
    case round =>
      clear ST HC HO I1 i2 l6
      obtain ⟨k, p, A2, c2, B2, d2, es, ck, met, A3, c3, acc, hk, rfl, rfl, hf, hcl, htl, hol, hal, hml, hst⟩ := hrel
      have HFL := Lib.hid hf
      have HCL := Lib.hid hcl
      have ST := Lib.hid hst
      clear hf hcl hst
      by_cases hlt : k < n
      · have HB := Lib.hid ST.out.2.2.2.2.2.2.2.1
        have hbs := HB.out.size
        have h10 := ST.out.2.2.2.2.2.2.2.2.1
        obtain ⟨bb, off, g, rfl, hBb, hd, c0, c1', c2', c3'⟩ := (H.out.below HB.out).at_ hlt
        have HD := Lib.hid hd
        clear hd
        have hkI : (k : Int) < (n : Int) := by omega
        have hk0 : (0 : Int) ≤ (k : Int) := by omega
        have hfit := compL_fit (p := p) (g := g) (r := gs.drop (k + 1)) (by rw [← HD.out]; exact HCL.out)
        have hap := (compL_ok (p := p) (g := g) (r := gs.drop (k + 1)) (by rw [← HD.out]; exact HCL.out)).1
        obtain ⟨gk', ga', gb', gc'⟩ := g
        dsimp only at c0 c1' c2' c3' hfit
        obtain ⟨a, rfl⟩ : ∃ a : Nat, ga' = a := ⟨ga'.toNat, by omega⟩
        obtain ⟨q, hq⟩ : ∃ q, applyP p ⟨gk', a, gb', gc'⟩ = (q, true) := ⟨_, Prod.ext rfl hap⟩
        have hbd := applyP_bd p ⟨gk', a, gb', gc'⟩
        rw [hq] at hbd
        have hq1 : q.t.length ≤ p.t.length + 1 := hbd.1
        have hq2 : q.o.length ≤ p.o.length := hbd.2.1
        have HQ1 := Lib.hid hq
        have HC1 := Lib.hid (compL_next (by rw [← HD.out]; exact HCL.out) hq)
        obtain ⟨ha0, ha1, ha2⟩ := hfit
        have haN : a < p.o.length := by omega
        have haI : (a : Int) < (p.o.length : Int) := by omega
        have ha0' : (0 : Int) ≤ (a : Int) := by omega
        obtain ⟨gB, hB2, hgB1, hgB2, u0, u1, _, _⟩ := own2At ST.out.2.2.2.2.1 haN
        subst hB2
        obtain ⟨⟨x, y⟩, hxy⟩ : ∃ z, p.o.getD a (0, 0) = z := ⟨_, rfl⟩
        rw [hxy] at u0 u1
        dsimp only at u0 u1
        have HXY : Hid (at2 p.o (a : Int) = (x, y)) := Lib.hid (by show p.o.getD (Int.toNat a) _ = _; rw [Int.toNat_natCast]; exact hxy)
        clear hap hq hbd hxy ha0 ha1 ha2
        have lg6 := ST.out.1.lt
        have lg10 := ST.out.2.1.lt
        obtain ⟨s0, s1, s2, s3, t0, t1, t2, t3⟩ := ST.out.2.1.four
        have hz4 : (Value.agg #[.int .i64 0, .int .i64 0, .int .i64 0, .int .i64 0]).cells.size = 4 := rfl
        cases hu : (units gk' == 0)
        rotate_left
        · have HU := Lib.hid hu
          go_wp2_with fail
          refine (i_RotationUnits _ _).mono ?_
          rintro e w' ⟨rfl, rfl⟩
          have SA := Lib.hid (FI.alloc (FI.alloc ST.out (.cells #[.int .i64 gk', .int .i64 (a : Int), .int .i64 gb', .int .i64 gc'] 55)) (.cells #[.int .i64 gk', .int .i64 (a : Int), .int .i64 gb', .int .i64 gc'] 55))
          have GX := Lib.hid ((Bx.new wr 55 #[.int .i64 gk', .int .i64 (a : Int), .int .i64 gb', .int .i64 gc']).alloc (.cells #[.int .i64 gk', .int .i64 (a : Int), .int .i64 gb', .int .i64 gc'] 55))
          have RL := Rd.lit (wr.alloc (.cells #[.int .i64 gk', .int .i64 (a : Int), .int .i64 gb', .int .i64 gc'] 55)) 55 #[.int .i64 gk', .int .i64 (a : Int), .int .i64 gb', .int .i64 gc'] 1 4 rfl
          rw [World.size_alloc] at RL
          have RL2 := Lib.hid RL
          clear RL
          go_wp2_with (at_builtin; refine wpList_app rfl (.tmp 41) (.tmp 43) 41 rfl Try.underlying41 infoGate hz4 (by decide) rfl SA.out.2.2.2.2.2.1 rfl RL2.out (by simp [Value.oneCell']) (by omega) (by decide) (by simp <;> omega) ?_; intro A7 c7 w7 o7 g7; have G7 := Lib.hid (GX.out.grown g7 (own_new_ne ST.out.2.2.2.2.2.1)); have S7 := Lib.hid (FI.app SA.out (acc' := acc ++ [⟨gk', a, gb', gc'⟩]) g7 (by rw [cellsG_append]; exact o7)); have ⟨s0, s1, s2, s3, t0, t1, t2, t3⟩ := S7.out.2.1.four; have ⟨y0, y1, y2, y3, _, _, _, _⟩ := G7.out.four)
          have ST := S7
          refine (i_ApplyP p.N p.H A2 p.t.length c2 p.t _ p.o.length d2 p.o ⟨gk', a, gb', gc'⟩ _ (RdP.own ST.out.2.2.2.1) (RdP.own ST.out.2.2.2.2.1) (by omega) (by omega) (ownsRow_cap ST.out.2.2.2.1)).mono ?_
          rintro e w8 ⟨v, rfl, ⟨A8, c8, B8, d8, rfl, t8, o8⟩, b8⟩
          rw [show applyP ⟨p.N, p.H, p.t, p.o⟩ ⟨gk', a, gb', gc'⟩ = (q, true) from HQ1.out] at t8 o8 ⊢
          dsimp only at t8 o8 ⊢
          have hs8 := ST.out.2.2.2.2.2.2.2.1.size
          have S8 := Lib.hid (FI.below ST.out b8)
          obtain ⟨s0, s1, s2, s3, t0, t1, t2, t3⟩ := S8.out.2.1.four
          have l8 := S8.out.2.1.lt
          have S9 := Lib.hid (FI.poly S8.out t8 o8 hs8)
          clear t8 o8
          go_wp2_with fail
          go_roundg (gk - 1)
          case measure => omega
          case rel => exact ⟨k + 1, q, A8, c8, B8, d8, _, _, met, _, _, acc ++ [⟨gk', a, gb', gc'⟩], by omega, by go_num, (by first | rfl | (rw [HTC.out]; simp [rotG]) | simp), by rw [← HFL.out, HD.out, foldL_0 HU.out HQ1.out], HC1.out, by omega, by omega, by have := hal; simp; omega, by omega, S9.out⟩
        · have HU := Lib.hid hu
          have S2 := Lib.hid (FI.alloc (FI.alloc ST.out (.cells #[.int .i64 gk', .int .i64 (a : Int), .int .i64 gb', .int .i64 gc'] 55)) (.cells #[.int .i64 x, .int .i64 y] 109))
          have G2 := Lib.hid ((Bx.new wr 55 #[.int .i64 gk', .int .i64 (a : Int), .int .i64 gb', .int .i64 gc']).alloc (.cells #[.int .i64 x, .int .i64 y] 109))
          have V2 := Lib.hid (Bx.new (wr.alloc (.cells #[.int .i64 gk', .int .i64 (a : Int), .int .i64 gb', .int .i64 gc'] 55)) 109 #[.int .i64 x, .int .i64 y])
          obtain ⟨W2, hW2⟩ : ∃ W2, W2 = (wr.alloc (.cells #[.int .i64 gk', .int .i64 (a : Int), .int .i64 gb', .int .i64 gc'] 55)).alloc (.cells #[.int .i64 x, .int .i64 y] 109) := ⟨_, rfl⟩
          rw [← hW2] at S2 G2 V2
          have HW2 := Lib.hid hW2
          clear hW2
          have hgs : (wr.alloc (.cells #[.int .i64 gk', .int .i64 (a : Int), .int .i64 gb', .int .i64 gc'] 55)).heap.size = wr.heap.size + 1 := by simp
          rw [hgs] at V2
          clear hgs
          cases hm : met.any (· == x)
          · have HMT := Lib.hid hm
            have hl := run_lookup_i (g6 + 1 + 1) ck x es met W2 S2.out.2.2.2.2.2.2.1.1 S2.out.2.2.2.2.2.2.1.2.1
            rw [hm] at hl
            obtain ⟨W3, hW3⟩ : ∃ W3, W3 = ({ W2 with heap := W2.heap.setIfInBounds (g6 + 1 + 1) (.map (es.push { key := .int .i64 x, val := .bool true, born := ck }) (ck + 1)) } : World) := ⟨_, rfl⟩
            have hu2 := run_update_i (g6 + 1 + 1) ck x es met W2 S2.out.2.2.2.2.2.2.1.1 S2.out.2.2.2.2.2.2.1.2.1 hm
            rw [← hW3] at hu2
            have S3 := Lib.hid (FI.upd S2.out x)
            have G3 := Lib.hid (G2.out.setObjI (r := g6 + 1 + 1) (bx_map_ne G2.out S2.out.2.2.2.2.2.2.1.1) (.map (es.push { key := .int .i64 x, val := .bool true, born := ck }) (ck + 1)))
            have V3 := Lib.hid (V2.out.setObjI (r := g6 + 1 + 1) (bx_map_ne V2.out S2.out.2.2.2.2.2.2.1.1) (.map (es.push { key := .int .i64 x, val := .bool true, born := ck }) (ck + 1)))
            rw [← hW3] at S3 G3 V3
            clear hW3
            clear hm
            go_upto_region 12 with (go_at_call 114; refine (i_RotationUnits _ _).mono ?_; rintro e w' ⟨rfl, rfl⟩)
            go_upto_region 13 with fail
            rw [← HW2.out]
            obtain ⟨z0, z1, _, _⟩ := V2.out.two
            obtain ⟨y0, y1, y2, y3, _, _, _, _⟩ := G2.out.four
            obtain ⟨r0, r1, r2, r3, _, _, _, _⟩ := S3.out.1.four
            obtain ⟨z0', z1', _, _⟩ := V3.out.two
            obtain ⟨y0', y1', y2', y3', _, _, _, _⟩ := G3.out.four
            obtain ⟨cv, hcv⟩ : ∃ c, coefT M.t x = c := ⟨_, rfl⟩
            have HCV := Lib.hid hcv
            have HNE := Lib.hid (own_new_ne ST.out.2.2.2.2.2.1)
            go_wp2_with fail
            refine (i_coef _ _ _ _ _ _ _ _ M.t x _ (RdP.own S3.out.2.2.1) (by omega)).mono ?_
            rintro e w4 ⟨rfl, bk⟩
            rw [hcv]
            clear hcv z0 z1 y0 y1 y2 y3 z0' z1' y0' y1' y2' y3' r0 r1 r2 r3 hl hu2
            have S4 := Lib.hid (FI.below S3.out bk)
            have G4 := Lib.hid (G3.out.below bk)
            have V4 := Lib.hid (V3.out.below bk)
            obtain ⟨z0, z1, _, _⟩ := V4.out.two
            obtain ⟨y0, y1, y2, y3, _, _, _, _⟩ := G4.out.four
            clear bk S2 G2 V2 S3 G3 V3
            cases hy1 : (y == 1)
            · have HY1 := Lib.hid hy1
              have HTC : Hid (turnC (coefT M.t x) y = cv) := Lib.hid (by rw [HCV.out]; exact turnC_0 hy1)
              obtain ⟨cc, hcc⟩ : ∃ c, cv = c := ⟨_, rfl⟩
              subst hcc
              have hrk := rotK_len cv
              go_wp2_with fail
              refine (i_RotationGates _ _ _).mono ?_
              rintro e w5 ⟨A5, c5, rfl, o5, b5⟩
              have O5 := Lib.hid o5
              have S5 := Lib.hid (FI.below S4.out b5)
              have G5 := Lib.hid (G4.out.below b5)
              have hs5 := S5.out.2.2.2.2.2.2.2.1.size
              clear o5 b5 z0 z1 y0 y1 y2 y3 hy1
              go_wp2_with (at_builtin; refine wpList_app rfl (.tmp 69) (.tmp 73) 41 rfl Try.underlying41 infoGate hz4 (by decide) rfl S5.out.2.2.2.2.2.1 rfl (Rd.own O5.out) one_cellsG (by omega) (by decide) (by omega) ?_; intro A7 c7 w7 o7 g7; have G7 := Lib.hid (G5.out.grown g7 HNE.out); have S7 := Lib.hid (FI.app S5.out (acc' := acc ++ rotG (turnC (coefT M.t x) y) (a : Int)) g7 (by rw [HTC.out, cellsG_append]; exact o7)); have ⟨s0, s1, s2, s3, t0, t1, t2, t3⟩ := S7.out.2.1.four; have ⟨y0, y1, y2, y3, _, _, _, _⟩ := G7.out.four)
              have ST := S7
              refine (i_ApplyP p.N p.H A2 p.t.length c2 p.t _ p.o.length d2 p.o ⟨gk', a, gb', gc'⟩ _ (RdP.own ST.out.2.2.2.1) (RdP.own ST.out.2.2.2.2.1) (by omega) (by omega) (ownsRow_cap ST.out.2.2.2.1)).mono ?_
              rintro e w8 ⟨v, rfl, ⟨A8, c8, B8, d8, rfl, t8, o8⟩, b8⟩
              rw [show applyP ⟨p.N, p.H, p.t, p.o⟩ ⟨gk', a, gb', gc'⟩ = (q, true) from HQ1.out] at t8 o8 ⊢
              dsimp only at t8 o8 ⊢
              have hs8 := ST.out.2.2.2.2.2.2.2.1.size
              have S8 := Lib.hid (FI.below ST.out b8)
              obtain ⟨s0, s1, s2, s3, t0, t1, t2, t3⟩ := S8.out.2.1.four
              have l8 := S8.out.2.1.lt
              have S9 := Lib.hid (FI.poly S8.out t8 o8 hs8)
              clear t8 o8
              go_wp2_with fail
              go_roundg (gk - 1)
              case measure => omega
              case rel => exact ⟨k + 1, q, A8, c8, B8, d8, _, _, met ++ [x], _, _, acc ++ rotG (turnC (coefT M.t x) y) (a : Int), by omega, by go_num, (by first | rfl | (rw [HTC.out]; simp [rotG]) | simp), by rw [← HFL.out, HD.out, foldL_new HU.out HXY.out HMT.out HQ1.out], HC1.out, by omega, by omega, by have h1 := rotG_len (turnC (coefT M.t x) y) (a : Int); have h2 := rotK_len (turnC (coefT M.t x) y); rw [List.length_append]; omega, by rw [List.length_append, List.length_singleton]; omega, S9.out⟩
            · have HY1 := Lib.hid hy1
              have HTC : Hid (turnC (coefT M.t x) y = ((-cv) % 8)) := Lib.hid (by rw [HCV.out]; exact turnC_1 hy1)
              go_wp2_with fail
              refine (i_mod8 _ _).mono ?_
              rintro e w' ⟨rfl, rfl⟩
              rw [wrap_mod8]
              obtain ⟨cc, hcc⟩ : ∃ c, ((-cv) % 8) = c := ⟨_, rfl⟩
              rw [hcc] at HTC ⊢
              clear hcc
              have hrk := rotK_len cc
              go_wp2_with fail
              refine (i_RotationGates _ _ _).mono ?_
              rintro e w5 ⟨A5, c5, rfl, o5, b5⟩
              have O5 := Lib.hid o5
              have S5 := Lib.hid (FI.below S4.out b5)
              have G5 := Lib.hid (G4.out.below b5)
              have hs5 := S5.out.2.2.2.2.2.2.2.1.size
              clear o5 b5 z0 z1 y0 y1 y2 y3 hy1
              go_wp2_with (at_builtin; refine wpList_app rfl (.tmp 69) (.tmp 73) 41 rfl Try.underlying41 infoGate hz4 (by decide) rfl S5.out.2.2.2.2.2.1 rfl (Rd.own O5.out) one_cellsG (by omega) (by decide) (by omega) ?_; intro A7 c7 w7 o7 g7; have G7 := Lib.hid (G5.out.grown g7 HNE.out); have S7 := Lib.hid (FI.app S5.out (acc' := acc ++ rotG (turnC (coefT M.t x) y) (a : Int)) g7 (by rw [HTC.out, cellsG_append]; exact o7)); have ⟨s0, s1, s2, s3, t0, t1, t2, t3⟩ := S7.out.2.1.four; have ⟨y0, y1, y2, y3, _, _, _, _⟩ := G7.out.four)
              have ST := S7
              refine (i_ApplyP p.N p.H A2 p.t.length c2 p.t _ p.o.length d2 p.o ⟨gk', a, gb', gc'⟩ _ (RdP.own ST.out.2.2.2.1) (RdP.own ST.out.2.2.2.2.1) (by omega) (by omega) (ownsRow_cap ST.out.2.2.2.1)).mono ?_
              rintro e w8 ⟨v, rfl, ⟨A8, c8, B8, d8, rfl, t8, o8⟩, b8⟩
              rw [show applyP ⟨p.N, p.H, p.t, p.o⟩ ⟨gk', a, gb', gc'⟩ = (q, true) from HQ1.out] at t8 o8 ⊢
              dsimp only at t8 o8 ⊢
              have hs8 := ST.out.2.2.2.2.2.2.2.1.size
              have S8 := Lib.hid (FI.below ST.out b8)
              obtain ⟨s0, s1, s2, s3, t0, t1, t2, t3⟩ := S8.out.2.1.four
              have l8 := S8.out.2.1.lt
              have S9 := Lib.hid (FI.poly S8.out t8 o8 hs8)
              clear t8 o8
              go_wp2_with fail
              go_roundg (gk - 1)
              case measure => omega
              case rel => exact ⟨k + 1, q, A8, c8, B8, d8, _, _, met ++ [x], _, _, acc ++ rotG (turnC (coefT M.t x) y) (a : Int), by omega, by go_num, (by first | rfl | (rw [HTC.out]; simp [rotG]) | simp), by rw [← HFL.out, HD.out, foldL_new HU.out HXY.out HMT.out HQ1.out], HC1.out, by omega, by omega, by have h1 := rotG_len (turnC (coefT M.t x) y) (a : Int); have h2 := rotK_len (turnC (coefT M.t x) y); rw [List.length_append]; omega, by rw [List.length_append, List.length_singleton]; omega, S9.out⟩
          · have HMT := Lib.hid hm
            have hl := run_lookup_i (g6 + 1 + 1) ck x es met W2 S2.out.2.2.2.2.2.2.1.1 S2.out.2.2.2.2.2.2.1.2.1
            rw [hm] at hl
            clear hm
            go_upto_region 12 with (go_at_call 114; refine (i_RotationUnits _ _).mono ?_; rintro e w' ⟨rfl, rfl⟩)
            go_upto_region 13 with fail
            rw [← HW2.out]
            obtain ⟨z0, z1, _, _⟩ := V2.out.two
            obtain ⟨y0, y1, y2, y3, _, _, _, _⟩ := G2.out.four
            obtain ⟨r0, r1, r2, r3, _, _, _, _⟩ := S2.out.2.1.four
            go_wp2_with fail
            have ST := S2
            refine (i_ApplyP p.N p.H A2 p.t.length c2 p.t _ p.o.length d2 p.o ⟨gk', a, gb', gc'⟩ _ (RdP.own ST.out.2.2.2.1) (RdP.own ST.out.2.2.2.2.1) (by omega) (by omega) (ownsRow_cap ST.out.2.2.2.1)).mono ?_
            rintro e w8 ⟨v, rfl, ⟨A8, c8, B8, d8, rfl, t8, o8⟩, b8⟩
            rw [show applyP ⟨p.N, p.H, p.t, p.o⟩ ⟨gk', a, gb', gc'⟩ = (q, true) from HQ1.out] at t8 o8 ⊢
            dsimp only at t8 o8 ⊢
            have hs8 := ST.out.2.2.2.2.2.2.2.1.size
            have S8 := Lib.hid (FI.below ST.out b8)
            obtain ⟨s0, s1, s2, s3, t0, t1, t2, t3⟩ := S8.out.2.1.four
            have l8 := S8.out.2.1.lt
            have S9 := Lib.hid (FI.poly S8.out t8 o8 hs8)
            clear t8 o8
            go_wp2_with fail
            go_roundg (gk - 1)
            case measure => omega
            case rel => exact ⟨k + 1, q, A8, c8, B8, d8, _, _, met, _, _, acc, by omega, by go_num, (by first | rfl | (rw [HTC.out]; simp [rotG]) | simp), by rw [← HFL.out, HD.out, foldL_old HU.out HXY.out HMT.out HQ1.out], HC1.out, by omega, by omega, by omega, by omega, S9.out⟩
      · have hkn : k = n := by omega
        have hE : acc = OUT := by have e := HFL.out; rw [List.drop_eq_nil_of_le (by have := HL.out; omega)] at e; exact e
        subst hE
        clear HFL HCL hkn
        have GA := Lib.hid ST.out.2.2.2.2.2.1
        go_wp2_with fail
        refine (i_CompP _ _ _ acc N _ (RdG.own GA.out) (by omega)).mono ?_
        rintro e w8 ⟨v, rfl, ⟨A8, c8, B8, d8, rfl, t8, o8⟩, b8⟩
        rw [HQ.out] at t8 o8 ⊢
        have S8 := Lib.hid (FI.below ST.out b8)
        obtain ⟨r0, r1, r2, r3, _, _, _, _⟩ := S8.out.1.four
        have l8 := S8.out.1.lt
        have hb8 := S8.out.2.2.2.2.2.2.2.1.size
        clear t8 o8 b8
        go_wp2_with fail
        refine (i_mod8 _ _).mono ?_
        rintro e w' ⟨rfl, rfl⟩
        rw [wrap_mod8]
        go_wp2_with fail
        go_ret2
        exact ⟨A3, c3, rfl, S8.out.2.2.2.2.2.1.alloc _, S8.out.2.2.2.2.2.2.2.1.alloc hb8 _⟩
end Go.Proofs.Ytibhikngiceeeaa
namespace Go.Proofs.Ytibhikngiceeeaa
open Go.RowKit
set_option linter.unusedVariables false

set_option maxRecDepth 100000 in
set_option maxHeartbeats 12800000 in
theorem s_FoldP (A : Option Addr) (n cap : Nat) (gs : List Gt) (N : Int) (w : World) (h : RdG w A n gs) (hn : n ≤ 1048576) :
    Calls Try.prog 81 #[.slice A n cap, .int .i64 N] w (RetGI (foldP gs N) w) := by
  have H := Lib.hid h
  have HL := Lib.hid h.1
  clear h
  obtain ⟨⟨M, mb⟩, hM⟩ : ∃ R, compP gs N = R := ⟨_, rfl⟩
  have HM := Lib.hid hM
  have hbd := compP_bd gs N
  rw [hM, HL.out] at hbd
  obtain ⟨hb1, hb2⟩ : M.t.length ≤ n ∧ M.o.length ≤ 4 := hbd
  cases mb
  · have HF := Lib.hid (foldP_no (gs := gs) (n := N) (by rw [hM]))
    clear hM
    rw [HF.out]
    go_enter Try.func81, Try.ntmps81
    go_wp2_with fail
    refine (s_CompP _ _ _ gs N _ H.out (by omega)).mono ?_
    rintro e w1 ⟨v, rfl, ⟨A1, c1, B1, d1, rfl, t1, o1⟩, b1⟩
    rw [HM.out] at t1 o1 ⊢
    dsimp only at t1 o1 ⊢
    have BX := Lib.hid (b1.alloc b1.size (.cells #[.int .i64 M.N, .int .i64 M.H, .slice A1 M.t.length c1, .slice B1 M.o.length d1] 32))
    have OG := Lib.hid (show ((w1.alloc (.cells #[.int .i64 M.N, .int .i64 M.H, .slice A1 M.t.length c1, .slice B1 M.o.length d1] 32)).alloc (.cells #[] 55)).ownsRow w.heap.size 55 4 (.slice (some ⟨w1.heap.size + 1, 0, none⟩) 0 0) 0 [] from own0_bx (by have := b1.size; omega) (Bx.new' (by simp)))
    have HA := Lib.hid (H.out.below (BX.out.alloc BX.out.size (.cells #[] 55)))
    have hz4 : (Value.agg #[.int .i64 0, .int .i64 0, .int .i64 0, .int .i64 0]).cells.size = 4 := rfl
    have hl := HL.out
    subst hl
    go_wp2_with (at_builtin; refine wpList_app0 rfl (.tmp 25) (.tmp 26) 41 rfl Try.underlying41 infoGate hz4 (by decide) rfl OG.out rfl HA.out.2 one_cellsG (by omega) (by decide) (by have := b1.size; simp <;> omega) ?_; intro A7 c7 w7 o7 g7)
    go_ret2
    exact ⟨A7, c7, rfl, o7, below_grown (BX.out.alloc BX.out.size _) (by have := b1.size; simp <;> omega) OG.out (Nat.le_refl _) g7⟩
  · have HF := Lib.hid (foldP_yes (gs := gs) (n := N) (by rw [hM]))
    obtain ⟨hin, hcl⟩ := compP_in hM
    obtain ⟨i1, i2⟩ := idP_len hin
    have I1 := Lib.hid i1
    clear i1
    have HC := Lib.hid hcl
    clear hM hin hcl
    rw [HF.out, HM.out]
    dsimp only
    have hOl := foldL_len M.t gs (idP N) [] []
    rw [HL.out, List.length_nil, Nat.zero_add] at hOl
    obtain ⟨OUT, hO⟩ : ∃ O, foldL M.t (idP N) [] [] gs = O := ⟨_, rfl⟩
    rw [hO] at hOl ⊢
    have HO := Lib.hid hO
    clear hO
    obtain ⟨Q, hQ⟩ : ∃ Q, compP OUT N = Q := ⟨_, rfl⟩
    rw [hQ]
    have HQ := Lib.hid hQ
    clear hQ
    go_enter Try.func81, Try.ntmps81
    go_wp2_with fail
    refine (s_CompP _ _ _ gs N _ H.out (by omega)).mono ?_
    rintro e w1 ⟨v, rfl, ⟨A1, c1, B1, d1, rfl, t1, o1⟩, b1⟩
    rw [HM.out] at t1 o1 ⊢
    dsimp only at t1 o1 ⊢
    have hs1 := b1.size
    obtain ⟨w3, hw3⟩ : ∃ w3, w3 = ((w1.alloc (.cells #[.int .i64 M.N, .int .i64 M.H, .slice A1 M.t.length c1, .slice B1 M.o.length d1] 32)).alloc (.cells #[] 55)).alloc (.cells #[] 3) := ⟨_, rfl⟩
    have X6 := Lib.hid (show Bx w3 w1.heap.size 32 #[.int .i64 M.N, .int .i64 M.H, .slice A1 M.t.length c1, .slice B1 M.o.length d1] from hw3 ▸ ((Bx.new w1 _ _).alloc _).alloc _)
    have T1 := Lib.hid (show w3.ownsRow w.heap.size 107 2 (.slice A1 M.t.length c1) M.t.length (cellsP M.t) from hw3 ▸ ((t1.alloc _).alloc _).alloc _)
    have B3 := Lib.hid (show Below w.heap.size w w3 from hw3 ▸ ((b1.alloc (by omega) _).alloc (by simp <;> omega) _).alloc (by simp <;> omega) _)
    have OG := Lib.hid (show w3.ownsRow w.heap.size 55 4 (.slice (some ⟨w1.heap.size + 1, 0, none⟩) 0 0) 0 (cellsG []) from hw3 ▸ (own0_bx (by omega) (Bx.new' (by simp))).alloc _)
    have MP := Lib.hid (show w3.ownsRow w.heap.size 3 1 (.slice (some ⟨w1.heap.size + 1 + 1, 0, none⟩) 0 0) 0 (cellsI []) from hw3 ▸ own0_bx (by omega) (Bx.new' (by simp)))
    go_wp2_with fail
    rw [← hw3]
    clear hw3 t1 o1 b1
    refine (s_IdP _ _).mono ?_
    rintro e w4 ⟨v, rfl, ⟨A4, c4, B4, d4, rfl, t4, o4⟩, b4⟩
    have hs3 := B3.out.size
    have l6 := (X6.out.below b4).lt
    have hw1 : w.heap.size ≤ w4.heap.size := (below_trans B3.out b4).size
    have ST := Lib.hid (show FS w1.heap.size w4.heap.size M A1 c1 B1 d1 w (idP N) A4 c4 B4 d4 (some ⟨w1.heap.size + 1 + 1, 0, none⟩) 0 [] (some ⟨w1.heap.size + 1, 0, none⟩) 0 [] (w4.alloc (.cells #[.int .i64 (idP N).N, .int .i64 (idP N).H, .slice A4 (idP N).t.length c4, .slice B4 (idP N).o.length d4] 32)) from ⟨(X6.out.below b4).alloc _, Bx.new _ _ _, (ownsRow_below T1.out b4).alloc _, (ownsRow_base t4 hs3).alloc _, (ownsRow_base o4 hs3).alloc _, (ownsRow_below OG.out b4).alloc _, (ownsRow_below MP.out b4).alloc _, (below_trans B3.out b4).alloc hw1 _, hw1, by omega⟩)
    clear t4 o4 b4 X6 T1 B3 OG MP
    go_wp2_with fail
    generalize idP N = p0 at HC HO I1 i2 ST ⊢
    generalize hg6 : w1.heap.size = g6 at ST l6 ⊢
    generalize hg10 : w4.heap.size = g10 at ST l6 hw1 ⊢
    clear hs1 hs3 hg6 hg10
    obtain ⟨w5, hw5⟩ : ∃ w5, w5 = w4.alloc (.cells #[.int .i64 p0.N, .int .i64 p0.H, .slice A4 p0.t.length c4, .slice B4 p0.o.length d4] 32) := ⟨_, rfl⟩
    rw [← hw5] at ST ⊢
    clear hw5
    go_loopg [8, 9, 11] n (fun r s mt i wr => ∃ (k : Nat) (p : Po) (A2 : Option Addr) (c2 : Nat) (B2 : Option Addr) (d2 : Nat) (A9 : Option Addr) (c9 : Nat) (met : List Int) (A3 : Option Addr) (c3 : Nat) (acc : List Gt), k + r = n ∧ i = .int .i64 k ∧ s = .slice A3 acc.length c3 ∧ mt = .slice A9 met.length c9 ∧ foldL M.t p met acc (gs.drop k) = OUT ∧ (compL p (gs.drop k)).2 = true ∧ p.t.length ≤ k ∧ p.o.length ≤ 4 ∧ acc.length ≤ 2 * k ∧ met.length ≤ k ∧ FS g6 g10 M A1 c1 B1 d1 w p A2 c2 B2 d2 A9 c9 met A3 c3 acc wr)
    case atStart => exact ⟨0, p0, A4, c4, B4, d4, _, 0, [], _, 0, [], by omega, rfl, rfl, rfl, HO.out, by rw [List.drop_zero, HC.out], by have := I1.out; omega, i2, by simp, by simp, ST.out⟩
    case round =>
      clear ST HC HO I1 i2 l6
      obtain ⟨k, p, A2, c2, B2, d2, A9, c9, met, A3, c3, acc, hk, rfl, rfl, rfl, hf, hcl, htl, hol, hal, hml, hst⟩ := hrel
      have HFL := Lib.hid hf
      have HCL := Lib.hid hcl
      have ST := Lib.hid hst
      clear hf hcl hst
      by_cases hlt : k < n
      · have HB := Lib.hid ST.out.2.2.2.2.2.2.2.1
        have hbs := HB.out.size
        have h10 := ST.out.2.2.2.2.2.2.2.2.1
        obtain ⟨bb, off, g, rfl, hBb, hd, c0, c1', c2', c3'⟩ := (H.out.below HB.out).at_ hlt
        have HD := Lib.hid hd
        clear hd
        have hkI : (k : Int) < (n : Int) := by omega
        have hk0 : (0 : Int) ≤ (k : Int) := by omega
        have hfit := compL_fit (p := p) (g := g) (r := gs.drop (k + 1)) (by rw [← HD.out]; exact HCL.out)
        have hap := (compL_ok (p := p) (g := g) (r := gs.drop (k + 1)) (by rw [← HD.out]; exact HCL.out)).1
        obtain ⟨gk', ga', gb', gc'⟩ := g
        dsimp only at c0 c1' c2' c3' hfit
        obtain ⟨a, rfl⟩ : ∃ a : Nat, ga' = a := ⟨ga'.toNat, by omega⟩
        obtain ⟨q, hq⟩ : ∃ q, applyP p ⟨gk', a, gb', gc'⟩ = (q, true) := ⟨_, Prod.ext rfl hap⟩
        have hbd := applyP_bd p ⟨gk', a, gb', gc'⟩
        rw [hq] at hbd
        have hq1 : q.t.length ≤ p.t.length + 1 := hbd.1
        have hq2 : q.o.length ≤ p.o.length := hbd.2.1
        have HQ1 := Lib.hid hq
        have HC1 := Lib.hid (compL_next (by rw [← HD.out]; exact HCL.out) hq)
        obtain ⟨ha0, ha1, ha2⟩ := hfit
        have haN : a < p.o.length := by omega
        have haI : (a : Int) < (p.o.length : Int) := by omega
        have ha0' : (0 : Int) ≤ (a : Int) := by omega
        obtain ⟨gB, hB2, hgB1, hgB2, u0, u1, _, _⟩ := own2At ST.out.2.2.2.2.1 haN
        subst hB2
        obtain ⟨⟨x, y⟩, hxy⟩ : ∃ z, p.o.getD a (0, 0) = z := ⟨_, rfl⟩
        rw [hxy] at u0 u1
        dsimp only at u0 u1
        have HXY : Hid (at2 p.o (a : Int) = (x, y)) := Lib.hid (by show p.o.getD (Int.toNat a) _ = _; rw [Int.toNat_natCast]; exact hxy)
        clear hap hq hbd hxy ha0 ha1 ha2
        have lg6 := ST.out.1.lt
        have lg10 := ST.out.2.1.lt
        obtain ⟨s0, s1, s2, s3, t0, t1, t2, t3⟩ := ST.out.2.1.four
        have hz4 : (Value.agg #[.int .i64 0, .int .i64 0, .int .i64 0, .int .i64 0]).cells.size = 4 := rfl
        have HNE := Lib.hid (own_new_ne ST.out.2.2.2.2.2.1)
        have S2 := Lib.hid (FS.alloc (FS.alloc ST.out (.cells #[.int .i64 gk', .int .i64 (a : Int), .int .i64 gb', .int .i64 gc'] 55)) (.cells #[.int .i64 x, .int .i64 y] 109))
        have G2 := Lib.hid ((Bx.new wr 55 #[.int .i64 gk', .int .i64 (a : Int), .int .i64 gb', .int .i64 gc']).alloc (.cells #[.int .i64 x, .int .i64 y] 109))
        have V2 := Lib.hid (Bx.new (wr.alloc (.cells #[.int .i64 gk', .int .i64 (a : Int), .int .i64 gb', .int .i64 gc'] 55)) 109 #[.int .i64 x, .int .i64 y])
        obtain ⟨W2, hW2⟩ : ∃ W2, W2 = (wr.alloc (.cells #[.int .i64 gk', .int .i64 (a : Int), .int .i64 gb', .int .i64 gc'] 55)).alloc (.cells #[.int .i64 x, .int .i64 y] 109) := ⟨_, rfl⟩
        rw [← hW2] at S2 G2 V2
        have HW2 := Lib.hid hW2
        clear hW2
        have hgs : (wr.alloc (.cells #[.int .i64 gk', .int .i64 (a : Int), .int .i64 gb', .int .i64 gc'] 55)).heap.size = wr.heap.size + 1 := by simp
        rw [hgs] at V2
        clear hgs
        go_wp2_with fail
        rw [← HW2.out]
        have ST := S2
        refine (s_ApplyP p.N p.H A2 p.t.length c2 p.t _ p.o.length d2 p.o ⟨gk', a, gb', gc'⟩ _ (RdP.own ST.out.2.2.2.1) (RdP.own ST.out.2.2.2.2.1) (by omega) (by omega) (ownsRow_cap ST.out.2.2.2.1)).mono ?_
        rintro e w8 ⟨v, rfl, ⟨A8, c8, B8, d8, rfl, t8, o8⟩, b8⟩
        rw [show applyP ⟨p.N, p.H, p.t, p.o⟩ ⟨gk', a, gb', gc'⟩ = (q, true) from HQ1.out] at t8 o8 ⊢
        dsimp only at t8 o8 ⊢
        clear s0 s1 s2 s3 t0 t1 t2 t3 u0 u1 c0 c1' c2' c3'
        have hs8 := ST.out.2.2.2.2.2.2.2.1.size
        have S8 := Lib.hid (FS.below ST.out b8)
        obtain ⟨s0, s1, s2, s3, t0, t1, t2, t3⟩ := S8.out.2.1.four
        have l8 := S8.out.2.1.lt
        have S9 := Lib.hid (FS.poly S8.out t8 o8 hs8)
        have G9 := Lib.hid (show Bx ((((w8.setCell ⟨g10, 0, none⟩ (.int .i64 q.N)).setCell ⟨g10, 1, none⟩ (.int .i64 q.H)).setCell ⟨g10, 2, none⟩ (.slice A8 q.t.length c8)).setCell ⟨g10, 3, none⟩ (.slice B8 q.o.length d8)) wr.heap.size 55 _ from set4K (G2.out.below b8) (by omega))
        have V9 := Lib.hid (show Bx ((((w8.setCell ⟨g10, 0, none⟩ (.int .i64 q.N)).setCell ⟨g10, 1, none⟩ (.int .i64 q.H)).setCell ⟨g10, 2, none⟩ (.slice A8 q.t.length c8)).setCell ⟨g10, 3, none⟩ (.slice B8 q.o.length d8)) (wr.heap.size + 1) 109 _ from Bx.far (Bx.far (Bx.far (Bx.far (V2.out.below b8) (by show _ ≠ g10; omega) _) (by show _ ≠ g10; omega) _) (by show _ ≠ g10; omega) _) (by show _ ≠ g10; omega) _)
        clear t8 o8 b8 S2 ST S8 G2 V2
        go_upto_region 13 with fail
        generalize ((((w8.setCell ⟨g10, 0, none⟩ (.int .i64 q.N)).setCell ⟨g10, 1, none⟩ (.int .i64 q.H)).setCell ⟨g10, 2, none⟩ (.slice A8 q.t.length c8)).setCell ⟨g10, 3, none⟩ (.slice B8 q.o.length d8)) = W9 at S9 G9 V9 ⊢
        clear s0 s1 s2 s3 t0 t1 t2 t3 l8 hs8
        obtain ⟨z0, z1, _, _⟩ := V9.out.two
        obtain ⟨y0, y1, y2, y3, _, _, _, _⟩ := G9.out.four
        have hs9 := S9.out.2.2.2.2.2.2.2.1.size
        have hz4 : (Value.agg #[.int .i64 0, .int .i64 0, .int .i64 0, .int .i64 0]).cells.size = 4 := rfl
        have hz1 : (Value.int .i64 0).cells.size = 1 := rfl
        cases hu : (units gk' == 0)
        rotate_left
        · have HU := Lib.hid hu
          go_wp2_with fail
          refine (s_RotationUnits _ _).mono ?_
          rintro e w' ⟨rfl, rfl⟩
          have SA := Lib.hid (FS.alloc S9.out (.cells #[.int .i64 gk', .int .i64 (a : Int), .int .i64 gb', .int .i64 gc'] 55))
          have RL2 := Lib.hid (Rd.lit W9 55 #[.int .i64 gk', .int .i64 (a : Int), .int .i64 gb', .int .i64 gc'] 1 4 rfl)
          go_wp2_with (at_builtin; refine wpList_app rfl (.tmp 58) (.tmp 60) 41 rfl Try.underlying41 infoGate hz4 (by decide) rfl SA.out.2.2.2.2.2.1 rfl RL2.out (by simp [Value.oneCell']) (by omega) (by decide) (by simp <;> omega) ?_; intro A7 c7 w7 o7 g7; have S7 := Lib.hid (FS.app SA.out (acc' := acc ++ [⟨gk', a, gb', gc'⟩]) g7 (by rw [cellsG_append]; exact o7)))
          go_roundg (gk - 1)
          case measure => omega
          case rel => exact ⟨k + 1, q, A8, c8, B8, d8, _, _, met, _, _, acc ++ [⟨gk', a, gb', gc'⟩], by omega, by go_num, (by first | rfl | (rw [HTC.out]; simp [rotG]) | simp), (by first | rfl | simp), by rw [← HFL.out, HD.out, foldL_0 HU.out HQ1.out], HC1.out, by omega, by omega, by have := hal; simp; omega, by omega, S7.out⟩
        · have HU := Lib.hid hu
          have MR := Lib.hid S9.out.2.2.2.2.2.2.1
          go_wp2_with fail
          refine (s_RotationUnits _ _).mono ?_
          rintro e w' ⟨rfl, rfl⟩
          go_wp2_with fail
          refine (s_hasI _ _ _ met x _ (RdI.own MR.out) (by omega)).mono ?_
          rintro e w' ⟨rfl, rfl⟩
          cases hm : met.any (· == x)
          rotate_left
          · have HMT := Lib.hid hm
            rw [show hasI met x = true from hm]
            clear hm
            go_wp2_with fail
            go_roundg (gk - 1)
            case measure => omega
            case rel => exact ⟨k + 1, q, A8, c8, B8, d8, _, _, met, _, _, acc, by omega, by go_num, (by first | rfl | (rw [HTC.out]; simp [rotG]) | simp), (by first | rfl | simp), by rw [← HFL.out, HD.out, foldL_old HU.out HXY.out HMT.out HQ1.out], HC1.out, by omega, by omega, by omega, by omega, S9.out⟩
          · have HMT := Lib.hid hm
            rw [show hasI met x = false from hm]
            clear hm
            obtain ⟨cv, hcv⟩ : ∃ c, coefT M.t x = c := ⟨_, rfl⟩
            have HCV := Lib.hid hcv
            have SA := Lib.hid (FS.alloc S9.out (.cells #[.int .i64 x] 3))
            have GA := Lib.hid (G9.out.alloc (.cells #[.int .i64 x] 3))
            have VA := Lib.hid (V9.out.alloc (.cells #[.int .i64 x] 3))
            have RL2 := Lib.hid (Rd.lit W9 3 #[.int .i64 x] 1 1 rfl)
            go_wp2_with (at_builtin; refine wpList_app rfl (.tmp 66) (.tmp 69) 62 rfl Try.underlying62 infoInt1 hz1 (by decide) rfl SA.out.2.2.2.2.2.2.1 rfl RL2.out (by simp [Value.oneCell']) (by omega) (by decide) (by simp <;> omega) ?_; intro A6 c6 w6 o6 g6'; have S6 := Lib.hid (FS.metApp SA.out (met' := met ++ [x]) g6' (by rw [cellsI_append]; exact o6)); have G6 := Lib.hid (kept_app SA.out.2.2.2.2.2.2.1 g6' GA.out (by decide)); have V6 := Lib.hid (kept_app SA.out.2.2.2.2.2.2.1 g6' VA.out (by decide)); have ⟨r0, r1, r2, r3, _, _, _, _⟩ := S6.out.1.four; have ⟨z0', z1', _, _⟩ := V6.out.two)
            refine (s_coef _ _ _ _ _ _ _ _ M.t x _ (RdP.own S6.out.2.2.1) (by omega)).mono ?_
            rintro e w4 ⟨rfl, bk⟩
            rw [hcv]
            clear hcv
            have S4 := Lib.hid (FS.below S6.out bk)
            have G4 := Lib.hid (G6.out.below bk)
            have V4 := Lib.hid (V6.out.below bk)
            clear z0 z1 y0 y1 y2 y3
            obtain ⟨z0, z1, _, _⟩ := V4.out.two
            obtain ⟨y0, y1, y2, y3, _, _, _, _⟩ := G4.out.four
            clear bk S9 G9 V9 SA GA VA RL2 S6 G6 V6 MR
            cases hy1 : (y == 1)
            · have HY1 := Lib.hid hy1
              have HTC : Hid (turnC (coefT M.t x) y = cv) := Lib.hid (by rw [HCV.out]; exact turnC_0 hy1)
              obtain ⟨cc, hcc⟩ : ∃ c, cv = c := ⟨_, rfl⟩
              subst hcc
              have hrk := rotK_len cv
              go_wp2_with fail
              refine (s_RotationGates _ _ _).mono ?_
              rintro e w5 ⟨A5, c5, rfl, o5, b5⟩
              have O5 := Lib.hid o5
              have S5 := Lib.hid (FS.below S4.out b5)
              have hs5 := S5.out.2.2.2.2.2.2.2.1.size
              clear o5 b5 z0 z1 y0 y1 y2 y3 hy1
              go_wp2_with (at_builtin; refine wpList_app rfl (.tmp 81) (.tmp 85) 41 rfl Try.underlying41 infoGate hz4 (by decide) rfl S5.out.2.2.2.2.2.1 rfl (Rd.own O5.out) one_cellsG (by omega) (by decide) (by omega) ?_; intro A7 c7 w7 o7 g7; have S7 := Lib.hid (FS.app S5.out (acc' := acc ++ rotG (turnC (coefT M.t x) y) (a : Int)) g7 (by rw [HTC.out, cellsG_append]; exact o7)))
              go_roundg (gk - 1)
              case measure => omega
              case rel => exact ⟨k + 1, q, A8, c8, B8, d8, _, _, met ++ [x], _, _, acc ++ rotG (turnC (coefT M.t x) y) (a : Int), by omega, by go_num, (by first | rfl | (rw [HTC.out]; simp [rotG]) | simp), (by first | rfl | simp), by rw [← HFL.out, HD.out, foldL_new HU.out HXY.out HMT.out HQ1.out], HC1.out, by omega, by omega, by have h1 := rotG_len (turnC (coefT M.t x) y) (a : Int); have h2 := rotK_len (turnC (coefT M.t x) y); rw [List.length_append]; omega, by rw [List.length_append, List.length_singleton]; omega, S7.out⟩
            · have HY1 := Lib.hid hy1
              have HTC : Hid (turnC (coefT M.t x) y = ((-cv) % 8)) := Lib.hid (by rw [HCV.out]; exact turnC_1 hy1)
              go_wp2_with fail
              refine (s_l32Rest _ _).mono ?_
              rintro e w' ⟨rfl, rfl⟩
              rw [wrap_mod8]
              obtain ⟨cc, hcc⟩ : ∃ c, ((-cv) % 8) = c := ⟨_, rfl⟩
              rw [hcc] at HTC ⊢
              clear hcc
              have hrk := rotK_len cc
              go_wp2_with fail
              refine (s_RotationGates _ _ _).mono ?_
              rintro e w5 ⟨A5, c5, rfl, o5, b5⟩
              have O5 := Lib.hid o5
              have S5 := Lib.hid (FS.below S4.out b5)
              have hs5 := S5.out.2.2.2.2.2.2.2.1.size
              clear o5 b5 z0 z1 y0 y1 y2 y3 hy1
              go_wp2_with (at_builtin; refine wpList_app rfl (.tmp 81) (.tmp 85) 41 rfl Try.underlying41 infoGate hz4 (by decide) rfl S5.out.2.2.2.2.2.1 rfl (Rd.own O5.out) one_cellsG (by omega) (by decide) (by omega) ?_; intro A7 c7 w7 o7 g7; have S7 := Lib.hid (FS.app S5.out (acc' := acc ++ rotG (turnC (coefT M.t x) y) (a : Int)) g7 (by rw [HTC.out, cellsG_append]; exact o7)))
              go_roundg (gk - 1)
              case measure => omega
              case rel => exact ⟨k + 1, q, A8, c8, B8, d8, _, _, met ++ [x], _, _, acc ++ rotG (turnC (coefT M.t x) y) (a : Int), by omega, by go_num, (by first | rfl | (rw [HTC.out]; simp [rotG]) | simp), (by first | rfl | simp), by rw [← HFL.out, HD.out, foldL_new HU.out HXY.out HMT.out HQ1.out], HC1.out, by omega, by omega, by have h1 := rotG_len (turnC (coefT M.t x) y) (a : Int); have h2 := rotK_len (turnC (coefT M.t x) y); rw [List.length_append]; omega, by rw [List.length_append, List.length_singleton]; omega, S7.out⟩
      · have hkn : k = n := by omega
        have hE : acc = OUT := by have e := HFL.out; rw [List.drop_eq_nil_of_le (by have := HL.out; omega)] at e; exact e
        subst hE
        clear HFL HCL hkn
        have GA := Lib.hid ST.out.2.2.2.2.2.1
        go_wp2_with fail
        refine (s_CompP _ _ _ acc N _ (RdG.own GA.out) (by omega)).mono ?_
        rintro e w8 ⟨v, rfl, ⟨A8, c8, B8, d8, rfl, t8, o8⟩, b8⟩
        rw [HQ.out] at t8 o8 ⊢
        have S8 := Lib.hid (FS.below ST.out b8)
        obtain ⟨r0, r1, r2, r3, _, _, _, _⟩ := S8.out.1.four
        have l8 := S8.out.1.lt
        have hb8 := S8.out.2.2.2.2.2.2.2.1.size
        clear t8 o8 b8
        go_wp2_with fail
        refine (s_l32Rest _ _).mono ?_
        rintro e w' ⟨rfl, rfl⟩
        rw [wrap_mod8]
        go_wp2_with fail
        go_ret2
        exact ⟨A3, c3, rfl, S8.out.2.2.2.2.2.1.alloc _, S8.out.2.2.2.2.2.2.2.1.alloc hb8 _⟩
end Go.Proofs.Ytibhikngiceeeaa
