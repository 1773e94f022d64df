/- Contracts of CountGates (spec), SwapCount (spec, impl). The list has at most 2^40 gates. Contracts of the laws' helpers on slices of gates: eqGateS, markGateS, heldGateS. The slices have at most 2^40 gates. Contracts of TCount (spec), tCount, sameGates, DrawRotationGates. At most 2^40 gates. Plain law of phase folding: the folded row reckons to the same polynomial but for its phase, and has one T gate an odd term. Nothing is asked. How the arguments of the laws read as lists of gates, pairs, numbers and bytes. Nothing is asked. -/
import Derived.Test.YtibhikngiceeeaaGateS
import Derived.Test.YtibhikngiceeeaaDraw
import Derived.Test.YtibhikngiceeeaaPpmPBx
import Derived.Test.YtibhikngiceeeaaPolyQ
import Derived.Test.YtibhikngiceeeaaBase
import Derived.StillTailTactics
import Derived.Outline
import Derived.Deep.RegionHeld3
import Derived.ProofKit
import Derived.OpenShut
import Derived.Lib.SmallJoins
import Derived.Deep.Slices
import Derived.Deep.Fields
namespace Go.Proofs.Ytibhikngiceeeaa
open Go.RowKit

def cnt (kd : Int) : List Gt → Int
  | [] => 0
  | g :: r => (if g.k == kd then 1 else 0) + cnt kd r
theorem cnt_bd (kd : Int) (l : List Gt) : 0 ≤ cnt kd l ∧ cnt kd l ≤ l.length := by
  induction l with
  | nil => simp [cnt]
  | cons g r ih => simp only [cnt, List.length_cons]; split <;> omega
theorem cnt_nil (kd : Int) {l : List Gt} {k : Nat} (h : l.length ≤ k) : cnt kd (l.drop k) = 0 := by rw [List.drop_eq_nil_of_le h]; rfl

set_option maxHeartbeats 400000 in
theorem s_CountGates (N : Int) (A : Option Addr) (n cap : Nat) (kd : Int) (gs : List Gt) (w : World) (h : RdG w A n gs) (hn : n ≤ 1099511627776) :
    Calls Try.prog 134 #[.agg #[.int .i64 N, .slice A n cap], .int .i64 kd] w fun e w' => e = .returned (.int .i64 (cnt kd gs)) ∧ Below w.heap.size w w' := by
  have H := Lib.hid h
  clear h
  go_enter Try.func134, Try.ntmps134
  go_wp2
  go_loopg [5, 6] n (fun m s i wr => ∃ (k : Nat) (x : Int), k + m = n ∧ i = .int .i64 k ∧ s = .int .i64 x ∧ 0 ≤ x ∧ x ≤ k ∧ x + cnt kd (gs.drop k) = cnt kd gs ∧ wr = w.alloc (.cells #[.int .i64 N, .slice A n cap] 50))
  case atStart => exact ⟨0, 0, by omega, rfl, rfl, by omega, by omega, by simp, rfl⟩
  case round =>
    obtain ⟨k, x, hk, rfl, rfl, h0, h1, hx, rfl⟩ := hrel
    have HX := Lib.hid hx
    clear hx
    by_cases hlt : k < n
    · obtain ⟨b, off, g, rfl, hB, hd, c0, c1, c2, c3⟩ := H.out.at_ hlt
      have HD := Lib.hid hd
      clear hd
      have hne : b ≠ w.heap.size := by omega
      go_wp2
      all_goals
        go_roundg (gk - 1)
        case measure => omega
        case rel =>
          have := HX.out
          rw [HD.out, cnt] at this
          first
          | exact ⟨k + 1, x + 1, by omega, by go_num, rfl, by omega, by omega, by rw [if_pos ‹_›] at this; omega, rfl⟩
          | exact ⟨k + 1, x, by omega, by go_num, rfl, by omega, by omega, by rw [if_neg (by simpa using ‹(g.k == kd) = false›)] at this; omega, rfl⟩
    · go_wp2
      go_ret
      have := HX.out
      rw [cnt_nil kd (by have := H.out.1; omega)] at this
      exact ⟨ret_int (by omega), (Below.refl _ _).alloc (Nat.le_refl _) _⟩

end Go.Proofs.Ytibhikngiceeeaa
namespace Go.Proofs.Ytibhikngiceeeaa
open Go.RowKit


def markG (n : Nat) (j : Int) : List Gt := (List.range n).map fun (i : Nat) => ⟨j + 4 * i, j + 4 * i + 1, j + 4 * i + 2, j + 4 * i + 3⟩
theorem markG_take (n k : Nat) (j : Int) (h : k ≤ n) : (markG n j).take k = markG k j := by
  simp [markG, ← List.map_take, List.take_range, Nat.min_eq_left h]
theorem markG_drop (n k : Nat) (j : Int) (h : k < n) : (markG n j).drop k = ⟨j + 4 * k, j + 4 * k + 1, j + 4 * k + 2, j + 4 * k + 3⟩ :: (markG n j).drop (k + 1) := by
  rw [drop_cons (by simpa [markG] using h)]
  simp [markG]



end Go.Proofs.Ytibhikngiceeeaa
namespace Go.Proofs.Ytibhikngiceeeaa
open Go.RowKit

def tcnt (gs : List Gt) : Int := cnt 7 gs + cnt 8 gs
theorem tcnt_bd (gs : List Gt) : 0 ≤ tcnt gs ∧ tcnt gs ≤ gs.length + gs.length := by
  have h1 := cnt_bd 7 gs
  have h2 := cnt_bd 8 gs
  unfold tcnt
  omega

set_option maxRecDepth 100000 in
set_option maxHeartbeats 1600000 in
theorem s_TCount (N : Int) (A : Option Addr) (n cap : Nat) (gs : List Gt) (w : World) (h : RdG w A n gs) (hn : n ≤ 1099511627776) :
    Calls Try.prog 87 #[.agg #[.int .i64 N, .slice A n cap]] w fun e w' => e = .returned (.int .i64 (tcnt gs)) ∧ Below w.heap.size w w' := by
  have HTA : RdG (w.alloc (.cells #[.int .i64 N, .slice A n cap] 50)).drew A n gs := (h.alloc _).drew
  have hl := h.1
  have h7 := cnt_bd 7 gs
  have h8 := cnt_bd 8 gs
  rw [hl] at h7 h8
  have HTC : Hid (tcnt gs = cnt 7 gs + cnt 8 gs) := rfl
  clear h hl
  go_enter Try.func87, Try.ntmps87
  go_wp2_with fail
  go_region_held3 (fun w' => w'.cell? ⟨w.heap.size, 0, none⟩ = some (.int .i64 N) ∧ w'.cell? ⟨w.heap.size, 1, none⟩ = some (.slice A n cap))
    (first | go_keep)
    (first
      | (go_at_call 134; (with_reducible refine (s_CountGates _ _ _ _ _ gs _ HTA hn).mono ?_); rintro e w1 ⟨rfl, b1⟩; have HTB := HTA.below b1; have k0 := b1.cell (p := ⟨w.heap.size, 0, none⟩) (by simp); have k1 := b1.cell (p := ⟨w.heap.size, 1, none⟩) (by simp))
      | (go_at_call 134; (with_reducible refine (s_CountGates _ _ _ _ _ gs _ HTB hn).mono ?_); rintro e w2 ⟨rfl, b2⟩; have m0 := b2.cell (p := ⟨w.heap.size, 0, none⟩) (by have := b1.size; simp at this ⊢; omega); have m1 := b2.cell (p := ⟨w.heap.size, 1, none⟩) (by have := b1.size; simp at this ⊢; omega)))
  all_goals go_wp2_with fail
  all_goals go_ret
  all_goals exact ⟨ret_int (by rw [HTC.out, IntKind.wrap_i64]; omega), below_trans (below_alloc (below_drew b1)) b2⟩

theorem l_tCount (A : Option Addr) (n cap : Nat) (gs : List Gt) (w : World) (h : RdG w A n gs) (hn : n ≤ 1099511627776) :
    Calls Try.prog 32 #[.slice A n cap] w fun e w' => e = .returned (.int .i64 (tcnt gs)) ∧ Below w.heap.size w w' := by
  have H := Lib.hid h
  clear h
  go_enter Try.func32, Try.ntmps32
  go_wp2_with fail
  refine (s_TCount _ _ _ _ _ _ H.out hn).mono ?_
  rintro e w1 ⟨rfl, b1⟩
  go_wp2_with fail
  go_ret
  exact ⟨rfl, b1⟩

theorem eqGateV (k a b c k' a' b' c' : Int) (w : World) : (Op.equalIn 10000 55 (.agg #[.int .i64 k, .int .i64 a, .int .i64 b, .int .i64 c]) (.agg #[.int .i64 k', .int .i64 a', .int .i64 b', .int .i64 c'])).run Try.prog w = .ok (k == k' && (a == a' && (b == b' && c == c'))) w := by
  have u3 := Try.underlying3
  have a3 := Try.isAgg3
  have z3 := Try.sizeOf3
  have hS : Try.prog.underlying 55 = some (.struct (Try.prog.fieldsOf 55)) := by kernel_rfl
  rw [show (10000 : Nat) = 9999 + 1 from rfl, run_equalIn_agg w 9999 55 _ _ hS (by kernel_rfl)]
  simp only [Program.fieldsOf, Try.underlying55]
  go_simp
  by_cases h1 : k = k' <;> by_cases h2 : a = a' <;> by_cases h3 : b = b' <;> by_cases h4 : c = c' <;> simp [h1, h2, h3, h4]

set_option maxRecDepth 100000 in
set_option maxHeartbeats 400000 in
theorem l_sameGates_same (A A' : Option Addr) (n c c' : Nat) (gs : List Gt) (w : World) (h : RdG w A n gs) (h' : RdG w A' n gs) (hn : n ≤ 1099511627776) :
    Calls Try.prog 29 #[.slice A n c, .slice A' n c'] w fun e w' => e = .returned (.bool true) ∧ Below w.heap.size w w' := by
  have H := Lib.hid h
  have H' := Lib.hid h'
  clear h h'
  go_enter Try.func29, Try.ntmps29
  go_wp2
  go_loopg [5] n (fun m i wr => ∃ k : Nat, k + m = n ∧ i = .int .i64 k ∧ Below w.heap.size w wr)
  case atStart => exact ⟨0, by omega, rfl, Below.refl _ _⟩
  case round =>
    obtain ⟨k, hk, rfl, hb⟩ := hrel
    by_cases hlt : k < n
    · obtain ⟨b, off, g, rfl, hB, hd, c0, c1, c2, c3⟩ := (H.out.below hb).at_ hlt
      obtain ⟨b', off', g', rfl, hB', hd', c0', c1', c2', c3'⟩ := (H'.out.below hb).at_ hlt
      obtain rfl : g = g' := by rw [hd] at hd'; injection hd'
      clear hd hd'
      have hi0 : (0 : Int) ≤ (k : Int) := by omega
      have hi1 : (k : Int) < (n : Int) := by omega
      have hE : ∀ w, (Op.equalIn 10000 55 (.agg #[.int .i64 g.k, .int .i64 g.a, .int .i64 g.b, .int .i64 g.c]) (.agg #[.int .i64 g.k, .int .i64 g.a, .int .i64 g.b, .int .i64 g.c])).run Try.prog w = .ok true w := fun w => by rw [eqGateV]; simp
      have hM : Try.prog.eqGuardType Try.prog.depth 55 = false := by kernel_rfl
      go_wp2_with fail
      go_quiet (fail)
      go_wp2
      go_roundg (gk - 1)
      case measure => omega
      case rel => exact ⟨k + 1, by omega, by go_num, ⟨hb.os, hb.tape, hb.output, hb.size, hb.block⟩⟩
    · go_wp2
      go_ret
      exact ⟨rfl, hb⟩

end Go.Proofs.Ytibhikngiceeeaa
namespace Go.Proofs.Ytibhikngiceeeaa
open Go.RowKit

theorem tcnt_app (a b : List Gt) : tcnt (a ++ b) = tcnt a + tcnt b := by
  have h : ∀ (k : Int) (a b : List Gt), cnt k (a ++ b) = cnt k a + cnt k b := by
    intro k a b
    induction a with
    | nil => simp [cnt]
    | cons g r ih => rw [List.cons_append, cnt, cnt, ih]; omega
  unfold tcnt
  rw [h, h]; omega
theorem tcnt_one (g : Gt) : tcnt [g] = if g.k = 7 ∨ g.k = 8 then 1 else 0 := by
  unfold tcnt
  simp only [cnt]
  by_cases h7 : g.k = 7
  · simp [h7]
  · by_cases h8 : g.k = 8
    · simp [h8]
    · simp [h7, h8]
theorem tcnt_rot (c q : Int) (h0 : 0 ≤ c) (h7 : c ≤ 7) : tcnt (rotG c q) = c % 2 := by
  obtain h | h | h | h | h | h | h | h : c = 0 ∨ c = 1 ∨ c = 2 ∨ c = 3 ∨ c = 4 ∨ c = 5 ∨ c = 6 ∨ c = 7 := by omega
  all_goals subst h; rfl
theorem tcnt_non {g : Gt} (hu : (units g.k == 0) = true) : tcnt [g] = 0 := by
  rw [tcnt_one, if_neg]
  simp at hu
  rcases units_cases g.k with h | h | h | h | h | h <;> omega
theorem fold_run (T : List (Int × Int)) (hT : Canon T) (q0 : Po) : ∀ (r : List Gt) (p : Po) (met : List Int) (acc : List Gt) (q pe : Po), compL p r = (pe, true) → compL q0 acc = (q, true) → Inv p → Inv q → q.N = p.N → q.o = p.o →
    (∀ m, coefT q.t m = if met.any (· == m) = true then coefT T m else 0) → (∀ m, coefT p.t m ≠ 0 → met.any (· == m) = true) → tcnt acc = oddS q.t →
    ∃ (qe : Po) (mete : List Int), compL q0 (foldL T p met acc r) = (qe, true) ∧ Inv pe ∧ Inv qe ∧ qe.N = pe.N ∧ qe.o = pe.o ∧ (∀ m, coefT qe.t m = if mete.any (· == m) = true then coefT T m else 0) ∧ (∀ m, coefT pe.t m ≠ 0 → mete.any (· == m) = true) ∧ tcnt (foldL T p met acc r) = oddS qe.t ∧ oddS pe.t ≤ oddS p.t + tcnt r
  | [], p, met, acc, q, pe, hp, hq, ip, iq, hN, ho, hm, hpm, ht => by
    injection hp with hp _
    subst hp
    refine ⟨q, met, hq, ip, iq, hN, ho, hm, hpm, ht, ?_⟩
    show oddS p.t ≤ oddS p.t + tcnt []
    have : tcnt [] = 0 := rfl
    omega
  | g :: r, p, met, acc, q, pe, hp, hq, ip, iq, hN, ho, hm, hpm, ht => by
    obtain ⟨h1, _⟩ := compL_ok (p := p) (g := g) (r := r) (by rw [hp])
    obtain ⟨p1, hp1⟩ : ∃ p1, applyP p g = (p1, true) := ⟨_, Prod.ext rfl h1⟩
    have hp2 : compL p1 r = (pe, true) := by rw [compL_go (by rw [hp1]), hp1] at hp; exact hp
    obtain ⟨ip1, n1, l1, o1⟩ := applyP_inv ip hp1
    have hlen : (p.o.length : Int) = p.N := (okP_parts (applyP_okP h1)).2
    have htc : tcnt (g :: r) = tcnt [g] + tcnt r := by rw [← List.singleton_append, tcnt_app]
    rw [← tcnt_one g] at o1
    cases hu : (units g.k == 0)
    · obtain ⟨e1, e2, e3, e4, e5, e6, e7⟩ := app_is_rot hu hp1 ip.1
      obtain ⟨⟨x, y⟩, hxy⟩ : ∃ z, at2 p.o g.a = z := ⟨_, rfl⟩
      rw [hxy] at e3
      have hy : y = 0 ∨ y = 1 := by have := at2_flip ip.2.1 g.a; rw [hxy] at this; exact this
      have hcb := coefT_bd x hT
      cases hmt : met.any (· == x)
      · rw [foldL_new hu hxy hmt hp1]
        have hc0 : 0 ≤ turnC (coefT T x) y ∧ turnC (coefT T x) y ≤ 7 := by unfold turnC; split <;> omega
        obtain ⟨H', b1, b2, b3⟩ := run_rot (q := q) (c := turnC (coefT T x) y) (a := g.a) (x := x) (y := y) hc0.1 hc0.2 (by omega) (by omega) e4 (by omega) (by rw [ho, hN]; exact hlen) (by rw [ho]; exact hxy) iq.1 iq.2.2
        obtain ⟨a1, a2, a3⟩ := oddS_add iq.1 x (sg y (turnC (coefT T x) y))
        have hqx : coefT q.t x = 0 := by rw [hm, hmt]; rfl
        have hval : (0 + sg y (turnC (coefT T x) y)) % 8 = coefT T x := by
          unfold sg turnC
          rcases hy with rfl | rfl
          · simp; omega
          · simp; omega
        have hodd : oddS (addT q.t x (sg y (turnC (coefT T x) y))) = oddS q.t + turnC (coefT T x) y % 2 := by
          have := oddS_ins x (sg y (turnC (coefT T x) y)) q.t iq.1
          rw [← addT_ins x _ q.t iq.1, hqx, hval] at this
          have h3 : turnC (coefT T x) y % 2 = coefT T x % 2 := by unfold turnC; split <;> omega
          omega
        have hacc : compL q0 (acc ++ rotG (turnC (coefT T x) y) g.a) = (⟨q.N, H', addT q.t x (sg y (turnC (coefT T x) y)), q.o⟩, true) := by
          rw [compL_app _ _ _ (by rw [hq]), hq]; exact b3
        have ⟨qe, mete, k1, k2, k3, k4, k5, k6, k7, k8, k9⟩ := fold_run T hT q0 r p1 (met ++ [x]) (acc ++ rotG (turnC (coefT T x) y) g.a) ⟨q.N, H', addT q.t x (sg y (turnC (coefT T x) y)), q.o⟩ pe hp2 hacc ip1 ⟨a2, iq.2.1, b1, b2⟩ (by rw [n1]; exact hN) (by rw [e1]; exact ho)
          (by
            intro m
            show coefT (addT _ _ _) m = _
            rw [a3, List.any_append]
            by_cases hmx : m = x
            · subst hmx; rw [if_pos rfl, hqx, hval]; simp
            · rw [if_neg hmx, hm]
              have : [x].any (· == m) = false := by simp; omega
              rw [this, Bool.or_false])
          (by
            intro m h
            rw [List.any_append]
            by_cases hmx : m = x
            · subst hmx; simp
            · rw [e3 m hmx] at h; rw [hpm m h]; rfl)
          (by rw [tcnt_app, ht, tcnt_rot _ _ hc0.1 hc0.2]; exact hodd.symm)
        exact ⟨qe, mete, k1, k2, k3, k4, k5, k6, k7, k8, by omega⟩
      · rw [foldL_old hu hxy hmt hp1]
        have ⟨qe, mete, k1, k2, k3, k4, k5, k6, k7, k8, k9⟩ := fold_run T hT q0 r p1 met acc q pe hp2 hq ip1 iq (by rw [n1]; exact hN) (by rw [e1]; exact ho) hm
          (by
            intro m h
            by_cases hmx : m = x
            · subst hmx; exact hmt
            · rw [e3 m hmx] at h; exact hpm m h) ht
        exact ⟨qe, mete, k1, k2, k3, k4, k5, k6, k7, k8, by omega⟩
    · rw [foldL_0 hu hp1]
      obtain ⟨e1, e2, e3⟩ := app_non hu hp1 hN ho
      have hacc : compL q0 (acc ++ [g]) = (⟨q.N, q.H, q.t, p1.o⟩, true) := by
        rw [compL_app _ _ _ (by rw [hq]), hq]
        show compL q [g] = _
        rw [compL_go (by rw [e3]), e3]; rfl
      have ⟨qe, mete, k1, k2, k3, k4, k5, k6, k7, k8, k9⟩ := fold_run T hT q0 r p1 met (acc ++ [g]) ⟨q.N, q.H, q.t, p1.o⟩ pe hp2 hacc ip1 ⟨iq.1, ip1.2.1, iq.2.2⟩ (by rw [n1]; exact hN) rfl hm (by intro m h; rw [e1] at h; exact hpm m h)
        (by rw [tcnt_app, tcnt_non hu, ht]; show oddS q.t + 0 = oddS q.t; omega)
      exact ⟨qe, mete, k1, k2, k3, k4, k5, k6, k7, k8, by omega⟩
/-- The whole: what FnFold asks, once the row can be reckoned. -/
theorem fold_law {gs : List Gt} {n : Int} {M : Po} (h : compP gs n = (M, true)) :
    ∃ Q : Po, compP (foldP gs n).1 n = (Q, true) ∧ Q.N = M.N ∧ Q.t = M.t ∧ Q.o = M.o ∧ (Q.H + (foldP gs n).2) % 8 = M.H ∧ 0 ≤ Q.H ∧ Q.H ≤ 7 ∧ 0 ≤ (foldP gs n).2 ∧ (foldP gs n).2 ≤ 7 ∧ tcnt (foldP gs n).1 = oddS M.t ∧ oddS M.t ≤ tcnt gs ∧ Canon M.t := by
  obtain ⟨hin, hc⟩ := compP_in h
  obtain ⟨i1, i2, i3, i4⟩ := idP_inv hin
  have hMi : Inv M := by
    obtain ⟨_, _, _, k2, _⟩ := fold_run [] trivial (idP n) gs (idP n) [] [] (idP n) M hc rfl i1 i1 rfl rfl (by
      intro m; have e : idP n = ⟨n, 0, [], idO n.toNat⟩ := by unfold idP; rw [if_pos hin]
      rw [e]; rfl) (by
      intro m hm; have e : idP n = ⟨n, 0, [], idO n.toNat⟩ := by unfold idP; rw [if_pos hin]
      rw [e] at hm; exact absurd rfl hm) (by rw [i4]; rfl)
    exact k2
  have e0 : idP n = ⟨n, 0, [], idO n.toNat⟩ := by unfold idP; rw [if_pos hin]
  obtain ⟨qe, mete, k1, k2, k3, k4, k5, k6, k7, k8, k9⟩ := fold_run M.t hMi.1 (idP n) gs (idP n) [] [] (idP n) M hc rfl i1 i1 rfl rfl (by intro m; rw [e0]; rfl) (by intro m hm; rw [e0] at hm; exact absurd rfl hm) (by rw [i4]; rfl)
  have hf := foldP_yes (gs := gs) (n := n) (by rw [h])
  rw [h] at hf
  have hco : compP (foldL M.t (idP n) [] [] gs) n = (qe, true) := by unfold compP; rw [if_pos hin]; exact k1
  have hte : qe.t = M.t := canon_ext k3.1 hMi.1 fun m => by
    rw [k6]
    split
    · rfl
    · rename_i hno
      cases hd : decide (coefT M.t m = 0)
      · exact absurd (k7 m (by simpa using hd)) hno
      · have : coefT M.t m = 0 := by simpa using hd
        exact this.symm
  rw [hf]
  have h1 := hMi.2.2
  have h2 := k3.2.2
  refine ⟨qe, hco, k4, hte, k5, ?_, h2.1, h2.2, ?_, ?_, by rw [k8, hte], by rw [i4] at k9; omega, hMi.1⟩
  · show (qe.H + (M.H - (compP (foldL M.t (idP n) [] [] gs) n).1.H) % 8) % 8 = M.H
    rw [hco]
    show (qe.H + (M.H - qe.H) % 8) % 8 = M.H
    omega
  · show 0 ≤ (M.H - _) % 8
    omega
  · show (M.H - _) % 8 ≤ 7
    omega
theorem oddS_bd : ∀ {t : List (Int × Int)}, Canon t → 0 ≤ oddS t ∧ oddS t ≤ t.length
  | [], _ => by simp [oddS]
  | p :: r, h => by
    have := oddS_bd h.2.2.2
    simp only [oddS, List.length_cons]
    omega
theorem eqP_self (N H : Int) (t o : List (Int × Int)) : eqP N H N H t o t o = true := by simp [eqP, sameP]
end Go.Proofs.Ytibhikngiceeeaa
namespace Go.Proofs.Ytibhikngiceeeaa
open Go.ChangeShapes Go.WideShapes Go.ChangeAt Go.RowKit Go.Deep

def I64 (n : Int) : Prop := -9223372036854775808 ≤ n ∧ n ≤ 9223372036854775807
theorem i64_of_wf {n : Int} (h : (Lit.int .i64 n).wf = true) : I64 n := by
  simpa [Lit.wf, IntKind.min, IntKind.max, IntKind.signed, IntKind.bits, I64] using h
def Gt.ok (g : Gt) : Prop := I64 g.k ∧ I64 g.a ∧ I64 g.b ∧ I64 g.c

theorem addr_plain {w : World} {a : Addr} {v : Value} (h : w.cell? (a.add 0) = some v) : ∃ b off, a = ⟨b, off, none⟩ ∧ b < w.heap.size := by
  obtain ⟨b, off, spot⟩ := a
  have e : spot = none := by simpa [Addr.add] using World.cell?_spot h
  subst e
  exact ⟨b, off, rfl, by simpa [Addr.add] using World.block_lt_of_cell? w _ h⟩
theorem add_lit (b off j : Nat) : (⟨b, off, none⟩ : Addr).add j = ⟨b, off + j, none⟩ := by
  unfold Addr.add
  split
  · subst j; rfl
  · rfl

section
variable {H : Type} {enc : TypeId × Value → H} {P : Program} {w : World} {base : Nat} {spare : Nat → Bool} {held : Bool}

theorem choose_list {α : Type} (n : Nat) (p : Nat → α → Prop) (h : ∀ i, i < n → ∃ x, p i x) : ∃ l : List α, l.length = n ∧ ∀ i x, l[i]? = some x → p i x := by
  induction n with
  | zero => exact ⟨[], rfl, fun i x hx => by simp at hx⟩
  | succ n ih =>
    obtain ⟨l, hl, hp⟩ := ih fun i hi => h i (by omega)
    obtain ⟨x, hx⟩ := h n (by omega)
    refine ⟨l ++ [x], by simp [hl], fun i y hy => ?_⟩
    rw [List.getElem?_append] at hy
    split at hy
    · exact hp i y hy
    · rename_i hge
      have : i - l.length = 0 := by
        rcases Nat.eq_zero_or_pos (i - l.length) with h0 | h0
        · exact h0
        · rw [List.getElem?_eq_none (by simp; omega)] at hy; cases hy
      rw [this] at hy
      simp at hy
      subst hy
      obtain rfl : i = n := by omega
      exact hx

theorem open_rows {t e : TypeId} {fuel sz : Nat} {v : Value} {x : DataW H × List MemPlace} (hC : P.cellsOf e = sz) (hsz : 0 < sz) (ht : P.underlying t = some (.slice e)) (h : DataW.trod enc P w base spare held fuel t [v] = some x) :
    ∃ A n cap, v = .slice A n cap ∧ n ≤ cap ∧ cap ≤ maxLen ∧ (A = none → n = 0 ∧ cap = 0) ∧
      ∃ l : List (List Value), l.length = n ∧ (∀ c ∈ l, c.length = sz ∧ ∃ m y, DataW.trod enc P w base spare held m e c = some y) ∧
        (0 < n → ∃ b off, A = some ⟨b, off, none⟩ ∧ b < w.heap.size ∧ ∀ i c j u, l[i]? = some c → c[j]? = some u → w.cell? ⟨b, off + (i * sz + j), none⟩ = some u) := by
  rcases open_slice ht h with ⟨h0, _⟩ | ⟨a, len, cap, m, n, D, Pl, hcs, hb, hl, hm, hmm, hx, hi⟩
  · simp at h0
    subst h0
    exact ⟨none, 0, 0, rfl, by omega, by simp [maxLen], fun _ => ⟨rfl, rfl⟩, [], rfl, fun c hc => by simp at hc, fun h => absurd h (by omega)⟩
  · simp at hcs
    subst hcs
    refine ⟨some a, len, cap, rfl, hl, hm, (fun h => by simp at h), ?_⟩
    have hle : len ≤ m := by rw [hmm]; split <;> omega
    obtain ⟨l, hll, hp⟩ := choose_list len (fun i c => c.length = sz ∧ (∃ m y, DataW.trod enc P w base spare held m e c = some y) ∧ ∀ j u, c[j]? = some u → w.cell? (a.add (i * sz + j)) = some u) (fun i hi' => by
      obtain ⟨cs', hc, ht'⟩ := hi i (by omega)
      rw [hC] at hc
      obtain ⟨_, hcl, hat⟩ := World.cells?_some hc
      refine ⟨cs', hcl, ⟨_, _, ht'⟩, fun j u hu => ?_⟩
      have hjl : j < sz := by
        rcases Nat.lt_or_ge j cs'.length with h | h
        · omega
        · rw [List.getElem?_eq_none h] at hu; cases hu
      have := hat j hjl
      rw [hu] at this
      rw [← Go.Deep.add_add]
      exact this)
    refine ⟨l, hll, fun c hc => ?_, fun hn => ?_⟩
    · obtain ⟨i, hi1, rfl⟩ := List.getElem_of_mem hc
      obtain ⟨h1, h2, _⟩ := hp i l[i] (List.getElem?_eq_getElem hi1)
      exact ⟨h1, h2⟩
    · have h0 : l[0]? = some (l[0]'(by omega)) := List.getElem?_eq_getElem (by omega)
      obtain ⟨g1, _, g3⟩ := hp 0 _ h0
      have h00 : (l[0]'(by omega))[0]? = some ((l[0]'(by omega))[0]'(by omega)) := List.getElem?_eq_getElem (by omega)
      have hc0 := g3 0 _ h00
      simp only [Nat.zero_mul, Nat.add_zero] at hc0
      obtain ⟨b, off, rfl, hlt⟩ := addr_plain hc0
      refine ⟨b, off, rfl, hlt, fun i c j u hc hu => ?_⟩
      obtain ⟨_, _, k3⟩ := hp i c hc
      rw [← add_lit]
      exact k3 j u hu

theorem flat_at (sz : Nat) : ∀ (l : List (List Value)) (j : Nat) (u : Value), (∀ c ∈ l, c.length = sz) → l.flatten[j]? = some u → ∃ i c k, l[i]? = some c ∧ c[k]? = some u ∧ j = i * sz + k
  | [], j, u, _, h => by simp at h
  | c :: r, j, u, hl, h => by
    have hc := hl c (by simp)
    rw [List.flatten_cons, List.getElem?_append] at h
    split at h
    · exact ⟨0, c, j, by simp, h, by omega⟩
    · obtain ⟨i, c', k, h1, h2, h3⟩ := flat_at sz r (j - c.length) u (fun c hc => hl c (by simp [hc])) h
      refine ⟨i + 1, c', k, by simpa using h1, h2, ?_⟩
      rw [Nat.add_mul]; omega

theorem rd_rows {A : Option Addr} {n sz : Nat} {l : List (List Value)} (hl : l.length = n) (hc : ∀ c ∈ l, c.length = sz)
    (h : 0 < n → ∃ b off, A = some ⟨b, off, none⟩ ∧ b < w.heap.size ∧ ∀ i c j u, l[i]? = some c → c[j]? = some u → w.cell? ⟨b, off + (i * sz + j), none⟩ = some u) : Rd w sz A n l.flatten := by
  refine ⟨?_, fun hn => ?_⟩
  · subst hl
    clear h
    induction l with
    | nil => simp
    | cons c r ih =>
      rw [List.flatten_cons, List.length_append, ih fun c hc' => hc c (by simp [hc']), hc c (by simp), List.length_cons, Nat.add_mul]; omega
  · obtain ⟨b, off, e, hb, hh⟩ := h hn
    refine ⟨b, off, e, hb, fun j u hu => ?_⟩
    obtain ⟨i, c, k, h1, h2, rfl⟩ := flat_at sz l j u hc hu
    exact hh i c k u h1 h2

theorem map_of {α : Type} (f : α → List Value) (ok : α → Prop) (l : List (List Value)) (h : ∀ c ∈ l, ∃ g, c = f g ∧ ok g) : ∃ gs : List α, l = gs.map f ∧ ∀ g ∈ gs, ok g := by
  induction l with
  | nil => exact ⟨[], rfl, fun g hg => by simp at hg⟩
  | cons c r ih =>
    obtain ⟨gs, e, hk⟩ := ih fun c hc => h c (by simp [hc])
    obtain ⟨g, rfl, hg⟩ := h c (by simp)
    exact ⟨g :: gs, by simp [e], fun x hx => by
      rcases List.mem_cons.1 hx with rfl | hx
      · exact hg
      · exact hk x hx⟩

theorem open_gates {t e : TypeId} {fuel : Nat} {v : Value} {x : DataW H × List MemPlace} {f0 f1 f2 f3 : Field} (ht : P.underlying t = some (.slice e)) (he : P.underlying e = some (.struct #[f0, f1, f2, f3]))
    (hone : oneCellFields P #[f0, f1, f2, f3] = true) (hC : P.cellsOf e = 4) (h0 : P.underlying f0.type = some (.int .i64)) (h1 : P.underlying f1.type = some (.int .i64)) (h2 : P.underlying f2.type = some (.int .i64)) (h3 : P.underlying f3.type = some (.int .i64))
    (h : DataW.trod enc P w base spare held fuel t [v] = some x) :
    ∃ A n cap gs, v = .slice A n cap ∧ RdG w A n gs ∧ n ≤ cap ∧ cap ≤ maxLen ∧ ∀ g ∈ gs, g.ok := by
  obtain ⟨A, n, cap, rfl, h4, h5, _, l, hl, hc, hr⟩ := open_rows hC (by omega) ht h
  obtain ⟨gs, rfl, hok⟩ := map_of Gt.cells Gt.ok l (fun c hcm => by
    obtain ⟨hlen, m, y, hy⟩ := hc c hcm
    obtain ⟨ys, n', _, _, _, _, hf⟩ := DataW.trod_struct he hy
    obtain ⟨c0, c1, c2, c3, rfl⟩ : ∃ c0 c1 c2 c3, c = [c0, c1, c2, c3] := by
      match c, hlen with
      | [c0, c1, c2, c3], _ => exact ⟨c0, c1, c2, c3, rfl⟩
    have g : ∀ (i : Nat) (f : Field) (u : Value), #[f0, f1, f2, f3][i]? = some f → [c0, c1, c2, c3][i]? = some u → P.underlying f.type = some (.int .i64) → ∃ z, u = .int .i64 z ∧ I64 z := by
      intro i f u hi hu hi64
      obtain ⟨ho, hk⟩ := hone_of hone i f hi
      have hyi := hf i f hi
      rw [ho, hk] at hyi
      have hil : i < 4 := by have := (Array.getElem?_eq_some_iff.1 hi).1; simpa using this
      have hil' : i < [c0, c1, c2, c3].length := by simpa using hil
      have e1 : ([c0, c1, c2, c3].drop i).take 1 = [u] := by
        rw [List.drop_eq_getElem_cons hil']
        rw [List.getElem?_eq_getElem hil'] at hu
        simp at hu
        simp [hu]
      rw [e1] at hyi
      have hys : ∃ y, ys[i]? = some y := by
        have : i < ys.length := by simp_all
        exact ⟨_, List.getElem?_eq_getElem this⟩
      obtain ⟨y', hy'⟩ := hys
      rw [hy'] at hyi
      obtain ⟨z, hz, _, hw⟩ := DataW.trod_int hi64 hyi
      simp at hz
      exact ⟨z, hz, i64_of_wf hw⟩
    obtain ⟨z0, rfl, b0⟩ := g 0 f0 c0 rfl rfl h0
    obtain ⟨z1, rfl, b1⟩ := g 1 f1 c1 rfl rfl h1
    obtain ⟨z2, rfl, b2⟩ := g 2 f2 c2 rfl rfl h2
    obtain ⟨z3, rfl, b3⟩ := g 3 f3 c3 rfl rfl h3
    exact ⟨⟨z0, z1, z2, z3⟩, rfl, b0, b1, b2, b3⟩)
  refine ⟨A, n, cap, gs, rfl, ⟨by simpa using hl, ?_⟩, h4, h5, hok⟩
  have := rd_rows hl (fun c hcm => (hc c hcm).1) hr
  rwa [← List.flatMap_def] at this

theorem open_pairs {t e : TypeId} {fuel : Nat} {v : Value} {x : DataW H × List MemPlace} {f0 f1 : Field} (ht : P.underlying t = some (.slice e)) (he : P.underlying e = some (.struct #[f0, f1]))
    (hone : oneCellFields P #[f0, f1] = true) (hC : P.cellsOf e = 2) (h0 : P.underlying f0.type = some (.int .i64)) (h1 : P.underlying f1.type = some (.int .i64))
    (h : DataW.trod enc P w base spare held fuel t [v] = some x) :
    ∃ A n cap ps, v = .slice A n cap ∧ RdP w A n ps ∧ n ≤ cap ∧ cap ≤ maxLen ∧ ∀ g ∈ ps, I64 g.1 ∧ I64 g.2 := by
  obtain ⟨A, n, cap, rfl, h4, h5, _, l, hl, hc, hr⟩ := open_rows hC (by omega) ht h
  obtain ⟨gs, rfl, hok⟩ := map_of (fun p : Int × Int => [Value.int .i64 p.1, .int .i64 p.2]) (fun p => I64 p.1 ∧ I64 p.2) l (fun c hcm => by
    obtain ⟨hlen, m, y, hy⟩ := hc c hcm
    obtain ⟨ys, n', _, _, _, _, hf⟩ := DataW.trod_struct he hy
    obtain ⟨c0, c1, rfl⟩ : ∃ c0 c1, c = [c0, c1] := by
      match c, hlen with
      | [c0, c1], _ => exact ⟨c0, c1, rfl⟩
    have g : ∀ (i : Nat) (f : Field) (u : Value), #[f0, f1][i]? = some f → [c0, c1][i]? = some u → P.underlying f.type = some (.int .i64) → ∃ z, u = .int .i64 z ∧ I64 z := by
      intro i f u hi hu hi64
      obtain ⟨ho, hk⟩ := hone_of hone i f hi
      have hyi := hf i f hi
      rw [ho, hk] at hyi
      have hil : i < 2 := by have := (Array.getElem?_eq_some_iff.1 hi).1; simpa using this
      have hil' : i < [c0, c1].length := by simpa using hil
      have e1 : ([c0, c1].drop i).take 1 = [u] := by
        rw [List.drop_eq_getElem_cons hil']
        rw [List.getElem?_eq_getElem hil'] at hu
        simp at hu
        simp [hu]
      rw [e1] at hyi
      have hys : ∃ y, ys[i]? = some y := by
        have : i < ys.length := by simp_all
        exact ⟨_, List.getElem?_eq_getElem this⟩
      obtain ⟨y', hy'⟩ := hys
      rw [hy'] at hyi
      obtain ⟨z, hz, _, hw⟩ := DataW.trod_int hi64 hyi
      simp at hz
      exact ⟨z, hz, i64_of_wf hw⟩
    obtain ⟨z0, rfl, b0⟩ := g 0 f0 c0 rfl rfl h0
    obtain ⟨z1, rfl, b1⟩ := g 1 f1 c1 rfl rfl h1
    exact ⟨(z0, z1), rfl, b0, b1⟩)
  refine ⟨A, n, cap, gs, rfl, ⟨by simpa using hl, ?_⟩, h4, h5, hok⟩
  have := rd_rows hl (fun c hcm => (hc c hcm).1) hr
  rwa [← List.flatMap_def] at this

theorem flat_ones (k : IntKind) (gs : List Int) : gs.map (Value.int k) = (gs.map fun z : Int => [Value.int k z]).flatten := by
  induction gs with
  | nil => rfl
  | cons a r ih => simp only [List.map_cons, List.flatten_cons, ih, List.singleton_append]

theorem open_nums {t e : TypeId} {fuel : Nat} {v : Value} {x : DataW H × List MemPlace} (ht : P.underlying t = some (.slice e)) (he : P.underlying e = some (.int .i64)) (hC : P.cellsOf e = 1)
    (h : DataW.trod enc P w base spare held fuel t [v] = some x) :
    ∃ A n cap zs, v = .slice A n cap ∧ RdI w A n zs ∧ n ≤ cap ∧ cap ≤ maxLen ∧ ∀ z ∈ zs, I64 z := by
  obtain ⟨A, n, cap, rfl, h4, h5, _, l, hl, hc, hr⟩ := open_rows hC (by omega) ht h
  obtain ⟨gs, rfl, hok⟩ := map_of (fun z : Int => [Value.int .i64 z]) I64 l (fun c hcm => by
    obtain ⟨hlen, m, y, hy⟩ := hc c hcm
    obtain ⟨z, hz, _, hw⟩ := DataW.trod_int he hy
    exact ⟨z, hz, i64_of_wf hw⟩)
  refine ⟨A, n, cap, gs, rfl, ⟨by simpa using hl, ?_⟩, h4, h5, hok⟩
  have := rd_rows hl (fun c hcm => (hc c hcm).1) hr
  rwa [← flat_ones] at this

theorem open_bytes {t e : TypeId} {fuel : Nat} {v : Value} {x : DataW H × List MemPlace} (ht : P.underlying t = some (.slice e)) (he : P.underlying e = some (.int .u8)) (hC : P.cellsOf e = 1)
    (h : DataW.trod enc P w base spare held fuel t [v] = some x) :
    ∃ (A : Option Addr) (n cap : Nat) (zs : List Int), v = .slice A n cap ∧ (zs.length = n ∧ Rd w 1 A n (zs.map (Value.int .u8))) ∧ n ≤ cap ∧ cap ≤ maxLen ∧ ∀ z ∈ zs, 0 ≤ z ∧ z ≤ 255 := by
  obtain ⟨A, n, cap, rfl, h4, h5, _, l, hl, hc, hr⟩ := open_rows hC (by omega) ht h
  obtain ⟨gs, rfl, hok⟩ := map_of (fun z : Int => [Value.int .u8 z]) (fun z => 0 ≤ z ∧ z ≤ 255) l (fun c hcm => by
    obtain ⟨hlen, m, y, hy⟩ := hc c hcm
    obtain ⟨z, hz, _, hw⟩ := DataW.trod_int he hy
    exact ⟨z, hz, by simpa [Lit.wf, IntKind.min, IntKind.max, IntKind.signed, IntKind.bits] using hw⟩)
  refine ⟨A, n, cap, gs, rfl, ⟨by simpa using hl, ?_⟩, h4, h5, hok⟩
  have := rd_rows hl (fun c hcm => (hc c hcm).1) hr
  rwa [← flat_ones] at this
end
end Go.Proofs.Ytibhikngiceeeaa
