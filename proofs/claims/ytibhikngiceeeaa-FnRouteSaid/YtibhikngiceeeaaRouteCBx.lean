/- Contracts of CountGates (spec), SwapCount (spec, impl). The list has at most 2^40 gates. Contracts of the laws' helpers on slices of gates: eqGateS, markGateS, heldGateS. The slices have at most 2^40 gates. Contracts of TCount (spec), tCount, sameGates, DrawRotationGates. At most 2^40 gates. Plain: a product with a permutation's matrix permutes columns or rows; the law of FnRoute on matrices. No program in sight; nothing is asked. Plain: routing adds only swaps, at most two for each gate, and keeps the T gates. Nothing is asked. -/
import Derived.Test.YtibhikngiceeeaaGateS
import Derived.Test.YtibhikngiceeeaaDraw
import Derived.Test.YtibhikngiceeeaaRouteLBx
import Derived.Test.YtibhikngiceeeaaMatM
import Derived.Test.YtibhikngiceeeaaDrawNBx
import Derived.StillTailTactics
import Derived.Outline
import Derived.Deep.RegionHeld3
namespace Go.Proofs.Ytibhikngiceeeaa
open Go.RowKit

def cnt (kd : Int) : List Gt → Int
  | [] => 0
  | g :: r => (if g.k == kd then 1 else 0) + cnt kd r
theorem cnt_bd (kd : Int) (l : List Gt) : 0 ≤ cnt kd l ∧ cnt kd l ≤ l.length := by
  induction l with
  | nil => simp [cnt]
  | cons g r ih => simp only [cnt, List.length_cons]; split <;> omega
theorem cnt_nil (kd : Int) {l : List Gt} {k : Nat} (h : l.length ≤ k) : cnt kd (l.drop k) = 0 := by rw [List.drop_eq_nil_of_le h]; rfl

set_option maxHeartbeats 400000 in
theorem s_CountGates (N : Int) (A : Option Addr) (n cap : Nat) (kd : Int) (gs : List Gt) (w : World) (h : RdG w A n gs) (hn : n ≤ 1099511627776) :
    Calls Try.prog 134 #[.agg #[.int .i64 N, .slice A n cap], .int .i64 kd] w fun e w' => e = .returned (.int .i64 (cnt kd gs)) ∧ Below w.heap.size w w' := by
  have H := Lib.hid h
  clear h
  go_enter Try.func134, Try.ntmps134
  go_wp2
  go_loopg [5, 6] n (fun m s i wr => ∃ (k : Nat) (x : Int), k + m = n ∧ i = .int .i64 k ∧ s = .int .i64 x ∧ 0 ≤ x ∧ x ≤ k ∧ x + cnt kd (gs.drop k) = cnt kd gs ∧ wr = w.alloc (.cells #[.int .i64 N, .slice A n cap] 50))
  case atStart => exact ⟨0, 0, by omega, rfl, rfl, by omega, by omega, by simp, rfl⟩
  case round =>
    obtain ⟨k, x, hk, rfl, rfl, h0, h1, hx, rfl⟩ := hrel
    have HX := Lib.hid hx
    clear hx
    by_cases hlt : k < n
    · obtain ⟨b, off, g, rfl, hB, hd, c0, c1, c2, c3⟩ := H.out.at_ hlt
      have HD := Lib.hid hd
      clear hd
      have hne : b ≠ w.heap.size := by omega
      go_wp2
      all_goals
        go_roundg (gk - 1)
        case measure => omega
        case rel =>
          have := HX.out
          rw [HD.out, cnt] at this
          first
          | exact ⟨k + 1, x + 1, by omega, by go_num, rfl, by omega, by omega, by rw [if_pos ‹_›] at this; omega, rfl⟩
          | exact ⟨k + 1, x, by omega, by go_num, rfl, by omega, by omega, by rw [if_neg (by simpa using ‹(g.k == kd) = false›)] at this; omega, rfl⟩
    · go_wp2
      go_ret
      have := HX.out
      rw [cnt_nil kd (by have := H.out.1; omega)] at this
      exact ⟨ret_int (by omega), (Below.refl _ _).alloc (Nat.le_refl _) _⟩

end Go.Proofs.Ytibhikngiceeeaa
namespace Go.Proofs.Ytibhikngiceeeaa
open Go.RowKit


def markG (n : Nat) (j : Int) : List Gt := (List.range n).map fun (i : Nat) => ⟨j + 4 * i, j + 4 * i + 1, j + 4 * i + 2, j + 4 * i + 3⟩
theorem markG_take (n k : Nat) (j : Int) (h : k ≤ n) : (markG n j).take k = markG k j := by
  simp [markG, ← List.map_take, List.take_range, Nat.min_eq_left h]
theorem markG_drop (n k : Nat) (j : Int) (h : k < n) : (markG n j).drop k = ⟨j + 4 * k, j + 4 * k + 1, j + 4 * k + 2, j + 4 * k + 3⟩ :: (markG n j).drop (k + 1) := by
  rw [drop_cons (by simpa [markG] using h)]
  simp [markG]



end Go.Proofs.Ytibhikngiceeeaa
namespace Go.Proofs.Ytibhikngiceeeaa
open Go.RowKit

def tcnt (gs : List Gt) : Int := cnt 7 gs + cnt 8 gs
theorem tcnt_bd (gs : List Gt) : 0 ≤ tcnt gs ∧ tcnt gs ≤ gs.length + gs.length := by
  have h1 := cnt_bd 7 gs
  have h2 := cnt_bd 8 gs
  unfold tcnt
  omega

set_option maxRecDepth 100000 in
set_option maxHeartbeats 1600000 in
theorem s_TCount (N : Int) (A : Option Addr) (n cap : Nat) (gs : List Gt) (w : World) (h : RdG w A n gs) (hn : n ≤ 1099511627776) :
    Calls Try.prog 87 #[.agg #[.int .i64 N, .slice A n cap]] w fun e w' => e = .returned (.int .i64 (tcnt gs)) ∧ Below w.heap.size w w' := by
  have HTA : RdG (w.alloc (.cells #[.int .i64 N, .slice A n cap] 50)).drew A n gs := (h.alloc _).drew
  have hl := h.1
  have h7 := cnt_bd 7 gs
  have h8 := cnt_bd 8 gs
  rw [hl] at h7 h8
  have HTC : Hid (tcnt gs = cnt 7 gs + cnt 8 gs) := rfl
  clear h hl
  go_enter Try.func87, Try.ntmps87
  go_wp2_with fail
  go_region_held3 (fun w' => w'.cell? ⟨w.heap.size, 0, none⟩ = some (.int .i64 N) ∧ w'.cell? ⟨w.heap.size, 1, none⟩ = some (.slice A n cap))
    (first | go_keep)
    (first
      | (go_at_call 134; (with_reducible refine (s_CountGates _ _ _ _ _ gs _ HTA hn).mono ?_); rintro e w1 ⟨rfl, b1⟩; have HTB := HTA.below b1; have k0 := b1.cell (p := ⟨w.heap.size, 0, none⟩) (by simp); have k1 := b1.cell (p := ⟨w.heap.size, 1, none⟩) (by simp))
      | (go_at_call 134; (with_reducible refine (s_CountGates _ _ _ _ _ gs _ HTB hn).mono ?_); rintro e w2 ⟨rfl, b2⟩; have m0 := b2.cell (p := ⟨w.heap.size, 0, none⟩) (by have := b1.size; simp at this ⊢; omega); have m1 := b2.cell (p := ⟨w.heap.size, 1, none⟩) (by have := b1.size; simp at this ⊢; omega)))
  all_goals go_wp2_with fail
  all_goals go_ret
  all_goals exact ⟨ret_int (by rw [HTC.out, IntKind.wrap_i64]; omega), below_trans (below_alloc (below_drew b1)) b2⟩

theorem l_tCount (A : Option Addr) (n cap : Nat) (gs : List Gt) (w : World) (h : RdG w A n gs) (hn : n ≤ 1099511627776) :
    Calls Try.prog 32 #[.slice A n cap] w fun e w' => e = .returned (.int .i64 (tcnt gs)) ∧ Below w.heap.size w w' := by
  have H := Lib.hid h
  clear h
  go_enter Try.func32, Try.ntmps32
  go_wp2_with fail
  refine (s_TCount _ _ _ _ _ _ H.out hn).mono ?_
  rintro e w1 ⟨rfl, b1⟩
  go_wp2_with fail
  go_ret
  exact ⟨rfl, b1⟩

theorem eqGateV (k a b c k' a' b' c' : Int) (w : World) : (Op.equalIn 10000 55 (.agg #[.int .i64 k, .int .i64 a, .int .i64 b, .int .i64 c]) (.agg #[.int .i64 k', .int .i64 a', .int .i64 b', .int .i64 c'])).run Try.prog w = .ok (k == k' && (a == a' && (b == b' && c == c'))) w := by
  have u3 := Try.underlying3
  have a3 := Try.isAgg3
  have z3 := Try.sizeOf3
  have hS : Try.prog.underlying 55 = some (.struct (Try.prog.fieldsOf 55)) := by kernel_rfl
  rw [show (10000 : Nat) = 9999 + 1 from rfl, run_equalIn_agg w 9999 55 _ _ hS (by kernel_rfl)]
  simp only [Program.fieldsOf, Try.underlying55]
  go_simp
  by_cases h1 : k = k' <;> by_cases h2 : a = a' <;> by_cases h3 : b = b' <;> by_cases h4 : c = c' <;> simp [h1, h2, h3, h4]

set_option maxRecDepth 100000 in
set_option maxHeartbeats 400000 in
theorem l_sameGates_same (A A' : Option Addr) (n c c' : Nat) (gs : List Gt) (w : World) (h : RdG w A n gs) (h' : RdG w A' n gs) (hn : n ≤ 1099511627776) :
    Calls Try.prog 29 #[.slice A n c, .slice A' n c'] w fun e w' => e = .returned (.bool true) ∧ Below w.heap.size w w' := by
  have H := Lib.hid h
  have H' := Lib.hid h'
  clear h h'
  go_enter Try.func29, Try.ntmps29
  go_wp2
  go_loopg [5] n (fun m i wr => ∃ k : Nat, k + m = n ∧ i = .int .i64 k ∧ Below w.heap.size w wr)
  case atStart => exact ⟨0, by omega, rfl, Below.refl _ _⟩
  case round =>
    obtain ⟨k, hk, rfl, hb⟩ := hrel
    by_cases hlt : k < n
    · obtain ⟨b, off, g, rfl, hB, hd, c0, c1, c2, c3⟩ := (H.out.below hb).at_ hlt
      obtain ⟨b', off', g', rfl, hB', hd', c0', c1', c2', c3'⟩ := (H'.out.below hb).at_ hlt
      obtain rfl : g = g' := by rw [hd] at hd'; injection hd'
      clear hd hd'
      have hi0 : (0 : Int) ≤ (k : Int) := by omega
      have hi1 : (k : Int) < (n : Int) := by omega
      have hE : ∀ w, (Op.equalIn 10000 55 (.agg #[.int .i64 g.k, .int .i64 g.a, .int .i64 g.b, .int .i64 g.c]) (.agg #[.int .i64 g.k, .int .i64 g.a, .int .i64 g.b, .int .i64 g.c])).run Try.prog w = .ok true w := fun w => by rw [eqGateV]; simp
      have hM : Try.prog.eqGuardType Try.prog.depth 55 = false := by kernel_rfl
      go_wp2_with fail
      go_quiet (fail)
      go_wp2
      go_roundg (gk - 1)
      case measure => omega
      case rel => exact ⟨k + 1, by omega, by go_num, ⟨hb.os, hb.tape, hb.output, hb.size, hb.block⟩⟩
    · go_wp2
      go_ret
      exact ⟨rfl, hb⟩

end Go.Proofs.Ytibhikngiceeeaa
namespace Go.Proofs.Ytibhikngiceeeaa
open Go.RowKit
set_option linter.unusedVariables false

def oneD : Dw := ⟨⟨1, 0, 0, 0⟩, 0⟩
theorem newD_norm {n : Zw} {k : Int} (h : okD ⟨n, k⟩ = true) : newD n k = some ⟨n, k⟩ := by
  obtain ⟨hz, hk, hor, k0, k1⟩ := okD_parts h
  unfold newD
  obtain ⟨K, rfl⟩ : ∃ K : Nat, k = K := ⟨k.toNat, by omega⟩
  rw [hz, show inB (K : Int) 0 120 = true from inB_t (by omega) (by omega), Int.toNat_natCast, redD_norm K (hor.imp (fun h => by omega) id)]
  simp only [Bool.and_self, if_true]
  rw [if_neg (by omega)]
theorem mul_one_l {v : Dw} (h : okD v = true) : mulD oneD v = some v := by
  obtain ⟨n, k⟩ := v
  obtain ⟨hz, hk, hor, k0, k1⟩ := okD_parts h
  have hm : mulZ ⟨1, 0, 0, 0⟩ n = some n := by
    unfold mulZ ifZ
    rw [hz, one_times, hz]
    rfl
  unfold mulD oneD
  rw [h, show okD ⟨⟨1, 0, 0, 0⟩, 0⟩ = true by decide]
  simp only [Bool.and_self, if_true, hm]
  rw [Int.zero_add]
  exact newD_norm h
theorem upZ_zero : ∀ k : Nat, upZ k Zw.zero = some Zw.zero
  | 0 => rfl
  | k + 1 => by
    rw [upZ, show mulZ Zw.zero root2 = some Zw.zero by decide]
    exact upZ_zero k
theorem add_zero_l {v : Dw} (h : okD v = true) : addD Dw.zero v = some v := by
  obtain ⟨n, k⟩ := v
  obtain ⟨hz, hk, hor, k0, k1⟩ := okD_parts h
  unfold addD
  rw [h, show okD Dw.zero = true by decide]
  have hm : maxI Dw.zero.e k = k := by
    unfold maxI
    show (if (0 : Int) > k then (0 : Int) else k) = k
    rw [if_neg (by omega)]
  have ha : addZ Zw.zero n = some n := by
    unfold addZ ifZ
    have e : (⟨Zw.zero.a + n.a, Zw.zero.b + n.b, Zw.zero.c + n.c, Zw.zero.d + n.d⟩ : Zw) = n := by
      obtain ⟨a, b, c, d⟩ := n
      simp [Zw.zero]
    rw [e, hz, show okZ Zw.zero = true by decide]
    rfl
  simp only [Bool.and_self, if_true, hm, Int.sub_self]
  rw [show upZ (k - Dw.zero.e).toNat Dw.zero.n = some Zw.zero from upZ_zero _, show upZ (0 : Int).toNat n = some n from rfl]
  simp only [ha]
  exact newD_norm h
theorem rowD_zr : ∀ (xs : List Dw) (m : Nat) (acc : Dw), rowD xs (List.replicate m Dw.zero) acc = some acc
  | [], m, acc => by cases m <;> rfl
  | x :: r, 0, acc => rfl
  | x :: r, m + 1, acc => by
    rw [List.replicate_succ, rowD_skip (by simp)]
    exact rowD_zr r m acc
theorem rowD_zl : ∀ (ys : List Dw) (m : Nat) (acc : Dw), rowD (List.replicate m Dw.zero) ys acc = some acc
  | [], m, acc => by cases m <;> rfl
  | y :: r, 0, acc => rfl
  | y :: r, m + 1, acc => by
    rw [List.replicate_succ, rowD_skip (by simp)]
    exact rowD_zl r m acc
def uD (N t : Nat) : List Dw := (List.replicate N Dw.zero).set t oneD
theorem uD_succ (N t : Nat) : uD (N + 1) (t + 1) = Dw.zero :: uD N t := rfl
theorem uD_zero (N : Nat) : uD (N + 1) 0 = oneD :: List.replicate N Dw.zero := rfl
theorem rowD_ur : ∀ (N t : Nat) (xs : List Dw), xs.length = N → t < N → (∀ x ∈ xs, okD x = true) → rowD xs (uD N t) Dw.zero = some (xs.getD t Dw.zero)
  | 0, t, xs, _, h, _ => by omega
  | N + 1, 0, x :: r, hl, _, ho => by
    rw [uD_zero, List.getD_cons_zero]
    by_cases hx : x = Dw.zero
    · rw [rowD_skip (by simp [hx]), rowD_zr, hx]
    · rw [rowD, if_neg (by rw [decide_eq_false hx, show decide (oneD = Dw.zero) = false by decide]; decide), show mulD x oneD = some x from scale1 (ho x (by simp))]
      simp only
      rw [add_zero_l (ho x (by simp))]
      exact rowD_zr r N x
  | N + 1, t + 1, x :: r, hl, h, ho => by
    rw [uD_succ, rowD_skip (by simp), List.getD_cons_succ]
    exact rowD_ur N t r (by simpa using hl) (by omega) (fun y hy => ho y (by simp [hy]))
  | N + 1, t, [], hl, _, _ => by simp at hl
theorem rowD_ul : ∀ (N t : Nat) (ys : List Dw), ys.length = N → t < N → (∀ x ∈ ys, okD x = true) → rowD (uD N t) ys Dw.zero = some (ys.getD t Dw.zero)
  | 0, t, ys, _, h, _ => by omega
  | N + 1, 0, y :: r, hl, _, ho => by
    rw [uD_zero, List.getD_cons_zero]
    by_cases hy : y = Dw.zero
    · rw [rowD_skip (by simp [hy]), rowD_zl, hy]
    · rw [rowD, if_neg (by rw [decide_eq_false hy, show decide (oneD = Dw.zero) = false by decide]; decide), mul_one_l (ho y (by simp))]
      simp only
      rw [add_zero_l (ho y (by simp))]
      exact rowD_zl r N y
  | N + 1, t + 1, y :: r, hl, h, ho => by
    rw [uD_succ, rowD_skip (by simp), List.getD_cons_succ]
    exact rowD_ul N t r (by simpa using hl) (by omega) (fun z hz => ho z (by simp [hz]))
  | N + 1, t, [], hl, _, _ => by simp at hl
theorem basis_uD (q i : Nat) : basis q i = uD (2 ^ q) i := rfl

theorem flipL_at {l : List (List Dw)} {k : Nat} {x : List Dw} (h : (flipL l)[k]? = some x) : k < l.length ∧ x = l.map fun r => r.getD k Dw.zero := by
  unfold flipL at h
  rw [List.getElem?_map] at h
  by_cases hk : k < l.length
  · rw [List.getElem?_range hk] at h
    injection h with h
    exact ⟨hk, h.symm⟩
  · rw [List.getElem?_eq_none (by rw [List.length_range]; omega)] at h
    cases h
theorem getD_ext {N : Nat} {V W : List Dw} (hv : V.length = N) (hw : W.length = N) (h : ∀ s, s < N → V.getD s Dw.zero = W.getD s Dw.zero) : V = W := by
  refine List.ext_getElem (by rw [hv, hw]) fun s s1 s2 => ?_
  have := h s (by omega)
  rw [List.getD_eq_getElem?_getD, List.getD_eq_getElem?_getD, List.getElem?_eq_getElem s1, List.getElem?_eq_getElem s2] at this
  exact this
theorem map_getD (U : Nat → List Dw) (N k j : Nat) (hj : j < N) : ((colsU U N).map fun r => r.getD k Dw.zero).getD j Dw.zero = (U j).getD k Dw.zero := by
  unfold colsU
  rw [List.map_map, List.getD_eq_getElem?_getD, List.getElem?_map, List.getElem?_range hj]
  rfl
/-- Column j of a matrix that is told by its columns. -/
theorem flipL_col {U : Nat → List Dw} {N j : Nat} (hU : ∀ i, i < N → (U i).length = N) (hj : j < N) : ((flipL (colsU U N)).map fun r => r.getD j Dw.zero) = U j := by
  refine getD_ext (N := N) (by rw [List.length_map, flipL_len, colsU_len]) (hU j hj) fun s hs => ?_
  have e : (flipL (colsU U N))[s]? = some ((colsU U N).map fun r => r.getD s Dw.zero) := by
    unfold flipL
    rw [List.getElem?_map, colsU_len, List.getElem?_range hs]
    rfl
  rw [List.getD_eq_getElem?_getD, List.getElem?_map, e]
  show ((colsU U N).map fun r => r.getD s Dw.zero).getD j Dw.zero = _
  exact map_getD U N s j hj
theorem flipL_ok {U : Nat → List Dw} {N : Nat} (hU : ∀ i, i < N → ∀ u ∈ U i, okD u = true) : ∀ x ∈ flipL (colsU U N), x.length = N ∧ ∀ u ∈ x, okD u = true := by
  intro x hx
  obtain ⟨k, hk⟩ := List.getElem?_of_mem hx
  obtain ⟨h1, h2⟩ := flipL_at hk
  subst h2
  refine ⟨by rw [List.length_map, colsU_len], fun u hu => ?_⟩
  obtain ⟨r, hr, rfl⟩ := List.mem_map.1 hu
  obtain ⟨j, hj, rfl⟩ := List.mem_map.1 hr
  rw [List.getD_eq_getElem?_getD]
  cases e : (U j)[k]? with
  | none => decide
  | some u => exact hU j (List.mem_range.1 hj) u (List.mem_of_getElem? e)
theorem uD_get {N t s : Nat} (ht : t < N) : (uD N t).getD s Dw.zero = if s = t then oneD else Dw.zero := by
  unfold uD
  rw [getD_set (by rw [List.length_replicate]; exact ht), rep_getD]
theorem uD_ok {N t : Nat} : ∀ u ∈ uD N t, okD u = true := by
  intro u hu
  rcases List.mem_or_eq_of_mem_set hu with h | h
  · rw [List.eq_of_mem_replicate h]; decide
  · rw [h]; decide
theorem uD_len (N t : Nat) : (uD N t).length = N := by unfold uD; rw [List.length_set, List.length_replicate]
/-- A row of a permutation's matrix has one place that is not zero. -/
theorem perm_row {f : Nat → Nat} {N k : Nat} (hb : Bij f N) (hk : k < N) : ((colsU (fun i => uD N (f i)) N).map fun r => r.getD k Dw.zero) = uD N (preF f N k) := by
  obtain ⟨_, _, b3, b4⟩ := hb k hk
  refine getD_ext (N := N) (by rw [List.length_map, colsU_len]) (uD_len _ _) fun s hs => ?_
  obtain ⟨c1, c2, _, _⟩ := hb s hs
  rw [map_getD _ _ _ _ hs, uD_get c1, uD_get b3]
  by_cases h : k = f s
  · rw [if_pos h, if_pos (by rw [h, c2])]
  · rw [if_neg h, if_neg (fun e => h (by rw [e, b4]))]
/-- A matrix times a permutation's. -/
theorem mul_perm_r {U : Nat → List Dw} {f : Nat → Nat} {N : Nat} (hb : Bij f N) (hU : ∀ i, i < N → ∀ u ∈ U i, okD u = true) (j : Nat) (hj : j < N) (k : Nat) (x : List Dw) (hx : (flipL (colsU U N))[k]? = some x) :
    rowD x ((flipL (colsU (fun i => uD N (f i)) N)).map fun r => r.getD j Dw.zero) Dw.zero = some ((U (f j)).getD k Dw.zero) := by
  have hok := (flipL_ok hU x (List.mem_of_getElem? hx))
  obtain ⟨h1, h2⟩ := flipL_at hx
  rw [flipL_col (U := fun i => uD N (f i)) (fun i _ => uD_len _ _) hj]
  rw [rowD_ur N (f j) x hok.1 (hb j hj).1 hok.2, h2, map_getD _ _ _ _ (hb j hj).1]
/-- A permutation's matrix times a matrix. -/
theorem mul_perm_l {U : Nat → List Dw} {f : Nat → Nat} {N : Nat} (hb : Bij f N) (hU : ∀ i, i < N → (U i).length = N ∧ ∀ u ∈ U i, okD u = true) (j : Nat) (hj : j < N) (k : Nat) (x : List Dw) (hx : (flipL (colsU (fun i => uD N (f i)) N))[k]? = some x) :
    rowD x ((flipL (colsU U N)).map fun r => r.getD j Dw.zero) Dw.zero = some ((U j).getD (preF f N k) Dw.zero) := by
  obtain ⟨h1, h2⟩ := flipL_at hx
  rw [colsU_len] at h1
  rw [flipL_col (fun i hi => (hU i hi).1) hj, h2, perm_row hb h1]
  exact rowD_ul N _ _ (hU j hj).1 (hb k h1).2.2.1 (hU j hj).2
/-- The law of FnRoute on matrices. -/
theorem route_mat {ps : List (Int × Int)} {n : Nat} {zs z' : List Int} {gs out : List Gt} (hz : isPerm zs = true ∧ zs.length = n) (hz' : isPerm z' = true ∧ z'.length = n) (hk : Keeps ps n out zs z' (hcs gs) (actG gs)) (hg : ∀ g ∈ gs, okN n g = true) {j : Nat} (hj : j < 2 ^ n) :
    ((List.range (2 ^ n)).map fun k => (NV (actG out (eN (2 ^ n) (idxP zs j))) (hcs gs)).getD k Dw.zero) = (List.range (2 ^ n)).map fun k => (NV (actG gs (eN (2 ^ n) j)) (hcs gs)).getD (preF (idxP z') (2 ^ n) k) Dw.zero := by
  have hb := perm_bij hz.1 hz.2
  have hb' := perm_bij hz'.1 hz'.2
  have h := hk.2.2.2 (eN (2 ^ n) j) (eN_len _ _)
  rw [permV_eN hb hj] at h
  have hl : (actG gs (eN (2 ^ n) j)).length = 2 ^ n := (actG_linN gs hg).2.2 _ (eN_len _ _)
  refine List.map_congr_left fun k hk' => ?_
  have hk2 := List.mem_range.1 hk'
  rw [h, NV_getD (by rw [permV_len]; exact hk2), NV_getD (by rw [hl]; exact (hb' k hk2).2.2.1), permV_get hk2]
end Go.Proofs.Ytibhikngiceeeaa
namespace Go.Proofs.Ytibhikngiceeeaa

theorem cnt_cons (k : Int) (g : Gt) (r : List Gt) : cnt k (g :: r) = (if g.k == k then 1 else 0) + cnt k r := rfl
theorem cnt_appR (k : Int) (a b : List Gt) : cnt k (a ++ b) = cnt k a + cnt k b := by
  induction a with
  | nil => simp [cnt]
  | cons g r ih => rw [List.cons_append, cnt_cons, cnt_cons, ih]; omega
theorem cnt1 (k k' a b c : Int) : cnt k [⟨k', a, b, c⟩] = if k' == k then 1 else 0 := by simp [cnt]
theorem rt_cnt {ps : List (Int × Int)} {N qa qb : Int} (ha0 : 0 ≤ qa) (ha1 : qa < N) (hb0 : 0 ≤ qb) (hb1 : qb < N) : ∀ (f d : Nat) (z : List Int), isLay ps N z = true → gd ps N (zAt z qa) (zAt z qb) ≤ d + 1 →
    ((rtS ps N qa qb f z).1.length : Int) = 1 + cnt 11 (rtS ps N qa qb f z).1 ∧ cnt 11 (rtS ps N qa qb f z).1 ≤ d ∧ cnt 7 (rtS ps N qa qb f z).1 = 0 ∧ cnt 8 (rtS ps N qa qb f z).1 = 0
  | 0, d, z, _, _ => by
    rw [rtS, cnt1, cnt1, cnt1]
    simp
  | f + 1, d, z, h, hd => by
    by_cases hg : 1 < gd ps N (zAt z qa) (zAt z qb)
    · obtain ⟨_, _, _, _, hs, hq⟩ := step_ok h ha0 ha1 hb0 hb1 hg
      obtain ⟨d', rfl⟩ : ∃ d' : Nat, d = d' + 1 := ⟨d - 1, by omega⟩
      obtain ⟨i1, i2, i3, i4⟩ := rt_cnt ha0 ha1 hb0 hb1 f d' _ hs (by rw [hq]; omega)
      rw [rt_far hg, cnt_cons, cnt_cons, cnt_cons, List.length_cons, i3, i4]
      have e1 : ((11 : Int) == 11) = true := by decide
      have e2 : ((11 : Int) == 7) = false := by decide
      have e3 : ((11 : Int) == 8) = false := by decide
      simp only [e1, e2, e3, if_true, Bool.false_eq_true, if_false]
      omega
    · rw [rt_near (by omega), cnt1, cnt1, cnt1]
      simp
theorem routeG_cnt {ps : List (Int × Int)} {N : Int} {z : List Int} {g : Gt} (h : mayR ps N z g = true) :
    ((routeG ps N z g).1.length : Int) = 1 + cnt 11 (routeG ps N z g).1 ∧ cnt 11 (routeG ps N z g).1 ≤ 2 ∧ cnt 7 (routeG ps N z g).1 = (if g.k == 7 then 1 else 0) ∧ cnt 8 (routeG ps N z g).1 = (if g.k == 8 then 1 else 0) := by
  unfold routeG
  rw [if_pos h]
  cases h1 : (arity g.k == 1)
  · rw [if_neg (by simp)]
    obtain ⟨a0, a1⟩ := mayR_a h
    obtain ⟨b0, b1⟩ := mayR_b h h1
    have hl := (mayR_parts h).1
    have hk := basic_kind (mayR_parts h).2.1 h1
    have hb := gd_bd ps N (zAt z g.a) (zAt z g.b)
    obtain ⟨i1, i2, i3, i4⟩ := rt_cnt a0 a1 b0 b1 3 2 z hl (by omega)
    rw [i3, i4, hk]
    exact ⟨i1, i2, rfl, rfl⟩
  · rw [if_pos rfl]
    have hn : (g.k == 11) = false := by
      cases h11 : (g.k == 11)
      · rfl
      · have : g.k = 11 := by simpa using h11
        rw [this] at h1
        revert h1
        decide
    rw [cnt1, cnt1, cnt1, hn]
    simp
theorem rtsL_cnt {ps : List (Int × Int)} {N : Int} : ∀ (gs : List Gt) (z : List Int) (acc : List Gt), (rtsL ps N gs z acc).2.2 = true →
    ((rtsL ps N gs z acc).1.length : Int) + cnt 11 acc = acc.length + gs.length + cnt 11 (rtsL ps N gs z acc).1 ∧ cnt 11 (rtsL ps N gs z acc).1 ≤ cnt 11 acc + 2 * gs.length ∧ cnt 7 (rtsL ps N gs z acc).1 = cnt 7 acc + cnt 7 gs ∧ cnt 8 (rtsL ps N gs z acc).1 = cnt 8 acc + cnt 8 gs
  | [], z, acc, _ => by
    rw [rtsL]
    simp [cnt]
  | g :: r, z, acc, h => by
    rw [rtsL] at h ⊢
    by_cases hm : mayR ps N z g = true
    · rw [if_pos hm] at h ⊢
      obtain ⟨i1, i2, i3, i4⟩ := rtsL_cnt r _ _ h
      obtain ⟨j1, j2, j3, j4⟩ := routeG_cnt hm
      rw [cnt_appR] at i1 i2 i3 i4
      rw [List.length_append] at i1
      rw [i3, i4, cnt_cons, cnt_cons, j3, j4, List.length_cons]
      refine ⟨by omega, by omega, by omega, by omega⟩
    · rw [if_neg hm] at h
      cases h
theorem routeGs_cnt {ps : List (Int × Int)} {N : Int} {zs : List Int} {gs : List Gt} (h : (routeGs ps N zs gs).2.2 = true) :
    ((routeGs ps N zs gs).1.length : Int) = gs.length + cnt 11 (routeGs ps N zs gs).1 ∧ cnt 11 (routeGs ps N zs gs).1 ≤ 2 * gs.length ∧ cnt 7 (routeGs ps N zs gs).1 = cnt 7 gs ∧ cnt 8 (routeGs ps N zs gs).1 = cnt 8 gs := by
  unfold routeGs at h ⊢
  by_cases hl : isLay ps N zs = true
  · rw [if_pos hl] at h ⊢
    obtain ⟨i1, i2, i3, i4⟩ := rtsL_cnt gs zs [] h
    have e1 : cnt 11 ([] : List Gt) = 0 := rfl
    have e2 : cnt 7 ([] : List Gt) = 0 := rfl
    have e3 : cnt 8 ([] : List Gt) = 0 := rfl
    have e4 : ([] : List Gt).length = 0 := rfl
    rw [e1] at i1 i2
    rw [e2] at i3
    rw [e3] at i4
    rw [e4] at i1
    refine ⟨by omega, by omega, by omega, by omega⟩
  · rw [if_neg hl] at h
    cases h
end Go.Proofs.Ytibhikngiceeeaa
