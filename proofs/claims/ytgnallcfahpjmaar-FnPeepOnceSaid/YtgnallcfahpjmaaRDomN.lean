/- Plain: a number of D[omega] in its normal form, written z over the E-th power of the root of 2: sums and products of such, where nothing grows too large. Nothing else is asked. -/
import Derived.Test.YtgnallcfahpjmaaRDomG
namespace Go.Proofs.YtgnallcfahpjmaaR
set_option linter.unusedVariables false

/-- Times the root of 2. -/
def rt (z : Zw) : Zw := ⟨z.b - z.d, z.a + z.c, z.b + z.d, z.c - z.a⟩
def addU (x y : Zw) : Zw := ⟨x.a + y.a, x.b + y.b, x.c + y.c, x.d + y.d⟩
theorem half_rt (z : Zw) : halfZ z = rt z := rfl
theorem zext {x y : Zw} (a : x.a = y.a) (b : x.b = y.b) (c : x.c = y.c) (d : x.d = y.d) : x = y := by
  cases x; cases y
  simp only at a b c d
  subst a b c d
  rfl
theorem rt_rt (z : Zw) : rt (rt z) = ⟨2 * z.a, 2 * z.b, 2 * z.c, 2 * z.d⟩ := by
  apply zext <;> simp only [rt] <;> omega
theorem rt_inj {x y : Zw} (h : rt x = rt y) : x = y := by
  have h2 := congrArg rt h
  rw [rt_rt, rt_rt] at h2
  injection h2 with a b c d
  exact zext (by omega) (by omega) (by omega) (by omega)
theorem rt_add (x y : Zw) : rt (addU x y) = addU (rt x) (rt y) := by
  apply zext <;> simp only [rt, addU] <;> omega
/-- Divided by the root of 2, where it goes. -/
def dv (z : Zw) : Option Zw := if evenZ (rt z) then some ⟨(rt z).a / 2, (rt z).b / 2, (rt z).c / 2, (rt z).d / 2⟩ else none
theorem dv_rt (y : Zw) : dv (rt y) = some y := by
  unfold dv
  rw [rt_rt]
  have e : evenZ ⟨2 * y.a, 2 * y.b, 2 * y.c, 2 * y.d⟩ = true := by
    unfold evenZ
    simp only [Bool.and_eq_true, beq_iff_eq]
    omega
  rw [if_pos e]
  congr 1
  apply zext <;> simp only <;> omega
theorem dv_some {z y : Zw} (h : dv z = some y) : z = rt y := by
  unfold dv at h
  split at h
  · rename_i h1
    injection h with h
    subst h
    unfold evenZ at h1
    simp only [Bool.and_eq_true, beq_iff_eq, rt] at h1
    apply zext <;> simp only [rt] <;> omega
  · cases h
def redU : Nat → Zw → Zw × Nat
  | 0, z => (z, 0)
  | k + 1, z => match dv z with
    | some m => redU k m
    | none => (z, k + 1)
theorem redU_rt (k : Nat) (y : Zw) : redU (k + 1) (rt y) = redU k y := by rw [redU, dv_rt]
def rtN : Nat → Zw → Zw
  | 0, z => z
  | k + 1, z => rt (rtN k z)
theorem rtN_rt : ∀ (k : Nat) (z : Zw), rtN k (rt z) = rt (rtN k z)
  | 0, z => rfl
  | k + 1, z => by rw [rtN, rtN_rt k z]; rfl
theorem rtN_add : ∀ (j k : Nat) (z : Zw), rtN (j + k) z = rtN j (rtN k z)
  | 0, k, z => by rw [Nat.zero_add]; rfl
  | j + 1, k, z => by rw [show j + 1 + k = (j + k) + 1 by omega, rtN, rtN_add j k z]; rfl
theorem rtN_sum : ∀ (k : Nat) (x y : Zw), rtN k (addU x y) = addU (rtN k x) (rtN k y)
  | 0, x, y => rfl
  | k + 1, x, y => by rw [rtN, rtN_sum k x y, rt_add]; rfl
theorem redU_rtN : ∀ (j k : Nat) (y : Zw), redU (j + k) (rtN j y) = redU k y
  | 0, k, y => by rw [Nat.zero_add]; rfl
  | j + 1, k, y => by rw [show j + 1 + k = (j + k) + 1 by omega, rtN, redU_rt, redU_rtN j k y]
/-- What the reduction leaves: the number again, and that it goes no further. -/
theorem redU_spec : ∀ (k : Nat) (z : Zw), (redU k z).2 ≤ k ∧ z = rtN (k - (redU k z).2) (redU k z).1 ∧ ((redU k z).2 = 0 ∨ dv (redU k z).1 = none)
  | 0, z => ⟨Nat.le_refl _, rfl, .inl rfl⟩
  | k + 1, z => by
    rw [redU]
    cases h : dv z with
    | none => exact ⟨Nat.le_refl _, by simp only; rw [Nat.sub_self]; rfl, .inr h⟩
    | some m =>
      obtain ⟨i1, i2, i3⟩ := redU_spec k m
      refine ⟨by simp only; omega, ?_, i3⟩
      have hz := dv_some h
      simp only
      rw [show k + 1 - (redU k m).2 = (k - (redU k m).2) + 1 by omega, rtN, ← i2]
      exact hz
/-- The normal form. -/
def nf (z : Zw) (E : Nat) : Dw := ⟨(redU E z).1, ((redU E z).2 : Nat)⟩
theorem nf_rtN (j : Nat) (y : Zw) (E : Nat) : nf (rtN j y) (j + E) = nf y E := by unfold nf; rw [redU_rtN]

/-- All coefficients lie within M. -/
def bdZ (M : Int) (z : Zw) : Prop := (-M ≤ z.a ∧ z.a ≤ M) ∧ (-M ≤ z.b ∧ z.b ≤ M) ∧ (-M ≤ z.c ∧ z.c ≤ M) ∧ (-M ≤ z.d ∧ z.d ≤ M)
theorem bd_ok {M : Int} {z : Zw} (h : bdZ M z) (hM : M ≤ 1073741824) : okZ z = true := by
  obtain ⟨h1, h2, h3, h4⟩ := h
  unfold okZ
  rw [near_of (by omega), near_of (by omega), near_of (by omega), near_of (by omega)]
  rfl
theorem bd_rt {M : Int} {z : Zw} (h : bdZ M (rt z)) : bdZ M z := by
  unfold bdZ rt at h
  simp only at h
  unfold bdZ
  omega
theorem bd_rtN {M : Int} {z : Zw} : ∀ k : Nat, bdZ M (rtN k z) → bdZ M z
  | 0, h => h
  | k + 1, h => bd_rtN k (bd_rt h)
theorem dv_divZ {z : Zw} (h : okZ z = true) : divZ z = dv z := by
  unfold divZ dv
  rw [h, half_rt]
  simp only [Bool.true_and]
theorem redD_redU {M : Int} (hM : M ≤ 1073741824) : ∀ (k : Nat) (z : Zw), bdZ M z → redD k z = redU k z
  | 0, z, _ => rfl
  | k + 1, z, h => by
    rw [redD, redU, dv_divZ (bd_ok h hM)]
    cases hd : dv z with
    | none => rfl
    | some m => exact redD_redU hM k m (bd_rt (by rw [← dv_some hd]; exact h))
theorem nf_bd {M : Int} {z : Zw} {E : Nat} (h : bdZ M z) : bdZ M (nf z E).n := by
  have := (redU_spec E z).2.1
  refine bd_rtN (E - (redU E z).2) ?_
  show bdZ M (rtN (E - (redU E z).2) (redU E z).1)
  rw [← this]
  exact h
theorem nf_ok {M : Int} {z : Zw} {E : Nat} (h : bdZ M z) (hM : M ≤ 1073741824) (hE : E ≤ 60) : okD (nf z E) = true := by
  have hz := bd_ok (nf_bd (E := E) h) hM
  obtain ⟨i1, i2, i3⟩ := redU_spec E z
  unfold okD
  rw [hz, show inB (nf z E).e 0 60 = true from inB_t (by unfold nf; simp only; omega) (by unfold nf; simp only; omega), dv_divZ hz]
  simp only [Bool.true_and, Bool.or_eq_true, beq_iff_eq, Option.isNone_iff_eq_none]
  rcases i3 with h0 | h0
  · left
    unfold nf
    simp only
    omega
  · exact .inr h0
theorem newD_nf {M : Int} {z : Zw} {E : Nat} (h : bdZ M z) (hM : M ≤ 1073741824) (hE : E ≤ 60) : newD z E = some (nf z E) := by
  have i1 := (redU_spec E z).1
  unfold newD
  rw [bd_ok h hM, show inB (E : Int) 0 120 = true from inB_t (by omega) (by omega), Int.toNat_natCast, redD_redU hM E z h]
  simp only [Bool.and_self, if_true]
  rw [if_neg (by omega)]
  rfl
theorem mul_root2 (z : Zw) : timesZ z root2 = rt z := by
  apply zext <;> simp only [timesZ, root2, rt] <;> omega
theorem upZ_rt {M : Int} (hM : M ≤ 1073741824) : ∀ (k : Nat) (z : Zw), bdZ M (rtN k z) → upZ k z = some (rtN k z)
  | 0, z, _ => rfl
  | k + 1, z, h => by
    have hz : bdZ M z := bd_rtN (k + 1) h
    have h2 : bdZ M (rtN k (rt z)) := by rw [rtN_rt]; exact h
    have hr : bdZ M (rt z) := bd_rtN k h2
    rw [upZ]
    have e : mulZ z root2 = some (rt z) := by
      unfold mulZ ifZ
      rw [bd_ok hz hM, mul_root2, bd_ok hr hM, show okZ root2 = true by decide]
      rfl
    rw [e]
    simp only
    rw [upZ_rt hM k (rt z) h2, rtN_rt]
    rfl
theorem maxI_nat' (a b : Nat) : maxI a b = (max a b : Nat) := by
  unfold maxI
  split <;> omega
/-- The sum of two normal forms. -/
theorem addD_nf {M : Int} (hM : M ≤ 1073741824) {z y : Zw} {E : Nat} (hE : E ≤ 60) (hz : bdZ M z) (hy : bdZ M y) (hs : bdZ M (addU z y)) : addD (nf z E) (nf y E) = some (nf (addU z y) E) := by
  obtain ⟨i1, i2, i3⟩ := redU_spec E z
  obtain ⟨j1, j2, j3⟩ := redU_spec E y
  obtain ⟨m, j, hmj⟩ : ∃ m j, redU E z = (m, j) := ⟨_, _, rfl⟩
  obtain ⟨n, l, hnl⟩ : ∃ m j, redU E y = (m, j) := ⟨_, _, rfl⟩
  have ez : nf z E = ⟨m, (j : Nat)⟩ := by unfold nf; rw [hmj]
  have ey : nf y E = ⟨n, (l : Nat)⟩ := by unfold nf; rw [hnl]
  have oz := nf_ok hz hM hE
  have oy := nf_ok hy hM hE
  rw [hmj] at i1 i2 i3
  rw [hnl] at j1 j2 j3
  simp only at i1 i2 i3 j1 j2 j3
  rw [ez] at oz ⊢
  rw [ey] at oy ⊢
  obtain ⟨k, hk⟩ : ∃ k, max j l = k := ⟨_, rfl⟩
  have hz2 : z = rtN (E - k) (rtN (k - j) m) := by rw [← rtN_add, show E - k + (k - j) = E - j by omega]; exact i2
  have hy2 : y = rtN (E - k) (rtN (k - l) n) := by rw [← rtN_add, show E - k + (k - l) = E - l by omega]; exact j2
  have ba : bdZ M (rtN (k - j) m) := bd_rtN (E - k) (by rw [← hz2]; exact hz)
  have bb : bdZ M (rtN (k - l) n) := bd_rtN (E - k) (by rw [← hy2]; exact hy)
  have hsum : addU z y = rtN (E - k) (addU (rtN (k - j) m) (rtN (k - l) n)) := by rw [rtN_sum, ← hz2, ← hy2]
  have bs : bdZ M (addU (rtN (k - j) m) (rtN (k - l) n)) := bd_rtN (E - k) (by rw [← hsum]; exact hs)
  have he : nf (addU z y) E = nf (addU (rtN (k - j) m) (rtN (k - l) n)) k := by
    rw [hsum]
    have := nf_rtN (E - k) (addU (rtN (k - j) m) (rtN (k - l) n)) k
    rw [show E - k + k = E by omega] at this
    exact this
  have hadd : addZ (rtN (k - j) m) (rtN (k - l) n) = some (addU (rtN (k - j) m) (rtN (k - l) n)) := by
    unfold addZ ifZ
    rw [bd_ok ba hM, bd_ok bb hM]
    have := bd_ok bs hM
    unfold addU at this
    rw [this]
    rfl
  unfold addD
  rw [oz, oy, maxI_nat', hk]
  simp only [Bool.and_self, if_true]
  rw [show (((k : Nat) : Int) - (j : Int)).toNat = k - j by omega, show (((k : Nat) : Int) - (l : Int)).toNat = k - l by omega, upZ_rt hM (k - j) m ba, upZ_rt hM (k - l) n bb]
  simp only
  rw [hadd]
  simp only
  rw [newD_nf bs hM (by omega), he]

theorem ph_cases (k : Nat) : phZ k = ⟨1, 0, 0, 0⟩ ∨ phZ k = ⟨0, 1, 0, 0⟩ ∨ phZ k = ⟨0, 0, 1, 0⟩ ∨ phZ k = ⟨0, 0, 0, 1⟩ ∨ phZ k = ⟨-1, 0, 0, 0⟩ ∨ phZ k = ⟨0, -1, 0, 0⟩ ∨ phZ k = ⟨0, 0, -1, 0⟩ ∨ phZ k = ⟨0, 0, 0, -1⟩ := by
  unfold phZ
  split <;> simp
/-- One of the eight units. -/
def isU (u : Zw) : Prop := u = ⟨1, 0, 0, 0⟩ ∨ u = ⟨0, 1, 0, 0⟩ ∨ u = ⟨0, 0, 1, 0⟩ ∨ u = ⟨0, 0, 0, 1⟩ ∨ u = ⟨-1, 0, 0, 0⟩ ∨ u = ⟨0, -1, 0, 0⟩ ∨ u = ⟨0, 0, -1, 0⟩ ∨ u = ⟨0, 0, 0, -1⟩
theorem timesU_rt {u : Zw} (hu : isU u) (z : Zw) : timesZ (rt z) u = rt (timesZ z u) := by
  rcases hu with h | h | h | h | h | h | h | h <;> subst h <;> apply zext <;> simp only [timesZ, rt] <;> omega
theorem timesU_add {u : Zw} (hu : isU u) (x y : Zw) : timesZ (addU x y) u = addU (timesZ x u) (timesZ y u) := by
  rcases hu with h | h | h | h | h | h | h | h <;> subst h <;> apply zext <;> simp only [timesZ, addU] <;> omega
theorem timesU_bd {u : Zw} (hu : isU u) {M : Int} {z : Zw} (h : bdZ M z) : bdZ M (timesZ z u) := by
  unfold bdZ at h ⊢
  rcases hu with e | e | e | e | e | e | e | e <;> subst e <;> simp only [timesZ] <;> omega
theorem timesU_rtN {u : Zw} (hu : isU u) : ∀ (k : Nat) (z : Zw), timesZ (rtN k z) u = rtN k (timesZ z u)
  | 0, z => rfl
  | k + 1, z => by rw [rtN, timesU_rt hu, timesU_rtN hu k z]; rfl
theorem isU_ok {u : Zw} (hu : isU u) : okZ u = true := by
  rcases hu with e | e | e | e | e | e | e | e <;> subst e <;> decide
theorem isU_okD {u : Zw} (hu : isU u) {e : Nat} (he : e ≤ 1) : okD ⟨u, (e : Nat)⟩ = true := by
  obtain rfl | rfl : e = 0 ∨ e = 1 := by omega
  all_goals rcases hu with e | e | e | e | e | e | e | e <;> subst e <;> decide
/-- A normal form times a unit over no or one root of 2. -/
theorem mulD_nf {M : Int} (hM : M ≤ 1073741824) {z u : Zw} {E e : Nat} (hu : isU u) (he : e ≤ 1) (hE : E + e ≤ 60) (hz : bdZ M z) : mulD (nf z E) ⟨u, (e : Nat)⟩ = some (nf (timesZ z u) (E + e)) := by
  obtain ⟨i1, i2, i3⟩ := redU_spec E z
  obtain ⟨m, j, hmj⟩ : ∃ m j, redU E z = (m, j) := ⟨_, _, rfl⟩
  have ez : nf z E = ⟨m, (j : Nat)⟩ := by unfold nf; rw [hmj]
  have oz := nf_ok hz hM (show E ≤ 60 by omega)
  rw [hmj] at i1 i2 i3
  simp only at i1 i2 i3
  rw [ez] at oz ⊢
  have bm : bdZ M m := bd_rtN (E - j) (by rw [← i2]; exact hz)
  have bu := timesU_bd hu bm
  have hmul : mulZ m u = some (timesZ m u) := by
    unfold mulZ ifZ
    rw [bd_ok bm hM, isU_ok hu, bd_ok bu hM]
    rfl
  have hnf : nf (timesZ z u) (E + e) = nf (timesZ m u) (j + e) := by
    have h1 : timesZ z u = rtN (E - j) (timesZ m u) := by rw [← timesU_rtN hu, ← i2]
    rw [h1]
    have := nf_rtN (E - j) (timesZ m u) (j + e)
    rw [show E - j + (j + e) = E + e by omega] at this
    exact this
  unfold mulD
  rw [oz, isU_okD hu he]
  simp only [Bool.and_self, if_true, hmul]
  rw [show ((j : Nat) : Int) + (e : Int) = ((j + e : Nat) : Int) by omega, newD_nf bu hM (by omega), hnf]
/-- Twice a number over the second power more. -/
theorem nf_two (z : Zw) (E : Nat) : nf ⟨2 * z.a, 2 * z.b, 2 * z.c, 2 * z.d⟩ (E + 2) = nf z E := by
  rw [← rt_rt]
  have := nf_rtN 2 z E
  rw [show 2 + E = E + 2 by omega] at this
  exact this
theorem nf_zero (E : Nat) : nf Zw.zero E = Dw.zero := by
  have h : ∀ k : Nat, redU k Zw.zero = (Zw.zero, 0) := by
    intro k
    induction k with
    | zero => rfl
    | succ k ih =>
      rw [redU, show dv Zw.zero = some Zw.zero by decide]
      exact ih
  unfold nf
  rw [h]
  rfl
theorem nf_is_zero {z : Zw} {E : Nat} (h : nf z E = Dw.zero) : z = Zw.zero := by
  have h2 := (redU_spec E z).2.1
  have h1 : (redU E z).1 = Zw.zero := congrArg Dw.n h
  rw [h1] at h2
  rw [h2]
  have : ∀ k : Nat, rtN k Zw.zero = Zw.zero := by
    intro k
    induction k with
    | zero => rfl
    | succ k ih => rw [rtN, ih]; decide
  exact this _
end Go.Proofs.YtgnallcfahpjmaaR
