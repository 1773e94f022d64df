/- Plain: a number of D[omega] in its normal form, written z over the E-th power of the root of 2: sums and products of such, where nothing grows too large. Nothing else is asked. Plain: gates act on states in normal form as a linear map acts on what stands above the common power of the root of 2, where nothing grows too large. Nothing else is asked. Plain: how gates act is linear; maps that agree on the unit vectors agree. Nothing is asked. Plain: lists of gates on three qubits act on states in normal form; two lists that do the same on all basis states do the same on all states; rewriting inside a list. Nothing else is asked. -/
import Derived.Test.YtibhikngiceeeaaDomG
import Derived.Test.YtibhikngiceeeaaStH
import Derived.Test.YtibhikngiceeeaaDomF
namespace Go.Proofs.Ytibhikngiceeeaa
set_option linter.unusedVariables false

/-- Times the root of 2. -/
def rt (z : Zw) : Zw := ⟨z.b - z.d, z.a + z.c, z.b + z.d, z.c - z.a⟩
def addU (x y : Zw) : Zw := ⟨x.a + y.a, x.b + y.b, x.c + y.c, x.d + y.d⟩
theorem half_rt (z : Zw) : halfZ z = rt z := rfl
theorem zext {x y : Zw} (a : x.a = y.a) (b : x.b = y.b) (c : x.c = y.c) (d : x.d = y.d) : x = y := by
  cases x; cases y
  simp only at a b c d
  subst a b c d
  rfl
theorem rt_rt (z : Zw) : rt (rt z) = ⟨2 * z.a, 2 * z.b, 2 * z.c, 2 * z.d⟩ := by
  apply zext <;> simp only [rt] <;> omega
theorem rt_inj {x y : Zw} (h : rt x = rt y) : x = y := by
  have h2 := congrArg rt h
  rw [rt_rt, rt_rt] at h2
  injection h2 with a b c d
  exact zext (by omega) (by omega) (by omega) (by omega)
theorem rt_add (x y : Zw) : rt (addU x y) = addU (rt x) (rt y) := by
  apply zext <;> simp only [rt, addU] <;> omega
/-- Divided by the root of 2, where it goes. -/
def dv (z : Zw) : Option Zw := if evenZ (rt z) then some ⟨(rt z).a / 2, (rt z).b / 2, (rt z).c / 2, (rt z).d / 2⟩ else none
theorem dv_rt (y : Zw) : dv (rt y) = some y := by
  unfold dv
  rw [rt_rt]
  have e : evenZ ⟨2 * y.a, 2 * y.b, 2 * y.c, 2 * y.d⟩ = true := by
    unfold evenZ
    simp only [Bool.and_eq_true, beq_iff_eq]
    omega
  rw [if_pos e]
  congr 1
  apply zext <;> simp only <;> omega
theorem dv_some {z y : Zw} (h : dv z = some y) : z = rt y := by
  unfold dv at h
  split at h
  · rename_i h1
    injection h with h
    subst h
    unfold evenZ at h1
    simp only [Bool.and_eq_true, beq_iff_eq, rt] at h1
    apply zext <;> simp only [rt] <;> omega
  · cases h
def redU : Nat → Zw → Zw × Nat
  | 0, z => (z, 0)
  | k + 1, z => match dv z with
    | some m => redU k m
    | none => (z, k + 1)
theorem redU_rt (k : Nat) (y : Zw) : redU (k + 1) (rt y) = redU k y := by rw [redU, dv_rt]
def rtN : Nat → Zw → Zw
  | 0, z => z
  | k + 1, z => rt (rtN k z)
theorem rtN_rt : ∀ (k : Nat) (z : Zw), rtN k (rt z) = rt (rtN k z)
  | 0, z => rfl
  | k + 1, z => by rw [rtN, rtN_rt k z]; rfl
theorem rtN_add : ∀ (j k : Nat) (z : Zw), rtN (j + k) z = rtN j (rtN k z)
  | 0, k, z => by rw [Nat.zero_add]; rfl
  | j + 1, k, z => by rw [show j + 1 + k = (j + k) + 1 by omega, rtN, rtN_add j k z]; rfl
theorem rtN_sum : ∀ (k : Nat) (x y : Zw), rtN k (addU x y) = addU (rtN k x) (rtN k y)
  | 0, x, y => rfl
  | k + 1, x, y => by rw [rtN, rtN_sum k x y, rt_add]; rfl
theorem redU_rtN : ∀ (j k : Nat) (y : Zw), redU (j + k) (rtN j y) = redU k y
  | 0, k, y => by rw [Nat.zero_add]; rfl
  | j + 1, k, y => by rw [show j + 1 + k = (j + k) + 1 by omega, rtN, redU_rt, redU_rtN j k y]
/-- What the reduction leaves: the number again, and that it goes no further. -/
theorem redU_spec : ∀ (k : Nat) (z : Zw), (redU k z).2 ≤ k ∧ z = rtN (k - (redU k z).2) (redU k z).1 ∧ ((redU k z).2 = 0 ∨ dv (redU k z).1 = none)
  | 0, z => ⟨Nat.le_refl _, rfl, .inl rfl⟩
  | k + 1, z => by
    rw [redU]
    cases h : dv z with
    | none => exact ⟨Nat.le_refl _, by simp only; rw [Nat.sub_self]; rfl, .inr h⟩
    | some m =>
      obtain ⟨i1, i2, i3⟩ := redU_spec k m
      refine ⟨by simp only; omega, ?_, i3⟩
      have hz := dv_some h
      simp only
      rw [show k + 1 - (redU k m).2 = (k - (redU k m).2) + 1 by omega, rtN, ← i2]
      exact hz
/-- The normal form. -/
def nf (z : Zw) (E : Nat) : Dw := ⟨(redU E z).1, ((redU E z).2 : Nat)⟩
theorem nf_rtN (j : Nat) (y : Zw) (E : Nat) : nf (rtN j y) (j + E) = nf y E := by unfold nf; rw [redU_rtN]

/-- All coefficients lie within M. -/
def bdZ (M : Int) (z : Zw) : Prop := (-M ≤ z.a ∧ z.a ≤ M) ∧ (-M ≤ z.b ∧ z.b ≤ M) ∧ (-M ≤ z.c ∧ z.c ≤ M) ∧ (-M ≤ z.d ∧ z.d ≤ M)
theorem bd_ok {M : Int} {z : Zw} (h : bdZ M z) (hM : M ≤ 1073741824) : okZ z = true := by
  obtain ⟨h1, h2, h3, h4⟩ := h
  unfold okZ
  rw [near_of (by omega), near_of (by omega), near_of (by omega), near_of (by omega)]
  rfl
theorem bd_rt {M : Int} {z : Zw} (h : bdZ M (rt z)) : bdZ M z := by
  unfold bdZ rt at h
  simp only at h
  unfold bdZ
  omega
theorem bd_rtN {M : Int} {z : Zw} : ∀ k : Nat, bdZ M (rtN k z) → bdZ M z
  | 0, h => h
  | k + 1, h => bd_rtN k (bd_rt h)
theorem dv_divZ {z : Zw} (h : okZ z = true) : divZ z = dv z := by
  unfold divZ dv
  rw [h, half_rt]
  simp only [Bool.true_and]
theorem redD_redU {M : Int} (hM : M ≤ 1073741824) : ∀ (k : Nat) (z : Zw), bdZ M z → redD k z = redU k z
  | 0, z, _ => rfl
  | k + 1, z, h => by
    rw [redD, redU, dv_divZ (bd_ok h hM)]
    cases hd : dv z with
    | none => rfl
    | some m => exact redD_redU hM k m (bd_rt (by rw [← dv_some hd]; exact h))
theorem nf_bd {M : Int} {z : Zw} {E : Nat} (h : bdZ M z) : bdZ M (nf z E).n := by
  have := (redU_spec E z).2.1
  refine bd_rtN (E - (redU E z).2) ?_
  show bdZ M (rtN (E - (redU E z).2) (redU E z).1)
  rw [← this]
  exact h
theorem nf_ok {M : Int} {z : Zw} {E : Nat} (h : bdZ M z) (hM : M ≤ 1073741824) (hE : E ≤ 60) : okD (nf z E) = true := by
  have hz := bd_ok (nf_bd (E := E) h) hM
  obtain ⟨i1, i2, i3⟩ := redU_spec E z
  unfold okD
  rw [hz, show inB (nf z E).e 0 60 = true from inB_t (by unfold nf; simp only; omega) (by unfold nf; simp only; omega), dv_divZ hz]
  simp only [Bool.true_and, Bool.or_eq_true, beq_iff_eq, Option.isNone_iff_eq_none]
  rcases i3 with h0 | h0
  · left
    unfold nf
    simp only
    omega
  · exact .inr h0
theorem newD_nf {M : Int} {z : Zw} {E : Nat} (h : bdZ M z) (hM : M ≤ 1073741824) (hE : E ≤ 60) : newD z E = some (nf z E) := by
  have i1 := (redU_spec E z).1
  unfold newD
  rw [bd_ok h hM, show inB (E : Int) 0 120 = true from inB_t (by omega) (by omega), Int.toNat_natCast, redD_redU hM E z h]
  simp only [Bool.and_self, if_true]
  rw [if_neg (by omega)]
  rfl
theorem mul_root2 (z : Zw) : timesZ z root2 = rt z := by
  apply zext <;> simp only [timesZ, root2, rt] <;> omega
theorem upZ_rt {M : Int} (hM : M ≤ 1073741824) : ∀ (k : Nat) (z : Zw), bdZ M (rtN k z) → upZ k z = some (rtN k z)
  | 0, z, _ => rfl
  | k + 1, z, h => by
    have hz : bdZ M z := bd_rtN (k + 1) h
    have h2 : bdZ M (rtN k (rt z)) := by rw [rtN_rt]; exact h
    have hr : bdZ M (rt z) := bd_rtN k h2
    rw [upZ]
    have e : mulZ z root2 = some (rt z) := by
      unfold mulZ ifZ
      rw [bd_ok hz hM, mul_root2, bd_ok hr hM, show okZ root2 = true by decide]
      rfl
    rw [e]
    simp only
    rw [upZ_rt hM k (rt z) h2, rtN_rt]
    rfl
theorem maxI_nat' (a b : Nat) : maxI a b = (max a b : Nat) := by
  unfold maxI
  split <;> omega
/-- The sum of two normal forms. -/
theorem addD_nf {M : Int} (hM : M ≤ 1073741824) {z y : Zw} {E : Nat} (hE : E ≤ 60) (hz : bdZ M z) (hy : bdZ M y) (hs : bdZ M (addU z y)) : addD (nf z E) (nf y E) = some (nf (addU z y) E) := by
  obtain ⟨i1, i2, i3⟩ := redU_spec E z
  obtain ⟨j1, j2, j3⟩ := redU_spec E y
  obtain ⟨m, j, hmj⟩ : ∃ m j, redU E z = (m, j) := ⟨_, _, rfl⟩
  obtain ⟨n, l, hnl⟩ : ∃ m j, redU E y = (m, j) := ⟨_, _, rfl⟩
  have ez : nf z E = ⟨m, (j : Nat)⟩ := by unfold nf; rw [hmj]
  have ey : nf y E = ⟨n, (l : Nat)⟩ := by unfold nf; rw [hnl]
  have oz := nf_ok hz hM hE
  have oy := nf_ok hy hM hE
  rw [hmj] at i1 i2 i3
  rw [hnl] at j1 j2 j3
  simp only at i1 i2 i3 j1 j2 j3
  rw [ez] at oz ⊢
  rw [ey] at oy ⊢
  obtain ⟨k, hk⟩ : ∃ k, max j l = k := ⟨_, rfl⟩
  have hz2 : z = rtN (E - k) (rtN (k - j) m) := by rw [← rtN_add, show E - k + (k - j) = E - j by omega]; exact i2
  have hy2 : y = rtN (E - k) (rtN (k - l) n) := by rw [← rtN_add, show E - k + (k - l) = E - l by omega]; exact j2
  have ba : bdZ M (rtN (k - j) m) := bd_rtN (E - k) (by rw [← hz2]; exact hz)
  have bb : bdZ M (rtN (k - l) n) := bd_rtN (E - k) (by rw [← hy2]; exact hy)
  have hsum : addU z y = rtN (E - k) (addU (rtN (k - j) m) (rtN (k - l) n)) := by rw [rtN_sum, ← hz2, ← hy2]
  have bs : bdZ M (addU (rtN (k - j) m) (rtN (k - l) n)) := bd_rtN (E - k) (by rw [← hsum]; exact hs)
  have he : nf (addU z y) E = nf (addU (rtN (k - j) m) (rtN (k - l) n)) k := by
    rw [hsum]
    have := nf_rtN (E - k) (addU (rtN (k - j) m) (rtN (k - l) n)) k
    rw [show E - k + k = E by omega] at this
    exact this
  have hadd : addZ (rtN (k - j) m) (rtN (k - l) n) = some (addU (rtN (k - j) m) (rtN (k - l) n)) := by
    unfold addZ ifZ
    rw [bd_ok ba hM, bd_ok bb hM]
    have := bd_ok bs hM
    unfold addU at this
    rw [this]
    rfl
  unfold addD
  rw [oz, oy, maxI_nat', hk]
  simp only [Bool.and_self, if_true]
  rw [show (((k : Nat) : Int) - (j : Int)).toNat = k - j by omega, show (((k : Nat) : Int) - (l : Int)).toNat = k - l by omega, upZ_rt hM (k - j) m ba, upZ_rt hM (k - l) n bb]
  simp only
  rw [hadd]
  simp only
  rw [newD_nf bs hM (by omega), he]

theorem ph_cases (k : Nat) : phZ k = ⟨1, 0, 0, 0⟩ ∨ phZ k = ⟨0, 1, 0, 0⟩ ∨ phZ k = ⟨0, 0, 1, 0⟩ ∨ phZ k = ⟨0, 0, 0, 1⟩ ∨ phZ k = ⟨-1, 0, 0, 0⟩ ∨ phZ k = ⟨0, -1, 0, 0⟩ ∨ phZ k = ⟨0, 0, -1, 0⟩ ∨ phZ k = ⟨0, 0, 0, -1⟩ := by
  unfold phZ
  split <;> simp
/-- One of the eight units. -/
def isU (u : Zw) : Prop := u = ⟨1, 0, 0, 0⟩ ∨ u = ⟨0, 1, 0, 0⟩ ∨ u = ⟨0, 0, 1, 0⟩ ∨ u = ⟨0, 0, 0, 1⟩ ∨ u = ⟨-1, 0, 0, 0⟩ ∨ u = ⟨0, -1, 0, 0⟩ ∨ u = ⟨0, 0, -1, 0⟩ ∨ u = ⟨0, 0, 0, -1⟩
theorem timesU_rt {u : Zw} (hu : isU u) (z : Zw) : timesZ (rt z) u = rt (timesZ z u) := by
  rcases hu with h | h | h | h | h | h | h | h <;> subst h <;> apply zext <;> simp only [timesZ, rt] <;> omega
theorem timesU_add {u : Zw} (hu : isU u) (x y : Zw) : timesZ (addU x y) u = addU (timesZ x u) (timesZ y u) := by
  rcases hu with h | h | h | h | h | h | h | h <;> subst h <;> apply zext <;> simp only [timesZ, addU] <;> omega
theorem timesU_bd {u : Zw} (hu : isU u) {M : Int} {z : Zw} (h : bdZ M z) : bdZ M (timesZ z u) := by
  unfold bdZ at h ⊢
  rcases hu with e | e | e | e | e | e | e | e <;> subst e <;> simp only [timesZ] <;> omega
theorem timesU_rtN {u : Zw} (hu : isU u) : ∀ (k : Nat) (z : Zw), timesZ (rtN k z) u = rtN k (timesZ z u)
  | 0, z => rfl
  | k + 1, z => by rw [rtN, timesU_rt hu, timesU_rtN hu k z]; rfl
theorem isU_ok {u : Zw} (hu : isU u) : okZ u = true := by
  rcases hu with e | e | e | e | e | e | e | e <;> subst e <;> decide
theorem isU_okD {u : Zw} (hu : isU u) {e : Nat} (he : e ≤ 1) : okD ⟨u, (e : Nat)⟩ = true := by
  obtain rfl | rfl : e = 0 ∨ e = 1 := by omega
  all_goals rcases hu with e | e | e | e | e | e | e | e <;> subst e <;> decide
/-- A normal form times a unit over no or one root of 2. -/
theorem mulD_nf {M : Int} (hM : M ≤ 1073741824) {z u : Zw} {E e : Nat} (hu : isU u) (he : e ≤ 1) (hE : E + e ≤ 60) (hz : bdZ M z) : mulD (nf z E) ⟨u, (e : Nat)⟩ = some (nf (timesZ z u) (E + e)) := by
  obtain ⟨i1, i2, i3⟩ := redU_spec E z
  obtain ⟨m, j, hmj⟩ : ∃ m j, redU E z = (m, j) := ⟨_, _, rfl⟩
  have ez : nf z E = ⟨m, (j : Nat)⟩ := by unfold nf; rw [hmj]
  have oz := nf_ok hz hM (show E ≤ 60 by omega)
  rw [hmj] at i1 i2 i3
  simp only at i1 i2 i3
  rw [ez] at oz ⊢
  have bm : bdZ M m := bd_rtN (E - j) (by rw [← i2]; exact hz)
  have bu := timesU_bd hu bm
  have hmul : mulZ m u = some (timesZ m u) := by
    unfold mulZ ifZ
    rw [bd_ok bm hM, isU_ok hu, bd_ok bu hM]
    rfl
  have hnf : nf (timesZ z u) (E + e) = nf (timesZ m u) (j + e) := by
    have h1 : timesZ z u = rtN (E - j) (timesZ m u) := by rw [← timesU_rtN hu, ← i2]
    rw [h1]
    have := nf_rtN (E - j) (timesZ m u) (j + e)
    rw [show E - j + (j + e) = E + e by omega] at this
    exact this
  unfold mulD
  rw [oz, isU_okD hu he]
  simp only [Bool.and_self, if_true, hmul]
  rw [show ((j : Nat) : Int) + (e : Int) = ((j + e : Nat) : Int) by omega, newD_nf bu hM (by omega), hnf]
/-- Twice a number over the second power more. -/
theorem nf_two (z : Zw) (E : Nat) : nf ⟨2 * z.a, 2 * z.b, 2 * z.c, 2 * z.d⟩ (E + 2) = nf z E := by
  rw [← rt_rt]
  have := nf_rtN 2 z E
  rw [show 2 + E = E + 2 by omega] at this
  exact this
theorem nf_zero (E : Nat) : nf Zw.zero E = Dw.zero := by
  have h : ∀ k : Nat, redU k Zw.zero = (Zw.zero, 0) := by
    intro k
    induction k with
    | zero => rfl
    | succ k ih =>
      rw [redU, show dv Zw.zero = some Zw.zero by decide]
      exact ih
  unfold nf
  rw [h]
  rfl
theorem nf_is_zero {z : Zw} {E : Nat} (h : nf z E = Dw.zero) : z = Zw.zero := by
  have h2 := (redU_spec E z).2.1
  have h1 : (redU E z).1 = Zw.zero := congrArg Dw.n h
  rw [h1] at h2
  rw [h2]
  have : ∀ k : Nat, rtN k Zw.zero = Zw.zero := by
    intro k
    induction k with
    | zero => rfl
    | succ k ih => rw [rtN, ih]; decide
  exact this _
end Go.Proofs.Ytibhikngiceeeaa
namespace Go.Proofs.Ytibhikngiceeeaa
set_option linter.unusedVariables false

def NV (V : List Zw) (E : Nat) : List Dw := V.map fun z => nf z E
def putU (z : Zw) (out : List Zw) (t : Nat × Dw) : List Zw := out.set t.1 (addU (out.getD t.1 Zw.zero) (timesZ z t.2.n))
def putsU (z : Zw) : List (Nat × Dw) → List Zw → List Zw
  | [], o => o
  | t :: r, o => putsU z r (putU z o t)
def actL (g : Gt) : Nat → List Zw → List Zw → List Zw
  | _, [], o => o
  | i, z :: r, o => actL g (i + 1) r (putsU z (goes g i) o)
def act (g : Gt) (V : List Zw) : List Zw := actL g 0 V (List.replicate V.length Zw.zero)
def hc (g : Gt) : Nat := if g.k = 4 then 1 else 0
/-- How often each place is hit. -/
def hitL (lim : Nat) : List (Nat × Dw) → List Nat → Option (List Nat)
  | [], c => some c
  | t :: r, c => if c.getD t.1 0 + 1 ≤ lim then hitL lim r (c.set t.1 (c.getD t.1 0 + 1)) else none
def cntA (g : Gt) (lim : Nat) : Nat → Nat → List Nat → Bool
  | _, 0, _ => true
  | i, m + 1, c => match hitL lim (goes g i) c with
    | some c' => cntA g lim (i + 1) m c'
    | none => false
theorem cnt_all : (gates3.all fun g => cntA g (1 + hc g) 0 8 (List.replicate 8 0)) = true := by decide +kernel

def Bd (c : List Nat) (B : Int) (out : List Zw) : Prop := ∀ t : Nat, bdZ ((c.getD t 0 : Nat) * B) (out.getD t Zw.zero)
theorem bd_mono {M M' : Int} {z : Zw} (h : bdZ M z) (hm : M ≤ M') : bdZ M' z := by
  unfold bdZ at h ⊢
  omega
theorem bd_add {M M' : Int} {x y : Zw} (h : bdZ M x) (h' : bdZ M' y) : bdZ (M + M') (addU x y) := by
  unfold bdZ at h h' ⊢
  simp only [addU]
  omega
theorem NV_getD {V : List Zw} {E t : Nat} (ht : t < V.length) : (NV V E).getD t Dw.zero = nf (V.getD t Zw.zero) E := by
  unfold NV
  rw [List.getD_eq_getElem?_getD, List.getD_eq_getElem?_getD, List.getElem?_map, List.getElem?_eq_getElem ht]
  rfl
theorem NV_set {V : List Zw} {E t : Nat} {z : Zw} : (NV V E).set t (nf z E) = NV (V.set t z) E := by
  unfold NV
  rw [List.map_set]
theorem NV_len {V : List Zw} {E : Nat} : (NV V E).length = V.length := by unfold NV; rw [List.length_map]
theorem getD_set {α : Type} {l : List α} {t s : Nat} {x d : α} (ht : t < l.length) : (l.set t x).getD s d = if s = t then x else l.getD s d := by
  rw [List.getD_eq_getElem?_getD, List.getD_eq_getElem?_getD, List.getElem?_set]
  by_cases h : t = s
  · subst h
    rw [if_pos rfl, if_pos rfl, if_pos ht]
    rfl
  · rw [if_neg h, if_neg (fun e => h e.symm)]
/-- What is asked of the places where an amplitude is sent. -/
def Good (n e : Nat) (l : List (Nat × Dw)) : Prop := ∀ t ∈ l, isU t.2.n ∧ t.2.e = (e : Nat) ∧ t.1 < n
theorem put_nf {lim E e n : Nat} {B : Int} {z : Zw} {out : List Zw} {c : List Nat} {t : Nat × Dw} (hB : 0 ≤ B) (hlim : (lim : Int) * B ≤ 1073741824) (hE : E + e ≤ 60) (hz : bdZ B z) (hu : isU t.2.n) (he : t.2.e = (e : Nat)) (he1 : e ≤ 1) (htn : t.1 < n) (ho : out.length = n) (hcl : c.length = n) (hb : Bd c B out) (hl : c.getD t.1 0 + 1 ≤ lim) :
    putD (nf z E) (NV out (E + e)) t = some (NV (putU z out t) (E + e)) ∧ Bd (c.set t.1 (c.getD t.1 0 + 1)) B (putU z out t) := by
  obtain ⟨t, ⟨u, x⟩⟩ := t
  simp only at hu he htn hl
  subst he
  have h1 : ((c.getD t 0 : Nat) : Int) * B + B ≤ (lim : Int) * B := by
    have : (((c.getD t 0 + 1 : Nat) : Int)) * B ≤ (lim : Int) * B := Int.mul_le_mul_of_nonneg_right (by omega) hB
    rw [Int.natCast_add, Int.add_mul, Int.natCast_one, Int.one_mul] at this
    exact this
  have h0 : 0 ≤ ((c.getD t 0 : Nat) : Int) * B := Int.mul_nonneg (by omega) hB
  have hM : (1073741824 : Int) ≤ 1073741824 := by omega
  have bz : bdZ 1073741824 z := bd_mono hz (by omega)
  have bo : bdZ 1073741824 (out.getD t Zw.zero) := bd_mono (hb t) (by omega)
  have bu := timesU_bd hu hz
  have bs := bd_add (hb t) bu
  constructor
  · unfold putD putU
    rw [mulD_nf hM hu he1 hE bz]
    simp only
    rw [NV_getD (by omega), addD_nf hM hE bo (bd_mono bu (by omega)) (bd_mono bs (by omega))]
    simp only
    rw [NV_set]
  · intro s
    unfold putU
    simp only
    rw [getD_set (by omega), getD_set (by omega)]
    by_cases hs : s = t
    · rw [if_pos hs, if_pos hs]
      refine bd_mono bs ?_
      rw [Int.natCast_add, Int.add_mul, Int.natCast_one, Int.one_mul]
      omega
    · rw [if_neg hs, if_neg hs]
      exact hb s
theorem puts_nf {lim E e n : Nat} {B : Int} {z : Zw} (hB : 0 ≤ B) (hlim : (lim : Int) * B ≤ 1073741824) (hE : E + e ≤ 60) (hz : bdZ B z) (he1 : e ≤ 1) : ∀ (l : List (Nat × Dw)) (out : List Zw) (c c' : List Nat), Good n e l → out.length = n → c.length = n → Bd c B out → hitL lim l c = some c' →
    putAll (nf z E) l (NV out (E + e)) = some (NV (putsU z l out) (E + e)) ∧ Bd c' B (putsU z l out) ∧ (putsU z l out).length = n ∧ c'.length = n
  | [], out, c, c', hg, ho, hcl, hb, hh => by
    rw [hitL] at hh
    injection hh with hh
    subst hh
    exact ⟨rfl, hb, ho, hcl⟩
  | t :: r, out, c, c', hg, ho, hcl, hb, hh => by
    rw [hitL] at hh
    by_cases hl : c.getD t.1 0 + 1 ≤ lim
    · rw [if_pos hl] at hh
      obtain ⟨g1, g2, g3⟩ := hg t (by simp)
      obtain ⟨p1, p2⟩ := put_nf hB hlim hE hz g1 g2 he1 g3 ho hcl hb hl
      rw [putAll, p1]
      simp only
      exact puts_nf hB hlim hE hz he1 r _ _ _ (fun x hx => hg x (by simp [hx])) (by unfold putU; rw [List.length_set]; exact ho) (by rw [List.length_set]; exact hcl) p2 hh
    · rw [if_neg hl] at hh; cases hh
theorem add_zero (x : Zw) : addU x Zw.zero = x := by apply zext <;> simp [addU, Zw.zero]
theorem times_zero (u : Zw) : timesZ Zw.zero u = Zw.zero := by apply zext <;> simp [timesZ, Zw.zero]
theorem puts_zero : ∀ (l : List (Nat × Dw)) (out : List Zw), putsU Zw.zero l out = out
  | [], out => rfl
  | t :: r, out => by
    rw [putsU]
    have e : putU Zw.zero out t = out := by
      unfold putU
      rw [times_zero, add_zero]
      refine List.ext_getElem? fun s => ?_
      rw [List.getElem?_set]
      by_cases h : t.1 = s
      · subst h
        by_cases h2 : t.1 < out.length
        · rw [if_pos rfl, if_pos h2, List.getD_eq_getElem?_getD, List.getElem?_eq_getElem h2]
          rfl
        · rw [if_pos rfl, if_neg h2, List.getElem?_eq_none (by omega)]
      · rw [if_neg h]
    rw [e]
    exact puts_zero r out
/-- A gate on a state in normal form. -/
theorem appL_nf {g : Gt} {lim E n : Nat} {B : Int} (hB : 0 ≤ B) (hlim : (lim : Int) * B ≤ 1073741824) (hE : E + hc g ≤ 60) : ∀ (V : List Zw) (i : Nat) (out : List Zw) (c : List Nat), (∀ j, i ≤ j → j < i + V.length → Good n (hc g) (goes g j)) → (∀ z ∈ V, bdZ B z) → out.length = n → c.length = n → Bd c B out → (∀ s, c.getD s 0 ≤ lim) → cntA g lim i V.length c = true →
    appL g i (NV V E) (NV out (E + hc g)) = some (NV (actL g i V out) (E + hc g)) ∧ (∀ s, bdZ ((lim : Int) * B) ((actL g i V out).getD s Zw.zero)) ∧ (actL g i V out).length = n
  | [], i, out, c, hg, hV, ho, hcl, hb, hcm, hcn => by
    refine ⟨rfl, fun s => bd_mono (hb s) (Int.mul_le_mul_of_nonneg_right (by have := hcm s; omega) hB), ho⟩
  | z :: r, i, out, c, hg, hV, ho, hcl, hb, hcm, hcn => by
    rw [List.length_cons, cntA] at hcn
    cases hh : hitL lim (goes g i) c with
    | none => rw [hh] at hcn; cases hcn
    | some c' =>
      rw [hh] at hcn
      have he1 : hc g ≤ 1 := by unfold hc; split <;> omega
      obtain ⟨p1, p2, p3, p4⟩ := puts_nf hB hlim hE (hV z (by simp)) he1 (goes g i) out c c' (hg i (Nat.le_refl _) (by simp)) ho hcl hb hh
      have hcm' : ∀ s, c'.getD s 0 ≤ lim := hit_le _ _ _ hcm hh
      have ih := appL_nf hB hlim hE r (i + 1) (putsU z (goes g i) out) c' (fun j h1 h2 => hg j (by omega) (by simp at h2 ⊢; omega)) (fun x hx => hV x (by simp [hx])) p3 p4 p2 hcm' hcn
      rw [actL]
      refine ⟨?_, ih.2⟩
      unfold NV
      rw [List.map_cons, appL]
      by_cases hz : nf z E = Dw.zero
      · rw [if_pos hz]
        have hz0 := nf_is_zero hz
        subst hz0
        rw [puts_zero] at ih ⊢
        exact ih.1
      · rw [if_neg hz]
        have p1' := p1
        unfold NV at p1'
        rw [p1']
        exact ih.1
where
  hit_le {lim : Nat} : ∀ (l : List (Nat × Dw)) (c c' : List Nat), (∀ s, c.getD s 0 ≤ lim) → hitL lim l c = some c' → ∀ s, c'.getD s 0 ≤ lim
  | [], c, c', h, hh => by
    rw [hitL] at hh
    injection hh with hh
    subst hh
    exact h
  | t :: r, c, c', h, hh => by
    rw [hitL] at hh
    by_cases hl : c.getD t.1 0 + 1 ≤ lim
    · rw [if_pos hl] at hh
      refine hit_le r _ _ (fun s => ?_) hh
      by_cases ht : t.1 < c.length
      · rw [getD_set ht]
        split
        · exact hl
        · exact h s
      · rw [List.set_eq_of_length_le (by omega)]
        exact h s
    · rw [if_neg hl] at hh; cases hh

def isUb (u : Zw) : Bool := [(⟨1, 0, 0, 0⟩ : Zw), ⟨0, 1, 0, 0⟩, ⟨0, 0, 1, 0⟩, ⟨0, 0, 0, 1⟩, ⟨-1, 0, 0, 0⟩, ⟨0, -1, 0, 0⟩, ⟨0, 0, -1, 0⟩, ⟨0, 0, 0, -1⟩].contains u
theorem isUb_law {u : Zw} (h : isUb u = true) : isU u := by
  simpa [isUb, isU] using h
def goodB (n e : Nat) (l : List (Nat × Dw)) : Bool := l.all fun t => isUb t.2.n && (decide (t.2.e = (e : Nat)) && decide (t.1 < n))
theorem good_all : (gates3.all fun g => (List.range 8).all fun i => goodB 8 (hc g) (goes g i)) = true := by decide +kernel
theorem good3 {g : Gt} (hg : ok3 g = true) {i : Nat} (hi : i < 8) : Good 8 (hc g) (goes g i) := by
  have h := List.all_eq_true.1 (List.all_eq_true.1 good_all g (ok3_mem hg)) i (List.mem_range.2 hi)
  intro t ht
  have h2 := List.all_eq_true.1 h t ht
  simp only [Bool.and_eq_true, decide_eq_true_eq] at h2
  exact ⟨isUb_law h2.1, h2.2.1, h2.2.2⟩
theorem NV_zero (n E : Nat) : NV (List.replicate n Zw.zero) E = List.replicate n Dw.zero := by
  unfold NV
  rw [List.map_replicate, nf_zero]
/-- A valid gate on three qubits, on a state in normal form. -/
theorem appG_nf {g : Gt} {E : Nat} {B : Int} {V : List Zw} (hg : ok3 g = true) (hB : 0 ≤ B) (hlim : ((1 + hc g : Nat) : Int) * B ≤ 1073741824) (hE : E + hc g ≤ 60) (hl : V.length = 8) (hV : ∀ z ∈ V, bdZ B z) :
    appG g (NV V E) = some (NV (act g V) (E + hc g)) ∧ (∀ z ∈ act g V, bdZ (((1 + hc g : Nat) : Int) * B) z) ∧ (act g V).length = 8 := by
  have hBM : B ≤ 1073741824 := by
    have : (1 : Int) * B ≤ ((1 + hc g : Nat) : Int) * B := Int.mul_le_mul_of_nonneg_right (by omega) hB
    omega
  have hcn := List.all_eq_true.1 cnt_all g (ok3_mem hg)
  obtain ⟨p1, p2, p3⟩ := appL_nf (n := 8) hB hlim hE V 0 (List.replicate 8 Zw.zero) (List.replicate 8 0) (fun j _ h2 => good3 hg (by omega)) hV (by simp) (by simp)
    (fun t => by
      have e1 : (List.replicate 8 (0 : Nat)).getD t 0 = 0 := by
        rw [List.getD_eq_getElem?_getD, List.getElem?_replicate]
        split <;> rfl
      have e2 : (List.replicate 8 Zw.zero).getD t Zw.zero = Zw.zero := by
        rw [List.getD_eq_getElem?_getD, List.getElem?_replicate]
        split <;> rfl
      rw [e1, e2]
      unfold bdZ Zw.zero
      simp)
    (fun s => by
      rw [List.getD_eq_getElem?_getD, List.getElem?_replicate]
      split <;> simp)
    (by rw [hl]; exact hcn)
  rw [NV_zero] at p1
  have e : act g V = actL g 0 V (List.replicate 8 Zw.zero) := by unfold act; rw [hl]
  rw [e]
  refine ⟨?_, fun z hz => ?_, p3⟩
  · unfold appG
    rw [NV_len, hl]
    have h1 : okS (NV V E) = true := by
      unfold okS
      rw [NV_len, hl]
      simp only [Bool.and_eq_true, List.all_eq_true]
      refine ⟨fun x hx => ?_, by decide⟩
      obtain ⟨z, hz, rfl⟩ := List.mem_map.1 hx
      exact nf_ok (hV z hz) hBM (by omega)
    have h2 : okG g.k g.a g.b g.c (cntQ 8 : Nat) = true := hg
    rw [h1, h2]
    simp only [Bool.and_self, if_true]
    exact p1
  · obtain ⟨s, hs⟩ := List.getElem?_of_mem hz
    have := p2 s
    rw [List.getD_eq_getElem?_getD, hs] at this
    exact this
end Go.Proofs.Ytibhikngiceeeaa
namespace Go.Proofs.Ytibhikngiceeeaa
set_option linter.unusedVariables false

def addV (V W : List Zw) : List Zw := List.zipWith addU V W
def scl (c : Zw) (V : List Zw) : List Zw := V.map fun x => timesZ x c
def eU (i : Nat) : List Zw := (List.replicate 8 Zw.zero).set i ⟨1, 0, 0, 0⟩
theorem times_rt (z c : Zw) : timesZ (rt z) c = rt (timesZ z c) := by
  apply zext <;> simp only [timesZ, rt, Int.sub_mul, Int.add_mul] <;> omega
theorem times_add (x y c : Zw) : timesZ (addU x y) c = addU (timesZ x c) (timesZ y c) := by
  apply zext <;> simp only [timesZ, addU, Int.add_mul] <;> omega
theorem times_rtN (c : Zw) : ∀ (k : Nat) (z : Zw), timesZ (rtN k z) c = rtN k (timesZ z c)
  | 0, z => rfl
  | k + 1, z => by rw [rtN, times_rt, times_rtN c k z]; rfl
theorem times_swap {u : Zw} (hu : isU u) (z c : Zw) : timesZ (timesZ z c) u = timesZ (timesZ z u) c := by
  rcases hu with h | h | h | h | h | h | h | h <;> subst h <;> apply zext <;> simp [timesZ, Int.neg_mul] <;> omega
theorem add_swap (a b c d : Zw) : addU (addU a b) (addU c d) = addU (addU a c) (addU b d) := by
  apply zext <;> simp only [addU] <;> omega
theorem zero_add' (x : Zw) : addU Zw.zero x = x := by apply zext <;> simp [addU, Zw.zero]
theorem one_times (c : Zw) : timesZ ⟨1, 0, 0, 0⟩ c = c := by apply zext <;> simp [timesZ]
theorem addV_len {V W : List Zw} (h : V.length = 8) (h' : W.length = 8) : (addV V W).length = 8 := by unfold addV; rw [List.length_zipWith, h, h']; rfl
theorem scl_len {c : Zw} {V : List Zw} (h : V.length = 8) : (scl c V).length = 8 := by unfold scl; rw [List.length_map, h]
theorem addV_getD {V W : List Zw} (h : V.length = W.length) (t : Nat) : (addV V W).getD t Zw.zero = addU (V.getD t Zw.zero) (W.getD t Zw.zero) := by
  unfold addV
  rw [List.getD_eq_getElem?_getD, List.getD_eq_getElem?_getD, List.getD_eq_getElem?_getD, List.getElem?_zipWith]
  rcases Nat.lt_or_ge t V.length with ht | ht
  · rw [List.getElem?_eq_getElem ht, List.getElem?_eq_getElem (by omega)]
    rfl
  · rw [List.getElem?_eq_none ht, List.getElem?_eq_none (by omega)]
    rfl
theorem scl_getD {c : Zw} {V : List Zw} (t : Nat) : (scl c V).getD t Zw.zero = timesZ (V.getD t Zw.zero) c := by
  unfold scl
  rw [List.getD_eq_getElem?_getD, List.getD_eq_getElem?_getD, List.getElem?_map]
  rcases Nat.lt_or_ge t V.length with ht | ht
  · rw [List.getElem?_eq_getElem ht]
    rfl
  · rw [List.getElem?_eq_none ht]
    exact (times_zero c).symm
theorem addV_set {V W : List Zw} {t : Nat} {x y : Zw} (h : V.length = W.length) : addV (V.set t x) (W.set t y) = (addV V W).set t (addU x y) := by
  unfold addV
  refine List.ext_getElem? fun s => ?_
  rw [List.getElem?_zipWith, List.getElem?_set, List.getElem?_set, List.getElem?_set, List.getElem?_zipWith, List.length_zipWith]
  by_cases hs : t = s
  · subst hs
    rcases Nat.lt_or_ge t V.length with ht | ht
    · rw [if_pos rfl, if_pos rfl, if_pos rfl, if_pos ht, if_pos (by omega), if_pos (by omega)]
    · rw [if_pos rfl, if_pos rfl, if_pos rfl, if_neg (by omega), if_neg (by omega), if_neg (by omega)]
  · rw [if_neg hs, if_neg hs, if_neg hs]
theorem scl_set {c : Zw} {V : List Zw} {t : Nat} {x : Zw} : scl c (V.set t x) = (scl c V).set t (timesZ x c) := by unfold scl; rw [List.map_set]
theorem puts_len (z : Zw) : ∀ (l : List (Nat × Dw)) (O : List Zw), (putsU z l O).length = O.length
  | [], O => rfl
  | t :: r, O => by rw [putsU, puts_len z r]; unfold putU; rw [List.length_set]
theorem puts_add {n e : Nat} (z w : Zw) : ∀ (l : List (Nat × Dw)) (O P : List Zw), Good n e l → O.length = P.length → putsU (addU z w) l (addV O P) = addV (putsU z l O) (putsU w l P)
  | [], O, P, _, _ => rfl
  | t :: r, O, P, hg, h => by
    have hu := (hg t (by simp)).1
    rw [putsU, putsU, putsU]
    have e1 : putU (addU z w) (addV O P) t = addV (putU z O t) (putU w P t) := by
      unfold putU
      rw [addV_set h, addV_getD h, timesU_add hu, add_swap]
    rw [e1]
    exact puts_add z w r _ _ (fun x hx => hg x (by simp [hx])) (by unfold putU; rw [List.length_set, List.length_set]; exact h)
theorem puts_scl {n e : Nat} (z c : Zw) : ∀ (l : List (Nat × Dw)) (O : List Zw), Good n e l → putsU (timesZ z c) l (scl c O) = scl c (putsU z l O)
  | [], O, _ => rfl
  | t :: r, O, hg => by
    have hu := (hg t (by simp)).1
    rw [putsU, putsU]
    have e1 : putU (timesZ z c) (scl c O) t = scl c (putU z O t) := by
      unfold putU
      rw [scl_set, scl_getD, times_add, times_swap hu]
    rw [e1]
    exact puts_scl z c r _ (fun x hx => hg x (by simp [hx]))
theorem actL_len (g : Gt) : ∀ (V : List Zw) (i : Nat) (O : List Zw), (actL g i V O).length = O.length
  | [], i, O => rfl
  | z :: r, i, O => by rw [actL, actL_len g r, puts_len]
theorem actL_add {g : Gt} (hg : ok3 g = true) : ∀ (V W : List Zw) (i : Nat) (O P : List Zw), i + V.length ≤ 8 → V.length = W.length → O.length = P.length → actL g i (addV V W) (addV O P) = addV (actL g i V O) (actL g i W P)
  | [], [], i, O, P, _, _, _ => rfl
  | z :: r, w :: s, i, O, P, hi, h1, h2 => by
    rw [List.length_cons] at hi h1
    rw [List.length_cons] at h1
    show actL g (i + 1) (addV r s) (putsU (addU z w) (goes g i) (addV O P)) = _
    rw [puts_add z w (goes g i) O P (good3 hg (by omega)) h2, actL_add hg r s (i + 1) _ _ (by omega) (by omega) (by rw [puts_len, puts_len]; exact h2)]
    rfl
  | [], w :: s, i, O, P, _, h1, _ => by simp at h1
  | z :: r, [], i, O, P, _, h1, _ => by simp at h1
theorem actL_scl {g : Gt} (hg : ok3 g = true) (c : Zw) : ∀ (V : List Zw) (i : Nat) (O : List Zw), i + V.length ≤ 8 → actL g i (scl c V) (scl c O) = scl c (actL g i V O)
  | [], i, O, _ => rfl
  | z :: r, i, O, hi => by
    rw [List.length_cons] at hi
    show actL g (i + 1) (scl c r) (putsU (timesZ z c) (goes g i) (scl c O)) = _
    rw [puts_scl z c (goes g i) O (good3 hg (by omega)), actL_scl hg c r (i + 1) _ (by omega)]
    rfl
/-- A linear map on states of eight. -/
def Lin (f : List Zw → List Zw) : Prop :=
  (∀ V W, V.length = 8 → W.length = 8 → f (addV V W) = addV (f V) (f W)) ∧ (∀ c V, V.length = 8 → f (scl c V) = scl c (f V)) ∧ ∀ V, V.length = 8 → (f V).length = 8
theorem act_lin {g : Gt} (hg : ok3 g = true) : Lin (act g) := by
  refine ⟨fun V W h1 h2 => ?_, fun c V h1 => ?_, fun V h1 => ?_⟩
  · unfold act
    rw [addV_len h1 h2, h1, h2]
    have e : List.replicate 8 Zw.zero = addV (List.replicate 8 Zw.zero) (List.replicate 8 Zw.zero) := by decide
    rw [e, actL_add hg V W 0 _ _ (by omega) (by omega) rfl, ← e]
  · unfold act
    rw [scl_len h1, h1]
    have e : List.replicate 8 Zw.zero = scl c (List.replicate 8 Zw.zero) := by
      unfold scl
      rw [List.map_replicate, times_zero]
    have := actL_scl hg c V 0 (List.replicate 8 Zw.zero) (by omega)
    rw [← e] at this
    exact this
  · unfold act
    rw [actL_len, List.length_replicate, h1]
theorem Lin.comp {f h : List Zw → List Zw} (hf : Lin f) (hh : Lin h) : Lin (fun V => h (f V)) := by
  refine ⟨fun V W h1 h2 => ?_, fun c V h1 => ?_, fun V h1 => hh.2.2 _ (hf.2.2 V h1)⟩
  · simp only
    rw [hf.1 V W h1 h2, hh.1 _ _ (hf.2.2 V h1) (hf.2.2 W h2)]
  · simp only
    rw [hf.2.1 c V h1, hh.2.1 c _ (hf.2.2 V h1)]
theorem lin_id : Lin (fun V => V) := ⟨fun _ _ _ _ => rfl, fun _ _ _ => rfl, fun _ h => h⟩
theorem lin_rtN (k : Nat) : Lin (fun V => V.map (rtN k)) := by
  refine ⟨fun V W h1 h2 => ?_, fun c V h1 => ?_, fun V h1 => by rw [List.length_map, h1]⟩
  · unfold addV
    dsimp only
    rw [List.map_zipWith, List.zipWith_map]
    congr 1
    funext x y
    exact rtN_sum k x y
  · unfold scl
    dsimp only
    rw [List.map_map, List.map_map]
    congr 1
    funext x
    exact (times_rtN c k x).symm
def dec (a b c d e f g h : Zw) : List Zw := addV (scl a (eU 0)) (addV (scl b (eU 1)) (addV (scl c (eU 2)) (addV (scl d (eU 3)) (addV (scl e (eU 4)) (addV (scl f (eU 5)) (addV (scl g (eU 6)) (scl h (eU 7))))))))
theorem dec_eq (a b c d e f g h : Zw) : dec a b c d e f g h = [a, b, c, d, e, f, g, h] := by
  simp [dec, scl, eU, addV, List.replicate, times_zero, one_times, zero_add', add_zero]
theorem eU_len (i : Nat) : (eU i).length = 8 := by unfold eU; rw [List.length_set, List.length_replicate]
theorem lin_dec {f : List Zw → List Zw} (hf : Lin f) (a b c d e g h k : Zw) : f (dec a b c d e g h k) = addV (scl a (f (eU 0))) (addV (scl b (f (eU 1))) (addV (scl c (f (eU 2))) (addV (scl d (f (eU 3))) (addV (scl e (f (eU 4))) (addV (scl g (f (eU 5))) (addV (scl h (f (eU 6))) (scl k (f (eU 7))))))))) := by
  have s := fun x i => scl_len (c := x) (eU_len i)
  have q := fun x i => hf.2.1 x (eU i) (eU_len i)
  unfold dec
  rw [hf.1 _ _ (s _ _) (addV_len (s _ _) (addV_len (s _ _) (addV_len (s _ _) (addV_len (s _ _) (addV_len (s _ _) (addV_len (s _ _) (s _ _))))))), hf.1 _ _ (s _ _) (addV_len (s _ _) (addV_len (s _ _) (addV_len (s _ _) (addV_len (s _ _) (addV_len (s _ _) (s _ _)))))), hf.1 _ _ (s _ _) (addV_len (s _ _) (addV_len (s _ _) (addV_len (s _ _) (addV_len (s _ _) (s _ _))))), hf.1 _ _ (s _ _) (addV_len (s _ _) (addV_len (s _ _) (addV_len (s _ _) (s _ _)))), hf.1 _ _ (s _ _) (addV_len (s _ _) (addV_len (s _ _) (s _ _))), hf.1 _ _ (s _ _) (addV_len (s _ _) (s _ _)), hf.1 _ _ (s _ _) (s _ _)]
  rw [q, q, q, q, q, q, q, q]
/-- Linear maps that agree on the unit vectors agree. -/
theorem lin_ext {f h : List Zw → List Zw} (hf : Lin f) (hh : Lin h) (he : ∀ i, i < 8 → f (eU i) = h (eU i)) {V : List Zw} (hV : V.length = 8) : f V = h V := by
  match V, hV with
  | [a, b, c, d, e, g, k, l], _ =>
    rw [← dec_eq a b c d e g k l, lin_dec hf, lin_dec hh, he 0 (by omega), he 1 (by omega), he 2 (by omega), he 3 (by omega), he 4 (by omega), he 5 (by omega), he 6 (by omega), he 7 (by omega)]
end Go.Proofs.Ytibhikngiceeeaa
namespace Go.Proofs.Ytibhikngiceeeaa
set_option linter.unusedVariables false

def actG : List Gt → List Zw → List Zw
  | [], V => V
  | g :: r, V => actG r (act g V)
def hcs : List Gt → Nat
  | [] => 0
  | g :: r => hc g + hcs r
theorem actG_app (a b : List Gt) (V : List Zw) : actG (a ++ b) V = actG b (actG a V) := by
  induction a generalizing V with
  | nil => rfl
  | cons g r ih => exact ih (act g V)
theorem hcs_app (a b : List Gt) : hcs (a ++ b) = hcs a + hcs b := by
  induction a with
  | nil => simp [hcs]
  | cons g r ih =>
    show hc g + hcs (r ++ b) = hc g + hcs r + hcs b
    rw [ih]
    omega
theorem actG_lin : ∀ (gs : List Gt), (∀ g ∈ gs, ok3 g = true) → Lin (actG gs)
  | [], _ => lin_id
  | g :: r, h => (act_lin (h g (by simp))).comp (actG_lin r (fun x hx => h x (by simp [hx])))
theorem hc_pow (g : Gt) : 1 + hc g = 2 ^ hc g := by unfold hc; split <;> rfl
theorem appGL_nf : ∀ (gs : List Gt) (V : List Zw) (E : Nat) (B : Int), (∀ g ∈ gs, ok3 g = true) → 0 ≤ B → ((2 ^ hcs gs : Nat) : Int) * B ≤ 1073741824 → E + hcs gs ≤ 60 → V.length = 8 → (∀ z ∈ V, bdZ B z) →
    appGL gs (NV V E) = some (NV (actG gs V) (E + hcs gs)) ∧ (∀ z ∈ actG gs V, bdZ 1073741824 z) ∧ (actG gs V).length = 8
  | [], V, E, B, _, hB, hM, hE, hl, hV => by
    refine ⟨rfl, fun z hz => bd_mono (hV z hz) ?_, hl⟩
    have : ((2 ^ hcs [] : Nat) : Int) * B = B := by simp [hcs]
    omega
  | g :: r, V, E, B, hg, hB, hM, hE, hl, hV => by
    have e1 : (2 ^ hcs (g :: r) : Nat) = 2 ^ hcs r * (1 + hc g) := by
      show 2 ^ (hc g + hcs r) = _
      rw [Nat.pow_add, hc_pow, Nat.mul_comm]
    have e2 : hcs (g :: r) = hc g + hcs r := rfl
    rw [e1, Int.natCast_mul, Int.mul_assoc] at hM
    have hB2 : 0 ≤ ((1 + hc g : Nat) : Int) * B := Int.mul_nonneg (by omega) hB
    have hM2 : ((1 + hc g : Nat) : Int) * B ≤ 1073741824 := by
      have h1 : (1 : Int) * (((1 + hc g : Nat) : Int) * B) ≤ ((2 ^ hcs r : Nat) : Int) * (((1 + hc g : Nat) : Int) * B) := Int.mul_le_mul_of_nonneg_right (by have := Nat.one_le_two_pow (n := hcs r); omega) hB2
      omega
    obtain ⟨p1, p2, p3⟩ := appG_nf (E := E) (hg g (by simp)) hB hM2 (by omega) hl hV
    have ih := appGL_nf r (act g V) (E + hc g) (((1 + hc g : Nat) : Int) * B) (fun x hx => hg x (by simp [hx])) hB2 hM (by omega) p3 p2
    rw [appGL, p1]
    simp only
    rw [e2, show E + (hc g + hcs r) = E + hc g + hcs r by omega]
    exact ih
theorem basis_nf (i : Nat) : basis 3 i = NV (eU i) 0 := by
  unfold basis NV eU
  rw [List.map_set, List.map_replicate]
  rfl
theorem eU_bd (i : Nat) : ∀ z ∈ eU i, bdZ 1 z := by
  intro z hz
  unfold eU at hz
  rcases List.mem_or_eq_of_mem_set hz with h | h
  · have := List.eq_of_mem_replicate h
    subst this
    unfold bdZ Zw.zero
    simp
  · subst h
    unfold bdZ
    simp
theorem appGs_nf {gs : List Gt} (hg : ∀ g ∈ gs, ok3 g = true) (hh : hcs gs ≤ 30) (i : Nat) : appGs gs (basis 3 i) = some (NV (actG gs (eU i)) (hcs gs)) ∧ okS (NV (actG gs (eU i)) (hcs gs)) = true := by
  have hp : (2 ^ hcs gs : Nat) ≤ 2 ^ 30 := Nat.pow_le_pow_right (by omega) hh
  have hp2 : ((2 ^ hcs gs : Nat) : Int) * 1 ≤ 1073741824 := by
    have : ((2 ^ hcs gs : Nat) : Int) ≤ ((2 ^ 30 : Nat) : Int) := Int.ofNat_le.2 hp
    simpa using this
  obtain ⟨p1, p2, p3⟩ := appGL_nf gs (eU i) 0 1 hg (by omega) hp2 (by omega) (eU_len i) (eU_bd i)
  rw [Nat.zero_add] at p1
  have ok0 : okS (NV (eU i) 0) = true := by
    unfold okS
    rw [NV_len, eU_len]
    simp only [Bool.and_eq_true, List.all_eq_true]
    refine ⟨fun x hx => ?_, by decide⟩
    obtain ⟨z, hz, rfl⟩ := List.mem_map.1 hx
    exact nf_ok (eU_bd i z hz) (by omega) (by omega)
  have ok1 : okS (NV (actG gs (eU i)) (hcs gs)) = true := by
    unfold okS
    rw [NV_len, p3]
    simp only [Bool.and_eq_true, List.all_eq_true]
    refine ⟨fun x hx => ?_, by decide⟩
    obtain ⟨z, hz, rfl⟩ := List.mem_map.1 hx
    exact nf_ok (p2 z hz) (by omega) (by omega)
  refine ⟨?_, ok1⟩
  unfold appGs
  rw [basis_nf, ok0, if_pos rfl]
  exact p1
theorem nf_inj {z w : Zw} {E : Nat} (h : nf z E = nf w E) : z = w := by
  have h1 := (redU_spec E z).2.1
  have h2 := (redU_spec E w).2.1
  have e1 : (redU E z).1 = (redU E w).1 := congrArg Dw.n h
  have e2 : (redU E z).2 = (redU E w).2 := by
    have := congrArg Dw.e h
    unfold nf at this
    simp only at this
    omega
  rw [h1, h2, e1, e2]
/-- One list does what another does, with k powers of the root of 2 more. -/
def Rl (k : Nat) (a b : List Gt) : Prop := hcs a = hcs b + k ∧ ∀ V : List Zw, V.length = 8 → actG a V = (actG b V).map (rtN k)
theorem Rl_of_same {k : Nat} {a b : List Gt} (ha : ∀ g ∈ a, ok3 g = true) (hb : ∀ g ∈ b, ok3 g = true) (hk : hcs a = hcs b + k) (h30 : hcs a ≤ 30) (h : sameAll a b 3 = true) : Rl k a b := by
  refine ⟨hk, fun V hV => lin_ext (actG_lin a ha) ((actG_lin b hb).comp (lin_rtN k)) (fun i hi => ?_) hV⟩
  obtain ⟨u, h1, h2, _⟩ := sameAll_at h (i := i) (by simpa using hi)
  rw [(appGs_nf ha h30 i).1] at h1
  rw [(appGs_nf hb (by omega) i).1] at h2
  have e : NV (actG a (eU i)) (hcs a) = NV (actG b (eU i)) (hcs b) := by
    injection h1 with h1
    injection h2 with h2
    rw [h1, h2]
  have l1 := (actG_lin a ha).2.2 _ (eU_len i)
  have l2 := (actG_lin b hb).2.2 _ (eU_len i)
  refine List.ext_getElem (by rw [List.length_map, l1, l2]) fun s s1 s2 => ?_
  rw [List.getElem_map]
  have hs := congrArg (fun l => l[s]?) e
  unfold NV at hs
  simp only [List.getElem?_map] at hs
  rw [List.getElem?_eq_getElem s1, List.getElem?_eq_getElem (by rw [l2]; rw [l1] at s1; exact s1)] at hs
  simp only [Option.map_some, Option.some.injEq] at hs
  rw [hk, ← nf_rtN k _ (hcs b), Nat.add_comm k] at hs
  exact nf_inj hs
theorem same_of_Rl {k : Nat} {a b : List Gt} (ha : ∀ g ∈ a, ok3 g = true) (hb : ∀ g ∈ b, ok3 g = true) (h30 : hcs a ≤ 30) (h : Rl k a b) : sameAll a b 3 = true := by
  refine List.all_eq_true.2 fun i hi => ?_
  unfold sameOn
  obtain ⟨p1, p2⟩ := appGs_nf ha h30 i
  obtain ⟨q1, _⟩ := appGs_nf hb (by have := h.1; omega) i
  rw [p1, q1]
  simp only [Bool.and_eq_true, decide_eq_true_eq]
  refine ⟨?_, p2⟩
  rw [h.2 _ (eU_len i), h.1]
  unfold NV
  rw [List.map_map]
  congr 1
  funext z
  have := nf_rtN k z (hcs b)
  rw [Nat.add_comm] at this
  exact this
theorem Rl.refl (a : List Gt) : Rl 0 a a := ⟨rfl, fun V _ => by
  have : (rtN 0) = fun z : Zw => z := rfl
  rw [this, List.map_id']⟩
theorem Rl.trans {k l : Nat} {a b c : List Gt} (h : Rl k a b) (h' : Rl l b c) : Rl (k + l) a c := by
  refine ⟨by rw [h.1, h'.1]; omega, fun V hV => ?_⟩
  rw [h.2 V hV, h'.2 V hV, List.map_map]
  congr 1
  funext z
  exact (rtN_add k l z).symm
theorem rtN_map {gs : List Gt} (hg : ∀ g ∈ gs, ok3 g = true) (k : Nat) {V : List Zw} (hV : V.length = 8) : actG gs (V.map (rtN k)) = (actG gs V).map (rtN k) := by
  have h1 := (lin_rtN k).comp (actG_lin gs hg)
  have h2 := (actG_lin gs hg).comp (lin_rtN k)
  refine lin_ext h1 h2 (fun i _ => ?_) hV
  have e : ∀ W : List Zw, W.map (rtN k) = scl (rtN k ⟨1, 0, 0, 0⟩) W := by
    intro W
    unfold scl
    congr 1
    funext x
    have : ∀ j : Nat, rtN j x = timesZ x (rtN j ⟨1, 0, 0, 0⟩) := by
      intro j
      induction j with
      | zero =>
        show x = timesZ x ⟨1, 0, 0, 0⟩
        apply zext <;> simp [timesZ]
      | succ j ih =>
        show rt (rtN j x) = timesZ x (rt (rtN j ⟨1, 0, 0, 0⟩))
        rw [ih]
        apply zext <;> simp only [timesZ, rt, Int.mul_sub, Int.mul_add] <;> omega
    exact this k
  show actG gs ((eU i).map (rtN k)) = (actG gs (eU i)).map (rtN k)
  rw [e, e, (actG_lin gs hg).2.1 _ _ (eU_len i)]
theorem Rl.mid {k : Nat} {a b p q : List Gt} (hp : ∀ g ∈ p, ok3 g = true) (hb : ∀ g ∈ b, ok3 g = true) (hq : ∀ g ∈ q, ok3 g = true) (h : Rl k a b) : Rl k (p ++ (a ++ q)) (p ++ (b ++ q)) := by
  refine ⟨by rw [hcs_app, hcs_app, hcs_app, hcs_app, h.1]; omega, fun V hV => ?_⟩
  have l1 := (actG_lin p hp).2.2 V hV
  rw [actG_app, actG_app, actG_app, actG_app, h.2 _ l1, rtN_map hq k ((actG_lin b hb).2.2 _ l1)]
end Go.Proofs.Ytibhikngiceeeaa
