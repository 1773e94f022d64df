/- Plain: gates act on states in normal form as a linear map acts on what stands above the common power of the root of 2, where nothing grows too large. Nothing else is asked. -/
import Derived.Test.YtgnallcfahpjmaaRDomN
import Derived.Test.YtgnallcfahpjmaaRStH
import Derived.Test.YtgnallcfahpjmaaRDomF
namespace Go.Proofs.YtgnallcfahpjmaaR
set_option linter.unusedVariables false

def NV (V : List Zw) (E : Nat) : List Dw := V.map fun z => nf z E
def putU (z : Zw) (out : List Zw) (t : Nat × Dw) : List Zw := out.set t.1 (addU (out.getD t.1 Zw.zero) (timesZ z t.2.n))
def putsU (z : Zw) : List (Nat × Dw) → List Zw → List Zw
  | [], o => o
  | t :: r, o => putsU z r (putU z o t)
def actL (g : Gt) : Nat → List Zw → List Zw → List Zw
  | _, [], o => o
  | i, z :: r, o => actL g (i + 1) r (putsU z (goes g i) o)
def act (g : Gt) (V : List Zw) : List Zw := actL g 0 V (List.replicate V.length Zw.zero)
def hc (g : Gt) : Nat := if g.k = 4 then 1 else 0
/-- How often each place is hit. -/
def hitL (lim : Nat) : List (Nat × Dw) → List Nat → Option (List Nat)
  | [], c => some c
  | t :: r, c => if c.getD t.1 0 + 1 ≤ lim then hitL lim r (c.set t.1 (c.getD t.1 0 + 1)) else none
def cntA (g : Gt) (lim : Nat) : Nat → Nat → List Nat → Bool
  | _, 0, _ => true
  | i, m + 1, c => match hitL lim (goes g i) c with
    | some c' => cntA g lim (i + 1) m c'
    | none => false
theorem cnt_all : (gates3.all fun g => cntA g (1 + hc g) 0 8 (List.replicate 8 0)) = true := by decide +kernel

def Bd (c : List Nat) (B : Int) (out : List Zw) : Prop := ∀ t : Nat, bdZ ((c.getD t 0 : Nat) * B) (out.getD t Zw.zero)
theorem bd_mono {M M' : Int} {z : Zw} (h : bdZ M z) (hm : M ≤ M') : bdZ M' z := by
  unfold bdZ at h ⊢
  omega
theorem bd_add {M M' : Int} {x y : Zw} (h : bdZ M x) (h' : bdZ M' y) : bdZ (M + M') (addU x y) := by
  unfold bdZ at h h' ⊢
  simp only [addU]
  omega
theorem NV_getD {V : List Zw} {E t : Nat} (ht : t < V.length) : (NV V E).getD t Dw.zero = nf (V.getD t Zw.zero) E := by
  unfold NV
  rw [List.getD_eq_getElem?_getD, List.getD_eq_getElem?_getD, List.getElem?_map, List.getElem?_eq_getElem ht]
  rfl
theorem NV_set {V : List Zw} {E t : Nat} {z : Zw} : (NV V E).set t (nf z E) = NV (V.set t z) E := by
  unfold NV
  rw [List.map_set]
theorem NV_len {V : List Zw} {E : Nat} : (NV V E).length = V.length := by unfold NV; rw [List.length_map]
theorem getD_set {α : Type} {l : List α} {t s : Nat} {x d : α} (ht : t < l.length) : (l.set t x).getD s d = if s = t then x else l.getD s d := by
  rw [List.getD_eq_getElem?_getD, List.getD_eq_getElem?_getD, List.getElem?_set]
  by_cases h : t = s
  · subst h
    rw [if_pos rfl, if_pos rfl, if_pos ht]
    rfl
  · rw [if_neg h, if_neg (fun e => h e.symm)]
/-- What is asked of the places where an amplitude is sent. -/
def Good (n e : Nat) (l : List (Nat × Dw)) : Prop := ∀ t ∈ l, isU t.2.n ∧ t.2.e = (e : Nat) ∧ t.1 < n
theorem put_nf {lim E e n : Nat} {B : Int} {z : Zw} {out : List Zw} {c : List Nat} {t : Nat × Dw} (hB : 0 ≤ B) (hlim : (lim : Int) * B ≤ 1073741824) (hE : E + e ≤ 60) (hz : bdZ B z) (hu : isU t.2.n) (he : t.2.e = (e : Nat)) (he1 : e ≤ 1) (htn : t.1 < n) (ho : out.length = n) (hcl : c.length = n) (hb : Bd c B out) (hl : c.getD t.1 0 + 1 ≤ lim) :
    putD (nf z E) (NV out (E + e)) t = some (NV (putU z out t) (E + e)) ∧ Bd (c.set t.1 (c.getD t.1 0 + 1)) B (putU z out t) := by
  obtain ⟨t, ⟨u, x⟩⟩ := t
  simp only at hu he htn hl
  subst he
  have h1 : ((c.getD t 0 : Nat) : Int) * B + B ≤ (lim : Int) * B := by
    have : (((c.getD t 0 + 1 : Nat) : Int)) * B ≤ (lim : Int) * B := Int.mul_le_mul_of_nonneg_right (by omega) hB
    rw [Int.natCast_add, Int.add_mul, Int.natCast_one, Int.one_mul] at this
    exact this
  have h0 : 0 ≤ ((c.getD t 0 : Nat) : Int) * B := Int.mul_nonneg (by omega) hB
  have hM : (1073741824 : Int) ≤ 1073741824 := by omega
  have bz : bdZ 1073741824 z := bd_mono hz (by omega)
  have bo : bdZ 1073741824 (out.getD t Zw.zero) := bd_mono (hb t) (by omega)
  have bu := timesU_bd hu hz
  have bs := bd_add (hb t) bu
  constructor
  · unfold putD putU
    rw [mulD_nf hM hu he1 hE bz]
    simp only
    rw [NV_getD (by omega), addD_nf hM hE bo (bd_mono bu (by omega)) (bd_mono bs (by omega))]
    simp only
    rw [NV_set]
  · intro s
    unfold putU
    simp only
    rw [getD_set (by omega), getD_set (by omega)]
    by_cases hs : s = t
    · rw [if_pos hs, if_pos hs]
      refine bd_mono bs ?_
      rw [Int.natCast_add, Int.add_mul, Int.natCast_one, Int.one_mul]
      omega
    · rw [if_neg hs, if_neg hs]
      exact hb s
theorem puts_nf {lim E e n : Nat} {B : Int} {z : Zw} (hB : 0 ≤ B) (hlim : (lim : Int) * B ≤ 1073741824) (hE : E + e ≤ 60) (hz : bdZ B z) (he1 : e ≤ 1) : ∀ (l : List (Nat × Dw)) (out : List Zw) (c c' : List Nat), Good n e l → out.length = n → c.length = n → Bd c B out → hitL lim l c = some c' →
    putAll (nf z E) l (NV out (E + e)) = some (NV (putsU z l out) (E + e)) ∧ Bd c' B (putsU z l out) ∧ (putsU z l out).length = n ∧ c'.length = n
  | [], out, c, c', hg, ho, hcl, hb, hh => by
    rw [hitL] at hh
    injection hh with hh
    subst hh
    exact ⟨rfl, hb, ho, hcl⟩
  | t :: r, out, c, c', hg, ho, hcl, hb, hh => by
    rw [hitL] at hh
    by_cases hl : c.getD t.1 0 + 1 ≤ lim
    · rw [if_pos hl] at hh
      obtain ⟨g1, g2, g3⟩ := hg t (by simp)
      obtain ⟨p1, p2⟩ := put_nf hB hlim hE hz g1 g2 he1 g3 ho hcl hb hl
      rw [putAll, p1]
      simp only
      exact puts_nf hB hlim hE hz he1 r _ _ _ (fun x hx => hg x (by simp [hx])) (by unfold putU; rw [List.length_set]; exact ho) (by rw [List.length_set]; exact hcl) p2 hh
    · rw [if_neg hl] at hh; cases hh
theorem add_zero (x : Zw) : addU x Zw.zero = x := by apply zext <;> simp [addU, Zw.zero]
theorem times_zero (u : Zw) : timesZ Zw.zero u = Zw.zero := by apply zext <;> simp [timesZ, Zw.zero]
theorem puts_zero : ∀ (l : List (Nat × Dw)) (out : List Zw), putsU Zw.zero l out = out
  | [], out => rfl
  | t :: r, out => by
    rw [putsU]
    have e : putU Zw.zero out t = out := by
      unfold putU
      rw [times_zero, add_zero]
      refine List.ext_getElem? fun s => ?_
      rw [List.getElem?_set]
      by_cases h : t.1 = s
      · subst h
        by_cases h2 : t.1 < out.length
        · rw [if_pos rfl, if_pos h2, List.getD_eq_getElem?_getD, List.getElem?_eq_getElem h2]
          rfl
        · rw [if_pos rfl, if_neg h2, List.getElem?_eq_none (by omega)]
      · rw [if_neg h]
    rw [e]
    exact puts_zero r out
/-- A gate on a state in normal form. -/
theorem appL_nf {g : Gt} {lim E n : Nat} {B : Int} (hB : 0 ≤ B) (hlim : (lim : Int) * B ≤ 1073741824) (hE : E + hc g ≤ 60) : ∀ (V : List Zw) (i : Nat) (out : List Zw) (c : List Nat), (∀ j, i ≤ j → j < i + V.length → Good n (hc g) (goes g j)) → (∀ z ∈ V, bdZ B z) → out.length = n → c.length = n → Bd c B out → (∀ s, c.getD s 0 ≤ lim) → cntA g lim i V.length c = true →
    appL g i (NV V E) (NV out (E + hc g)) = some (NV (actL g i V out) (E + hc g)) ∧ (∀ s, bdZ ((lim : Int) * B) ((actL g i V out).getD s Zw.zero)) ∧ (actL g i V out).length = n
  | [], i, out, c, hg, hV, ho, hcl, hb, hcm, hcn => by
    refine ⟨rfl, fun s => bd_mono (hb s) (Int.mul_le_mul_of_nonneg_right (by have := hcm s; omega) hB), ho⟩
  | z :: r, i, out, c, hg, hV, ho, hcl, hb, hcm, hcn => by
    rw [List.length_cons, cntA] at hcn
    cases hh : hitL lim (goes g i) c with
    | none => rw [hh] at hcn; cases hcn
    | some c' =>
      rw [hh] at hcn
      have he1 : hc g ≤ 1 := by unfold hc; split <;> omega
      obtain ⟨p1, p2, p3, p4⟩ := puts_nf hB hlim hE (hV z (by simp)) he1 (goes g i) out c c' (hg i (Nat.le_refl _) (by simp)) ho hcl hb hh
      have hcm' : ∀ s, c'.getD s 0 ≤ lim := hit_le _ _ _ hcm hh
      have ih := appL_nf hB hlim hE r (i + 1) (putsU z (goes g i) out) c' (fun j h1 h2 => hg j (by omega) (by simp at h2 ⊢; omega)) (fun x hx => hV x (by simp [hx])) p3 p4 p2 hcm' hcn
      rw [actL]
      refine ⟨?_, ih.2⟩
      unfold NV
      rw [List.map_cons, appL]
      by_cases hz : nf z E = Dw.zero
      · rw [if_pos hz]
        have hz0 := nf_is_zero hz
        subst hz0
        rw [puts_zero] at ih ⊢
        exact ih.1
      · rw [if_neg hz]
        have p1' := p1
        unfold NV at p1'
        rw [p1']
        exact ih.1
where
  hit_le {lim : Nat} : ∀ (l : List (Nat × Dw)) (c c' : List Nat), (∀ s, c.getD s 0 ≤ lim) → hitL lim l c = some c' → ∀ s, c'.getD s 0 ≤ lim
  | [], c, c', h, hh => by
    rw [hitL] at hh
    injection hh with hh
    subst hh
    exact h
  | t :: r, c, c', h, hh => by
    rw [hitL] at hh
    by_cases hl : c.getD t.1 0 + 1 ≤ lim
    · rw [if_pos hl] at hh
      refine hit_le r _ _ (fun s => ?_) hh
      by_cases ht : t.1 < c.length
      · rw [getD_set ht]
        split
        · exact hl
        · exact h s
      · rw [List.set_eq_of_length_le (by omega)]
        exact h s
    · rw [if_neg hl] at hh; cases hh

def isUb (u : Zw) : Bool := [(⟨1, 0, 0, 0⟩ : Zw), ⟨0, 1, 0, 0⟩, ⟨0, 0, 1, 0⟩, ⟨0, 0, 0, 1⟩, ⟨-1, 0, 0, 0⟩, ⟨0, -1, 0, 0⟩, ⟨0, 0, -1, 0⟩, ⟨0, 0, 0, -1⟩].contains u
theorem isUb_law {u : Zw} (h : isUb u = true) : isU u := by
  simpa [isUb, isU] using h
def goodB (n e : Nat) (l : List (Nat × Dw)) : Bool := l.all fun t => isUb t.2.n && (decide (t.2.e = (e : Nat)) && decide (t.1 < n))
theorem good_all : (gates3.all fun g => (List.range 8).all fun i => goodB 8 (hc g) (goes g i)) = true := by decide +kernel
theorem good3 {g : Gt} (hg : ok3 g = true) {i : Nat} (hi : i < 8) : Good 8 (hc g) (goes g i) := by
  have h := List.all_eq_true.1 (List.all_eq_true.1 good_all g (ok3_mem hg)) i (List.mem_range.2 hi)
  intro t ht
  have h2 := List.all_eq_true.1 h t ht
  simp only [Bool.and_eq_true, decide_eq_true_eq] at h2
  exact ⟨isUb_law h2.1, h2.2.1, h2.2.2⟩
theorem NV_zero (n E : Nat) : NV (List.replicate n Zw.zero) E = List.replicate n Dw.zero := by
  unfold NV
  rw [List.map_replicate, nf_zero]
/-- A valid gate on three qubits, on a state in normal form. -/
theorem appG_nf {g : Gt} {E : Nat} {B : Int} {V : List Zw} (hg : ok3 g = true) (hB : 0 ≤ B) (hlim : ((1 + hc g : Nat) : Int) * B ≤ 1073741824) (hE : E + hc g ≤ 60) (hl : V.length = 8) (hV : ∀ z ∈ V, bdZ B z) :
    appG g (NV V E) = some (NV (act g V) (E + hc g)) ∧ (∀ z ∈ act g V, bdZ (((1 + hc g : Nat) : Int) * B) z) ∧ (act g V).length = 8 := by
  have hBM : B ≤ 1073741824 := by
    have : (1 : Int) * B ≤ ((1 + hc g : Nat) : Int) * B := Int.mul_le_mul_of_nonneg_right (by omega) hB
    omega
  have hcn := List.all_eq_true.1 cnt_all g (ok3_mem hg)
  obtain ⟨p1, p2, p3⟩ := appL_nf (n := 8) hB hlim hE V 0 (List.replicate 8 Zw.zero) (List.replicate 8 0) (fun j _ h2 => good3 hg (by omega)) hV (by simp) (by simp)
    (fun t => by
      have e1 : (List.replicate 8 (0 : Nat)).getD t 0 = 0 := by
        rw [List.getD_eq_getElem?_getD, List.getElem?_replicate]
        split <;> rfl
      have e2 : (List.replicate 8 Zw.zero).getD t Zw.zero = Zw.zero := by
        rw [List.getD_eq_getElem?_getD, List.getElem?_replicate]
        split <;> rfl
      rw [e1, e2]
      unfold bdZ Zw.zero
      simp)
    (fun s => by
      rw [List.getD_eq_getElem?_getD, List.getElem?_replicate]
      split <;> simp)
    (by rw [hl]; exact hcn)
  rw [NV_zero] at p1
  have e : act g V = actL g 0 V (List.replicate 8 Zw.zero) := by unfold act; rw [hl]
  rw [e]
  refine ⟨?_, fun z hz => ?_, p3⟩
  · unfold appG
    rw [NV_len, hl]
    have h1 : okS (NV V E) = true := by
      unfold okS
      rw [NV_len, hl]
      simp only [Bool.and_eq_true, List.all_eq_true]
      refine ⟨fun x hx => ?_, by decide⟩
      obtain ⟨z, hz, rfl⟩ := List.mem_map.1 hx
      exact nf_ok (hV z hz) hBM (by omega)
    have h2 : okG g.k g.a g.b g.c (cntQ 8 : Nat) = true := hg
    rw [h1, h2]
    simp only [Bool.and_self, if_true]
    exact p1
  · obtain ⟨s, hs⟩ := List.getElem?_of_mem hz
    have := p2 s
    rw [List.getD_eq_getElem?_getD, hs] at this
    exact this
end Go.Proofs.YtgnallcfahpjmaaR
