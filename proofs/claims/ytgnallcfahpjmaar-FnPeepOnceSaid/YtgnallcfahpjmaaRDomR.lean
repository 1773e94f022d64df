/- Plain: lists of gates on three qubits act on states in normal form; two lists that do the same on all basis states do the same on all states; rewriting inside a list. Nothing else is asked. -/
import Derived.Test.YtgnallcfahpjmaaRDomL
namespace Go.Proofs.YtgnallcfahpjmaaR
set_option linter.unusedVariables false

def actG : List Gt → List Zw → List Zw
  | [], V => V
  | g :: r, V => actG r (act g V)
def hcs : List Gt → Nat
  | [] => 0
  | g :: r => hc g + hcs r
theorem actG_app (a b : List Gt) (V : List Zw) : actG (a ++ b) V = actG b (actG a V) := by
  induction a generalizing V with
  | nil => rfl
  | cons g r ih => exact ih (act g V)
theorem hcs_app (a b : List Gt) : hcs (a ++ b) = hcs a + hcs b := by
  induction a with
  | nil => simp [hcs]
  | cons g r ih =>
    show hc g + hcs (r ++ b) = hc g + hcs r + hcs b
    rw [ih]
    omega
theorem actG_lin : ∀ (gs : List Gt), (∀ g ∈ gs, ok3 g = true) → Lin (actG gs)
  | [], _ => lin_id
  | g :: r, h => (act_lin (h g (by simp))).comp (actG_lin r (fun x hx => h x (by simp [hx])))
theorem hc_pow (g : Gt) : 1 + hc g = 2 ^ hc g := by unfold hc; split <;> rfl
theorem appGL_nf : ∀ (gs : List Gt) (V : List Zw) (E : Nat) (B : Int), (∀ g ∈ gs, ok3 g = true) → 0 ≤ B → ((2 ^ hcs gs : Nat) : Int) * B ≤ 1073741824 → E + hcs gs ≤ 60 → V.length = 8 → (∀ z ∈ V, bdZ B z) →
    appGL gs (NV V E) = some (NV (actG gs V) (E + hcs gs)) ∧ (∀ z ∈ actG gs V, bdZ 1073741824 z) ∧ (actG gs V).length = 8
  | [], V, E, B, _, hB, hM, hE, hl, hV => by
    refine ⟨rfl, fun z hz => bd_mono (hV z hz) ?_, hl⟩
    have : ((2 ^ hcs [] : Nat) : Int) * B = B := by simp [hcs]
    omega
  | g :: r, V, E, B, hg, hB, hM, hE, hl, hV => by
    have e1 : (2 ^ hcs (g :: r) : Nat) = 2 ^ hcs r * (1 + hc g) := by
      show 2 ^ (hc g + hcs r) = _
      rw [Nat.pow_add, hc_pow, Nat.mul_comm]
    have e2 : hcs (g :: r) = hc g + hcs r := rfl
    rw [e1, Int.natCast_mul, Int.mul_assoc] at hM
    have hB2 : 0 ≤ ((1 + hc g : Nat) : Int) * B := Int.mul_nonneg (by omega) hB
    have hM2 : ((1 + hc g : Nat) : Int) * B ≤ 1073741824 := by
      have h1 : (1 : Int) * (((1 + hc g : Nat) : Int) * B) ≤ ((2 ^ hcs r : Nat) : Int) * (((1 + hc g : Nat) : Int) * B) := Int.mul_le_mul_of_nonneg_right (by have := Nat.one_le_two_pow (n := hcs r); omega) hB2
      omega
    obtain ⟨p1, p2, p3⟩ := appG_nf (E := E) (hg g (by simp)) hB hM2 (by omega) hl hV
    have ih := appGL_nf r (act g V) (E + hc g) (((1 + hc g : Nat) : Int) * B) (fun x hx => hg x (by simp [hx])) hB2 hM (by omega) p3 p2
    rw [appGL, p1]
    simp only
    rw [e2, show E + (hc g + hcs r) = E + hc g + hcs r by omega]
    exact ih
theorem basis_nf (i : Nat) : basis 3 i = NV (eU i) 0 := by
  unfold basis NV eU
  rw [List.map_set, List.map_replicate]
  rfl
theorem eU_bd (i : Nat) : ∀ z ∈ eU i, bdZ 1 z := by
  intro z hz
  unfold eU at hz
  rcases List.mem_or_eq_of_mem_set hz with h | h
  · have := List.eq_of_mem_replicate h
    subst this
    unfold bdZ Zw.zero
    simp
  · subst h
    unfold bdZ
    simp
theorem appGs_nf {gs : List Gt} (hg : ∀ g ∈ gs, ok3 g = true) (hh : hcs gs ≤ 30) (i : Nat) : appGs gs (basis 3 i) = some (NV (actG gs (eU i)) (hcs gs)) ∧ okS (NV (actG gs (eU i)) (hcs gs)) = true := by
  have hp : (2 ^ hcs gs : Nat) ≤ 2 ^ 30 := Nat.pow_le_pow_right (by omega) hh
  have hp2 : ((2 ^ hcs gs : Nat) : Int) * 1 ≤ 1073741824 := by
    have : ((2 ^ hcs gs : Nat) : Int) ≤ ((2 ^ 30 : Nat) : Int) := Int.ofNat_le.2 hp
    simpa using this
  obtain ⟨p1, p2, p3⟩ := appGL_nf gs (eU i) 0 1 hg (by omega) hp2 (by omega) (eU_len i) (eU_bd i)
  rw [Nat.zero_add] at p1
  have ok0 : okS (NV (eU i) 0) = true := by
    unfold okS
    rw [NV_len, eU_len]
    simp only [Bool.and_eq_true, List.all_eq_true]
    refine ⟨fun x hx => ?_, by decide⟩
    obtain ⟨z, hz, rfl⟩ := List.mem_map.1 hx
    exact nf_ok (eU_bd i z hz) (by omega) (by omega)
  have ok1 : okS (NV (actG gs (eU i)) (hcs gs)) = true := by
    unfold okS
    rw [NV_len, p3]
    simp only [Bool.and_eq_true, List.all_eq_true]
    refine ⟨fun x hx => ?_, by decide⟩
    obtain ⟨z, hz, rfl⟩ := List.mem_map.1 hx
    exact nf_ok (p2 z hz) (by omega) (by omega)
  refine ⟨?_, ok1⟩
  unfold appGs
  rw [basis_nf, ok0, if_pos rfl]
  exact p1
theorem nf_inj {z w : Zw} {E : Nat} (h : nf z E = nf w E) : z = w := by
  have h1 := (redU_spec E z).2.1
  have h2 := (redU_spec E w).2.1
  have e1 : (redU E z).1 = (redU E w).1 := congrArg Dw.n h
  have e2 : (redU E z).2 = (redU E w).2 := by
    have := congrArg Dw.e h
    unfold nf at this
    simp only at this
    omega
  rw [h1, h2, e1, e2]
/-- One list does what another does, with k powers of the root of 2 more. -/
def Rl (k : Nat) (a b : List Gt) : Prop := hcs a = hcs b + k ∧ ∀ V : List Zw, V.length = 8 → actG a V = (actG b V).map (rtN k)
theorem Rl_of_same {k : Nat} {a b : List Gt} (ha : ∀ g ∈ a, ok3 g = true) (hb : ∀ g ∈ b, ok3 g = true) (hk : hcs a = hcs b + k) (h30 : hcs a ≤ 30) (h : sameAll a b 3 = true) : Rl k a b := by
  refine ⟨hk, fun V hV => lin_ext (actG_lin a ha) ((actG_lin b hb).comp (lin_rtN k)) (fun i hi => ?_) hV⟩
  obtain ⟨u, h1, h2, _⟩ := sameAll_at h (i := i) (by simpa using hi)
  rw [(appGs_nf ha h30 i).1] at h1
  rw [(appGs_nf hb (by omega) i).1] at h2
  have e : NV (actG a (eU i)) (hcs a) = NV (actG b (eU i)) (hcs b) := by
    injection h1 with h1
    injection h2 with h2
    rw [h1, h2]
  have l1 := (actG_lin a ha).2.2 _ (eU_len i)
  have l2 := (actG_lin b hb).2.2 _ (eU_len i)
  refine List.ext_getElem (by rw [List.length_map, l1, l2]) fun s s1 s2 => ?_
  rw [List.getElem_map]
  have hs := congrArg (fun l => l[s]?) e
  unfold NV at hs
  simp only [List.getElem?_map] at hs
  rw [List.getElem?_eq_getElem s1, List.getElem?_eq_getElem (by rw [l2]; rw [l1] at s1; exact s1)] at hs
  simp only [Option.map_some, Option.some.injEq] at hs
  rw [hk, ← nf_rtN k _ (hcs b), Nat.add_comm k] at hs
  exact nf_inj hs
theorem same_of_Rl {k : Nat} {a b : List Gt} (ha : ∀ g ∈ a, ok3 g = true) (hb : ∀ g ∈ b, ok3 g = true) (h30 : hcs a ≤ 30) (h : Rl k a b) : sameAll a b 3 = true := by
  refine List.all_eq_true.2 fun i hi => ?_
  unfold sameOn
  obtain ⟨p1, p2⟩ := appGs_nf ha h30 i
  obtain ⟨q1, _⟩ := appGs_nf hb (by have := h.1; omega) i
  rw [p1, q1]
  simp only [Bool.and_eq_true, decide_eq_true_eq]
  refine ⟨?_, p2⟩
  rw [h.2 _ (eU_len i), h.1]
  unfold NV
  rw [List.map_map]
  congr 1
  funext z
  have := nf_rtN k z (hcs b)
  rw [Nat.add_comm] at this
  exact this
theorem Rl.refl (a : List Gt) : Rl 0 a a := ⟨rfl, fun V _ => by
  have : (rtN 0) = fun z : Zw => z := rfl
  rw [this, List.map_id']⟩
theorem Rl.trans {k l : Nat} {a b c : List Gt} (h : Rl k a b) (h' : Rl l b c) : Rl (k + l) a c := by
  refine ⟨by rw [h.1, h'.1]; omega, fun V hV => ?_⟩
  rw [h.2 V hV, h'.2 V hV, List.map_map]
  congr 1
  funext z
  exact (rtN_add k l z).symm
theorem rtN_map {gs : List Gt} (hg : ∀ g ∈ gs, ok3 g = true) (k : Nat) {V : List Zw} (hV : V.length = 8) : actG gs (V.map (rtN k)) = (actG gs V).map (rtN k) := by
  have h1 := (lin_rtN k).comp (actG_lin gs hg)
  have h2 := (actG_lin gs hg).comp (lin_rtN k)
  refine lin_ext h1 h2 (fun i _ => ?_) hV
  have e : ∀ W : List Zw, W.map (rtN k) = scl (rtN k ⟨1, 0, 0, 0⟩) W := by
    intro W
    unfold scl
    congr 1
    funext x
    have : ∀ j : Nat, rtN j x = timesZ x (rtN j ⟨1, 0, 0, 0⟩) := by
      intro j
      induction j with
      | zero =>
        show x = timesZ x ⟨1, 0, 0, 0⟩
        apply zext <;> simp [timesZ]
      | succ j ih =>
        show rt (rtN j x) = timesZ x (rt (rtN j ⟨1, 0, 0, 0⟩))
        rw [ih]
        apply zext <;> simp only [timesZ, rt, Int.mul_sub, Int.mul_add] <;> omega
    exact this k
  show actG gs ((eU i).map (rtN k)) = (actG gs (eU i)).map (rtN k)
  rw [e, e, (actG_lin gs hg).2.1 _ _ (eU_len i)]
theorem Rl.mid {k : Nat} {a b p q : List Gt} (hp : ∀ g ∈ p, ok3 g = true) (hb : ∀ g ∈ b, ok3 g = true) (hq : ∀ g ∈ q, ok3 g = true) (h : Rl k a b) : Rl k (p ++ (a ++ q)) (p ++ (b ++ q)) := by
  refine ⟨by rw [hcs_app, hcs_app, hcs_app, hcs_app, h.1]; omega, fun V hV => ?_⟩
  have l1 := (actG_lin p hp).2.2 V hV
  rw [actG_app, actG_app, actG_app, actG_app, h.2 _ l1, rtN_map hq k ((actG_lin b hb).2.2 _ l1)]
end Go.Proofs.YtgnallcfahpjmaaR
