/- Plain: valid gates on one to four qubits act on states in normal form as linear maps do. Nothing else is asked. -/
import Derived.Test.YtibhikngiceeeaaDomN
namespace Go.Proofs.Ytibhikngiceeeaa
set_option linter.unusedVariables false

def nsN (n : Nat) : List Int := (List.range n).map Int.ofNat
def okN (n : Nat) (g : Gt) : Bool := okG g.k g.a g.b g.c (n : Int)
def gatesN (n : Nat) : List Gt := (ks3.flatMap fun k => (nsN n).flatMap fun a => (nsN n).flatMap fun b => (nsN n).map fun c => (⟨k, a, b, c⟩ : Gt)).filter (okN n)
theorem okQN_bd {ar hi : Int} (h0 : 0 ≤ hi) : ∀ (l seen : List Int), okQ ar hi seen l = true → ∀ x ∈ l, 0 ≤ x ∧ x ≤ hi
  | [], _, _ => by simp
  | y :: r, seen, h => by
    rw [okQ] at h
    by_cases hb : badQ ar hi seen.length seen y = true
    · rw [if_pos hb] at h; cases h
    · rw [if_neg hb] at h
      intro x hx
      rcases List.mem_cons.1 hx with rfl | hx
      · unfold badQ at hb
        by_cases hlt : (seen.length : Int) < ar
        · rw [if_pos hlt] at hb
          rcases inB_casesQ x 0 hi with ⟨_, h1⟩ | ⟨h1, _⟩
          · exact h1
          · rw [h1] at hb; simp at hb
        · rw [if_neg hlt] at hb
          have : x = 0 := by simpa using hb
          omega
      · exact okQN_bd h0 r _ h x hx
theorem nsN_mem {n : Nat} {x : Int} (h : 0 ≤ x ∧ x ≤ (n : Int) - 1) : x ∈ nsN n := by
  refine List.mem_map.2 ⟨x.toNat, List.mem_range.2 (by omega), ?_⟩
  show ((x.toNat : Nat) : Int) = x
  omega
theorem okN_in {n : Nat} {g : Gt} (h : okN n g = true) : 1 ≤ n ∧ n ≤ 4 := by
  unfold okN okG at h
  simp only [Bool.and_eq_true] at h
  have := inB_iff.1 h.1
  omega
theorem okN_mem {n : Nat} {g : Gt} (h : okN n g = true) : g ∈ gatesN n := by
  refine List.mem_filter.2 ⟨?_, h⟩
  have hn := okN_in h
  unfold okN okG at h
  simp only [Bool.and_eq_true, decide_eq_true_eq] at h
  have hb := okQN_bd (by omega) _ _ h.2.2
  have ha := nsN_mem (hb g.a (by simp))
  have hb' := nsN_mem (hb g.b (by simp))
  have hc := nsN_mem (hb g.c (by simp))
  have hk := ks_mem h.2.1
  exact List.mem_flatMap.2 ⟨g.k, hk, List.mem_flatMap.2 ⟨g.a, ha, List.mem_flatMap.2 ⟨g.b, hb', List.mem_map.2 ⟨g.c, hc, rfl⟩⟩⟩⟩
def chkG (n : Nat) : Bool := (gatesN n).all fun g => cntA g (1 + hc g) 0 (2 ^ n) (List.replicate (2 ^ n) 0) && (List.range (2 ^ n)).all fun i => goodB (2 ^ n) (hc g) (goes g i)
theorem chk1 : chkG 1 = true := by decide +kernel
theorem chk2 : chkG 2 = true := by decide +kernel
theorem chk3 : chkG 3 = true := by decide +kernel
theorem chk4 : chkG 4 = true := by decide +kernel
theorem chkN {n : Nat} (h : 1 ≤ n ∧ n ≤ 4) : chkG n = true := by
  obtain rfl | rfl | rfl | rfl : n = 1 ∨ n = 2 ∨ n = 3 ∨ n = 4 := by omega
  · exact chk1
  · exact chk2
  · exact chk3
  · exact chk4
theorem chk_at {n : Nat} {g : Gt} (hg : okN n g = true) : cntA g (1 + hc g) 0 (2 ^ n) (List.replicate (2 ^ n) 0) = true ∧ ∀ i, i < 2 ^ n → Good (2 ^ n) (hc g) (goes g i) := by
  have h := List.all_eq_true.1 (chkN (okN_in hg)) g (okN_mem hg)
  simp only [Bool.and_eq_true] at h
  refine ⟨h.1, fun i hi t ht => ?_⟩
  have h3 := List.all_eq_true.1 (List.all_eq_true.1 h.2 i (List.mem_range.2 hi)) t ht
  simp only [Bool.and_eq_true, decide_eq_true_eq] at h3
  exact ⟨isUb_law h3.1, h3.2.1, h3.2.2⟩
theorem rep_getD {α : Type} (n s : Nat) (x : α) : (List.replicate n x).getD s x = x := by
  rw [List.getD_eq_getElem?_getD, List.getElem?_replicate]
  split <;> rfl
/-- A valid gate on a state in normal form. -/
theorem appG_nfN {n : Nat} {g : Gt} {E : Nat} {B : Int} {V : List Zw} (hg : okN n g = true) (hB : 0 ≤ B) (hlim : ((1 + hc g : Nat) : Int) * B ≤ 1073741824) (hE : E + hc g ≤ 60) (hl : V.length = 2 ^ n) (hV : ∀ z ∈ V, bdZ B z) :
    appG g (NV V E) = some (NV (act g V) (E + hc g)) ∧ (∀ z ∈ act g V, bdZ (((1 + hc g : Nat) : Int) * B) z) ∧ (act g V).length = 2 ^ n := by
  have hn := okN_in hg
  have hBM : B ≤ 1073741824 := by
    have : (1 : Int) * B ≤ ((1 + hc g : Nat) : Int) * B := Int.mul_le_mul_of_nonneg_right (by omega) hB
    omega
  obtain ⟨hcn, hgood⟩ := chk_at hg
  obtain ⟨p1, p2, p3⟩ := appL_nf (n := 2 ^ n) hB hlim hE V 0 (List.replicate (2 ^ n) Zw.zero) (List.replicate (2 ^ n) 0) (fun j _ h2 => hgood j (by omega)) hV (by simp) (by simp)
    (fun t => by
      rw [rep_getD, rep_getD]
      unfold bdZ Zw.zero
      simp)
    (fun s => by rw [rep_getD]; omega)
    (by rw [hl]; exact hcn)
  rw [NV_zero] at p1
  have e : act g V = actL g 0 V (List.replicate (2 ^ n) Zw.zero) := by unfold act; rw [hl]
  rw [e]
  refine ⟨?_, fun z hz => ?_, p3⟩
  · unfold appG
    rw [NV_len, hl]
    have h1 : okS (NV V E) = true := by
      unfold okS
      rw [NV_len, hl, cntQ_pow hn.1 hn.2]
      simp only [Bool.and_eq_true, List.all_eq_true, decide_eq_true_eq]
      refine ⟨fun x hx => ?_, by omega⟩
      obtain ⟨z, hz, rfl⟩ := List.mem_map.1 hx
      exact nf_ok (hV z hz) hBM (by omega)
    have h2 : okG g.k g.a g.b g.c (cntQ (2 ^ n) : Nat) = true := by rw [cntQ_pow hn.1 hn.2]; exact hg
    rw [h1, h2]
    simp only [Bool.and_self, if_true]
    exact p1
  · obtain ⟨s, hs⟩ := List.getElem?_of_mem hz
    have := p2 s
    rw [List.getD_eq_getElem?_getD, hs] at this
    exact this

def eN (N i : Nat) : List Zw := (List.replicate N Zw.zero).set i ⟨1, 0, 0, 0⟩
theorem eN_len (N i : Nat) : (eN N i).length = N := by unfold eN; rw [List.length_set, List.length_replicate]
theorem actL_addN {N e : Nat} {g : Gt} (hg : ∀ j, j < N → Good N e (goes g j)) : ∀ (V W : List Zw) (i : Nat) (O P : List Zw), i + V.length ≤ N → V.length = W.length → O.length = P.length → actL g i (addV V W) (addV O P) = addV (actL g i V O) (actL g i W P)
  | [], [], i, O, P, _, _, _ => rfl
  | z :: r, w :: s, i, O, P, hi, h1, h2 => by
    rw [List.length_cons] at hi h1
    rw [List.length_cons] at h1
    show actL g (i + 1) (addV r s) (putsU (addU z w) (goes g i) (addV O P)) = _
    rw [puts_add z w (goes g i) O P (hg i (by omega)) h2, actL_addN hg r s (i + 1) _ _ (by omega) (by omega) (by rw [puts_len, puts_len]; exact h2)]
    rfl
  | [], w :: s, i, O, P, _, h1, _ => by simp at h1
  | z :: r, [], i, O, P, _, h1, _ => by simp at h1
theorem actL_sclN {N e : Nat} {g : Gt} (hg : ∀ j, j < N → Good N e (goes g j)) (c : Zw) : ∀ (V : List Zw) (i : Nat) (O : List Zw), i + V.length ≤ N → actL g i (scl c V) (scl c O) = scl c (actL g i V O)
  | [], i, O, _ => rfl
  | z :: r, i, O, hi => by
    rw [List.length_cons] at hi
    show actL g (i + 1) (scl c r) (putsU (timesZ z c) (goes g i) (scl c O)) = _
    rw [puts_scl z c (goes g i) O (hg i (by omega)), actL_sclN hg c r (i + 1) _ (by omega)]
    rfl
theorem addV_lenN {V W : List Zw} {N : Nat} (h : V.length = N) (h' : W.length = N) : (addV V W).length = N := by unfold addV; rw [List.length_zipWith, h, h', Nat.min_self]
theorem scl_lenN (c : Zw) (V : List Zw) : (scl c V).length = V.length := by unfold scl; rw [List.length_map]
def LinN (N : Nat) (f : List Zw → List Zw) : Prop :=
  (∀ V W, V.length = N → W.length = N → f (addV V W) = addV (f V) (f W)) ∧ (∀ c V, V.length = N → f (scl c V) = scl c (f V)) ∧ ∀ V, V.length = N → (f V).length = N
theorem rep_add (N : Nat) : addV (List.replicate N Zw.zero) (List.replicate N Zw.zero) = List.replicate N Zw.zero := by
  unfold addV
  rw [List.zipWith_replicate, Nat.min_self, zero_add']
theorem rep_scl (c : Zw) (N : Nat) : scl c (List.replicate N Zw.zero) = List.replicate N Zw.zero := by
  unfold scl
  rw [List.map_replicate, times_zero]
theorem act_linN {n : Nat} {g : Gt} (hg : okN n g = true) : LinN (2 ^ n) (act g) := by
  obtain ⟨_, hgood⟩ := chk_at hg
  refine ⟨fun V W h1 h2 => ?_, fun c V h1 => ?_, fun V h1 => ?_⟩
  · unfold act
    rw [addV_lenN h1 h2, h1, h2]
    have := actL_addN hgood V W 0 (List.replicate (2 ^ n) Zw.zero) (List.replicate (2 ^ n) Zw.zero) (by omega) (by omega) rfl
    rw [rep_add] at this
    exact this
  · unfold act
    rw [scl_lenN, h1]
    have := actL_sclN hgood c V 0 (List.replicate (2 ^ n) Zw.zero) (by omega)
    rw [rep_scl] at this
    exact this
  · unfold act
    rw [actL_len, List.length_replicate, h1]
theorem LinN.comp {N : Nat} {f h : List Zw → List Zw} (hf : LinN N f) (hh : LinN N h) : LinN N (fun V => h (f V)) := by
  refine ⟨fun V W h1 h2 => ?_, fun c V h1 => ?_, fun V h1 => hh.2.2 _ (hf.2.2 V h1)⟩
  · simp only
    rw [hf.1 V W h1 h2, hh.1 _ _ (hf.2.2 V h1) (hf.2.2 W h2)]
  · simp only
    rw [hf.2.1 c V h1, hh.2.1 c _ (hf.2.2 V h1)]
theorem linN_id (N : Nat) : LinN N (fun V => V) := ⟨fun _ _ _ _ => rfl, fun _ _ _ => rfl, fun _ h => h⟩
theorem times_swap' (x c d : Zw) : timesZ (timesZ x c) d = timesZ (timesZ x d) c := by
  apply zext <;> simp only [timesZ, Int.sub_mul, Int.add_mul, Int.mul_assoc, Int.mul_comm c.a, Int.mul_comm c.b, Int.mul_comm c.c, Int.mul_comm c.d] <;> omega
theorem linN_scl (N : Nat) {u : Zw} (hu : isU u) : LinN N (scl u) := by
  refine ⟨fun V W h1 h2 => ?_, fun c V h1 => ?_, fun V h1 => by rw [scl_lenN, h1]⟩
  · unfold scl addV
    rw [List.map_zipWith, List.zipWith_map]
    congr 1
    funext x y
    exact timesU_add hu x y
  · unfold scl
    rw [List.map_map, List.map_map]
    congr 1
    funext x
    exact (times_swap hu x c)
/-- The first k places of a state, zeros behind. -/
def part (k : Nat) (V : List Zw) : List Zw := V.take k ++ List.replicate (V.length - k) Zw.zero
theorem part_len (k : Nat) (V : List Zw) : (part k V).length = V.length := by unfold part; rw [List.length_append, List.length_take, List.length_replicate]; omega
theorem part_get {k : Nat} {V : List Zw} {s : Nat} (hs : s < V.length) : (part k V).getD s Zw.zero = if s < k then V.getD s Zw.zero else Zw.zero := by
  unfold part
  rw [List.getD_eq_getElem?_getD, List.getElem?_append, List.length_take, List.getElem?_take, List.getElem?_replicate, List.getD_eq_getElem?_getD]
  by_cases h : s < k
  · rw [if_pos (by omega), if_pos h, if_pos h]
  · rw [if_neg (by omega), if_neg h]
    split <;> rfl
theorem ext_getD {V W : List Zw} (h : V.length = W.length) (he : ∀ s, s < V.length → V.getD s Zw.zero = W.getD s Zw.zero) : V = W := by
  refine List.ext_getElem h fun s s1 s2 => ?_
  have := he s s1
  rw [List.getD_eq_getElem?_getD, List.getD_eq_getElem?_getD, List.getElem?_eq_getElem s1, List.getElem?_eq_getElem s2] at this
  exact this
theorem eN_get {N i s : Nat} (hi : i < N) : (eN N i).getD s Zw.zero = if s = i then ⟨1, 0, 0, 0⟩ else Zw.zero := by
  unfold eN
  rw [getD_set (by rw [List.length_replicate]; exact hi), rep_getD]
theorem part_succ {k : Nat} {V : List Zw} (hk : k < V.length) : part (k + 1) V = addV (part k V) (scl (V.getD k Zw.zero) (eN V.length k)) := by
  refine ext_getD (by rw [part_len, addV_lenN (part_len k V) (by rw [scl_lenN, eN_len])]) fun s hs => ?_
  rw [part_len] at hs
  rw [addV_getD (by rw [part_len, scl_lenN, eN_len]), scl_getD, part_get hs, part_get hs, eN_get hk]
  by_cases h1 : s = k
  · subst h1
    rw [if_pos (by omega), if_neg (by omega), if_pos rfl, one_times, zero_add']
  · rw [if_neg h1, times_zero, add_zero]
    by_cases h2 : s < k
    · rw [if_pos (by omega), if_pos h2]
    · rw [if_neg (by omega), if_neg h2]
/-- Linear maps that agree on the unit vectors agree. -/
theorem linN_ext {N : Nat} {f h : List Zw → List Zw} (hf : LinN N f) (hh : LinN N h) (he : ∀ i, i < N → f (eN N i) = h (eN N i)) {V : List Zw} (hV : V.length = N) : f V = h V := by
  have go : ∀ k, k ≤ N → f (part k V) = h (part k V) := by
    intro k
    induction k with
    | zero =>
      intro _
      have e : part 0 V = scl Zw.zero V := by
        refine ext_getD (by rw [part_len, scl_lenN]) fun s hs => ?_
        rw [part_len] at hs
        rw [part_get hs, if_neg (by omega), scl_getD]
        apply zext <;> simp [timesZ, Zw.zero]
      rw [e, hf.2.1 _ _ hV, hh.2.1 _ _ hV]
      have z : ∀ W W' : List Zw, W.length = W'.length → scl Zw.zero W = scl Zw.zero W' := by
        intro W W' hw
        refine ext_getD (by rw [scl_lenN, scl_lenN, hw]) fun s _ => ?_
        rw [scl_getD, scl_getD]
        apply zext <;> simp [timesZ, Zw.zero]
      exact z _ _ (by rw [hf.2.2 _ hV, hh.2.2 _ hV])
    | succ k ih =>
      intro hk
      rw [part_succ (by omega), hV]
      have l1 : (part k V).length = N := by rw [part_len, hV]
      have l2 : (scl (V.getD k Zw.zero) (eN N k)).length = N := by rw [scl_lenN, eN_len]
      rw [hf.1 _ _ l1 l2, hh.1 _ _ l1 l2, hf.2.1 _ _ (eN_len N k), hh.2.1 _ _ (eN_len N k), ih (by omega), he k (by omega)]
  have e : part N V = V := by unfold part; rw [List.take_of_length_le (by omega), show V.length - N = 0 by omega]; simp
  have := go N (Nat.le_refl _)
  rwa [e] at this
theorem actG_linN {n : Nat} : ∀ (gs : List Gt), (∀ g ∈ gs, okN n g = true) → LinN (2 ^ n) (actG gs)
  | [], _ => linN_id _
  | g :: r, h => (act_linN (h g (by simp))).comp (actG_linN r (fun x hx => h x (by simp [hx])))
theorem appGL_nfN {n : Nat} : ∀ (gs : List Gt) (V : List Zw) (E : Nat) (B : Int), (∀ g ∈ gs, okN n g = true) → 0 ≤ B → ((2 ^ hcs gs : Nat) : Int) * B ≤ 1073741824 → E + hcs gs ≤ 60 → V.length = 2 ^ n → (∀ z ∈ V, bdZ B z) →
    appGL gs (NV V E) = some (NV (actG gs V) (E + hcs gs)) ∧ (∀ z ∈ actG gs V, bdZ 1073741824 z) ∧ (actG gs V).length = 2 ^ n
  | [], V, E, B, _, hB, hM, hE, hl, hV => by
    refine ⟨rfl, fun z hz => bd_mono (hV z hz) ?_, hl⟩
    have : ((2 ^ hcs [] : Nat) : Int) * B = B := by simp [hcs]
    omega
  | g :: r, V, E, B, hg, hB, hM, hE, hl, hV => by
    have e1 : (2 ^ hcs (g :: r) : Nat) = 2 ^ hcs r * (1 + hc g) := by
      show 2 ^ (hc g + hcs r) = _
      rw [Nat.pow_add, hc_pow, Nat.mul_comm]
    have e2 : hcs (g :: r) = hc g + hcs r := rfl
    rw [e1, Int.natCast_mul, Int.mul_assoc] at hM
    have hB2 : 0 ≤ ((1 + hc g : Nat) : Int) * B := Int.mul_nonneg (by omega) hB
    have hM2 : ((1 + hc g : Nat) : Int) * B ≤ 1073741824 := by
      have h1 : (1 : Int) * (((1 + hc g : Nat) : Int) * B) ≤ ((2 ^ hcs r : Nat) : Int) * (((1 + hc g : Nat) : Int) * B) := Int.mul_le_mul_of_nonneg_right (by have := Nat.one_le_two_pow (n := hcs r); omega) hB2
      omega
    obtain ⟨p1, p2, p3⟩ := appG_nfN (E := E) (hg g (by simp)) hB hM2 (by omega) hl hV
    have ih := appGL_nfN r (act g V) (E + hc g) (((1 + hc g : Nat) : Int) * B) (fun x hx => hg x (by simp [hx])) hB2 hM (by omega) p3 p2
    rw [appGL, p1]
    simp only
    rw [e2, show E + (hc g + hcs r) = E + hc g + hcs r by omega]
    exact ih
theorem basis_nfN (n i : Nat) : basis n i = NV (eN (2 ^ n) i) 0 := by
  unfold basis NV eN
  rw [List.map_set, List.map_replicate]
  rfl
theorem eN_bd (N i : Nat) : ∀ z ∈ eN N i, bdZ 1 z := by
  intro z hz
  unfold eN at hz
  rcases List.mem_or_eq_of_mem_set hz with h | h
  · have := List.eq_of_mem_replicate h
    subst this
    unfold bdZ Zw.zero
    simp
  · subst h
    unfold bdZ
    simp
/-- Valid gates, few of them Hadamard gates, on a basis state. -/
theorem appGs_nfN {n : Nat} {gs : List Gt} (hn : 1 ≤ n ∧ n ≤ 4) (hg : ∀ g ∈ gs, okN n g = true) (hh : hcs gs ≤ 30) (i : Nat) : appGs gs (basis n i) = some (NV (actG gs (eN (2 ^ n) i)) (hcs gs)) ∧ okS (NV (actG gs (eN (2 ^ n) i)) (hcs gs)) = true ∧ (actG gs (eN (2 ^ n) i)).length = 2 ^ n ∧ ∀ z ∈ actG gs (eN (2 ^ n) i), bdZ 1073741824 z := by
  have hp : (2 ^ hcs gs : Nat) ≤ 2 ^ 30 := Nat.pow_le_pow_right (by omega) hh
  have hp2 : ((2 ^ hcs gs : Nat) : Int) * 1 ≤ 1073741824 := by
    have : ((2 ^ hcs gs : Nat) : Int) ≤ ((2 ^ 30 : Nat) : Int) := Int.ofNat_le.2 hp
    simpa using this
  obtain ⟨p1, p2, p3⟩ := appGL_nfN gs (eN (2 ^ n) i) 0 1 hg (by omega) hp2 (by omega) (eN_len _ i) (eN_bd _ i)
  rw [Nat.zero_add] at p1
  have ok0 : okS (NV (eN (2 ^ n) i) 0) = true := by
    unfold okS
    rw [NV_len, eN_len, cntQ_pow hn.1 hn.2]
    simp only [Bool.and_eq_true, List.all_eq_true, decide_eq_true_eq]
    refine ⟨fun x hx => ?_, by omega⟩
    obtain ⟨z, hz, rfl⟩ := List.mem_map.1 hx
    exact nf_ok (eN_bd _ i z hz) (by omega) (by omega)
  have ok1 : okS (NV (actG gs (eN (2 ^ n) i)) (hcs gs)) = true := by
    unfold okS
    rw [NV_len, p3, cntQ_pow hn.1 hn.2]
    simp only [Bool.and_eq_true, List.all_eq_true, decide_eq_true_eq]
    refine ⟨fun x hx => ?_, by omega⟩
    obtain ⟨z, hz, rfl⟩ := List.mem_map.1 hx
    exact nf_ok (p2 z hz) (by omega) (by omega)
  refine ⟨?_, ok1, p3, p2⟩
  unfold appGs
  rw [basis_nfN, ok0, if_pos rfl]
  exact p1
theorem scl_scl {u v : Zw} (V : List Zw) (h : ∀ z, timesZ (timesZ z u) v = timesZ z (timesZ u v)) : scl v (scl u V) = scl (timesZ u v) V := by
  unfold scl
  rw [List.map_map]
  congr 1
  funext z
  exact h z
theorem ph_isU (k : Nat) : isU (phZ k) := ph_cases k
theorem ph_times (z : Zw) (j k : Nat) : timesZ (timesZ z (phZ j)) (phZ k) = timesZ z (phZ (j + k)) := by
  have e : ∀ j : Nat, phZ j = phZ (j % 8) := fun j => by unfold phZ; rw [Nat.mod_mod]
  rw [e (j + k), Nat.add_mod, e j, e k]
  have hj : j % 8 < 8 := Nat.mod_lt _ (by omega)
  have hk : k % 8 < 8 := Nat.mod_lt _ (by omega)
  generalize j % 8 = a at hj ⊢
  generalize k % 8 = b at hk ⊢
  obtain h | h | h | h | h | h | h | h : a = 0 ∨ a = 1 ∨ a = 2 ∨ a = 3 ∨ a = 4 ∨ a = 5 ∨ a = 6 ∨ a = 7 := by omega
  all_goals subst h
  all_goals obtain h | h | h | h | h | h | h | h : b = 0 ∨ b = 1 ∨ b = 2 ∨ b = 3 ∨ b = 4 ∨ b = 5 ∨ b = 6 ∨ b = 7 := by omega
  all_goals subst h
  all_goals apply zext <;> simp [timesZ, phZ]
theorem scl_ph (j k : Nat) (V : List Zw) : scl (phZ k) (scl (phZ j) V) = scl (phZ (j + k)) V := by
  unfold scl
  rw [List.map_map]
  congr 1
  funext z
  exact ph_times z j k
theorem scl_0 (V : List Zw) : scl (phZ 0) V = V := by
  unfold scl
  have : (fun x => timesZ x (phZ 0)) = fun x : Zw => x := by
    funext x
    apply zext <;> simp [timesZ, phZ]
  rw [this, List.map_id']
theorem actL_zero (g : Gt) : ∀ (k i : Nat) (O : List Zw), actL g i (List.replicate k Zw.zero) O = O
  | 0, i, O => rfl
  | k + 1, i, O => by rw [List.replicate_succ, actL, puts_zero, actL_zero g k]
theorem actL_app (g : Gt) : ∀ (V W : List Zw) (i : Nat) (O : List Zw), actL g i (V ++ W) O = actL g (i + V.length) W (actL g i V O)
  | [], W, i, O => rfl
  | z :: r, W, i, O => by
    rw [List.cons_append, actL, actL_app g r W, List.length_cons, show i + 1 + r.length = i + (r.length + 1) by omega]
    rfl
/-- A gate that sends a basis state to one alone. -/
theorem act_unit {N : Nat} {g : Gt} {i j k : Nat} (hi : i < N) (hj : j < N) (h : goes g i = [(j, phD k)]) : act g (eN N i) = scl (phZ k) (eN N j) := by
  have e : eN N i = List.replicate i Zw.zero ++ ⟨1, 0, 0, 0⟩ :: List.replicate (N - i - 1) Zw.zero := by
    refine List.ext_getElem? fun s => ?_
    unfold eN
    rw [List.getElem?_set, List.length_replicate, List.getElem?_append, List.length_replicate, List.getElem?_replicate, List.getElem?_replicate, List.getElem?_cons, List.getElem?_replicate]
    by_cases h1 : i = s
    · subst h1
      rw [if_pos rfl, if_pos hi, if_neg (by omega), if_pos (by omega)]
    · rw [if_neg h1]
      by_cases h2 : s < i
      · rw [if_pos (by omega), if_pos h2, if_pos h2]
      · by_cases h3 : s < N
        · rw [if_pos h3, if_neg h2, if_neg (show ¬ s - i = 0 by omega), if_pos (by omega)]
        · rw [if_neg h3, if_neg h2, if_neg (show ¬ s - i = 0 by omega), if_neg (by omega)]
  unfold act
  rw [eN_len, e, actL_app, actL_zero, List.length_replicate, Nat.zero_add, actL, h, actL_zero]
  show putU _ _ _ = _
  unfold putU
  rw [rep_getD, zero_add']
  show (List.replicate N Zw.zero).set j (timesZ ⟨1, 0, 0, 0⟩ (phZ k)) = _
  rw [one_times]
  unfold scl eN
  rw [List.map_set, List.map_replicate, times_zero, one_times]
end Go.Proofs.Ytibhikngiceeeaa
