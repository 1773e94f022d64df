/- Plain: how gates act is linear; maps that agree on the unit vectors agree. Nothing is asked. -/
import Derived.Test.YtgnallcfahpjmaaRDomM
namespace Go.Proofs.YtgnallcfahpjmaaR
set_option linter.unusedVariables false

def addV (V W : List Zw) : List Zw := List.zipWith addU V W
def scl (c : Zw) (V : List Zw) : List Zw := V.map fun x => timesZ x c
def eU (i : Nat) : List Zw := (List.replicate 8 Zw.zero).set i ⟨1, 0, 0, 0⟩
theorem times_rt (z c : Zw) : timesZ (rt z) c = rt (timesZ z c) := by
  apply zext <;> simp only [timesZ, rt, Int.sub_mul, Int.add_mul] <;> omega
theorem times_add (x y c : Zw) : timesZ (addU x y) c = addU (timesZ x c) (timesZ y c) := by
  apply zext <;> simp only [timesZ, addU, Int.add_mul] <;> omega
theorem times_rtN (c : Zw) : ∀ (k : Nat) (z : Zw), timesZ (rtN k z) c = rtN k (timesZ z c)
  | 0, z => rfl
  | k + 1, z => by rw [rtN, times_rt, times_rtN c k z]; rfl
theorem times_swap {u : Zw} (hu : isU u) (z c : Zw) : timesZ (timesZ z c) u = timesZ (timesZ z u) c := by
  rcases hu with h | h | h | h | h | h | h | h <;> subst h <;> apply zext <;> simp [timesZ, Int.neg_mul] <;> omega
theorem add_swap (a b c d : Zw) : addU (addU a b) (addU c d) = addU (addU a c) (addU b d) := by
  apply zext <;> simp only [addU] <;> omega
theorem zero_add' (x : Zw) : addU Zw.zero x = x := by apply zext <;> simp [addU, Zw.zero]
theorem one_times (c : Zw) : timesZ ⟨1, 0, 0, 0⟩ c = c := by apply zext <;> simp [timesZ]
theorem addV_len {V W : List Zw} (h : V.length = 8) (h' : W.length = 8) : (addV V W).length = 8 := by unfold addV; rw [List.length_zipWith, h, h']; rfl
theorem scl_len {c : Zw} {V : List Zw} (h : V.length = 8) : (scl c V).length = 8 := by unfold scl; rw [List.length_map, h]
theorem addV_getD {V W : List Zw} (h : V.length = W.length) (t : Nat) : (addV V W).getD t Zw.zero = addU (V.getD t Zw.zero) (W.getD t Zw.zero) := by
  unfold addV
  rw [List.getD_eq_getElem?_getD, List.getD_eq_getElem?_getD, List.getD_eq_getElem?_getD, List.getElem?_zipWith]
  rcases Nat.lt_or_ge t V.length with ht | ht
  · rw [List.getElem?_eq_getElem ht, List.getElem?_eq_getElem (by omega)]
    rfl
  · rw [List.getElem?_eq_none ht, List.getElem?_eq_none (by omega)]
    rfl
theorem scl_getD {c : Zw} {V : List Zw} (t : Nat) : (scl c V).getD t Zw.zero = timesZ (V.getD t Zw.zero) c := by
  unfold scl
  rw [List.getD_eq_getElem?_getD, List.getD_eq_getElem?_getD, List.getElem?_map]
  rcases Nat.lt_or_ge t V.length with ht | ht
  · rw [List.getElem?_eq_getElem ht]
    rfl
  · rw [List.getElem?_eq_none ht]
    exact (times_zero c).symm
theorem addV_set {V W : List Zw} {t : Nat} {x y : Zw} (h : V.length = W.length) : addV (V.set t x) (W.set t y) = (addV V W).set t (addU x y) := by
  unfold addV
  refine List.ext_getElem? fun s => ?_
  rw [List.getElem?_zipWith, List.getElem?_set, List.getElem?_set, List.getElem?_set, List.getElem?_zipWith, List.length_zipWith]
  by_cases hs : t = s
  · subst hs
    rcases Nat.lt_or_ge t V.length with ht | ht
    · rw [if_pos rfl, if_pos rfl, if_pos rfl, if_pos ht, if_pos (by omega), if_pos (by omega)]
    · rw [if_pos rfl, if_pos rfl, if_pos rfl, if_neg (by omega), if_neg (by omega), if_neg (by omega)]
  · rw [if_neg hs, if_neg hs, if_neg hs]
theorem scl_set {c : Zw} {V : List Zw} {t : Nat} {x : Zw} : scl c (V.set t x) = (scl c V).set t (timesZ x c) := by unfold scl; rw [List.map_set]
theorem puts_len (z : Zw) : ∀ (l : List (Nat × Dw)) (O : List Zw), (putsU z l O).length = O.length
  | [], O => rfl
  | t :: r, O => by rw [putsU, puts_len z r]; unfold putU; rw [List.length_set]
theorem puts_add {n e : Nat} (z w : Zw) : ∀ (l : List (Nat × Dw)) (O P : List Zw), Good n e l → O.length = P.length → putsU (addU z w) l (addV O P) = addV (putsU z l O) (putsU w l P)
  | [], O, P, _, _ => rfl
  | t :: r, O, P, hg, h => by
    have hu := (hg t (by simp)).1
    rw [putsU, putsU, putsU]
    have e1 : putU (addU z w) (addV O P) t = addV (putU z O t) (putU w P t) := by
      unfold putU
      rw [addV_set h, addV_getD h, timesU_add hu, add_swap]
    rw [e1]
    exact puts_add z w r _ _ (fun x hx => hg x (by simp [hx])) (by unfold putU; rw [List.length_set, List.length_set]; exact h)
theorem puts_scl {n e : Nat} (z c : Zw) : ∀ (l : List (Nat × Dw)) (O : List Zw), Good n e l → putsU (timesZ z c) l (scl c O) = scl c (putsU z l O)
  | [], O, _ => rfl
  | t :: r, O, hg => by
    have hu := (hg t (by simp)).1
    rw [putsU, putsU]
    have e1 : putU (timesZ z c) (scl c O) t = scl c (putU z O t) := by
      unfold putU
      rw [scl_set, scl_getD, times_add, times_swap hu]
    rw [e1]
    exact puts_scl z c r _ (fun x hx => hg x (by simp [hx]))
theorem actL_len (g : Gt) : ∀ (V : List Zw) (i : Nat) (O : List Zw), (actL g i V O).length = O.length
  | [], i, O => rfl
  | z :: r, i, O => by rw [actL, actL_len g r, puts_len]
theorem actL_add {g : Gt} (hg : ok3 g = true) : ∀ (V W : List Zw) (i : Nat) (O P : List Zw), i + V.length ≤ 8 → V.length = W.length → O.length = P.length → actL g i (addV V W) (addV O P) = addV (actL g i V O) (actL g i W P)
  | [], [], i, O, P, _, _, _ => rfl
  | z :: r, w :: s, i, O, P, hi, h1, h2 => by
    rw [List.length_cons] at hi h1
    rw [List.length_cons] at h1
    show actL g (i + 1) (addV r s) (putsU (addU z w) (goes g i) (addV O P)) = _
    rw [puts_add z w (goes g i) O P (good3 hg (by omega)) h2, actL_add hg r s (i + 1) _ _ (by omega) (by omega) (by rw [puts_len, puts_len]; exact h2)]
    rfl
  | [], w :: s, i, O, P, _, h1, _ => by simp at h1
  | z :: r, [], i, O, P, _, h1, _ => by simp at h1
theorem actL_scl {g : Gt} (hg : ok3 g = true) (c : Zw) : ∀ (V : List Zw) (i : Nat) (O : List Zw), i + V.length ≤ 8 → actL g i (scl c V) (scl c O) = scl c (actL g i V O)
  | [], i, O, _ => rfl
  | z :: r, i, O, hi => by
    rw [List.length_cons] at hi
    show actL g (i + 1) (scl c r) (putsU (timesZ z c) (goes g i) (scl c O)) = _
    rw [puts_scl z c (goes g i) O (good3 hg (by omega)), actL_scl hg c r (i + 1) _ (by omega)]
    rfl
/-- A linear map on states of eight. -/
def Lin (f : List Zw → List Zw) : Prop :=
  (∀ V W, V.length = 8 → W.length = 8 → f (addV V W) = addV (f V) (f W)) ∧ (∀ c V, V.length = 8 → f (scl c V) = scl c (f V)) ∧ ∀ V, V.length = 8 → (f V).length = 8
theorem act_lin {g : Gt} (hg : ok3 g = true) : Lin (act g) := by
  refine ⟨fun V W h1 h2 => ?_, fun c V h1 => ?_, fun V h1 => ?_⟩
  · unfold act
    rw [addV_len h1 h2, h1, h2]
    have e : List.replicate 8 Zw.zero = addV (List.replicate 8 Zw.zero) (List.replicate 8 Zw.zero) := by decide
    rw [e, actL_add hg V W 0 _ _ (by omega) (by omega) rfl, ← e]
  · unfold act
    rw [scl_len h1, h1]
    have e : List.replicate 8 Zw.zero = scl c (List.replicate 8 Zw.zero) := by
      unfold scl
      rw [List.map_replicate, times_zero]
    have := actL_scl hg c V 0 (List.replicate 8 Zw.zero) (by omega)
    rw [← e] at this
    exact this
  · unfold act
    rw [actL_len, List.length_replicate, h1]
theorem Lin.comp {f h : List Zw → List Zw} (hf : Lin f) (hh : Lin h) : Lin (fun V => h (f V)) := by
  refine ⟨fun V W h1 h2 => ?_, fun c V h1 => ?_, fun V h1 => hh.2.2 _ (hf.2.2 V h1)⟩
  · simp only
    rw [hf.1 V W h1 h2, hh.1 _ _ (hf.2.2 V h1) (hf.2.2 W h2)]
  · simp only
    rw [hf.2.1 c V h1, hh.2.1 c _ (hf.2.2 V h1)]
theorem lin_id : Lin (fun V => V) := ⟨fun _ _ _ _ => rfl, fun _ _ _ => rfl, fun _ h => h⟩
theorem lin_rtN (k : Nat) : Lin (fun V => V.map (rtN k)) := by
  refine ⟨fun V W h1 h2 => ?_, fun c V h1 => ?_, fun V h1 => by rw [List.length_map, h1]⟩
  · unfold addV
    dsimp only
    rw [List.map_zipWith, List.zipWith_map]
    congr 1
    funext x y
    exact rtN_sum k x y
  · unfold scl
    dsimp only
    rw [List.map_map, List.map_map]
    congr 1
    funext x
    exact (times_rtN c k x).symm
def dec (a b c d e f g h : Zw) : List Zw := addV (scl a (eU 0)) (addV (scl b (eU 1)) (addV (scl c (eU 2)) (addV (scl d (eU 3)) (addV (scl e (eU 4)) (addV (scl f (eU 5)) (addV (scl g (eU 6)) (scl h (eU 7))))))))
theorem dec_eq (a b c d e f g h : Zw) : dec a b c d e f g h = [a, b, c, d, e, f, g, h] := by
  simp [dec, scl, eU, addV, List.replicate, times_zero, one_times, zero_add', add_zero]
theorem eU_len (i : Nat) : (eU i).length = 8 := by unfold eU; rw [List.length_set, List.length_replicate]
theorem lin_dec {f : List Zw → List Zw} (hf : Lin f) (a b c d e g h k : Zw) : f (dec a b c d e g h k) = addV (scl a (f (eU 0))) (addV (scl b (f (eU 1))) (addV (scl c (f (eU 2))) (addV (scl d (f (eU 3))) (addV (scl e (f (eU 4))) (addV (scl g (f (eU 5))) (addV (scl h (f (eU 6))) (scl k (f (eU 7))))))))) := by
  have s := fun x i => scl_len (c := x) (eU_len i)
  have q := fun x i => hf.2.1 x (eU i) (eU_len i)
  unfold dec
  rw [hf.1 _ _ (s _ _) (addV_len (s _ _) (addV_len (s _ _) (addV_len (s _ _) (addV_len (s _ _) (addV_len (s _ _) (addV_len (s _ _) (s _ _))))))), hf.1 _ _ (s _ _) (addV_len (s _ _) (addV_len (s _ _) (addV_len (s _ _) (addV_len (s _ _) (addV_len (s _ _) (s _ _)))))), hf.1 _ _ (s _ _) (addV_len (s _ _) (addV_len (s _ _) (addV_len (s _ _) (addV_len (s _ _) (s _ _))))), hf.1 _ _ (s _ _) (addV_len (s _ _) (addV_len (s _ _) (addV_len (s _ _) (s _ _)))), hf.1 _ _ (s _ _) (addV_len (s _ _) (addV_len (s _ _) (s _ _))), hf.1 _ _ (s _ _) (addV_len (s _ _) (s _ _)), hf.1 _ _ (s _ _) (s _ _)]
  rw [q, q, q, q, q, q, q, q]
/-- Linear maps that agree on the unit vectors agree. -/
theorem lin_ext {f h : List Zw → List Zw} (hf : Lin f) (hh : Lin h) (he : ∀ i, i < 8 → f (eU i) = h (eU i)) {V : List Zw} (hV : V.length = 8) : f V = h V := by
  match V, hV with
  | [a, b, c, d, e, g, k, l], _ =>
    rw [← dec_eq a b c d e g k l, lin_dec hf, lin_dec hh, he 0 (by omega), he 1 (by omega), he 2 (by omega), he 3 (by omega), he 4 (by omega), he 5 (by omega), he 6 (by omega), he 7 (by omega)]
end Go.Proofs.YtgnallcfahpjmaaR
