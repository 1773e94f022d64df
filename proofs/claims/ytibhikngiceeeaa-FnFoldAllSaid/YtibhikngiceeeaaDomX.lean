/- Plain: lists of valid gates whose linear maps are a power of omega apart are so for the program, too. Nothing else is asked. -/
import Derived.Test.YtibhikngiceeeaaDomP
import Derived.Test.YtibhikngiceeeaaStP
namespace Go.Proofs.Ytibhikngiceeeaa
set_option linter.unusedVariables false

def invG (g : Gt) : Gt := ⟨if g.k = 5 then 6 else if g.k = 6 then 5 else if g.k = 7 then 8 else if g.k = 8 then 7 else g.k, g.a, g.b, g.c⟩
def chkVg (n : Nat) (g : Gt) : Bool := okN n (invG g) && (List.range (2 ^ n)).all fun i => decide (act (invG g) (act g (eN (2 ^ n) i)) = (eN (2 ^ n) i).map (rtN (2 * hc g)))
def chkV (n : Nat) : Bool := (gatesN n).all (chkVg n)
theorem chkV1 : chkV 1 = true := by decide +kernel
theorem chkV2 : chkV 2 = true := by decide +kernel
theorem chkV3 : chkV 3 = true := by decide +kernel
theorem chkV4a : ((gatesN 4).take 16).all (chkVg 4) = true := by decide +kernel
theorem chkV4b : (((gatesN 4).drop 16).take 16).all (chkVg 4) = true := by decide +kernel
theorem chkV4c : (((gatesN 4).drop 32).take 16).all (chkVg 4) = true := by decide +kernel
theorem chkV4d : (((gatesN 4).drop 48).take 16).all (chkVg 4) = true := by decide +kernel
theorem chkV4e : (((gatesN 4).drop 64).take 16).all (chkVg 4) = true := by decide +kernel
theorem chkV4f : ((gatesN 4).drop 80).all (chkVg 4) = true := by decide +kernel
theorem all_part {α : Type} {l : List α} {p : α → Bool} {k : Nat} (h : (l.take k).all p = true) (h' : (l.drop k).all p = true) : l.all p = true := by
  rw [← List.take_append_drop k l, List.all_append, h, h']
  rfl
theorem chkV4 : chkV 4 = true := by
  refine all_part chkV4a ?_
  refine all_part chkV4b ?_
  rw [List.drop_drop]
  refine all_part chkV4c ?_
  rw [List.drop_drop]
  refine all_part chkV4d ?_
  rw [List.drop_drop]
  refine all_part chkV4e ?_
  rw [List.drop_drop]
  exact chkV4f
theorem chkV_all {n : Nat} (h : 1 ≤ n ∧ n ≤ 4) : chkV n = true := by
  obtain rfl | rfl | rfl | rfl : n = 1 ∨ n = 2 ∨ n = 3 ∨ n = 4 := by omega
  · exact chkV1
  · exact chkV2
  · exact chkV3
  · exact chkV4
theorem linN_rtN (N k : Nat) : LinN N (fun V => V.map (rtN k)) := by
  refine ⟨fun V W h1 h2 => ?_, fun c V h1 => ?_, fun V h1 => by rw [List.length_map, h1]⟩
  · unfold addV
    dsimp only
    rw [List.map_zipWith, List.zipWith_map]
    congr 1
    funext x y
    exact rtN_sum k x y
  · unfold scl
    dsimp only
    rw [List.map_map, List.map_map]
    congr 1
    funext x
    exact (times_rtN c k x).symm
theorem inv_act {n : Nat} {g : Gt} (hg : okN n g = true) {V : List Zw} (hV : V.length = 2 ^ n) : act (invG g) (act g V) = V.map (rtN (2 * hc g)) := by
  have h := List.all_eq_true.1 (chkV_all (okN_in hg)) g (okN_mem hg)
  unfold chkVg at h
  simp only [Bool.and_eq_true] at h
  refine linN_ext (f := fun V => act (invG g) (act g V)) ((act_linN hg).comp (act_linN h.1)) (linN_rtN _ _) (fun i hi => ?_) hV
  have := List.all_eq_true.1 h.2 i (List.mem_range.2 hi)
  simpa using this
def isZ (V : List Zw) : Prop := ∀ z ∈ V, z = Zw.zero
theorem isZ_eq {V : List Zw} (h : isZ V) : V = List.replicate V.length Zw.zero := List.eq_replicate_iff.2 ⟨rfl, h⟩
theorem rtN_zero (k : Nat) (z : Zw) (h : rtN k z = Zw.zero) : z = Zw.zero := by
  induction k with
  | zero => exact h
  | succ k ih => exact ih (rt_inj (show rt (rtN k z) = rt Zw.zero by rw [show rt Zw.zero = Zw.zero by decide]; exact h))
theorem act_isZ {n : Nat} {g : Gt} (hg : okN n g = true) {V : List Zw} (hV : V.length = 2 ^ n) (h : isZ (act g V)) : isZ V := by
  have e := inv_act hg hV
  have h2 := List.all_eq_true.1 (chkV_all (okN_in hg)) g (okN_mem hg)
  unfold chkVg at h2
  simp only [Bool.and_eq_true] at h2
  rw [isZ_eq h, (act_linN hg).2.2 V hV] at e
  have l := act_linN h2.1
  have z0 : act (invG g) (List.replicate (2 ^ n) Zw.zero) = List.replicate (2 ^ n) Zw.zero := by
    have := l.2.1 Zw.zero (List.replicate (2 ^ n) Zw.zero) (by rw [List.length_replicate])
    rw [rep_scl] at this
    rw [this]
    refine (List.eq_replicate_iff.2 ⟨?_, fun z hz => ?_⟩)
    · rw [scl_lenN, l.2.2 _ (by rw [List.length_replicate])]
    · unfold scl at hz
      obtain ⟨x, _, rfl⟩ := List.mem_map.1 hz
      apply zext <;> simp [timesZ, Zw.zero]
  rw [z0] at e
  intro z hz
  have : rtN (2 * hc g) z ∈ V.map (rtN (2 * hc g)) := List.mem_map.2 ⟨z, hz, rfl⟩
  rw [← e] at this
  exact rtN_zero _ _ (List.eq_of_mem_replicate this)
theorem actG_isZ {n : Nat} : ∀ (gs : List Gt) (V : List Zw), (∀ g ∈ gs, okN n g = true) → V.length = 2 ^ n → isZ (actG gs V) → isZ V
  | [], V, _, _, h => h
  | g :: r, V, hg, hV, h => by
    have l := (act_linN (hg g (by simp))).2.2 V hV
    exact act_isZ (hg g (by simp)) hV (actG_isZ r (act g V) (fun x hx => hg x (by simp [hx])) l h)
theorem ph_apart {j k : Nat} (hj : j < 8) (hk : k < 8) (hne : j ≠ k) {z : Zw} (h : timesZ z (phZ j) = timesZ z (phZ k)) : z = Zw.zero := by
  obtain ⟨a, b, c, d⟩ := z
  obtain e | e | e | e | e | e | e | e : j = 0 ∨ j = 1 ∨ j = 2 ∨ j = 3 ∨ j = 4 ∨ j = 5 ∨ j = 6 ∨ j = 7 := by omega
  all_goals subst e
  all_goals obtain e | e | e | e | e | e | e | e : k = 0 ∨ k = 1 ∨ k = 2 ∨ k = 3 ∨ k = 4 ∨ k = 5 ∨ k = 6 ∨ k = 7 := by omega
  all_goals subst e
  all_goals first
    | exact absurd rfl hne
    | (simp only [timesZ, phZ, Nat.reduceMod, Zw.mk.injEq, Int.mul_zero, Int.mul_one, Int.mul_neg, Int.sub_zero, Int.zero_sub, Int.zero_add, Int.add_zero, Int.sub_neg] at h
       apply zext <;> simp only [Zw.zero] <;> omega)
theorem phD_eq (k : Nat) : phD k = ⟨phZ k, ((0 : Nat) : Int)⟩ := rfl
theorem mul_ph {z : Zw} {E : Nat} (hE : E ≤ 60) (hz : bdZ 1073741824 z) (k : Nat) : mulD (nf z E) (phD k) = some (nf (timesZ z (phZ k)) E) := by
  rw [phD_eq]
  exact mulD_nf (Int.le_refl _) (ph_isU k) (by omega) (by omega) hz
theorem sc_NV {V : List Zw} {E : Nat} (hE : E ≤ 60) (hV : ∀ z ∈ V, bdZ 1073741824 z) (k : Nat) : sc k (NV V E) = NV (scl (phZ k) V) E := by
  unfold sc NV scl
  rw [List.map_map, List.map_map]
  refine List.map_congr_left fun z hz => ?_
  show (mulD (nf z E) (phD k)).getD Dw.zero = nf (timesZ z (phZ k)) E
  rw [mul_ph hE (hV z hz)]
  rfl
theorem NV_inj {V W : List Zw} {E : Nat} (h : NV V E = NV W E) : V = W := by
  have hl : V.length = W.length := by have := congrArg List.length h; rwa [NV_len, NV_len] at this
  refine List.ext_getElem hl fun s s1 s2 => ?_
  have := congrArg (fun l => l[s]?) h
  unfold NV at this
  simp only [List.getElem?_map, List.getElem?_eq_getElem s1, List.getElem?_eq_getElem s2, Option.map_some, Option.some.injEq] at this
  exact nf_inj this
theorem apart_of {n : Nat} {a b : List Gt} {k0 : Nat} (hn : 1 ≤ n ∧ n ≤ 4) (ha : ∀ g ∈ a, okN n g = true) (hb : ∀ g ∈ b, okN n g = true) (h30 : hcs a ≤ 30) (hh : hcs b = hcs a) (hk : k0 < 8) (h : ∀ V, V.length = 2 ^ n → actG a V = scl (phZ k0) (actG b V)) :
    ApartC a b n k0 (fun i => NV (actG a (eN (2 ^ n) i)) (hcs a)) (fun i => NV (actG b (eN (2 ^ n) i)) (hcs b)) := by
  refine ⟨fun i _ => ?_, hk, fun j _ i _ v hv => ?_, fun i _ => ?_, fun j hj => ?_⟩
  · obtain ⟨p1, p2, p3, p4⟩ := appGs_nfN hn ha h30 i
    obtain ⟨q1, q2, q3, q4⟩ := appGs_nfN hn hb (by omega) i
    simp only [okS, Bool.and_eq_true, List.all_eq_true] at p2 q2
    exact ⟨p1, q1, by rw [NV_len, p3], by rw [NV_len, q3], p2.1, q2.1⟩
  · obtain ⟨_, _, _, q4⟩ := appGs_nfN hn hb (by omega) i
    obtain ⟨z, hz, rfl⟩ := List.mem_map.1 hv
    rw [mul_ph (by omega) (q4 z hz)]
    rfl
  · obtain ⟨_, _, _, q4⟩ := appGs_nfN hn hb (by omega) i
    show NV _ _ = sc k0 (NV _ _)
    rw [sc_NV (by omega) q4, h _ (eN_len _ _), hh]
  · refine ⟨0, Nat.pow_pos (by omega), fun e => ?_⟩
    obtain ⟨_, _, _, q4⟩ := appGs_nfN hn hb (by omega) 0
    have e' : NV (actG a (eN (2 ^ n) 0)) (hcs a) = sc j (NV (actG b (eN (2 ^ n) 0)) (hcs b)) := e
    rw [sc_NV (by omega) q4, h _ (eN_len _ _), hh] at e'
    have e2 := NV_inj e'
    have hz : isZ (actG b (eN (2 ^ n) 0)) := by
      intro z hz
      unfold scl at e2
      exact ph_apart (by omega) hk (by omega) (List.map_inj_left.1 e2 z hz).symm
    have := actG_isZ b _ hb (eN_len _ _) hz ⟨1, 0, 0, 0⟩ (by
      unfold eN
      refine List.mem_iff_getElem.2 ⟨0, by rw [List.length_set, List.length_replicate]; exact Nat.pow_pos (by omega), ?_⟩
      rw [List.getElem_set_self])
    exact absurd this (by decide)
end Go.Proofs.Ytibhikngiceeeaa
