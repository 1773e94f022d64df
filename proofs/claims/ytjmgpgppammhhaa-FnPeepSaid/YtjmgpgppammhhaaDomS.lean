/- Plain: the whole peephole optimisation keeps the operation, stops at a fixed point, and does not raise the number of T gates. Nothing else is asked. -/
import Derived.Test.YtjmgpgppammhhaaDomQ
import Derived.Test.YtjmgpgppammhhaaPeepL
import Derived.Test.YtjmgpgppammhhaaSwapCount
namespace Go.Proofs.Ytjmgpgppammhhaa
set_option linter.unusedVariables false

theorem stepOk_parts {l : List Gt} (h : stepOk l = true) : ∃ i k, findStep l 0 = some (i, k) ∧ stepL l = outOf l i k := by
  unfold stepOk at h
  unfold stepL
  cases hf : findStep l 0 with
  | none => rw [hf] at h; cases h
  | some x => exact ⟨x.1, x.2, rfl, rfl⟩
theorem peepN_rl : ∀ (m : Nat) (l : List Gt), (∀ g ∈ l, ok3 g = true) → (∀ g ∈ peepN m l, ok3 g = true) ∧ ∃ d, Rl d l (peepN m l)
  | 0, l, h => ⟨h, 0, Rl.refl l⟩
  | m + 1, l, h => by
    unfold peepN
    split
    · rename_i hs
      obtain ⟨i, k, hf, he⟩ := stepOk_parts hs
      obtain ⟨v, d, r⟩ := step_rl h hf
      rw [← he] at v r
      obtain ⟨v2, d2, r2⟩ := peepN_rl m (stepL l) v
      exact ⟨v2, d + d2, r.trans r2⟩
    · exact ⟨h, 0, Rl.refl l⟩
theorem peepN_stop : ∀ (m : Nat) (l : List Gt), l.length ≤ m → stepOk (peepN m l) = false
  | 0, l, h => by
    have : l = [] := List.eq_nil_of_length_eq_zero (by omega)
    subst this
    rfl
  | m + 1, l, h => by
    unfold peepN
    split
    · rename_i hs
      have := step_len hs
      exact peepN_stop m (stepL l) (by omega)
    · rename_i hs
      simpa using hs
theorem peep_same {l : List Gt} (h : ∀ g ∈ l, ok3 g = true) (h30 : hcs l ≤ 30) : sameAll l (peepL l) 3 = true := by
  obtain ⟨v, d, r⟩ := peepN_rl l.length l h
  exact same_of_Rl h v h30 r
theorem peep_stop (l : List Gt) : stepOk (peepL l) = false := peepN_stop l.length l (Nat.le_refl _)

/-- The number of T gates and their inverses. -/
def tN (gs : List Gt) : Int := cnt 7 gs + cnt 8 gs
theorem cnt_app' (k : Int) (a b : List Gt) : cnt k (a ++ b) = cnt k a + cnt k b := by
  induction a with
  | nil => simp [cnt]
  | cons g r ih =>
    show (if g.k == k then 1 else 0) + cnt k (r ++ b) = (if g.k == k then 1 else 0) + cnt k r + cnt k b
    rw [ih]
    omega
theorem tN_app (a b : List Gt) : tN (a ++ b) = tN a + tN b := by unfold tN; rw [cnt_app', cnt_app']; omega
theorem tN_cons (g : Gt) (b : List Gt) : tN (g :: b) = tN [g] + tN b := tN_app [g] b
theorem tN_bd (a : List Gt) : 0 ≤ tN a := by
  have h1 := cnt_bd 7 a
  have h2 := cnt_bd 8 a
  unfold tN
  omega
theorem tN_merge {g h : Gt} (hm : mergeOk g h = true) : tN (mergeL g h) ≤ tN [g] + tN [h] := by
  have n1 := tN_bd [g]
  have n2 := tN_bd [h]
  have e0 : tN [] = 0 := rfl
  unfold mergeL
  split
  · omega
  · split
    · rename_i h1
      unfold rotOne rotB at h1
      simp only [Bool.and_eq_true, decide_eq_true_eq] at h1
      obtain ⟨⟨⟨u1, u2⟩, _⟩, h3⟩ := h1
      clear n1 n2 hm
      obtain ⟨gk, ga, gb, gc⟩ := g
      obtain ⟨hk, ha, hb, hc⟩ := h
      simp only [sumU] at u1 u2 h3 ⊢
      rcases units_cases gk with ⟨rfl, u⟩ | ⟨rfl, u⟩ | ⟨rfl, u⟩ | ⟨rfl, u⟩ | ⟨rfl, u⟩ | ⟨_, _, _, _, _, u⟩ <;>
      rcases units_cases hk with ⟨rfl, v⟩ | ⟨rfl, v⟩ | ⟨rfl, v⟩ | ⟨rfl, v⟩ | ⟨rfl, v⟩ | ⟨_, _, _, _, _, v⟩
      all_goals simp only [u, v] at u1 u2 h3 ⊢
      all_goals first
        | (exfalso; omega)
        | (simp [rotG, rotK, kindG, tN, cnt])
    · omega
theorem tN_out {l : List Gt} {i k : Nat} (h : findStep l 0 = some (i, k)) : tN (outOf l i k) ≤ tN l := by
  obtain ⟨pre, g, mid, h', post, e, hi, hk, hall, hm⟩ := findStep_parts h
  rw [Nat.zero_add] at hi
  subst hi hk
  subst e
  rw [outOf_parts, tN_app, tN_app, tN_app, tN_app, tN_cons g, tN_app, tN_cons h']
  have := tN_merge hm
  omega
theorem tN_peepN : ∀ (m : Nat) (l : List Gt), tN (peepN m l) ≤ tN l
  | 0, l => Int.le_refl _
  | m + 1, l => by
    unfold peepN
    split
    · rename_i hs
      obtain ⟨i, k, hf, he⟩ := stepOk_parts hs
      have h1 := tN_out hf
      rw [← he] at h1
      exact Int.le_trans (tN_peepN m (stepL l)) h1
    · exact Int.le_refl _
theorem tN_peep (l : List Gt) : tN (peepL l) ≤ tN l := tN_peepN _ _
theorem peepL_len (l : List Gt) : (peepL l).length ≤ l.length := peepN_len _ _
end Go.Proofs.Ytjmgpgppammhhaa
