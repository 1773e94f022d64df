/- Plain: routing adds only swaps, at most two for each gate, and keeps the T gates. Nothing is asked. -/
import Derived.Test.YtgnallcfahpjmaaRRouteP
import Derived.Test.YtgnallcfahpjmaaRSwapCount
namespace Go.Proofs.YtgnallcfahpjmaaR

theorem cnt_cons (k : Int) (g : Gt) (r : List Gt) : cnt k (g :: r) = (if g.k == k then 1 else 0) + cnt k r := rfl
theorem cnt_appR (k : Int) (a b : List Gt) : cnt k (a ++ b) = cnt k a + cnt k b := by
  induction a with
  | nil => simp [cnt]
  | cons g r ih => rw [List.cons_append, cnt_cons, cnt_cons, ih]; omega
theorem cnt1 (k k' a b c : Int) : cnt k [⟨k', a, b, c⟩] = if k' == k then 1 else 0 := by simp [cnt]
theorem rt_cnt {ps : List (Int × Int)} {N qa qb : Int} (ha0 : 0 ≤ qa) (ha1 : qa < N) (hb0 : 0 ≤ qb) (hb1 : qb < N) : ∀ (f d : Nat) (z : List Int), isLay ps N z = true → gd ps N (zAt z qa) (zAt z qb) ≤ d + 1 →
    ((rt ps N qa qb f z).1.length : Int) = 1 + cnt 11 (rt ps N qa qb f z).1 ∧ cnt 11 (rt ps N qa qb f z).1 ≤ d ∧ cnt 7 (rt ps N qa qb f z).1 = 0 ∧ cnt 8 (rt ps N qa qb f z).1 = 0
  | 0, d, z, _, _ => by
    rw [rt, cnt1, cnt1, cnt1]
    simp
  | f + 1, d, z, h, hd => by
    by_cases hg : 1 < gd ps N (zAt z qa) (zAt z qb)
    · obtain ⟨_, _, _, _, hs, hq⟩ := step_ok h ha0 ha1 hb0 hb1 hg
      obtain ⟨d', rfl⟩ : ∃ d' : Nat, d = d' + 1 := ⟨d - 1, by omega⟩
      obtain ⟨i1, i2, i3, i4⟩ := rt_cnt ha0 ha1 hb0 hb1 f d' _ hs (by rw [hq]; omega)
      rw [rt_far hg, cnt_cons, cnt_cons, cnt_cons, List.length_cons, i3, i4]
      have e1 : ((11 : Int) == 11) = true := by decide
      have e2 : ((11 : Int) == 7) = false := by decide
      have e3 : ((11 : Int) == 8) = false := by decide
      simp only [e1, e2, e3, if_true, Bool.false_eq_true, if_false]
      omega
    · rw [rt_near (by omega), cnt1, cnt1, cnt1]
      simp
theorem routeG_cnt {ps : List (Int × Int)} {N : Int} {z : List Int} {g : Gt} (h : mayR ps N z g = true) :
    ((routeG ps N z g).1.length : Int) = 1 + cnt 11 (routeG ps N z g).1 ∧ cnt 11 (routeG ps N z g).1 ≤ 2 ∧ cnt 7 (routeG ps N z g).1 = (if g.k == 7 then 1 else 0) ∧ cnt 8 (routeG ps N z g).1 = (if g.k == 8 then 1 else 0) := by
  unfold routeG
  rw [if_pos h]
  cases h1 : (arity g.k == 1)
  · rw [if_neg (by simp)]
    obtain ⟨a0, a1⟩ := mayR_a h
    obtain ⟨b0, b1⟩ := mayR_b h h1
    have hl := (mayR_parts h).1
    have hk := basic_kind (mayR_parts h).2.1 h1
    have hb := gd_bd ps N (zAt z g.a) (zAt z g.b)
    obtain ⟨i1, i2, i3, i4⟩ := rt_cnt a0 a1 b0 b1 3 2 z hl (by omega)
    rw [i3, i4, hk]
    exact ⟨i1, i2, rfl, rfl⟩
  · rw [if_pos rfl]
    have hn : (g.k == 11) = false := by
      cases h11 : (g.k == 11)
      · rfl
      · have : g.k = 11 := by simpa using h11
        rw [this] at h1
        revert h1
        decide
    rw [cnt1, cnt1, cnt1, hn]
    simp
theorem rtsL_cnt {ps : List (Int × Int)} {N : Int} : ∀ (gs : List Gt) (z : List Int) (acc : List Gt), (rtsL ps N gs z acc).2.2 = true →
    ((rtsL ps N gs z acc).1.length : Int) + cnt 11 acc = acc.length + gs.length + cnt 11 (rtsL ps N gs z acc).1 ∧ cnt 11 (rtsL ps N gs z acc).1 ≤ cnt 11 acc + 2 * gs.length ∧ cnt 7 (rtsL ps N gs z acc).1 = cnt 7 acc + cnt 7 gs ∧ cnt 8 (rtsL ps N gs z acc).1 = cnt 8 acc + cnt 8 gs
  | [], z, acc, _ => by
    rw [rtsL]
    simp [cnt]
  | g :: r, z, acc, h => by
    rw [rtsL] at h ⊢
    by_cases hm : mayR ps N z g = true
    · rw [if_pos hm] at h ⊢
      obtain ⟨i1, i2, i3, i4⟩ := rtsL_cnt r _ _ h
      obtain ⟨j1, j2, j3, j4⟩ := routeG_cnt hm
      rw [cnt_appR] at i1 i2 i3 i4
      rw [List.length_append] at i1
      rw [i3, i4, cnt_cons, cnt_cons, j3, j4, List.length_cons]
      refine ⟨by omega, by omega, by omega, by omega⟩
    · rw [if_neg hm] at h
      cases h
theorem routeGs_cnt {ps : List (Int × Int)} {N : Int} {zs : List Int} {gs : List Gt} (h : (routeGs ps N zs gs).2.2 = true) :
    ((routeGs ps N zs gs).1.length : Int) = gs.length + cnt 11 (routeGs ps N zs gs).1 ∧ cnt 11 (routeGs ps N zs gs).1 ≤ 2 * gs.length ∧ cnt 7 (routeGs ps N zs gs).1 = cnt 7 gs ∧ cnt 8 (routeGs ps N zs gs).1 = cnt 8 gs := by
  unfold routeGs at h ⊢
  by_cases hl : isLay ps N zs = true
  · rw [if_pos hl] at h ⊢
    obtain ⟨i1, i2, i3, i4⟩ := rtsL_cnt gs zs [] h
    have e1 : cnt 11 ([] : List Gt) = 0 := rfl
    have e2 : cnt 7 ([] : List Gt) = 0 := rfl
    have e3 : cnt 8 ([] : List Gt) = 0 := rfl
    have e4 : ([] : List Gt).length = 0 := rfl
    rw [e1] at i1 i2
    rw [e2] at i3
    rw [e3] at i4
    rw [e4] at i1
    refine ⟨by omega, by omega, by omega, by omega⟩
  · rw [if_neg hl] at h
    cases h
end Go.Proofs.YtgnallcfahpjmaaR
