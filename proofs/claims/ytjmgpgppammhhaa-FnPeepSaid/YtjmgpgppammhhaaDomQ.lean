/- Plain: a peephole step keeps the operation on three qubits. Nothing else is asked. -/
import Derived.Test.YtjmgpgppammhhaaDomN
import Derived.Test.YtjmgpgppammhhaaPeepP
namespace Go.Proofs.Ytjmgpgppammhhaa
set_option linter.unusedVariables false

set_option maxRecDepth 100000 in
theorem merge_more : (gates3.all fun g => gates3.all fun h => !mergeOk g h || ((mergeL g h).all ok3 && decide (hcs (mergeL g h) ≤ hcs [g, h]))) = true := by decide +kernel
theorem merge_rl {g h : Gt} (hg : ok3 g = true) (hh : ok3 h = true) (hm : mergeOk g h = true) : (∀ x ∈ mergeL g h, ok3 x = true) ∧ ∃ k, Rl k [g, h] (mergeL g h) := by
  have h1 := List.all_eq_true.1 (List.all_eq_true.1 merge_more g (ok3_mem hg)) h (ok3_mem hh)
  rw [hm] at h1
  simp only [Bool.not_true, Bool.false_or, Bool.and_eq_true, decide_eq_true_eq, List.all_eq_true] at h1
  refine ⟨h1.1, hcs [g, h] - hcs (mergeL g h), Rl_of_same ?_ h1.1 (by omega) ?_ (merge_law hg hh hm).1⟩
  · intro x hx
    rcases List.mem_cons.1 hx with rfl | hx
    · exact hg
    · rw [List.mem_singleton.1 hx]; exact hh
  · unfold hcs hcs hcs hc
    split <;> split <;> omega
theorem comm_rl {g h : Gt} (hg : ok3 g = true) (hh : ok3 h = true) (hm : comm g h = true) : Rl 0 [g, h] [h, g] := by
  refine Rl_of_same ?_ ?_ ?_ ?_ (comm_law hg hh hm)
  · intro x hx
    rcases List.mem_cons.1 hx with rfl | hx
    · exact hg
    · rw [List.mem_singleton.1 hx]; exact hh
  · intro x hx
    rcases List.mem_cons.1 hx with rfl | hx
    · exact hh
    · rw [List.mem_singleton.1 hx]; exact hg
  · show hc g + (hc h + 0) = hc h + (hc g + 0) + 0
    omega
  · show hc g + (hc h + 0) ≤ 30
    unfold hc
    split <;> split <;> omega
/-- A gate moves behind gates that it commutes with. -/
theorem move_rl {g : Gt} (hg : ok3 g = true) : ∀ mid : List Gt, (∀ m ∈ mid, ok3 m = true ∧ comm g m = true) → Rl 0 (g :: mid) (mid ++ [g])
  | [], _ => Rl.refl [g]
  | m :: r, h => by
    obtain ⟨h1, h2⟩ := h m (by simp)
    have hr : ∀ x ∈ r, ok3 x = true := fun x hx => (h x (by simp [hx])).1
    have s1 := Rl.mid (p := []) (q := r) (fun _ hx => by simp at hx) (fun x hx => by
      rcases List.mem_cons.1 hx with rfl | hx
      · exact h1
      · rw [List.mem_singleton.1 hx]; exact hg) hr (comm_rl hg h1 h2)
    have ih := move_rl hg r (fun x hx => h x (by simp [hx]))
    have s2 := Rl.mid (p := [m]) (q := []) (fun x hx => by rw [List.mem_singleton.1 hx]; exact h1) (fun x hx => by
      rcases List.mem_append.1 hx with hx | hx
      · exact hr x hx
      · rw [List.mem_singleton.1 hx]; exact hg) (fun _ hx => by simp at hx) ih
    have := Rl.trans s1 (by simpa using s2)
    simpa using this
theorem scanB_parts {g : Gt} : ∀ {r : List Gt} {j k : Nat}, scanB g r j = some k → ∃ mid h post, r = mid ++ h :: post ∧ k = j + mid.length ∧ (∀ m ∈ mid, comm g m = true) ∧ mergeOk g h = true
  | [], j, k, h => by simp [scanB] at h
  | a :: r, j, k, h => by
    simp only [scanB] at h
    split at h
    · rename_i hm
      injection h with h
      subst h
      exact ⟨[], a, r, rfl, by simp, by simp, hm⟩
    · split at h
      · rename_i hc
        obtain ⟨mid, h', post, e, hk, hall, hm⟩ := scanB_parts h
        subst e
        refine ⟨a :: mid, h', post, rfl, by rw [List.length_cons]; omega, fun x hx => ?_, hm⟩
        rcases List.mem_cons.1 hx with rfl | hx
        · exact hc
        · exact hall x hx
      · cases h
theorem findStep_parts : ∀ {r : List Gt} {j i k : Nat}, findStep r j = some (i, k) → ∃ pre g mid h post, r = pre ++ g :: (mid ++ h :: post) ∧ i = j + pre.length ∧ k = i + 1 + mid.length ∧ (∀ m ∈ mid, comm g m = true) ∧ mergeOk g h = true
  | [], j, i, k, h => by simp [findStep] at h
  | a :: r, j, i, k, h => by
    simp only [findStep] at h
    split at h
    · rename_i k' hk
      injection h with h
      injection h with h1 h2
      subst h1 h2
      obtain ⟨mid, h', post, e, hk', hall, hm⟩ := scanB_parts hk
      exact ⟨[], a, mid, h', post, by rw [e]; rfl, by simp, hk', hall, hm⟩
    · obtain ⟨pre, g, mid, h', post, e, hi, hk, hall, hm⟩ := findStep_parts h
      exact ⟨a :: pre, g, mid, h', post, by rw [e]; rfl, by rw [List.length_cons]; omega, hk, hall, hm⟩
theorem outOf_parts (pre mid post : List Gt) (g h : Gt) : outOf (pre ++ g :: (mid ++ h :: post)) pre.length (pre.length + 1 + mid.length) = pre ++ (mid ++ (mergeL g h ++ post)) := by
  have d1 : (pre ++ g :: (mid ++ h :: post)).drop pre.length = g :: (mid ++ h :: post) := by rw [List.drop_left]
  have d2 : (pre ++ g :: (mid ++ h :: post)).drop (pre.length + 1) = mid ++ h :: post := by
    rw [← List.drop_drop, d1]
    rfl
  have d3 : (pre ++ g :: (mid ++ h :: post)).drop (pre.length + 1 + mid.length) = h :: post := by
    rw [← List.drop_drop, d2, List.drop_left]
  have d4 : (pre ++ g :: (mid ++ h :: post)).drop (pre.length + 1 + mid.length + 1) = post := by
    rw [← List.drop_drop, d3]
    rfl
  unfold outOf
  rw [getD_drop d1, getD_drop d3, d2, d4, List.take_left, show pre.length + 1 + mid.length - (pre.length + 1) = mid.length by omega, List.take_left]
/-- One step: the operation is kept, the gates stay valid. -/
theorem step_rl {l : List Gt} {i k : Nat} (hl : ∀ g ∈ l, ok3 g = true) (h : findStep l 0 = some (i, k)) : (∀ g ∈ outOf l i k, ok3 g = true) ∧ ∃ d, Rl d l (outOf l i k) := by
  obtain ⟨pre, g, mid, h', post, e, hi, hk, hall, hm⟩ := findStep_parts h
  rw [Nat.zero_add] at hi
  subst hi hk
  subst e
  rw [outOf_parts]
  have o1 : ∀ x ∈ pre, ok3 x = true := fun x hx => hl x (by simp [hx])
  have o2 : ok3 g = true := hl g (by simp)
  have o3 : ∀ x ∈ mid, ok3 x = true := fun x hx => hl x (by simp [hx])
  have o4 : ok3 h' = true := hl h' (by simp)
  have o5 : ∀ x ∈ post, ok3 x = true := fun x hx => hl x (by simp [hx])
  obtain ⟨m1, d, m2⟩ := merge_rl o2 o4 hm
  refine ⟨fun x hx => ?_, d, ?_⟩
  · simp only [List.mem_append] at hx
    rcases hx with hx | hx | hx | hx
    · exact o1 x hx
    · exact o3 x hx
    · exact m1 x hx
    · exact o5 x hx
  · have og : ∀ x ∈ mid ++ [g], ok3 x = true := fun x hx => by
      rcases List.mem_append.1 hx with hx | hx
      · exact o3 x hx
      · rw [List.mem_singleton.1 hx]; exact o2
    have oq : ∀ x ∈ h' :: post, ok3 x = true := fun x hx => by
      rcases List.mem_cons.1 hx with rfl | hx
      · exact o4
      · exact o5 x hx
    have om : ∀ x ∈ pre ++ mid, ok3 x = true := fun x hx => by
      rcases List.mem_append.1 hx with hx | hx
      · exact o1 x hx
      · exact o3 x hx
    have s1 := Rl.mid (p := pre) (q := h' :: post) o1 og oq (move_rl o2 mid (fun x hx => ⟨o3 x hx, hall x hx⟩))
    have s2 := Rl.mid (p := pre ++ mid) (q := post) om m1 o5 m2
    have e1 : pre ++ (g :: mid ++ h' :: post) = pre ++ g :: (mid ++ h' :: post) := by simp
    have e2 : pre ++ (mid ++ [g] ++ h' :: post) = pre ++ mid ++ ([g, h'] ++ post) := by simp
    have e3 : pre ++ mid ++ (mergeL g h' ++ post) = pre ++ (mid ++ (mergeL g h' ++ post)) := by simp
    rw [e1, e2] at s1
    rw [e3] at s2
    have := Rl.trans s1 s2
    rwa [Nat.zero_add] at this
/-- A step on valid gates, few of them Hadamard gates: the same operation on every basis state. -/
theorem step_same {l : List Gt} {i k : Nat} (hl : ∀ g ∈ l, ok3 g = true) (h : findStep l 0 = some (i, k)) (h30 : hcs l ≤ 30) : sameAll l (outOf l i k) 3 = true := by
  obtain ⟨h1, d, h2⟩ := step_rl hl h
  exact same_of_Rl hl h1 h30 h2
end Go.Proofs.Ytjmgpgppammhhaa
