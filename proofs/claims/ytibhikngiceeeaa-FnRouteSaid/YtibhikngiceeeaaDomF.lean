/- Plain: valid gates on three qubits, listed; gates that commute may be exchanged, merged gates do the same, on every basis state. Nothing is asked. -/
import Derived.Test.YtibhikngiceeeaaDom
import Derived.Test.YtibhikngiceeeaaCommute
import Derived.Test.YtibhikngiceeeaaMergeP
namespace Go.Proofs.Ytibhikngiceeeaa
set_option linter.unusedVariables false

def sameOn (a b : List Gt) (n i : Nat) : Bool := match appGs a (basis n i), appGs b (basis n i) with
  | some u, some v => decide (u = v) && okS u
  | _, _ => false
def sameAll (a b : List Gt) (n : Nat) : Bool := (List.range (2 ^ n)).all (sameOn a b n)
theorem sameAll_at {a b : List Gt} {n : Nat} (h : sameAll a b n = true) {i : Nat} (hi : i < 2 ^ n) : ∃ u, appGs a (basis n i) = some u ∧ appGs b (basis n i) = some u ∧ okS u = true := by
  have h1 := (List.all_eq_true.1 h) i (List.mem_range.2 hi)
  unfold sameOn at h1
  cases ha : appGs a (basis n i) with
  | none => rw [ha] at h1; cases h1
  | some u =>
    cases hb : appGs b (basis n i) with
    | none => rw [ha, hb] at h1; cases h1
    | some v =>
      rw [ha, hb] at h1
      simp only [Bool.and_eq_true, decide_eq_true_eq] at h1
      exact ⟨u, rfl, by rw [h1.1], h1.2⟩
def ks3 : List Int := [1, 2, 3, 4, 5, 6, 7, 8, 9, 10, 11, 12]
def ns3 : List Int := [0, 1, 2]
def all3 : List Gt := ks3.flatMap fun k => ns3.flatMap fun a => ns3.flatMap fun b => ns3.map fun c => ⟨k, a, b, c⟩
def ok3 (g : Gt) : Bool := okG g.k g.a g.b g.c 3
def gates3 : List Gt := all3.filter ok3
theorem okQ_bd {ar : Int} : ∀ (l seen : List Int), okQ ar 2 seen l = true → ∀ x ∈ l, 0 ≤ x ∧ x ≤ 2
  | [], _, _ => by simp
  | y :: r, seen, h => by
    rw [okQ] at h
    by_cases hb : badQ ar 2 seen.length seen y = true
    · rw [if_pos hb] at h; cases h
    · rw [if_neg hb] at h
      intro x hx
      rcases List.mem_cons.1 hx with rfl | hx
      · unfold badQ at hb
        by_cases hlt : (seen.length : Int) < ar
        · rw [if_pos hlt] at hb
          rcases inB_casesQ x 0 2 with ⟨_, h1⟩ | ⟨h1, _⟩
          · exact h1
          · rw [h1] at hb; simp at hb
        · rw [if_neg hlt] at hb
          have : x = 0 := by simpa using hb
          omega
      · exact okQ_bd r _ h x hx
theorem ns_mem {x : Int} (h : 0 ≤ x ∧ x ≤ 2) : x ∈ ns3 := by
  obtain rfl | rfl | rfl : x = 0 ∨ x = 1 ∨ x = 2 := by omega
  all_goals decide
theorem ks_mem {k : Int} (h : 0 < arity k) : k ∈ ks3 := by
  have hk : 1 ≤ k ∧ k ≤ 12 := by
    rcases arity_cases k with ⟨h1, h2, h3⟩ | ⟨h1, h2, h3⟩ | ⟨h1, h3⟩ | ⟨h1, h3⟩ <;> omega
  obtain rfl | rfl | rfl | rfl | rfl | rfl | rfl | rfl | rfl | rfl | rfl | rfl : k = 1 ∨ k = 2 ∨ k = 3 ∨ k = 4 ∨ k = 5 ∨ k = 6 ∨ k = 7 ∨ k = 8 ∨ k = 9 ∨ k = 10 ∨ k = 11 ∨ k = 12 := by omega
  all_goals decide
theorem ok3_mem {g : Gt} (h : ok3 g = true) : g ∈ gates3 := by
  refine List.mem_filter.2 ⟨?_, h⟩
  unfold ok3 okG at h
  simp only [Bool.and_eq_true, decide_eq_true_eq] at h
  have hb := okQ_bd _ _ h.2.2
  obtain ⟨k, a, b, c⟩ := g
  simp only [all3, List.mem_flatMap, List.mem_map]
  exact ⟨k, ks_mem h.2.1, a, ns_mem (hb a (by simp)), b, ns_mem (hb b (by simp)), c, ns_mem (hb c (by simp)), rfl⟩

def codeG (g : Gt) : Int := g.k * 27 + g.a * 9 + g.b * 3 + g.c
def commOk (g h : Gt) : Bool := !(comm g h && decide (codeG g ≤ codeG h)) || sameAll [g, h] [h, g] 3
set_option maxRecDepth 100000 in
theorem comm_0 : (((gates3.drop 0).take 4).all fun g => gates3.all fun h => commOk g h) = true := by decide +kernel
set_option maxRecDepth 100000 in
theorem comm_1 : (((gates3.drop 4).take 4).all fun g => gates3.all fun h => commOk g h) = true := by decide +kernel
set_option maxRecDepth 100000 in
theorem comm_2 : (((gates3.drop 8).take 4).all fun g => gates3.all fun h => commOk g h) = true := by decide +kernel
set_option maxRecDepth 100000 in
theorem comm_3 : (((gates3.drop 12).take 4).all fun g => gates3.all fun h => commOk g h) = true := by decide +kernel
set_option maxRecDepth 100000 in
theorem comm_4 : (((gates3.drop 16).take 4).all fun g => gates3.all fun h => commOk g h) = true := by decide +kernel
set_option maxRecDepth 100000 in
theorem comm_5 : (((gates3.drop 20).take 4).all fun g => gates3.all fun h => commOk g h) = true := by decide +kernel
set_option maxRecDepth 100000 in
theorem comm_6 : (((gates3.drop 24).take 4).all fun g => gates3.all fun h => commOk g h) = true := by decide +kernel
set_option maxRecDepth 100000 in
theorem comm_7 : (((gates3.drop 28).take 4).all fun g => gates3.all fun h => commOk g h) = true := by decide +kernel
set_option maxRecDepth 100000 in
theorem comm_8 : (((gates3.drop 32).take 4).all fun g => gates3.all fun h => commOk g h) = true := by decide +kernel
set_option maxRecDepth 100000 in
theorem comm_9 : (((gates3.drop 36).take 4).all fun g => gates3.all fun h => commOk g h) = true := by decide +kernel
set_option maxRecDepth 100000 in
theorem comm_10 : (((gates3.drop 40).take 4).all fun g => gates3.all fun h => commOk g h) = true := by decide +kernel
set_option maxRecDepth 100000 in
theorem comm_11 : (((gates3.drop 44).take 4).all fun g => gates3.all fun h => commOk g h) = true := by decide +kernel
theorem all_cut {α : Type} {p : α → Bool} {l : List α} {k m : Nat} (h : ((l.drop k).take m).all p = true) (h2 : (l.drop (k + m)).all p = true) : (l.drop k).all p = true := by
  have e : l.drop k = (l.drop k).take m ++ l.drop (k + m) := by rw [← List.drop_drop, List.take_append_drop]
  rw [e, List.all_append, h, h2]
  rfl
theorem gates3_len : gates3.length = 48 := by decide +kernel
theorem comm_all : (gates3.all fun g => gates3.all fun h => commOk g h) = true := by
  have z : ((gates3.drop 48).all fun g => gates3.all fun h => commOk g h) = true := by rw [List.drop_eq_nil_of_le (by rw [gates3_len]; omega)]; rfl
  have z := all_cut comm_11 z
  have z := all_cut comm_10 z
  have z := all_cut comm_9 z
  have z := all_cut comm_8 z
  have z := all_cut comm_7 z
  have z := all_cut comm_6 z
  have z := all_cut comm_5 z
  have z := all_cut comm_4 z
  have z := all_cut comm_3 z
  have z := all_cut comm_2 z
  have z := all_cut comm_1 z
  have z := all_cut comm_0 z
  exact z
set_option maxRecDepth 100000 in
theorem comm_symm : (gates3.all fun g => gates3.all fun h => comm g h == comm h g) = true := by decide +kernel
set_option maxRecDepth 100000 in
theorem merge_all : (gates3.all fun g => gates3.all fun h => !mergeOk g h || (sameAll [g, h] (mergeL g h) 3 && decide ((mergeL g h).length < 2))) = true := by decide +kernel
theorem comm_turn {g h : Gt} (hg : ok3 g = true) (hh : ok3 h = true) : comm h g = comm g h := by
  have := List.all_eq_true.1 (List.all_eq_true.1 comm_symm g (ok3_mem hg)) h (ok3_mem hh)
  exact (eq_of_beq this).symm
theorem sameOn_symm {a b : List Gt} {n i : Nat} (h : sameOn a b n i = true) : sameOn b a n i = true := by
  unfold sameOn at h ⊢
  cases ha : appGs a (basis n i) with
  | none => rw [ha] at h; cases h
  | some u =>
    cases hb : appGs b (basis n i) with
    | none => rw [ha, hb] at h; cases h
    | some v =>
      rw [ha, hb] at h
      simp only [Bool.and_eq_true, decide_eq_true_eq] at h ⊢
      exact ⟨h.1.symm, by rw [← h.1]; exact h.2⟩
theorem sameAll_symm {a b : List Gt} {n : Nat} (h : sameAll a b n = true) : sameAll b a n = true :=
  List.all_eq_true.2 fun i hi => sameOn_symm (List.all_eq_true.1 h i hi)
theorem comm_le {g h : Gt} (hg : ok3 g = true) (hh : ok3 h = true) (hc : comm g h = true) (hle : codeG g ≤ codeG h) : sameAll [g, h] [h, g] 3 = true := by
  have := List.all_eq_true.1 (List.all_eq_true.1 comm_all g (ok3_mem hg)) h (ok3_mem hh)
  unfold commOk at this
  rw [hc, decide_eq_true hle] at this
  simpa using this
theorem comm_law {g h : Gt} (hg : ok3 g = true) (hh : ok3 h = true) (hc : comm g h = true) : sameAll [g, h] [h, g] 3 = true := by
  rcases Int.le_total (codeG g) (codeG h) with hle | hle
  · exact comm_le hg hh hc hle
  · exact sameAll_symm (comm_le hh hg (by rw [comm_turn hg hh]; exact hc) hle)
theorem merge_law {g h : Gt} (hg : ok3 g = true) (hh : ok3 h = true) (hc : mergeOk g h = true) : sameAll [g, h] (mergeL g h) 3 = true ∧ (mergeL g h).length < 2 := by
  have := List.all_eq_true.1 (List.all_eq_true.1 merge_all g (ok3_mem hg)) h (ok3_mem hh)
  rw [hc] at this
  simpa using this
end Go.Proofs.Ytibhikngiceeeaa
