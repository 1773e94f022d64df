/- Plain: words, tables and normal forms of one qubit; what spec and impl reckon is the same. No program in sight; nothing is asked. Plain: the gates that reduce a tableau; the ways that are tried to better a list. No program in sight; nothing is asked. Contracts of l28Do (spec) and emit (impl). Contract of l28First (spec). -/
import Derived.Test.YtmenmibfkojnoaaGreatQ09
import Derived.Test.YtmenmibfkojnoaaGreatQ13
import Derived.Test.YtmenmibfkojnoaaGreatQ19
import Derived.Deep.CutBlock
set_option maxHeartbeats 16000000
namespace Go.Proofs.YtmenmibfkojnoaaGreat
set_option linter.unusedVariables false
def g1 (k : Int) : Gt := ⟨k, 0, 0, 0⟩
def kinds6 : List Int := [1, 2, 3, 4, 5, 6]
abbrev BSt := List (List Gt) × List (List Pq)
def stepB (s : BSt) (i : Nat) (k : Int) : BSt :=
 if s.2.contains (appT 1 (g1 k) (s.2.getD i [])) = true then s else (s.1 ++ [s.1.getD i [] ++ [g1 k]], s.2 ++ [appT 1 (g1 k) (s.2.getD i [])])
def stepsB (s : BSt) (i : Nat) : List Int -> BSt
 |[] => s
 |k :: r => stepsB (stepB s i k) i r
def bfsN : Nat -> BSt
 |0 => ([[]], [idT 1])
 |i + 1 => stepsB (bfsN i) i kinds6
def allW : List (List Gt) := (bfsN 24).1
def allT : List (List Pq) := (bfsN 24).2
def idxL {α : Type} [DecidableEq α] (a : α) : List α -> Nat
 |[] => 0
 |b :: r => if b = a then 0 else idxL a r + 1
def cw (t : List Pq) : List Gt := allW.getD (idxL t allT) []
def pauli1 : List Pq := (List.range 2).flatMap fun x => (List.range 2).flatMap fun z => (List.range 4).map fun p => ⟨x, z, p⟩
def okT1 (t : List Pq) : Bool := t.all (fun a => okQn 1 a && herQ a) && !comQ (t.getD 0 ⟨0, 0, 0⟩) (t.getD 1 ⟨0, 0, 0⟩)
def chkAll : Bool := pauli1.all fun a => pauli1.all fun b => !(okT1 [a, b]) || allT.contains [a, b]
theorem chkAll_t : chkAll = true := by decide +kernel
theorem pauli1_mem {a : Pq} (h : okQn 1 a = true) : a ∈ pauli1 := by
 obtain ⟨h1, h2, h3⟩ := okQn_iff.1 h
 exact List.mem_flatMap.2 ⟨a.x, List.mem_range.2 h1, List.mem_flatMap.2 ⟨a.z, List.mem_range.2 h2, List.mem_map.2 ⟨a.p, List.mem_range.2 h3, rfl⟩⟩⟩
theorem mem_allT {t : List Pq} (h : okT 1 t) : t ∈ allT := by
 obtain ⟨h1, h2, h3⟩ := h
 match t, h1 with
 |[a, b], _ =>
  obtain ⟨a1, a2⟩ := h2 a (by simp)
  obtain ⟨b1, b2⟩ := h2 b (by simp)
  have hc := h3 0 1 a b (by omega) rfl rfl
  have := List.all_eq_true.1 (List.all_eq_true.1 chkAll_t a (pauli1_mem a1)) b (pauli1_mem b1)
  have hok : okT1 [a, b] = true := by
   unfold okT1
   simp only [List.all_cons, List.all_nil, a1, a2, b1, b2, Bool.and_self, Bool.true_and]
   show (!comQ a b) = true
   rw [hc]
   rfl
  rw [hok] at this
  simpa using this
def okTb (t : List Pq) : Bool := decide (t.length = 2) && okT1 t
theorem okT_of1 {t : List Pq} (h : okTb t = true) : okT 1 t := by
 unfold okTb okT1 at h
 simp only [Bool.and_eq_true, decide_eq_true_eq, List.all_eq_true] at h
 obtain ⟨h1, h2, h3⟩ := h
 match t, h1 with
 |[a, b], _ =>
  refine ⟨rfl, fun c hc => h2 c hc, fun i k x y hik hx hy => ?_⟩
  have hk : k < 2 := (List.getElem?_eq_some_iff.1 hy).1
  obtain ⟨rfl, rfl⟩ : i = 0 /\ k = 1 := by omega
  injection hx with hx
  injection hy with hy
  subst hx hy
  have h3' : (!comQ a b) = true := h3
  have : comQ a b = false := by simpa using h3'
  rw [this]
  rfl
def chkW : Bool := decide (allW.length = 24) && (decide (allT.length = 24) && ((List.range 24).all fun i => decide (runT 1 (allW.getD i []) (idT 1) = allT.getD i []) && (decide (idxL (allT.getD i []) allT = i) && (okTb (allT.getD i []) && (decide (i < (bfsN i).1.length) && ((allW.getD i []).all (fun g => kinds6.contains g.k && decide (g = g1 g.k)) && decide ((allW.getD i []).length <= 4)))))))
theorem chkW_t : chkW = true := by decide +kernel
theorem allW_at {i : Nat} (hi : i < 24) : runT 1 (allW.getD i []) (idT 1) = allT.getD i [] /\ idxL (allT.getD i []) allT = i /\ okT 1 (allT.getD i []) /\ i < (bfsN i).1.length /\ (∀ g ∈ allW.getD i [], kinds6.contains g.k = true /\ g = g1 g.k) /\ (allW.getD i []).length <= 4 := by
 have h := chkW_t
 unfold chkW at h
 simp only [Bool.and_eq_true, decide_eq_true_eq, List.all_eq_true] at h
 obtain ⟨_, _, h3⟩ := h
 obtain ⟨a1, a2, a3, a4, a5, a6⟩ := h3 i (List.mem_range.2 hi)
 exact ⟨a1, a2, okT_of1 a3, a4, fun g hg => a5 g hg, a6⟩
theorem allT_len : allT.length = 24 := by
 have h := chkW_t
 unfold chkW at h
 simp only [Bool.and_eq_true, decide_eq_true_eq] at h
 exact h.2.1
theorem allW_len : allW.length = 24 := by
 have h := chkW_t
 unfold chkW at h
 simp only [Bool.and_eq_true, decide_eq_true_eq] at h
 exact h.1
attribute [irreducible] allT allW
theorem okT1_idx {t : List Pq} (h : okT 1 t) : ∃ i, i < 24 /\ t = allT.getD i [] := by
 obtain ⟨i, hi, e⟩ := List.mem_iff_getElem.1 (mem_allT h)
 rw [allT_len] at hi
 exact ⟨i, hi, by rw [List.getD_eq_getElem?_getD, List.getElem?_eq_getElem (by rw [allT_len]; exact hi), <- e]; rfl⟩
def coset (t : List Pq) : Nat := if (t.getD 1 ⟨0, 0, 0⟩).x = 0 then 0 else if (t.getD 0 ⟨0, 0, 0⟩).x = 0 then 1 else 2
def rep (k : Nat) : List Gt := if k = 1 then [g1 4] else if k = 2 then [g1 6, g1 4] else []
def invL (l : List Gt) : List Gt := l.reverse.map fun g => ⟨invK g.k, g.a, g.b, g.c⟩
def byT (n : Nat) (t : List Pq) (a : Pq) : List Nat -> Pq -> Pq
 |[], o => o
 |q :: r, o =>
  let o1 := if bitB a.x q = true then mulQ o (t.getD q ⟨0, 0, 0⟩) else o
  byT n t a r (if bitB a.z q = true then mulQ o1 (t.getD (q + n) ⟨0, 0, 0⟩) else o1)
def conjT (n : Nat) (t : List Pq) (a : Pq) : Pq := byT n t a (List.range n) ⟨0, 0, a.p⟩
def behind (a b : List Pq) : List Pq := (List.range 2).map fun i => conjT 1 b (a.getD i ⟨0, 0, 0⟩)
def dT (t : List Pq) : List Pq :=
 let d := behind (runT 1 (invL (rep (coset t))) (idT 1)) t
 if (d.getD 1 ⟨0, 0, 0⟩).p = 2 then appT 1 (g1 5) d else d
abbrev Nf := List Nat × List Pq
def nfT (s : Nf) : Nf :=
 if coset s.2 = 0 /\ s.1 ≠ [] then (s.1.dropLast, behind (runT 1 (rep (s.1.getD (s.1.length - 1) 0) ++ [g1 5]) (idT 1)) (dT s.2)) else (s.1 ++ [coset s.2], dT s.2)
def nfG (s : Nf) (k : Int) : Nf := if k = 7 then nfT s else if k = 8 then nfT (s.1, appT 1 (g1 6) s.2) else (s.1, appT 1 (g1 k) s.2)
def nfL : List Int -> Nf -> Nf
 |[], s => s
 |k :: r, s => nfL r (nfG s k)
def nfW (s : Nf) : List Gt := (s.1.flatMap fun k => rep k ++ [g1 7]) ++ cw s.2
def okSyl (l : List Nat) : Prop := ∀ i k, l[i]? = some k -> k <= 2 /\ (0 < i -> k ≠ 0)
def chkN1 (t : List Pq) : Bool :=
 decide (runT 1 (invL (rep (coset t)) ++ cw t) (idT 1) = behind (runT 1 (invL (rep (coset t))) (idT 1)) t) &&
 (okTb (behind (runT 1 (invL (rep (coset t))) (idT 1)) t) && (okTb (dT t) &&
 ((List.range 3).all (fun m => decide (runT 1 (rep m ++ ([g1 5] ++ cw (dT t))) (idT 1) = behind (runT 1 (rep m ++ [g1 5]) (idT 1)) (dT t)) && okTb (behind (runT 1 (rep m ++ [g1 5]) (idT 1)) (dT t))) &&
 (let y := mulQ (mulQ ⟨0, 0, 0⟩ (t.getD 0 ⟨0, 0, 0⟩)) (t.getD 1 ⟨0, 0, 0⟩)
  decide (coset t = (if (t.getD 1 ⟨0, 0, 0⟩).x = 0 /\ (t.getD 1 ⟨0, 0, 0⟩).z = 1 then 0 else if (t.getD 0 ⟨0, 0, 0⟩).x = 0 /\ (t.getD 0 ⟨0, 0, 0⟩).z = 1 then 1 else 2)) && (decide (coset t <= 2) && (!(decide (coset t = 2)) || (y.x == 0 && y.z == 1)))))))
def chkNf : Bool := (List.range 24).all fun i => chkN1 (allT.getD i [])
theorem chkNf_t : chkNf = true := by decide +kernel
theorem nf_facts {t : List Pq} (h : okT 1 t) : chkN1 t = true := by
 obtain ⟨i, hi, rfl⟩ := okT1_idx h
 exact List.all_eq_true.1 chkNf_t i (List.mem_range.2 hi)
theorem nf_d {t : List Pq} (h : okT 1 t) : runT 1 (invL (rep (coset t)) ++ cw t) (idT 1) = behind (runT 1 (invL (rep (coset t))) (idT 1)) t /\ okT 1 (behind (runT 1 (invL (rep (coset t))) (idT 1)) t) /\ okT 1 (dT t) /\ coset t <= 2 := by
 have := nf_facts h
 unfold chkN1 at this
 simp only [Bool.and_eq_true, decide_eq_true_eq] at this
 obtain ⟨h1, h2, h3, _, _, h6, _⟩ := this
 exact ⟨h1, okT_of1 h2, okT_of1 h3, h6⟩
theorem nf_w {t : List Pq} (h : okT 1 t) {m : Nat} (hm : m < 3) : runT 1 (rep m ++ ([g1 5] ++ cw (dT t))) (idT 1) = behind (runT 1 (rep m ++ [g1 5]) (idT 1)) (dT t) /\ okT 1 (behind (runT 1 (rep m ++ [g1 5]) (idT 1)) (dT t)) := by
 have := nf_facts h
 unfold chkN1 at this
 simp only [Bool.and_eq_true, decide_eq_true_eq, List.all_eq_true] at this
 obtain ⟨_, _, _, h4, _⟩ := this
 obtain ⟨a, b⟩ := h4 m (List.mem_range.2 hm)
 exact ⟨a, okT_of1 b⟩
theorem g1_ok {k : Int} (h : 1 <= k /\ k <= 6) : okN 1 (g1 k) = true /\ cliff (g1 k).k = true := by
 obtain rfl | rfl | rfl | rfl | rfl | rfl : k = 1 ∨ k = 2 ∨ k = 3 ∨ k = 4 ∨ k = 5 ∨ k = 6 := by omega
 all_goals exact ⟨by decide, by decide⟩
theorem idT1_ok : okT 1 (idT 1) := okT_of1 (by decide)
theorem okSyl_nil : okSyl [] := fun i k h => by simp at h
theorem okSyl_drop {l : List Nat} (h : okSyl l) : okSyl l.dropLast := by
 intro i k hk
 rw [List.getElem?_dropLast] at hk
 split at hk
 ·exact h i k hk
 ·cases hk
theorem okSyl_app {l : List Nat} {k : Nat} (h : okSyl l) (hk : k <= 2) (h0 : k = 0 -> l = []) : okSyl (l ++ [k]) := by
 intro i m hm
 by_cases hi : i < l.length
 ·rw [List.getElem?_append_left hi] at hm
  exact h i m hm
 ·rw [List.getElem?_append_right (by omega)] at hm
  have hi2 : i - l.length = 0 := by
   have := (List.getElem?_eq_some_iff.1 hm).1
   simp at this
   omega
  rw [hi2] at hm
  injection hm with hm
  subst hm
  refine ⟨hk, fun hp e => ?_⟩
  rw [h0 e] at hi2
  simp at hi2
  omega
theorem nfT_ok {s : Nf} (h1 : okSyl s.1) (h2 : okT 1 s.2) : okSyl (nfT s).1 /\ okT 1 (nfT s).2 := by
 obtain ⟨_, _, d3, d4⟩ := nf_d h2
 unfold nfT
 by_cases hc : coset s.2 = 0 /\ s.1 ≠ []
 ·rw [if_pos hc]
  have hl : s.1.length - 1 < s.1.length := by
   cases e : s.1 with
   |nil => exact absurd e hc.2
   |cons a r => simp
  have hm := (h1 (s.1.length - 1) _ (List.getElem?_eq_getElem hl)).1
  refine ⟨okSyl_drop h1, ?_⟩
  rw [List.getD_eq_getElem?_getD, List.getElem?_eq_getElem hl, Option.getD_some]
  exact (nf_w h2 (by omega)).2
 ·rw [if_neg hc]
  refine ⟨okSyl_app h1 d4 fun e => ?_, d3⟩
  by_cases hn : s.1 = []
  ·exact hn
  ·exact absurd ⟨e, hn⟩ hc
theorem nfG_ok {s : Nf} {k : Int} (hk : 1 <= k /\ k <= 8) (h1 : okSyl s.1) (h2 : okT 1 s.2) : okSyl (nfG s k).1 /\ okT 1 (nfG s k).2 := by
 unfold nfG
 split
 ·exact nfT_ok h1 h2
 ·split
  ·exact nfT_ok h1 (appT_ok (g1_ok (k := 6) (by omega)).1 (g1_ok (k := 6) (by omega)).2 h2)
  ·exact ⟨h1, appT_ok (g1_ok (by omega)).1 (g1_ok (by omega)).2 h2⟩
theorem nfL_ok : ∀ (l : List Int) (s : Nf), (∀ k ∈ l, 1 <= k /\ k <= 8) -> okSyl s.1 -> okT 1 s.2 -> okSyl (nfL l s).1 /\ okT 1 (nfL l s).2
 |[], s, _, h1, h2 => ⟨h1, h2⟩
 |k :: r, s, h, h1, h2 => by
  obtain ⟨a, b⟩ := nfG_ok (h k (by simp)) h1 h2
  exact nfL_ok r _ (fun x hx => h x (by simp [hx])) a b
def costR : List Gt -> Nat
 |[] => 0
 |g :: r => (if g.k = 7 ∨ g.k = 8 then 100 else 1) + costR r
def short0 (l : List Gt) : List Gt := nfW (nfL (l.map Gt.k) ([], idT 1))
def onA (a : Int) (g : Gt) : Gt := ⟨g.k, a, g.b, g.c⟩
def shortR (l : List Gt) : List Gt := if costR l <= costR (short0 l) then l else (short0 l).map (onA (l.getD 0 (g1 0)).a)
def chkSh : Bool := decide (costR (short0 []) = 0) && [1, 2, 3, 4, 5, 6, 7, 8].all fun k => decide (costR [g1 k] <= costR (short0 [g1 k]))
theorem chkSh_t : chkSh = true := by decide +kernel
theorem shortR_1 {l : List Gt} (h : l.length < 2) (hk : ∀ g ∈ l, 1 <= g.k /\ g.k <= 8) : shortR l = l := by
 have hs := chkSh_t
 unfold chkSh at hs
 simp only [Bool.and_eq_true, decide_eq_true_eq, List.all_eq_true] at hs
 unfold shortR
 match l, h with
 |[], _ => exact if_pos (Nat.zero_le _)
 |[g], _ =>
  have hg := hk g (by simp)
  have hm := hs.2 g.k (by simp; omega)
  rw [if_pos]
  have e1 : costR [g] = costR [g1 g.k] := rfl
  have e2 : short0 [g] = short0 [g1 g.k] := rfl
  rw [e1, e2]
  exact hm
abbrev RSt := List Gt × List (List Gt)
def emitR (s : RSt) (q : Nat) : RSt := (s.1 ++ shortR (s.2.getD q []), s.2.set q [])
def emitsR (s : RSt) : List Nat -> RSt
 |[] => s
 |q :: r => emitsR (emitR s q) r
def quN (g : Gt) : List Nat := (([g.a, g.b, g.c] : List Int).take (arity g.k).toNat).map Int.toNat
def runG (s : RSt) (g : Gt) : RSt := if arity g.k = 1 then (s.1, s.2.set g.a.toNat (s.2.getD g.a.toNat [] ++ [g])) else ((emitsR s (quN g)).1 ++ [g], (emitsR s (quN g)).2)
def runsL : List Gt -> RSt -> RSt
 |[], s => s
 |g :: r, s => runsL r (runG s g)
def shortRs (l : List Gt) (n : Int) : List Gt := if (l.all fun g => okG g.k g.a g.b g.c n) = true then (emitsR (runsL l ([], [[], [], [], []])) [0, 1, 2, 3]).1 else l
abbrev SSt := List Pq × List Gt
def rowP (r : List Pq) (i : Nat) : Pq := r.getD i ⟨0, 0, 0⟩
def xB (r : List Pq) (i k : Nat) : Bool := bitB (rowP r i).x k
def zB (r : List Pq) (i k : Nat) : Bool := bitB (rowP r i).z k
def doS (n : Nat) (s : SSt) (k : Int) (a b : Nat) : SSt := (appT n ⟨k, a, b, 0⟩ s.1, s.2 ++ [⟨k, a, b, 0⟩])
def loopK (f : Nat -> SSt -> SSt) : Nat -> Nat -> SSt -> SSt
 |_, 0, s => s
 |k, m + 1, s => loopK f (k + 1) m (f k s)
def f1 (n q : Nat) (k : Nat) (s : SSt) : SSt := if (xB s.1 q k && zB s.1 q k) = true then doS n s 5 k 0 else if zB s.1 q k = true then doS n s 4 k 0 else s
def f2 (n q : Nat) (k : Nat) (s : SSt) : SSt := if xB s.1 q k = true then doS n s 9 q k else s
def f3 (n q : Nat) (k : Nat) (s : SSt) : SSt := if (xB s.1 (q + n) k && zB s.1 (q + n) k) = true then doS n (doS n s 5 k 0) 4 k 0 else if xB s.1 (q + n) k = true then doS n s 4 k 0 else s
def f4 (n q : Nat) (k : Nat) (s : SSt) : SSt := if zB s.1 (q + n) k = true then doS n s 9 k q else s
def fndX (r : List Pq) (q : Nat) : Nat -> Nat -> Nat
 |k, 0 => k
 |k, m + 1 => if xB r q k = true then k else fndX r q (k + 1) m
def sw1 (n q : Nat) (s : SSt) : SSt := if fndX s.1 q q (n - 1 - q) = q then s else doS n s 11 q (fndX s.1 q q (n - 1 - q))
def hH (n q : Nat) (s : SSt) : SSt := if xB s.1 (q + n) q = true then doS n (doS n (doS n s 4 q 0) 5 q 0) 4 q 0 else s
def pZ (n q : Nat) (s : SSt) : SSt := if (rowP s.1 q).p = 2 then doS n s 3 q 0 else s
def pX (n q : Nat) (s : SSt) : SSt := if (rowP s.1 (q + n)).p = 2 then doS n s 1 q 0 else s
def firstQ (n q : Nat) (s : SSt) : SSt := loopK (f2 n q) (q + 1) (n - (q + 1)) (sw1 n q (loopK (f1 n q) q (n - q) s))
def secondQ (n q : Nat) (s : SSt) : SSt := pX n q (pZ n q (hH n q (loopK (f4 n q) (q + 1) (n - (q + 1)) (loopK (f3 n q) (q + 1) (n - (q + 1)) s))))
def redQ (n : Nat) : Nat -> Nat -> SSt -> SSt
 |_, 0, s => s
 |q, m + 1, s => redQ n (q + 1) m (secondQ n q (firstQ n q s))
def redT (n : Nat) (r : List Pq) : List Gt := (redQ n 0 n (r, [])).2
def SOk (n : Nat) (s : SSt) : Prop := okT n s.1 /\ ∀ g ∈ s.2, okN n g = true /\ cliff g.k = true
def oneKs : List Int := [1, 3, 4, 5]
def chkOne (n : Nat) : Bool := (List.range n).all fun q => oneKs.all fun k => okN n ⟨k, q, 0, 0⟩ && cliff k
def chkTwo (n : Nat) : Bool := (List.range n).all fun a => (List.range n).all fun b => a == b || (okN n ⟨9, a, b, 0⟩ && okN n ⟨11, a, b, 0⟩)
theorem chk12 {n : Nat} (h : 1 <= n /\ n <= 4) : chkOne n = true /\ chkTwo n = true := by
 obtain rfl | rfl | rfl | rfl : n = 1 ∨ n = 2 ∨ n = 3 ∨ n = 4 := by omega
 all_goals exact ⟨by decide +kernel, by decide +kernel⟩
theorem one_okS {n q : Nat} {k : Int} (h : 1 <= n /\ n <= 4) (hq : q < n) (hk : k ∈ oneKs) : okN n ⟨k, q, ((0 : Nat) : Int), 0⟩ = true /\ cliff k = true := by
 have := List.all_eq_true.1 (List.all_eq_true.1 (chk12 h).1 q (List.mem_range.2 hq)) k hk
 simp only [Bool.and_eq_true] at this
 exact this
theorem two_okS {n a b : Nat} (h : 1 <= n /\ n <= 4) (ha : a < n) (hb : b < n) (hab : a ≠ b) : okN n ⟨9, a, b, 0⟩ = true /\ okN n ⟨11, a, b, 0⟩ = true := by
 have := List.all_eq_true.1 (List.all_eq_true.1 (chk12 h).2 a (List.mem_range.2 ha)) b (List.mem_range.2 hb)
 rw [show (a == b) = false by simpa using hab, Bool.false_or] at this
 simp only [Bool.and_eq_true] at this
 exact this
theorem doS_ok {n : Nat} {s : SSt} {k : Int} {a b : Nat} (hs : SOk n s) (hg : okN n ⟨k, a, b, 0⟩ = true) (hc : cliff k = true) : SOk n (doS n s k a b) := by
 refine ⟨appT_ok hg hc hs.1, fun g hg' => ?_⟩
 rcases List.mem_append.1 hg' with h | h
 ·exact hs.2 g h
 ·rw [List.mem_singleton.1 h]; exact ⟨hg, hc⟩
theorem doS_1 {n q : Nat} {s : SSt} {k : Int} (hn : 1 <= n /\ n <= 4) (hs : SOk n s) (hq : q < n) (hk : k ∈ oneKs) : SOk n (doS n s k q 0) := doS_ok hs (one_okS hn hq hk).1 (one_okS hn hq hk).2
theorem loopK_ok {n : Nat} {f : Nat -> SSt -> SSt} (hf : ∀ k s, k < n -> SOk n s -> SOk n (f k s)) : ∀ (k m : Nat) (s : SSt), k + m <= n -> SOk n s -> SOk n (loopK f k m s)
 |_, 0, s, _, h => h
 |k, m + 1, s, hk, h => loopK_ok hf (k + 1) m _ (by omega) (hf k s (by omega) h)
theorem loopK_ok' {n q : Nat} {f : Nat -> SSt -> SSt} (hf : ∀ k s, q < k -> k < n -> SOk n s -> SOk n (f k s)) : ∀ (k m : Nat) (s : SSt), q < k -> k + m <= n -> SOk n s -> SOk n (loopK f k m s)
 |_, 0, s, _, _, h => h
 |k, m + 1, s, hq, hk, h => loopK_ok' hf (k + 1) m _ (by omega) (by omega) (hf k s hq (by omega) h)
theorem f1_ok {n q k : Nat} {s : SSt} (hn : 1 <= n /\ n <= 4) (hk : k < n) (hs : SOk n s) : SOk n (f1 n q k s) := by
 unfold f1
 split
 ·exact doS_1 hn hs hk (by simp [oneKs])
 ·split
  ·exact doS_1 hn hs hk (by simp [oneKs])
  ·exact hs
theorem f2_ok {n q k : Nat} {s : SSt} (hn : 1 <= n /\ n <= 4) (hq : q < k) (hk : k < n) (hs : SOk n s) : SOk n (f2 n q k s) := by
 unfold f2
 split
 ·exact doS_ok hs (two_okS hn (by omega) hk (by omega)).1 (by decide)
 ·exact hs
theorem f3_ok {n q k : Nat} {s : SSt} (hn : 1 <= n /\ n <= 4) (hk : k < n) (hs : SOk n s) : SOk n (f3 n q k s) := by
 unfold f3
 split
 ·exact doS_1 hn (doS_1 hn hs hk (by simp [oneKs])) hk (by simp [oneKs])
 ·split
  ·exact doS_1 hn hs hk (by simp [oneKs])
  ·exact hs
theorem f4_ok {n q k : Nat} {s : SSt} (hn : 1 <= n /\ n <= 4) (hq : q < k) (hk : k < n) (hs : SOk n s) : SOk n (f4 n q k s) := by
 unfold f4
 split
 ·exact doS_ok hs (two_okS hn hk (by omega) (by omega)).1 (by decide)
 ·exact hs
theorem fndX_bd (r : List Pq) (q : Nat) : ∀ (m k : Nat), k <= fndX r q k m /\ fndX r q k m <= k + m
 |0, k => ⟨zR, by simp [fndX]⟩
 |m + 1, k => by
  rw [fndX]
  split
  ·exact ⟨zR, by omega⟩
  ·have := fndX_bd r q m (k + 1)
   omega
theorem sw1_ok {n q : Nat} {s : SSt} (hn : 1 <= n /\ n <= 4) (hq : q < n) (hs : SOk n s) : SOk n (sw1 n q s) := by
 have hb := fndX_bd s.1 q (n - 1 - q) q
 unfold sw1
 split
 ·exact hs
 ·rename_i h
  exact doS_ok hs (two_okS hn hq (by omega) (fun e => h e.symm)).2 (by decide)
theorem hH_ok {n q : Nat} {s : SSt} (hn : 1 <= n /\ n <= 4) (hq : q < n) (hs : SOk n s) : SOk n (hH n q s) := by
 unfold hH
 split
 ·exact doS_1 hn (doS_1 hn (doS_1 hn hs hq (by simp [oneKs])) hq (by simp [oneKs])) hq (by simp [oneKs])
 ·exact hs
theorem pZ_ok {n q : Nat} {s : SSt} (hn : 1 <= n /\ n <= 4) (hq : q < n) (hs : SOk n s) : SOk n (pZ n q s) := by
 unfold pZ
 split
 ·exact doS_1 hn hs hq (by simp [oneKs])
 ·exact hs
theorem pX_ok {n q : Nat} {s : SSt} (hn : 1 <= n /\ n <= 4) (hq : q < n) (hs : SOk n s) : SOk n (pX n q s) := by
 unfold pX
 split
 ·exact doS_1 hn hs hq (by simp [oneKs])
 ·exact hs
theorem firstQ_ok {n q : Nat} {s : SSt} (hn : 1 <= n /\ n <= 4) (hq : q < n) (hs : SOk n s) : SOk n (firstQ n q s) :=
 loopK_ok' (q := q) (fun k s h1 h2 h3 => f2_ok hn h1 h2 h3) _ _ _ (by omega) (by omega) (sw1_ok hn hq (loopK_ok (fun k s h1 h2 => f1_ok hn h1 h2) _ _ _ (by omega) hs))
theorem secondQ_ok {n q : Nat} {s : SSt} (hn : 1 <= n /\ n <= 4) (hq : q < n) (hs : SOk n s) : SOk n (secondQ n q s) :=
 pX_ok hn hq (pZ_ok hn hq (hH_ok hn hq (loopK_ok' (q := q) (fun k s h1 h2 h3 => f4_ok hn h1 h2 h3) _ _ _ (by omega) (by omega) (loopK_ok (fun k s h1 h2 => f3_ok hn h1 h2) _ _ _ (by omega) hs))))
theorem redQ_ok {n : Nat} (hn : 1 <= n /\ n <= 4) : ∀ (m q : Nat) (s : SSt), q + m <= n -> SOk n s -> SOk n (redQ n q m s)
 |0, q, s, _, h => h
 |m + 1, q, s, hq, h => redQ_ok hn m (q + 1) _ (by omega) (secondQ_ok hn (by omega) (firstQ_ok hn (by omega) h))
theorem redT_ok {n : Nat} {r : List Pq} (hn : 1 <= n /\ n <= 4) (h : okT n r) : ∀ g ∈ redT n r, okN n g = true /\ cliff g.k = true := (redQ_ok hn n 0 (r, []) (by omega) ⟨h, by simp⟩).2
theorem doS_len (n : Nat) (s : SSt) (k : Int) (a b : Nat) : (doS n s k a b).2.length = s.2.length + 1 := by simp [doS]
theorem f1_len (n q k : Nat) (s : SSt) : (f1 n q k s).2.length <= s.2.length + 1 := by unfold f1; (repeat' split) <;> simp [doS_len]
theorem f2_len (n q k : Nat) (s : SSt) : (f2 n q k s).2.length <= s.2.length + 1 := by unfold f2; (repeat' split) <;> simp [doS_len]
theorem f3_len (n q k : Nat) (s : SSt) : (f3 n q k s).2.length <= s.2.length + 2 := by unfold f3; (repeat' split) <;> simp [doS_len]
theorem f4_len (n q k : Nat) (s : SSt) : (f4 n q k s).2.length <= s.2.length + 1 := by unfold f4; (repeat' split) <;> simp [doS_len]
theorem sw1_len (n q : Nat) (s : SSt) : (sw1 n q s).2.length <= s.2.length + 1 := by unfold sw1; (repeat' split) <;> simp [doS_len]
theorem hH_len (n q : Nat) (s : SSt) : (hH n q s).2.length <= s.2.length + 3 := by unfold hH; (repeat' split) <;> simp [doS_len]
theorem pZ_len (n q : Nat) (s : SSt) : (pZ n q s).2.length <= s.2.length + 1 := by unfold pZ; (repeat' split) <;> simp [doS_len]
theorem pX_len (n q : Nat) (s : SSt) : (pX n q s).2.length <= s.2.length + 1 := by unfold pX; (repeat' split) <;> simp [doS_len]
theorem loopK_len {f : Nat -> SSt -> SSt} {c : Nat} (hf : ∀ k s, (f k s).2.length <= s.2.length + c) : ∀ (m k : Nat) (s : SSt), (loopK f k m s).2.length <= s.2.length + c * m
 |0, k, s => zR
 |m + 1, k, s => by
  have h1 := loopK_len hf m (k + 1) (f k s)
  have h2 := hf k s
  rw [loopK, Nat.mul_succ]
  omega
theorem firstQ_len {n q : Nat} (hn : n <= 4) (s : SSt) : (firstQ n q s).2.length <= s.2.length + 9 := by
 unfold firstQ
 have h1 := loopK_len (f1_len n q) (n - q) q s
 have h2 := sw1_len n q (loopK (f1 n q) q (n - q) s)
 have h3 := loopK_len (f2_len n q) (n - (q + 1)) (q + 1) (sw1 n q (loopK (f1 n q) q (n - q) s))
 omega
theorem secondQ_len {n q : Nat} (hn : n <= 4) (s : SSt) : (secondQ n q s).2.length <= s.2.length + 14 + 3 := by
 unfold secondQ
 have h1 := loopK_len (f3_len n q) (n - (q + 1)) (q + 1) s
 have h2 := loopK_len (f4_len n q) (n - (q + 1)) (q + 1) (loopK (f3 n q) (q + 1) (n - (q + 1)) s)
 have h3 := hH_len n q (loopK (f4 n q) (q + 1) (n - (q + 1)) (loopK (f3 n q) (q + 1) (n - (q + 1)) s))
 have h4 := pZ_len n q (hH n q (loopK (f4 n q) (q + 1) (n - (q + 1)) (loopK (f3 n q) (q + 1) (n - (q + 1)) s)))
 have h5 := pX_len n q (pZ n q (hH n q (loopK (f4 n q) (q + 1) (n - (q + 1)) (loopK (f3 n q) (q + 1) (n - (q + 1)) s))))
 omega
theorem redQ_len {n : Nat} (hn : n <= 4) : ∀ (m q : Nat) (s : SSt), (redQ n q m s).2.length <= s.2.length + 26 * m
 |0, q, s => zR
 |m + 1, q, s => by
  have h1 := redQ_len hn m (q + 1) (secondQ n q (firstQ n q s))
  have h2 := secondQ_len (q := q) hn (firstQ n q s)
  have h3 := firstQ_len (q := q) hn s
  rw [redQ]
  omega
theorem loopK_next {f : Nat -> SSt -> SSt} {n k m : Nat} {s S : SSt} (hlt : k < n) (hk : k + m = n) (h : loopK f k m s = S) : loopK f (k + 1) (m - 1) (f k s) = S := by
 obtain ⟨j, rfl⟩ : ∃ j, m = j + 1 := ⟨m - 1, by omega⟩
 rw [loopK] at h
 exact h
theorem fndX_step {r : List Pq} {q k n F : Nat} (hlt : k < n - 1) (h : fndX r q k (n - 1 - k) = F) : (if xB r q k = true then k else fndX r q (k + 1) (n - 1 - (k + 1))) = F := by
 obtain ⟨j, hj⟩ : ∃ j, n - 1 - k = j + 1 := ⟨n - 1 - k - 1, by omega⟩
 rw [hj, fndX] at h
 rw [show n - 1 - (k + 1) = j by omega]
 exact h
def synL (l : List Gt) (n : Nat) : List Gt := invL (redT n (runT n l (idT n)))
open Go.RowKit
theorem below_trans' {R : Nat} {w wx w' : World} (h : Below R w wx) (hR : R <= wx.heap.size) (hb : Below wx.heap.size wx w') : Below R w w' := h.trans (hb.mono hR)
theorem below_grown' {R : Nat} {w w6 w7 : World} {e sz n : Nat} {v : Value} {xs : List Value} {o : Obj} (hB : Below R w w6) (ho : (w6.drew.alloc o).ownsRow R e sz v n xs) (hR : R <= w6.heap.size) (hg : (w6.drew.alloc o).grownBy w7 v.ownBlock) : Below R w w7 :=
 below_grown (hB.drew.alloc hR o) (Nat.le_trans hR (by simp)) ho zR hg
def WSE (R W : Nat) (t : TypeId) (n : Nat) (r : List Pq) (l : List Gt) (wx : World) : Prop := ∃ A0 c0 A1 c1, WS R W t n r l A0 c0 A1 c1 wx
set_option maxRecDepth 100000 in
theorem s_Do (R W n : Nat) (r : List Pq) (l : List Gt) (g : Gt) (w : World) (hn : 1 <= n /\ n <= 4) (hW : WSE R W 159 n r l w) (hok : okT n r) (hg : okN n g = true) (hcl : cliff g.k = true) (hlen : l.length <= 1000) :
  Calls Tryz.prog 189 #[.pointer (some ⟨W, 0, none⟩), .agg #[.int .i64 g.k, .int .i64 g.a, .int .i64 g.b, .int .i64 g.c]] w fun e w' => e = .returned (.tuple #[]) /\ WSE R W 159 n (appT n g r) (l ++ [g]) w' /\ Below R w w' := by
 obtain ⟨A0, c0, A1, c1, hW⟩ := hW
 have G0 := zH (Bx.new w 39 #[.int .i64 g.k, .int .i64 g.a, .int .i64 g.b, .int .i64 g.c])
 have W0 := zH (hW.alloc (.cells #[.int .i64 g.k, .int .i64 g.a, .int .i64 g.b, .int .i64 g.c] 39))
 have B0 := zH (show Below R w (w.alloc (.cells #[.int .i64 g.k, .int .i64 g.a, .int .i64 g.b, .int .i64 g.c] 39)) from (zW).alloc hW.le _)
 have HOK := zH hok
 have HG := zH hg
 have HC := zH hcl
 have lR := hW.le
 have lW := hW.1.lt
 have RW := hW.2.2.2
 have hz2 : (Value.agg #[.int .i64 0, .int .i64 0, .int .i64 0, .int .i64 0]).cells.size = 4 := rfl
 clear hW hok hg hcl
 go_enter Tryz.func189, Tryz.ntmps189
 go_wp2_with fail
 obtain ⟨wr, hwr⟩ : ∃ x, w.alloc (.cells #[.int .i64 g.k, .int .i64 g.a, .int .i64 g.b, .int .i64 g.c] 39) = x := ⟨_, rfl⟩
 rw [hwr] at G0 W0 B0 ⊢
 obtain ⟨gb, hgb⟩ : ∃ x, w.heap.size = x := ⟨_, rfl⟩
 rw [hgb] at G0 ⊢
 have lR0 : R <= wr.heap.size := W0.out.le
 clear hwr hgb
 have TK := fun (w5 : World) (b5 : Below wr.heap.size wr w5) => (⟨⟨(W0.out.below b5).1.cell 0, (W0.out.below b5).1.cell 1⟩, (G0.out.below b5).four4⟩ : (w5.cell? ⟨W, 0, none⟩ = some (.int .i64 (n : Nat)) /\ w5.cell? ⟨W, 1, none⟩ = some (.slice A0 (2 * n) c0)) /\ (w5.cell? ⟨gb, 0, none⟩ = some (.int .i64 g.k) /\ w5.cell? ⟨gb, 1, none⟩ = some (.int .i64 g.a) /\ w5.cell? ⟨gb, 2, none⟩ = some (.int .i64 g.b) /\ w5.cell? ⟨gb, 3, none⟩ = some (.int .i64 g.c)))
 have TK0 := TK _ (Below.refl wr.heap.size wr).drew
 go_cut [4, 5] (fun s4 s5 wx => ∃ P A5 c5, s4 = .pointer (some ⟨P, 0, none⟩) /\ s5 = .bool true /\ Bx wx P 73 #[.int .i64 (n : Nat), .slice A5 (2 * n) c5] /\ wx.ownsRow R 151 4 (.slice A5 (2 * n) c5) (2 * n) (cellsG (pgs n (appT n g r))) /\ Bx wx gb 39 #[.int .i64 g.k, .int .i64 g.a, .int .i64 g.b, .int .i64 g.c] /\ WS R W 159 n r l A0 c0 A1 c1 wx /\ Below R w wx)
 case first =>
  go_region_held3 (fun w' => (w'.cell? ⟨W, 0, none⟩ = some (.int .i64 (n : Nat)) /\ w'.cell? ⟨W, 1, none⟩ = some (.slice A0 (2 * n) c0)) /\ (w'.cell? ⟨gb, 0, none⟩ = some (.int .i64 g.k) /\ w'.cell? ⟨gb, 1, none⟩ = some (.int .i64 g.a) /\ w'.cell? ⟨gb, 2, none⟩ = some (.int .i64 g.b) /\ w'.cell? ⟨gb, 3, none⟩ = some (.int .i64 g.c)))
   (first
    |exact TK _ ((Below.refl wr.heap.size wr).drew)
    |exact TK _ (((Below.refl wr.heap.size wr).alloc zR _).drew)
    |exact TK _ (((Below.refl wr.heap.size wr).drew).alloc zR _)
    |exact TK _ (below_drew b5)
    |exact TK _ (below_trans ((Below.refl wr.heap.size wr).alloc zR _).drew b5)
    |exact TK _ (below_trans ((Below.refl wr.heap.size wr).drew.alloc zR _) b5)
    |exact TK _ ((below_drew b5).alloc (by simpa using b5.size) _)
    |exact TK _ (belowS2 (below_trans ((Below.refl wr.heap.size wr).alloc zR _).drew b5) zR _ _)
    |exact TK _ (belowS2 (below_trans ((Below.refl wr.heap.size wr).drew.alloc zR _) b5) zR _ _)
    |exact TK _ ((belowS2 (below_trans ((Below.refl wr.heap.size wr).alloc zR _).drew b5) zR _ _).drew)
    |exact TK _ ((belowS2 (below_trans ((Below.refl wr.heap.size wr).drew.alloc zR _) b5) zR _ _).drew)
    |exact TK _ ((below_drew b5).drew)
    |exact TK _ ((below_trans ((Below.refl wr.heap.size wr).alloc zR _).drew b5).drew)
    |exact TK _ ((below_trans ((Below.refl wr.heap.size wr).drew.alloc zR _) b5).drew)
    |go_keep)
   (first
    |(go_at_call 111; (first | refine (s_TabApp n (2 * n) c0 A0 r g _ hn W0.out.drew.rd W0.out.cap HOK.out HG.out HC.out).mono ?_ | refine (s_TabApp n (2 * n) c0 A0 r g _ hn (W0.out.alloc _).drew.rd W0.out.cap HOK.out HG.out HC.out).mono ?_ | refine (s_TabApp n (2 * n) c0 A0 r g _ hn (W0.out.drew.alloc _).rd W0.out.cap HOK.out HG.out HC.out).mono ?_); rintro e w5 ⟨A5, c5, rfl, o5, b5⟩; first | (have PB : Bx w5 wr.heap.size 73 #[.int .i64 0, .slice none 0 0] := (Bx.new wr 73 #[.int .i64 0, .slice none 0 0]).drew.below b5; obtain ⟨x0, x1, x2, x3⟩ := PB.two) | (have PB : Bx w5 wr.heap.size 73 #[.int .i64 0, .slice none 0 0] := (Bx.new wr.drew 73 #[.int .i64 0, .slice none 0 0]).below b5; obtain ⟨x0, x1, x2, x3⟩ := PB.two) | skip)
    |fail)
  all_goals go_wp2_with fail
  all_goals go_meet
  all_goals first
   |exact ⟨_, A5, c5, rfl, rfl, Bx.new _ _ _, ownsRow_base (o5.alloc _) (by simpa using lR0), G0.out.below ((below_drew b5).alloc (by simpa using b5.size) _), W0.out.below ((below_drew b5).alloc (by simpa using b5.size) _), below_trans' B0.out lR0 ((below_drew b5).alloc (by simpa using b5.size) _)⟩
   |(have PB1 : Bx (w5.setCell ⟨wr.heap.size, 0, none⟩ (.int .i64 (n : Nat))) wr.heap.size 73 #[.int .i64 (n : Nat), .slice none 0 0] := (by simpa using PB.set_ 0 (.int .i64 (n : Nat))); exact ⟨_, A5, c5, rfl, rfl, PB.set2 _ _, ownsRow_base (own_farT (own_farT o5 PB (by decide) 0 _) PB1 (by decide) 1 _) (by simpa using Nat.le_succ_of_le lR0), G0.out.below (belowS2 (below_trans ((Below.refl wr.heap.size wr).alloc zR _).drew b5) zR _ _), W0.out.below (belowS2 (below_trans ((Below.refl wr.heap.size wr).alloc zR _).drew b5) zR _ _), below_trans' B0.out lR0 (belowS2 (below_trans ((Below.refl wr.heap.size wr).alloc zR _).drew b5) zR _ _)⟩)
   |(have PB1 : Bx (w5.setCell ⟨wr.heap.size, 0, none⟩ (.int .i64 (n : Nat))) wr.heap.size 73 #[.int .i64 (n : Nat), .slice none 0 0] := (by simpa using PB.set_ 0 (.int .i64 (n : Nat))); exact ⟨_, A5, c5, rfl, rfl, PB.set2 _ _, ownsRow_base (own_farT (own_farT o5 PB (by decide) 0 _) PB1 (by decide) 1 _) (by simpa using Nat.le_succ_of_le lR0), G0.out.below (belowS2 (below_trans ((Below.refl wr.heap.size wr).drew.alloc zR _) b5) zR _ _), W0.out.below (belowS2 (below_trans ((Below.refl wr.heap.size wr).drew.alloc zR _) b5) zR _ _), below_trans' B0.out lR0 (belowS2 (below_trans ((Below.refl wr.heap.size wr).drew.alloc zR _) b5) zR _ _)⟩)
 case rest =>
  obtain ⟨P, A5, c5, rfl, rfl, hP, hO5, hG5, hW5, hB5⟩ := hcut
  clear TK TK0 G0 W0 B0
  obtain ⟨y0', y1', _⟩ := hP.two
  have hgW : gb ≠ W := hG5.ne hW5.1 (by decide)
  have W6 := zH (hW5.put (by decide) (by decide) hO5)
  have G6 := zH (hG5.far2 hgW (.int .i64 (n : Nat)) (.slice A5 (2 * n) c5))
  have B6 := zH (belowS2 hB5 RW (.int .i64 (n : Nat)) (.slice A5 (2 * n) c5))
  obtain ⟨t0, t1, t2, t3, t4, t5⟩ := hW5.1.three
  clear hP hO5 hG5 hW5 hB5
  go_upto_region 4 with fail
  obtain ⟨w6, hw6⟩ : ∃ x, (wc.setCell ⟨W, 0, none⟩ (.int .i64 (n : Nat))).setCell ⟨W, 1, none⟩ (.slice A5 (2 * n) c5) = x := ⟨_, rfl⟩
  simp only [S2] at W6 G6 B6
  rw [hw6] at W6 G6 B6 ⊢
  clear hw6 y0' y1' t0 t1 t2 t3 t4 t5
  have hz4 : (Value.agg #[.int .i64 0, .int .i64 0, .int .i64 0, .int .i64 0]).cells.size = 4 := rfl
  have OA := zH (W6.out.drew.2.2.1.alloc (.cells #[.int .i64 g.k, .int .i64 g.a, .int .i64 g.b, .int .i64 g.c] 39))
  have WA := zH (W6.out.drew.alloc (.cells #[.int .i64 g.k, .int .i64 g.a, .int .i64 g.b, .int .i64 g.c] 39))
  have lR6 : R <= w6.heap.size := W6.out.le
  have WD := W6.out.drew
  have GD := G6.out.drew
  obtain ⟨t0, t1, t2, t3, t4, t5⟩ := WD.1.three
  obtain ⟨g0, g1, g2, g3⟩ := GD.four4
  obtain ⟨_, _, t2a, _, _, t5a⟩ := WA.out.1.three
  have T2A := (W6.out.alloc (.cells #[.int .i64 g.k, .int .i64 g.a, .int .i64 g.b, .int .i64 g.c] 39)).1.cell 2
  simp at T2A
  clear WD GD
  go_region_law (first
   |(refine step_app (by rfl) (.tmp 24) (.tmp 26) 24 (by rfl) Tryz.underlying24 infoGate hz4 (by decide) (by simp [Act.eval] <;> rfl) OA.out (by simp [Act.eval] <;> rfl) (Rd.lit w6.drew 39 #[.int .i64 g.k, .int .i64 g.a, .int .i64 g.b, .int .i64 g.c] 1 4 rfl) (by simp [Value.oneCell']) (by omega) (by decide) (by simp <;> omega) ?_; intro A7 c7 w7 o7 g7; have E7 := kept_app OA.out g7 WA.out.1 (by decide); have ⟨e0, e1, e2, e3, e4, e5⟩ := E7.three)
   |fail)
  all_goals go_wp2_with fail
  all_goals (first | go_ret | go_end0)
  all_goals exact ⟨rfl, ⟨A5, c5, A7, c7, WA.out.push (by decide) (by decide) g7 o7⟩, (below_grown' B6.out OA.out lR6 g7).setCell RW _⟩
set_option maxRecDepth 100000 in
theorem i_Emit0 (R W n : Nat) (r : List Pq) (l : List Gt) (g : Gt) (w : World) (hn : 1 <= n /\ n <= 4) (hW : WSE R W 163 n r l w) (hok : okT n r) (hg : okN n g = true) (hcl : cliff g.k = true) (hlen : l.length <= 1000) (hgc : g.c = 0) :
  Calls Tryz.prog 198 #[.pointer (some ⟨W, 0, none⟩), .int .i64 g.k, .int .i64 g.a, .int .i64 g.b] w fun e w' => e = .returned (.tuple #[]) /\ WSE R W 163 n (appT n g r) (l ++ [g]) w' /\ Below R w w' := by
 obtain ⟨A0, c0, A1, c1, hW⟩ := hW
 have G0 := zH (show Bx (w.alloc (.cells #[.int .i64 g.k, .int .i64 g.a, .int .i64 g.b, .int .i64 0] 39)) w.heap.size 39 #[.int .i64 g.k, .int .i64 g.a, .int .i64 g.b, .int .i64 g.c] from by rw [hgc]; exact Bx.new w 39 _)
 have W0 := zH (hW.alloc (.cells #[.int .i64 g.k, .int .i64 g.a, .int .i64 g.b, .int .i64 0] 39))
 have B0 := zH (show Below R w (w.alloc (.cells #[.int .i64 g.k, .int .i64 g.a, .int .i64 g.b, .int .i64 0] 39)) from (zW).alloc hW.le _)
 have HOK := zH hok
 have HG := zH hg
 have HC := zH hcl
 have lR := hW.le
 have lW := hW.1.lt
 have RW := hW.2.2.2
 clear hW hok hg hcl hgc
 go_enter Tryz.func198, Tryz.ntmps198
 go_wp2_with fail
 obtain ⟨wr, hwr⟩ : ∃ x, w.alloc (.cells #[.int .i64 g.k, .int .i64 g.a, .int .i64 g.b, .int .i64 0] 39) = x := ⟨_, rfl⟩
 rw [hwr] at G0 W0 B0 ⊢
 obtain ⟨gb, hgb⟩ : ∃ x, w.heap.size = x := ⟨_, rfl⟩
 rw [hgb] at G0 ⊢
 have lR0 : R <= wr.heap.size := W0.out.le
 clear hwr hgb
 go_cut [22] (fun s22 wx => ∃ A5 c5, Bx wx gb 39 #[.int .i64 g.k, .int .i64 g.a, .int .i64 g.b, .int .i64 g.c] /\ WS R W 163 n (appT n g r) l A5 c5 A1 c1 wx /\ Below R w wx)
 case first =>
  have WD := W0.out.drew
  have GD := G0.out.drew
  obtain ⟨t0, t1, t2, t3, t4, t5⟩ := WD.1.three
  obtain ⟨g0, g1, g2, g3⟩ := GD.four4
  go_region_with (first
   |(go_at_call 115; refine (i_TabApp n (2 * n) c0 A0 r g _ hn WD.rd WD.cap HOK.out HG.out HC.out).mono ?_; rintro e w5 ⟨A5, c5, rfl, o5, b5⟩; have W5 := WD.below b5; have G5 := GD.below b5; obtain ⟨x0, x1, x2, x3, x4, x5⟩ := W5.1.three)
   |fail)
  all_goals go_wp2_with fail
  all_goals go_meet
  all_goals exact ⟨A5, c5, G5.far2 (G5.ne W5.1 (by decide)) _ _, W5.put (by decide) (by decide) (ownsRow_base o5 lR0), belowS2 (below_trans' B0.out lR0 (below_drew b5)) RW _ _⟩
 case rest =>
  obtain ⟨A5, c5, hG5, hW5, hB5⟩ := hcut
  have W6 := zH hW5
  have G6 := zH hG5
  have B6 := zH hB5
  clear hG5 hW5 hB5 G0 W0 B0
  have hz4 : (Value.agg #[.int .i64 0, .int .i64 0, .int .i64 0, .int .i64 0]).cells.size = 4 := rfl
  have OA := zH (W6.out.drew.2.2.1.alloc (.cells #[.int .i64 g.k, .int .i64 g.a, .int .i64 g.b, .int .i64 g.c] 39))
  have WA := zH (W6.out.drew.alloc (.cells #[.int .i64 g.k, .int .i64 g.a, .int .i64 g.b, .int .i64 g.c] 39))
  have lR6 : R <= wc.heap.size := W6.out.le
  have WD := W6.out.drew
  have GD := G6.out.drew
  obtain ⟨t0, t1, t2, t3, t4, t5⟩ := WD.1.three
  obtain ⟨g0, g1, g2, g3⟩ := GD.four4
  have T2A := (W6.out.alloc (.cells #[.int .i64 g.k, .int .i64 g.a, .int .i64 g.b, .int .i64 g.c] 39)).1.cell 2
  simp at T2A
  clear WD GD
  go_upto_region 2 with fail
  go_region_law (first
   |(refine step_app (by rfl) (.tmp 29) (.tmp 31) 24 (by rfl) Tryz.underlying24 infoGate hz4 (by decide) (by simp [Act.eval] <;> rfl) OA.out (by simp [Act.eval] <;> rfl) (Rd.lit wc.drew 39 #[.int .i64 g.k, .int .i64 g.a, .int .i64 g.b, .int .i64 g.c] 1 4 rfl) (by simp [Value.oneCell']) (by omega) (by decide) (by simp <;> omega) ?_; intro A7 c7 w7 o7 g7; have E7 := kept_app OA.out g7 WA.out.1 (by decide); have ⟨e0, e1, e2, e3, e4, e5⟩ := E7.three)
   |fail)
  all_goals go_wp2_with fail
  all_goals (first | go_ret | go_end0)
  all_goals exact ⟨rfl, ⟨A5, c5, A7, c7, WA.out.push (by decide) (by decide) g7 o7⟩, (below_grown' B6.out OA.out lR6 g7).setCell RW _⟩
def SI (R W : Nat) (t : TypeId) (n B : Nat) (s : SSt) (w0 wx : World) : Prop := SOk n s /\ s.2.length <= B /\ WSE R W t n s.1 s.2 wx /\ Below R w0 wx
section
variable {R W n B B' : Nat} {t : TypeId} {s : SSt} {w0 wx w' : World}
theorem SI.le (h : SI R W t n B s w0 wx) : R <= wx.heap.size := by obtain ⟨_, _, ⟨A0, c0, A1, c1, hW⟩, _⟩ := h; exact hW.le
theorem SI.below (h : SI R W t n B s w0 wx) (hb : Below wx.heap.size wx w') : SI R W t n B s w0 w' := by
 have hl := h.le
 obtain ⟨h1, h2, ⟨A0, c0, A1, c1, hW⟩, h3⟩ := h
 exact ⟨h1, h2, ⟨A0, c0, A1, c1, hW.below hb⟩, below_trans' h3 hl hb⟩
theorem SI.alloc (h : SI R W t n B s w0 wx) (o : Obj) : SI R W t n B s w0 (wx.alloc o) := h.below ((zW).alloc zR _)
theorem SI.mono (h : SI R W t n B s w0 wx) (hB : B <= B') : SI R W t n B' s w0 wx := ⟨h.1, Nat.le_trans h.2.1 hB, h.2.2⟩
theorem SI.row (h : SI R W t n B s w0 wx) {i : Nat} (hi : i < 2 * n) : ∃ a, s.1[i]? = some a /\ okQn n a = true /\ ∃ A0 c0 A1 c1, WS R W t n s.1 s.2 A0 c0 A1 c1 wx := by
 obtain ⟨h1, h2, ⟨A0, c0, A1, c1, hW⟩, h3⟩ := h
 obtain ⟨a, ha⟩ := get_lt (l := s.1) (k := i) (by rw [h1.1.1]; exact hi)
 exact ⟨a, ha, (okT_at h1.1 ha).1, A0, c0, A1, c1, hW⟩
end
theorem xB_at {r : List Pq} {i k : Nat} {a : Pq} (h : r[i]? = some a) : xB r i k = bitB a.x k := by unfold xB rowP; rw [List.getD_eq_getElem?_getD, h]; rfl
theorem zB_at {r : List Pq} {i k : Nat} {a : Pq} (h : r[i]? = some a) : zB r i k = bitB a.z k := by unfold zB rowP; rw [List.getD_eq_getElem?_getD, h]; rfl
theorem rowP_at {r : List Pq} {i : Nat} {a : Pq} (h : r[i]? = some a) : rowP r i = a := by unfold rowP; rw [List.getD_eq_getElem?_getD, h]; rfl
theorem s_Do2 (R W n B : Nat) (s : SSt) (k : Int) (a b : Nat) (bi : Int) (w0 w : World) (hn : 1 <= n /\ n <= 4) (h : SI R W 159 n B s w0 w) (hb : bi = (b : Nat)) (hg : okN n ⟨k, a, (b : Nat), 0⟩ = true) (hc : cliff k = true) (hB : B <= 1000) :
  Calls Tryz.prog 189 #[.pointer (some ⟨W, 0, none⟩), .agg #[.int .i64 k, .int .i64 (a : Nat), .int .i64 bi, .int .i64 0]] w fun e w' => e = .returned (.tuple #[]) /\ SI R W 159 n (B + 1) (doS n s k a b) w0 w' := by
 subst hb
 obtain ⟨h1, h2, h3, h4⟩ := h
 refine (s_Do R W n s.1 s.2 ⟨k, a, b, 0⟩ w hn h3 h1.1 hg hc (by omega)).mono ?_
 rintro e w' ⟨rfl, hW, hb⟩
 exact ⟨rfl, doS_ok h1 hg hc, by rw [doS_len]; omega, hW, h4.trans hb⟩
theorem i_Emit (R W n B : Nat) (s : SSt) (k : Int) (a b : Nat) (bi : Int) (w0 w : World) (hn : 1 <= n /\ n <= 4) (h : SI R W 163 n B s w0 w) (hb : bi = (b : Nat)) (hg : okN n ⟨k, a, (b : Nat), 0⟩ = true) (hc : cliff k = true) (hB : B <= 1000) :
  Calls Tryz.prog 198 #[.pointer (some ⟨W, 0, none⟩), .int .i64 k, .int .i64 (a : Nat), .int .i64 bi] w fun e w' => e = .returned (.tuple #[]) /\ SI R W 163 n (B + 1) (doS n s k a b) w0 w' := by
 subst hb
 obtain ⟨h1, h2, h3, h4⟩ := h
 refine (i_Emit0 R W n s.1 s.2 ⟨k, a, b, 0⟩ w hn h3 h1.1 hg hc (by omega) rfl).mono ?_
 rintro e w' ⟨rfl, hW, hb⟩
 exact ⟨rfl, doS_ok h1 hg hc, by rw [doS_len]; omega, hW, h4.trans hb⟩
open Go.RowKit
set_option maxRecDepth 100000 in
theorem s_First (R W n B0 q : Nat) (S0 : SSt) (w0 w : World) (hn : 1 <= n /\ n <= 4) (hq : q < n) (h : SI R W 159 n B0 S0 w0 w) (hB : B0 <= 500) :
  Calls Tryz.prog 152 #[.pointer (some ⟨W, 0, none⟩), .int .i64 (q : Nat)] w fun e w' => e = .returned (.tuple #[]) /\ SI R W 159 n (B0 + 9) (firstQ n q S0) w0 w' := by
 obtain ⟨S1, eS1⟩ : ∃ S, loopK (f1 n q) q (n - q) S0 = S := ⟨_, rfl⟩
 obtain ⟨F, eF⟩ : ∃ F, fndX S1.1 q q (n - 1 - q) = F := ⟨_, rfl⟩
 have hF1 : q <= F /\ F <= n - 1 := by have := fndX_bd S1.1 q (n - 1 - q) q; omega
 obtain ⟨S2, eS2⟩ : ∃ S, sw1 n q S1 = S := ⟨_, rfl⟩
 have HE2 := zH (show (if F = q then S1 else doS n S1 11 q F) = S2 by rw [<- eS2, <- eF]; rfl)
 obtain ⟨S3, eS3⟩ : ∃ S, loopK (f2 n q) (q + 1) (n - (q + 1)) S2 = S := ⟨_, rfl⟩
 have HE3 := zH (show firstQ n q S0 = S3 by rw [<- eS3, <- eS2, <- eS1]; rfl)
 have HF := zH eF
 clear eF
 have HS1 := zH eS1
 clear eS1
 have HS3 := zH eS3
 clear eS3
 clear eS2
 have n1 : (1 : Int) <= (n : Int) := by omega
 have n4 : (n : Int) <= 4 := by omega
 have q0 : (0 : Int) <= (q : Int) := by omega
 have qn : (q : Int) < (n : Int) := by omega
 have HS := zH h
 clear h
 obtain ⟨A0, c0, A1, c1, hW⟩ := HS.out.2.2.1
 obtain ⟨t0, t1, t2, _⟩ := hW.1.three
 clear hW
 go_enter Tryz.func152, Tryz.ntmps152
 go_upto_block 0 with fail
 go_cut [5] from 14 to 45 (fun i wx => SI R W 159 n (B0 + 1 * n) S1 w0 wx)
 case first =>
  go_wp2_with fail
  go_loopg [5] (n - (q)) (fun m i wr => ∃ (k : Nat) (s : SSt), k + m = n /\ i = .int .i64 k /\ q <= k /\ loopK (f1 n q) k m s = S1 /\ SI R W 159 n (B0 + 1 * k) s w0 wr)
  case atStart => exact ⟨q, _, by omega, by go_num, by omega, HS1.out, HS.out.mono (by omega)⟩
  case round =>
   clear HS HS1
   obtain ⟨k, s, hk, rfl, hqk, hfin, hS⟩ := hrel
   have HS := zH hS
   clear hS
   by_cases hlt : k < n
   ·have NX := zH (loopK_next hlt hk hfin)
    clear hfin
    obtain ⟨a, ha, hoa, A0, c0, A1, c1, hW⟩ := HS.out.row (i := q) (by omega)
    have HW := zH hW
    have HA := zH ha
    have hx16 := (okQ16 hn.2 hoa).1
    have hz16 := (okQ16 hn.2 hoa).2.1
    obtain ⟨b, off, rfl⟩ := hW.rd.first (by omega)
    obtain ⟨hbl, y0, y1, y2, y3⟩ := hW.rd.cellsAt (pgs_drop ha)
    simp only [pg] at y0 y1 y2 y3
    obtain ⟨t0, t1, t2, _⟩ := hW.1.three
    have HB := HA
    have hi1 : (q : Int) < ((2 * n : Nat) : Int) := by omega
    clear hW ha
    have EX := zH (xB_at (k := k) HB.out)
    have EZ := zH (zB_at (k := k) HB.out)
    cases hx : bitB a.x k
    ·skip
     cases hz : bitB a.z k
     ·skip
      go_wp2_with fail
      have HP := zH (Bx.new wr 151 #[.int .i64 (n : Nat), .int .i64 (a.x : Nat), .int .i64 (a.z : Nat), .int .i64 (a.p : Nat)])
      have HS := zH (HS.out.alloc (.cells #[.int .i64 (n : Nat), .int .i64 (a.x : Nat), .int .i64 (a.z : Nat), .int .i64 (a.p : Nat)] 151))
      clear y0 y1 y2 y3 t0 t1 t2 hbl
      refine (s_28X n k a _ hx16 (by omega)).mono ?_
      rintro e wq ⟨rfl, bq⟩
      have HP := zH (HP.out.below bq)
      obtain ⟨p0, p1, p2, p3, _⟩ := HP.out.four
      have HS := zH (HS.out.below bq)
      clear bq
      go_wp2_with fail
      refine (s_28Z n k a _ hz16 (by omega)).mono ?_
      rintro e wq ⟨rfl, bq⟩
      have HP := zH (HP.out.below bq)
      obtain ⟨p0, p1, p2, p3, _⟩ := HP.out.four
      have HS := zH (HS.out.below bq)
      clear bq
      go_wp2_with fail
      go_roundg (gk - 1)
      all_goals first
       |omega
       |exact ⟨k + 1, _, by omega, by go_num, by omega, by have := NX.out; rwa [show f1 n q k s = s by unfold f1; (try rw [EX.out]); (try rw [EZ.out]); (try rw [hx]); (try rw [hz]); rfl] at this, HS.out.mono (by omega)⟩
     ·skip
      go_wp2_with fail
      have HP := zH (Bx.new wr 151 #[.int .i64 (n : Nat), .int .i64 (a.x : Nat), .int .i64 (a.z : Nat), .int .i64 (a.p : Nat)])
      have HS := zH (HS.out.alloc (.cells #[.int .i64 (n : Nat), .int .i64 (a.x : Nat), .int .i64 (a.z : Nat), .int .i64 (a.p : Nat)] 151))
      clear y0 y1 y2 y3 t0 t1 t2 hbl
      refine (s_28X n k a _ hx16 (by omega)).mono ?_
      rintro e wq ⟨rfl, bq⟩
      have HP := zH (HP.out.below bq)
      obtain ⟨p0, p1, p2, p3, _⟩ := HP.out.four
      have HS := zH (HS.out.below bq)
      clear bq
      go_wp2_with fail
      refine (s_28Z n k a _ hz16 (by omega)).mono ?_
      rintro e wq ⟨rfl, bq⟩
      have HP := zH (HP.out.below bq)
      obtain ⟨p0, p1, p2, p3, _⟩ := HP.out.four
      have HS := zH (HS.out.below bq)
      clear bq
      go_wp2_with fail
      refine (s_one 4 k _).mono ?_
      rintro e wq ⟨rfl, bq⟩
      have HS := zH (HS.out.below bq)
      clear bq
      go_wp2_with fail
      refine (s_Do2 R W n (B0 + 1 * k) _ 4 k 0 _ w0 _ hn HS.out rfl (one_okS hn (by omega) (show (4 : Int) ∈ oneKs by decide)).1 (one_okS (q := k) hn (by omega) (show (4 : Int) ∈ oneKs by decide)).2 (by omega)).mono ?_
      rintro e wq ⟨rfl, hq0⟩
      have HS := zH hq0
      clear hq0
      go_wp2_with fail
      go_roundg (gk - 1)
      all_goals first
       |omega
       |exact ⟨k + 1, _, by omega, by go_num, by omega, by have := NX.out; rwa [show f1 n q k s = doS n s 4 k 0 by unfold f1; (try rw [EX.out]); (try rw [EZ.out]); (try rw [hx]); (try rw [hz]); rfl] at this, HS.out.mono (by omega)⟩
    ·skip
     cases hz : bitB a.z k
     ·skip
      go_wp2_with fail
      have HP := zH (Bx.new wr 151 #[.int .i64 (n : Nat), .int .i64 (a.x : Nat), .int .i64 (a.z : Nat), .int .i64 (a.p : Nat)])
      have HS := zH (HS.out.alloc (.cells #[.int .i64 (n : Nat), .int .i64 (a.x : Nat), .int .i64 (a.z : Nat), .int .i64 (a.p : Nat)] 151))
      clear y0 y1 y2 y3 t0 t1 t2 hbl
      refine (s_28X n k a _ hx16 (by omega)).mono ?_
      rintro e wq ⟨rfl, bq⟩
      have HP := zH (HP.out.below bq)
      obtain ⟨p0, p1, p2, p3, _⟩ := HP.out.four
      have HS := zH (HS.out.below bq)
      clear bq
      go_wp2_with fail
      refine (s_28Z n k a _ hz16 (by omega)).mono ?_
      rintro e wq ⟨rfl, bq⟩
      have HP := zH (HP.out.below bq)
      obtain ⟨p0, p1, p2, p3, _⟩ := HP.out.four
      have HS := zH (HS.out.below bq)
      clear bq
      go_wp2_with fail
      refine (s_28Z n k a _ hz16 (by omega)).mono ?_
      rintro e wq ⟨rfl, bq⟩
      have HP := zH (HP.out.below bq)
      obtain ⟨p0, p1, p2, p3, _⟩ := HP.out.four
      have HS := zH (HS.out.below bq)
      clear bq
      go_wp2_with fail
      go_roundg (gk - 1)
      all_goals first
       |omega
       |exact ⟨k + 1, _, by omega, by go_num, by omega, by have := NX.out; rwa [show f1 n q k s = s by unfold f1; (try rw [EX.out]); (try rw [EZ.out]); (try rw [hx]); (try rw [hz]); rfl] at this, HS.out.mono (by omega)⟩
     ·skip
      go_wp2_with fail
      have HP := zH (Bx.new wr 151 #[.int .i64 (n : Nat), .int .i64 (a.x : Nat), .int .i64 (a.z : Nat), .int .i64 (a.p : Nat)])
      have HS := zH (HS.out.alloc (.cells #[.int .i64 (n : Nat), .int .i64 (a.x : Nat), .int .i64 (a.z : Nat), .int .i64 (a.p : Nat)] 151))
      clear y0 y1 y2 y3 t0 t1 t2 hbl
      refine (s_28X n k a _ hx16 (by omega)).mono ?_
      rintro e wq ⟨rfl, bq⟩
      have HP := zH (HP.out.below bq)
      obtain ⟨p0, p1, p2, p3, _⟩ := HP.out.four
      have HS := zH (HS.out.below bq)
      clear bq
      go_wp2_with fail
      refine (s_28Z n k a _ hz16 (by omega)).mono ?_
      rintro e wq ⟨rfl, bq⟩
      have HP := zH (HP.out.below bq)
      obtain ⟨p0, p1, p2, p3, _⟩ := HP.out.four
      have HS := zH (HS.out.below bq)
      clear bq
      go_wp2_with fail
      refine (s_one 5 k _).mono ?_
      rintro e wq ⟨rfl, bq⟩
      have HS := zH (HS.out.below bq)
      clear bq
      go_wp2_with fail
      refine (s_Do2 R W n (B0 + 1 * k) _ 5 k 0 _ w0 _ hn HS.out rfl (one_okS hn (by omega) (show (5 : Int) ∈ oneKs by decide)).1 (one_okS (q := k) hn (by omega) (show (5 : Int) ∈ oneKs by decide)).2 (by omega)).mono ?_
      rintro e wq ⟨rfl, hq0⟩
      have HS := zH hq0
      clear hq0
      go_wp2_with fail
      go_roundg (gk - 1)
      all_goals first
       |omega
       |exact ⟨k + 1, _, by omega, by go_num, by omega, by have := NX.out; rwa [show f1 n q k s = doS n s 5 k 0 by unfold f1; (try rw [EX.out]); (try rw [EZ.out]); (try rw [hx]); (try rw [hz]); rfl] at this, HS.out.mono (by omega)⟩
   ·obtain rfl : n = k := by omega
    obtain rfl : gk = 0 := by omega
    obtain rfl : s = S1 := hfin
    go_wp2_with fail
    go_meet
    exact HS.out
 case rest =>
  have HS := zH hcut
  clear hcut
  obtain ⟨wn, rfl⟩ : ∃ wn, wn = wc := ⟨_, rfl⟩
  go_upto_block 2 with fail
  go_cut [7] from 47 to 65 (fun i wx => i = .int .i64 (F : Nat) /\ SI R W 159 n (B0 + 1 * n) S1 w0 wx)
  case first =>
   go_wp2_with fail
   go_loopg [7] (n + 1 - q) (fun m i wr => ∃ (k : Nat), k + m = n + 1 /\ i = .int .i64 k /\ q <= k /\ k <= n - 1 /\ fndX S1.1 q k (n - 1 - k) = F /\ SI R W 159 n (B0 + 1 * n) S1 w0 wr)
   case atStart => exact ⟨q, by omega, rfl, by omega, by omega, HF.out, HS.out⟩
   case round =>
    clear HS HF
    obtain ⟨k, hk, rfl, hqk, hkn, hfin, hS⟩ := hrel
    have HS := zH hS
    clear hS
    by_cases hlt : k < n - 1
    ·have HFK := zH (fndX_step (by omega) hfin)
     clear hfin
     have hltI : (k : Int) < (n : Int) - 1 := by omega
     have hltd : decide ((k : Int) < (n : Int) - 1) = true := by simpa using hltI
     obtain ⟨a, ha, hoa, A0, c0, A1, c1, hW⟩ := HS.out.row (i := q) (by omega)
     have HW := zH hW
     have HA := zH ha
     have hx16 := (okQ16 hn.2 hoa).1
     have hz16 := (okQ16 hn.2 hoa).2.1
     obtain ⟨b, off, rfl⟩ := hW.rd.first (by omega)
     obtain ⟨hbl, y0, y1, y2, y3⟩ := hW.rd.cellsAt (pgs_drop ha)
     simp only [pg] at y0 y1 y2 y3
     obtain ⟨t0, t1, t2, _⟩ := hW.1.three
     have HB := HA
     have hi1 : (q : Int) < ((2 * n : Nat) : Int) := by omega
     clear hW ha
     have EX := zH (xB_at (k := k) HA.out)
     cases hx : bitB a.x k
     ·skip
      have HK := zH (show fndX S1.1 q (k + 1) (n - 1 - (k + 1)) = F by have := HFK.out; rwa [EX.out, hx, if_neg (by decide)] at this)
      go_wp2_with fail
      refine (s_28X n k a _ hx16 (by omega)).mono ?_
      rintro e wq ⟨rfl, bq⟩
      have HS := zH (HS.out.below bq)
      clear bq
      go_wp2_with fail
      go_roundg (gk - 1)
      all_goals first
       |omega
       |exact ⟨k + 1, by omega, by go_num, by omega, by omega, HK.out, HS.out⟩
     ·skip
      have HK := zH (show k = F by have := HFK.out; rwa [EX.out, hx, if_pos rfl] at this)
      go_wp2_with fail
      refine (s_28X n k a _ hx16 (by omega)).mono ?_
      rintro e wq ⟨rfl, bq⟩
      have HS := zH (HS.out.below bq)
      clear bq
      go_wp2_with fail
      go_meet
      exact ⟨by rw [HK.out], HS.out⟩
    ·have HK := zH (show k = F by rw [show n - 1 - k = 0 by omega] at hfin; exact hfin)
     clear hfin
     have hltI : ¬ ((k : Int) < (n : Int) - 1) := by omega
     have hltd : decide ((k : Int) < (n : Int) - 1) = false := by simpa using hltI
     go_wp2_with fail
     go_meet
     exact ⟨by rw [HK.out], HS.out⟩
  case rest =>
   obtain ⟨rfl, hS⟩ := hcut
   have HS := zH hS
   clear hS
   obtain ⟨wn, rfl⟩ : ∃ wn, wn = wc := ⟨_, rfl⟩
   go_upto_if 68 with fail
   go_cut [69] from 68 to 73 (fun i wx => SI R W 159 n (B0 + 1 * n + 1) S2 w0 wx)
   case first =>
    by_cases hF : F = q
    ·subst hF
     have HE := zH (show S1 = S2 by have := HE2.out; rwa [if_pos rfl] at this)
     go_wp2_with fail
     go_meet
     exact HE.out ▸ HS.out.mono (by omega)
    ·have HE := zH (show doS n S1 11 q F = S2 by have := HE2.out; rwa [if_neg hF] at this)
     have hFI : ¬ ((F : Int) = (q : Int)) := by omega
     have hFd : ((F : Int) != (q : Int)) = true := by simpa using hFI
     go_wp2_with fail
     refine (s_Do2 R W n (B0 + 1 * n) _ 11 q F _ w0 _ hn HS.out rfl (two_okS hn (show q < n by omega) (show F < n by omega) (by omega)).2 (by decide) (by omega)).mono ?_
     rintro e wq ⟨rfl, hq0⟩
     have HS := zH hq0
     clear hq0
     go_wp2_with fail
     go_meet
     exact HE.out ▸ HS.out
   case rest =>
    have HS := zH hcut
    clear hcut
    obtain ⟨wn, rfl⟩ : ∃ wn, wn = wc := ⟨_, rfl⟩
    go_upto_block 4 with fail
    go_wp2_with fail
    go_loopg [7] (n - (q + 1)) (fun m i wr => ∃ (k : Nat) (s : SSt), k + m = n /\ i = .int .i64 k /\ q + 1 <= k /\ loopK (f2 n q) k m s = S3 /\ SI R W 159 n (B0 + 1 * n + 1 + 1 * k) s w0 wr)
    case atStart => exact ⟨q + 1, _, by omega, by go_num, by omega, HS3.out, HS.out.mono (by omega)⟩
    case round =>
     clear HS HS3
     obtain ⟨k, s, hk, rfl, hqk, hfin, hS⟩ := hrel
     have HS := zH hS
     clear hS
     by_cases hlt : k < n
     ·have NX := zH (loopK_next hlt hk hfin)
      clear hfin
      obtain ⟨a, ha, hoa, A0, c0, A1, c1, hW⟩ := HS.out.row (i := q) (by omega)
      have HW := zH hW
      have HA := zH ha
      have hx16 := (okQ16 hn.2 hoa).1
      have hz16 := (okQ16 hn.2 hoa).2.1
      obtain ⟨b, off, rfl⟩ := hW.rd.first (by omega)
      obtain ⟨hbl, y0, y1, y2, y3⟩ := hW.rd.cellsAt (pgs_drop ha)
      simp only [pg] at y0 y1 y2 y3
      obtain ⟨t0, t1, t2, _⟩ := hW.1.three
      have HB := HA
      have hi1 : (q : Int) < ((2 * n : Nat) : Int) := by omega
      clear hW ha
      have EX := zH (xB_at (k := k) HB.out)
      have EZ := zH (zB_at (k := k) HB.out)
      cases hx : bitB a.x k
      ·skip
       go_wp2_with fail
       refine (s_28X n k a _ hx16 (by omega)).mono ?_
       rintro e wq ⟨rfl, bq⟩
       have HS := zH (HS.out.below bq)
       clear bq
       go_wp2_with fail
       go_roundg (gk - 1)
       all_goals first
        |omega
        |exact ⟨k + 1, _, by omega, by go_num, by omega, by have := NX.out; rwa [show f2 n q k s = s by unfold f2; (try rw [EX.out]); (try rw [EZ.out]); (try rw [hx]); (try rw [hz]); rfl] at this, HS.out.mono (by omega)⟩
      ·skip
       go_wp2_with fail
       refine (s_28X n k a _ hx16 (by omega)).mono ?_
       rintro e wq ⟨rfl, bq⟩
       have HS := zH (HS.out.below bq)
       clear bq
       go_wp2_with fail
       refine (s_cx q k _).mono ?_
       rintro e wq ⟨rfl, bq⟩
       have HS := zH (HS.out.below bq)
       clear bq
       go_wp2_with fail
       refine (s_Do2 R W n (B0 + 1 * n + 1 + 1 * k) _ 9 q k _ w0 _ hn HS.out rfl (two_okS hn (show q < n by omega) (show k < n by omega) (by omega)).1 (by decide) (by omega)).mono ?_
       rintro e wq ⟨rfl, hq0⟩
       have HS := zH hq0
       clear hq0
       go_wp2_with fail
       go_roundg (gk - 1)
       all_goals first
        |omega
        |exact ⟨k + 1, _, by omega, by go_num, by omega, by have := NX.out; rwa [show f2 n q k s = doS n s 9 q k by unfold f2; (try rw [EX.out]); (try rw [EZ.out]); (try rw [hx]); (try rw [hz]); rfl] at this, HS.out.mono (by omega)⟩
     ·obtain rfl : n = k := by omega
      obtain rfl : gk = 0 := by omega
      obtain rfl : s = S3 := hfin
      go_wp2_with fail
      (first | go_ret | go_end0)
      exact ⟨rfl, by rw [HE3.out]; exact HS.out.mono (by omega)⟩
end Go.Proofs.YtmenmibfkojnoaaGreat
