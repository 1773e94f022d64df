/- Plain: the number of ones among 64 bits, as math/bits reckons it and as a loop counts it. Nothing is asked. Contracts of ones (impl), l25Ones (spec). Nothing is asked. Contracts of same at terms and outputs, and of EqualPhasePolynomial (impl and spec). At most 2^40 terms and outputs. Contract of EqualPhasePolynomial (impl). At most 2^40 terms and outputs. Contracts of EvalPhasePolynomial (impl, spec). At most 2^39 terms and outputs. Plain: what a phase polynomial says of each basis state is what the gates do to it. Nothing else is asked. Contracts of CountGates (spec), SwapCount (spec, impl). The list has at most 2^40 gates. Contracts of the laws' helpers on slices of gates: eqGateS, markGateS, heldGateS. The slices have at most 2^40 gates. -/
import Derived.Test.YtibhikngiceeeaaProg
import Derived.Test.YtibhikngiceeeaaBase
import Derived.Test.YtibhikngiceeeaaDraw
import Derived.Test.YtibhikngiceeeaaPolyC
import Derived.Test.YtibhikngiceeeaaInv
import Derived.Test.YtibhikngiceeeaaDomP
import Derived.Test.YtibhikngiceeeaaFoldQ
import Derived.Test.YtibhikngiceeeaaGateS
import Derived.Lib.Hide
import Derived.Outline
import Derived.Deep.QuietTactic
import Derived.BigQuiet
import Derived.StillTailTactics
namespace Go.Proofs.Ytibhikngiceeeaa

def popN : Nat → Nat → Nat
  | 0, _ => 0
  | f + 1, x => x % 2 + popN f (x / 2)
def ofB : List Nat → Nat
  | [] => 0
  | a :: r => a + 256 * ofB r
def bts : Nat → Nat → List Nat
  | 0, _ => []
  | f + 1, x => x % 256 :: bts f (x / 256)
theorem ofB_bts : ∀ (f x : Nat), x < 256 ^ f → ofB (bts f x) = x
  | 0, x, h => by simp at h; subst h; rfl
  | f + 1, x, h => by
    rw [Nat.pow_succ] at h
    have := ofB_bts f (x / 256) (by omega)
    rw [bts, ofB, this]
    omega
theorem bts_lt : ∀ (f x : Nat), ∀ b ∈ bts f x, b < 256
  | 0, _, b, h => by simp [bts] at h
  | f + 1, x, b, h => by
    rw [bts] at h
    rcases List.mem_cons.1 h with h | h
    · omega
    · exact bts_lt f _ b h
theorem popN_split : ∀ (k f x : Nat), popN (k + f) x = popN k (x % 2 ^ k) + popN f (x / 2 ^ k)
  | 0, f, x => by simp [popN]
  | k + 1, f, x => by
    have e : k + 1 + f = (k + f) + 1 := by omega
    rw [e, popN, popN_split k f (x / 2), popN]
    have h1 : x % 2 ^ (k + 1) % 2 = x % 2 := by
      rw [Nat.pow_succ, Nat.mul_comm]
      exact Nat.mod_mul_right_mod x 2 (2 ^ k)
    have h2 : x % 2 ^ (k + 1) / 2 = x / 2 % 2 ^ k := by
      rw [Nat.pow_succ, Nat.mul_comm]
      exact Nat.mod_mul_right_div_self x 2 (2 ^ k)
    have h3 : x / 2 / 2 ^ k = x / 2 ^ (k + 1) := by
      rw [Nat.div_div_eq_div_mul, Nat.pow_succ, Nat.mul_comm]
    rw [h1, h2, h3]
    omega
theorem popN_byte (f a b : Nat) (ha : a < 256) : popN (8 + f) (a + 256 * b) = popN 8 a + popN f b := by
  rw [popN_split]
  have h1 : (a + 256 * b) % 2 ^ 8 = a := by omega
  have h2 : (a + 256 * b) / 2 ^ 8 = b := by omega
  rw [h1, h2]
theorem and_byte (a b c d : Nat) (ha : a < 256) (hc : c < 256) : (a + 256 * b) &&& (c + 256 * d) = (a &&& c) + 256 * (b &&& d) := by
  have h1 := Nat.and_mod_two_pow (a := a + 256 * b) (b := c + 256 * d) (n := 8)
  have h2 := Nat.and_div_two_pow (a := a + 256 * b) (b := c + 256 * d) (n := 8)
  have e1 : (a + 256 * b) % 2 ^ 8 = a := by omega
  have e2 : (c + 256 * d) % 2 ^ 8 = c := by omega
  have e3 : (a + 256 * b) / 2 ^ 8 = b := by omega
  have e4 : (c + 256 * d) / 2 ^ 8 = d := by omega
  rw [e1, e2] at h1
  rw [e3, e4] at h2
  omega
def msk (c : Nat) : List Nat → Nat
  | [] => 0
  | _ :: r => c + 256 * msk c r
def s1 (a : Nat) : Nat := (a / 2 &&& 85) + (a &&& 85)
def s2 (a : Nat) : Nat := (a / 4 &&& 51) + (a &&& 51)
def s3 (a : Nat) : Nat := (a / 16 + a) &&& 15
theorem s1_low : ∀ (a : Fin 256) (b : Fin 2), ((a.val / 2 + 128 * b.val) &&& 85) + (a.val &&& 85) = s1 a.val ∧ s1 a.val < 256 := by decide +kernel
theorem s2_low : ∀ (a : Fin 256) (b : Fin 4), ((a.val / 4 + 64 * b.val) &&& 51) + (a.val &&& 51) = s2 a.val ∧ s2 a.val < 256 ∧ s2 a.val % 16 ≤ 6 ∧ s2 a.val / 16 ≤ 6 := by decide +kernel
theorem s3_low : ∀ (a : Fin 103) (b : Fin 9), ((a.val / 16 + 16 * b.val + a.val) &&& 15) = s3 a.val := by decide +kernel
theorem pop_all : ∀ a : Fin 256, s3 (s2 (s1 a.val)) = popN 8 a.val ∧ popN 8 a.val ≤ 8 := by decide +kernel
theorem step1 : ∀ (l : List Nat), (∀ a ∈ l, a < 256) → (ofB l / 2 &&& msk 85 l) + (ofB l &&& msk 85 l) = ofB (l.map s1)
  | [], _ => rfl
  | a :: r, h => by
    have ha := h a (by simp)
    have ih := step1 r fun b hb => h b (by simp [hb])
    obtain ⟨h1, _⟩ := s1_low ⟨a, ha⟩ ⟨ofB r % 2, by omega⟩
    simp only at h1
    have e1 : (a + 256 * ofB r) / 2 = (a / 2 + 128 * (ofB r % 2)) + 256 * (ofB r / 2) := by omega
    simp only [ofB, msk, List.map_cons]
    rw [e1, and_byte _ _ _ _ (by omega) (by omega), and_byte _ _ _ _ ha (by omega), ← ih, ← h1]
    omega
theorem step2 : ∀ (l : List Nat), (∀ a ∈ l, a < 256) → (ofB l / 4 &&& msk 51 l) + (ofB l &&& msk 51 l) = ofB (l.map s2)
  | [], _ => rfl
  | a :: r, h => by
    have ha := h a (by simp)
    have ih := step2 r fun b hb => h b (by simp [hb])
    obtain ⟨h1, _⟩ := s2_low ⟨a, ha⟩ ⟨ofB r % 4, by omega⟩
    simp only at h1
    have e1 : (a + 256 * ofB r) / 4 = (a / 4 + 64 * (ofB r % 4)) + 256 * (ofB r / 4) := by omega
    simp only [ofB, msk, List.map_cons]
    rw [e1, and_byte _ _ _ _ (by omega) (by omega), and_byte _ _ _ _ ha (by omega), ← ih, ← h1]
    omega
theorem low16 : ∀ (l : List Nat), (∀ a ∈ l, a % 16 ≤ 6) → ofB l % 16 ≤ 6
  | [], _ => by simp [ofB]
  | a :: r, h => by
    have := h a (by simp)
    simp only [ofB]
    omega
theorem step3 : ∀ (l : List Nat), (∀ a ∈ l, a % 16 ≤ 6 ∧ a / 16 ≤ 6) → (ofB l / 16 + ofB l &&& msk 15 l) = ofB (l.map s3)
  | [], _ => rfl
  | a :: r, h => by
    obtain ⟨ha1, ha2⟩ := h a (by simp)
    have ih := step3 r fun b hb => h b (by simp [hb])
    have hr := low16 r fun b hb => (h b (by simp [hb])).1
    have h1 := s3_low ⟨a, by omega⟩ ⟨ofB r % 16, by omega⟩
    simp only at h1
    have e1 : (a + 256 * ofB r) / 16 + (a + 256 * ofB r) = (a / 16 + 16 * (ofB r % 16) + a) + 256 * (ofB r / 16 + ofB r) := by omega
    simp only [ofB, msk, List.map_cons]
    rw [e1, and_byte _ _ _ _ (by omega) (by omega), ← ih, ← h1]
theorem msk_len (c : Nat) : ∀ (l : List Nat) (l' : List Nat), l.length = l'.length → msk c l = msk c l'
  | [], [], _ => rfl
  | _ :: r, _ :: r', h => by
    rw [msk, msk, msk_len c r r' (by simpa using h)]
theorem bts_len : ∀ f x : Nat, (bts f x).length = f
  | 0, _ => rfl
  | f + 1, x => by rw [bts, List.length_cons, bts_len f]
theorem popN_bytes : ∀ (l : List Nat), (∀ a ∈ l, a < 256) → popN (8 * l.length) (ofB l) = (l.map (popN 8)).sum
  | [], _ => rfl
  | a :: r, h => by
    have ih := popN_bytes r fun b hb => h b (by simp [hb])
    rw [show 8 * (a :: r).length = 8 + 8 * r.length by simp; omega, ofB, popN_byte _ _ _ (h a (by simp)), ih]
    simp
/-- What math/bits.OnesCount64 reckons of x. -/
def swarA (x : Nat) : Nat := (x / 2 &&& 6148914691236517205) + (x &&& 6148914691236517205)
def swarB (y : Nat) : Nat := (y / 4 &&& 3689348814741910323) + (y &&& 3689348814741910323)
def swarC (z : Nat) : Nat := (z / 16 + z) &&& 1085102592571150095
theorem ofB8 (c0 c1 c2 c3 c4 c5 c6 c7 : Nat) : ofB [c0, c1, c2, c3, c4, c5, c6, c7] = c0 + 256 * c1 + 65536 * c2 + 16777216 * c3 + 4294967296 * c4 + 1099511627776 * c5 + 281474976710656 * c6 + 72057594037927936 * c7 := by
  simp only [ofB]
  omega
theorem ofB8_lt (m c0 c1 c2 c3 c4 c5 c6 c7 : Nat) (h0 : c0 < m) (h1 : c1 < m) (h2 : c2 < m) (h3 : c3 < m) (h4 : c4 < m) (h5 : c5 < m) (h6 : c6 < m) (h7 : c7 < m) (hm : m ≤ 256) : ofB [c0, c1, c2, c3, c4, c5, c6, c7] < 18446744073709551616 := by
  rw [ofB8]
  omega
theorem lt103 {a : Nat} (h : a % 16 ≤ 6 ∧ a / 16 ≤ 6) : a < 103 := by omega
theorem ofB8_sum (c0 c1 c2 c3 c4 c5 c6 c7 : Nat) (h0 : c0 < 103) (h1 : c1 < 103) (h2 : c2 < 103) (h3 : c3 < 103) (h4 : c4 < 103) (h5 : c5 < 103) (h6 : c6 < 103) (h7 : c7 < 103) : ofB [c0, c1, c2, c3, c4, c5, c6, c7] / 16 + ofB [c0, c1, c2, c3, c4, c5, c6, c7] < 18446744073709551616 := by
  rw [ofB8]
  omega
theorem swarA_eq (x : Nat) : swarA x = (x / 2 &&& 6148914691236517205) + (x &&& 6148914691236517205) := by unfold swarA; exact Eq.refl _
theorem swarB_eq (y : Nat) : swarB y = (y / 4 &&& 3689348814741910323) + (y &&& 3689348814741910323) := by unfold swarB; exact Eq.refl _
theorem swarC_eq (z : Nat) : swarC z = (z / 16 + z) &&& 1085102592571150095 := by unfold swarC; exact Eq.refl _
theorem eight {l : List Nat} (h : l.length = 8) : ∃ a b c d e f g k, l = [a, b, c, d, e, f, g, k] := by
  match l, h with
  | [a, b, c, d, e, f, g, k], _ => exact ⟨a, b, c, d, e, f, g, k, rfl⟩
theorem msk8_85 {l : List Nat} (h : l.length = 8) : msk 85 l = 6148914691236517205 := by
  obtain ⟨a, b, c, d, e, f, g, k, rfl⟩ := eight h
  simp only [msk]
theorem msk8_51 {l : List Nat} (h : l.length = 8) : msk 51 l = 3689348814741910323 := by
  obtain ⟨a, b, c, d, e, f, g, k, rfl⟩ := eight h
  simp only [msk]
theorem msk8_15 {l : List Nat} (h : l.length = 8) : msk 15 l = 1085102592571150095 := by
  obtain ⟨a, b, c, d, e, f, g, k, rfl⟩ := eight h
  simp only [msk]
theorem ofB_lt8 {l : List Nat} (h : l.length = 8) (hb : ∀ a ∈ l, a < 256) : ofB l < 18446744073709551616 := by
  obtain ⟨a, b, c, d, e, f, g, k, rfl⟩ := eight h
  simp only [List.mem_cons, List.not_mem_nil, or_false, forall_eq_or_imp, forall_eq] at hb
  obtain ⟨k0, k1, k2, k3, k4, k5, k6, k7⟩ := hb
  exact ofB8_lt 256 _ _ _ _ _ _ _ _ k0 k1 k2 k3 k4 k5 k6 k7 (Nat.le_refl _)
theorem ofB_sum8 {l : List Nat} (h : l.length = 8) (hb : ∀ a ∈ l, a < 103) : ofB l / 16 + ofB l < 18446744073709551616 := by
  obtain ⟨a, b, c, d, e, f, g, k, rfl⟩ := eight h
  simp only [List.mem_cons, List.not_mem_nil, or_false, forall_eq_or_imp, forall_eq] at hb
  obtain ⟨k0, k1, k2, k3, k4, k5, k6, k7⟩ := hb
  exact ofB8_sum _ _ _ _ _ _ _ _ k0 k1 k2 k3 k4 k5 k6 k7
def l1 (x : Nat) : List Nat := (bts 8 x).map s1
def l2 (x : Nat) : List Nat := (l1 x).map s2
def l3 (x : Nat) : List Nat := (l2 x).map s3
theorem l_len (x : Nat) : (bts 8 x).length = 8 ∧ (l1 x).length = 8 ∧ (l2 x).length = 8 ∧ (l3 x).length = 8 := by
  have := bts_len 8 x
  simp [l1, l2, l3, this]
theorem l1_lt (x : Nat) : ∀ a ∈ l1 x, a < 256 := by
  intro a ha
  obtain ⟨c, hc, rfl⟩ := List.mem_map.1 ha
  exact (s1_low ⟨c, bts_lt 8 x c hc⟩ 0).2
theorem l2_lt (x : Nat) : ∀ a ∈ l2 x, a < 256 ∧ a % 16 ≤ 6 ∧ a / 16 ≤ 6 := by
  intro a ha
  obtain ⟨c, hc, rfl⟩ := List.mem_map.1 ha
  exact (s2_low ⟨c, l1_lt x c hc⟩ 0).2
theorem swA (x : Nat) (hx : x < 18446744073709551616) : swarA x = ofB (l1 x) := by
  have e := step1 (bts 8 x) (bts_lt 8 x)
  rw [msk8_85 (l_len x).1, ofB_bts 8 x (by simpa using hx)] at e
  rw [swarA_eq]
  exact e
theorem swB (x : Nat) (hx : x < 18446744073709551616) : swarB (swarA x) = ofB (l2 x) := by
  have e := step2 (l1 x) (l1_lt x)
  rw [msk8_51 (l_len x).2.1, ← swA x hx] at e
  rw [swarB_eq]
  exact e
theorem swC (x : Nat) (hx : x < 18446744073709551616) : swarC (swarB (swarA x)) = ofB (l3 x) := by
  have e := step3 (l2 x) (fun a ha => (l2_lt x a ha).2)
  rw [msk8_15 (l_len x).2.2.1, ← swB x hx] at e
  rw [swarC_eq]
  exact e
theorem l3_pop (x : Nat) : l3 x = (bts 8 x).map (popN 8) := by
  unfold l3 l2 l1
  rw [List.map_map, List.map_map]
  exact List.map_congr_left fun b hb => (pop_all ⟨b, bts_lt 8 x b hb⟩).1
theorem popN_sum (x : Nat) (hx : x < 18446744073709551616) : popN 64 x = ((bts 8 x).map (popN 8)).sum := by
  have hp := popN_bytes (bts 8 x) (bts_lt 8 x)
  rw [bts_len, ofB_bts 8 x (by simpa using hx)] at hp
  exact hp
theorem swar_bytes (x : Nat) (hx : x < 18446744073709551616) : ∃ p0 p1 p2 p3 p4 p5 p6 p7 : Nat, p0 ≤ 8 ∧ p1 ≤ 8 ∧ p2 ≤ 8 ∧ p3 ≤ 8 ∧ p4 ≤ 8 ∧ p5 ≤ 8 ∧ p6 ≤ 8 ∧ p7 ≤ 8 ∧
    swarA x < 18446744073709551616 ∧ swarB (swarA x) < 18446744073709551616 ∧ swarB (swarA x) / 16 + swarB (swarA x) < 18446744073709551616 ∧
    swarC (swarB (swarA x)) = p0 + 256 * p1 + 65536 * p2 + 16777216 * p3 + 4294967296 * p4 + 1099511627776 * p5 + 281474976710656 * p6 + 72057594037927936 * p7 ∧ popN 64 x = p0 + p1 + p2 + p3 + p4 + p5 + p6 + p7 := by
  obtain ⟨b0, b1, b2, b3, b4, b5, b6, b7, hl⟩ := eight (l_len x).1
  have q : ∀ b ∈ bts 8 x, popN 8 b ≤ 8 := fun b hb' => (pop_all ⟨b, bts_lt 8 x b hb'⟩).2
  have c := swC x hx
  have d := popN_sum x hx
  rw [l3_pop] at c
  rw [hl] at q c d
  simp only [List.mem_cons, List.not_mem_nil, or_false, forall_eq_or_imp, forall_eq] at q
  obtain ⟨d0, d1, d2, d3, d4, d5, d6, d7⟩ := q
  refine ⟨popN 8 b0, popN 8 b1, popN 8 b2, popN 8 b3, popN 8 b4, popN 8 b5, popN 8 b6, popN 8 b7, d0, d1, d2, d3, d4, d5, d6, d7, ?_, ?_, ?_, ?_, ?_⟩
  · rw [swA x hx]; exact ofB_lt8 (l_len x).2.1 (l1_lt x)
  · rw [swB x hx]; exact ofB_lt8 (l_len x).2.2.1 fun a ha => (l2_lt x a ha).1
  · rw [swB x hx]; exact ofB_sum8 (l_len x).2.2.1 fun a ha => lt103 (l2_lt x a ha).2
  · rw [c]
    simp only [List.map_cons, List.map_nil]
    exact ofB8 _ _ _ _ _ _ _ _
  · rw [d]
    simp only [List.map_cons, List.map_nil, List.sum_cons, List.sum_nil]
    generalize popN 8 b0 = r0, popN 8 b1 = r1, popN 8 b2 = r2, popN 8 b3 = r3, popN 8 b4 = r4, popN 8 b5 = r5, popN 8 b6 = r6, popN 8 b7 = r7
    omega
/-- The rest of OnesCount64: the bytes added up. -/
theorem tailA (p0 p1 p2 p3 p4 p5 p6 p7 y : Nat) (h0 : p0 ≤ 8) (h1 : p1 ≤ 8) (h2 : p2 ≤ 8) (h3 : p3 ≤ 8) (h4 : p4 ≤ 8) (h5 : p5 ≤ 8) (h6 : p6 ≤ 8) (h7 : p7 ≤ 8) (hy : y = p0 + 256 * p1 + 65536 * p2 + 16777216 * p3 + 4294967296 * p4 + 1099511627776 * p5 + 281474976710656 * p6 + 72057594037927936 * p7) : y + y / 256 < 9000000000000000000 ∧ y + y / 256 = (p0 + p1) + 256 * (p1 + p2) + 65536 * (p2 + p3) + 16777216 * (p3 + p4) + 4294967296 * (p4 + p5) + 1099511627776 * (p5 + p6) + 281474976710656 * (p6 + p7) + 72057594037927936 * p7 := by
  have : y / 256 = p1 + 256 * p2 + 65536 * p3 + 16777216 * p4 + 4294967296 * p5 + 1099511627776 * p6 + 281474976710656 * p7 := by omega
  omega
theorem tailB (q0 q1 q2 q3 q4 q5 q6 q7 y : Nat) (h0 : q0 ≤ 16) (h1 : q1 ≤ 16) (h2 : q2 ≤ 16) (h3 : q3 ≤ 16) (h4 : q4 ≤ 16) (h5 : q5 ≤ 16) (h6 : q6 ≤ 16) (h7 : q7 ≤ 16) (hy : y = q0 + 256 * q1 + 65536 * q2 + 16777216 * q3 + 4294967296 * q4 + 1099511627776 * q5 + 281474976710656 * q6 + 72057594037927936 * q7) : y + y / 65536 < 9000000000000000000 ∧ y + y / 65536 = (q0 + q2) + 256 * (q1 + q3) + 65536 * (q2 + q4) + 16777216 * (q3 + q5) + 4294967296 * (q4 + q6) + 1099511627776 * (q5 + q7) + 281474976710656 * q6 + 72057594037927936 * q7 := by
  have : y / 65536 = q2 + 256 * q3 + 65536 * q4 + 16777216 * q5 + 4294967296 * q6 + 1099511627776 * q7 := by omega
  omega
theorem tailC (q0 q1 q2 q3 q4 q5 q6 q7 y : Nat) (h0 : q0 ≤ 32) (h1 : q1 ≤ 32) (h2 : q2 ≤ 32) (h3 : q3 ≤ 32) (h4 : q4 ≤ 32) (h5 : q5 ≤ 32) (h6 : q6 ≤ 32) (h7 : q7 ≤ 32) (hy : y = q0 + 256 * q1 + 65536 * q2 + 16777216 * q3 + 4294967296 * q4 + 1099511627776 * q5 + 281474976710656 * q6 + 72057594037927936 * q7) : y + y / 4294967296 < 9000000000000000000 ∧ (y + y / 4294967296) % 128 = q0 + q4 := by
  have : y / 4294967296 = q4 + 256 * q5 + 65536 * q6 + 16777216 * q7 := by omega
  omega
theorem swar_tail (p0 p1 p2 p3 p4 p5 p6 p7 : Nat) (h0 : p0 ≤ 8) (h1 : p1 ≤ 8) (h2 : p2 ≤ 8) (h3 : p3 ≤ 8) (h4 : p4 ≤ 8) (h5 : p5 ≤ 8) (h6 : p6 ≤ 8) (h7 : p7 ≤ 8) (y a b c : Nat)
    (hy : y = p0 + 256 * p1 + 65536 * p2 + 16777216 * p3 + 4294967296 * p4 + 1099511627776 * p5 + 281474976710656 * p6 + 72057594037927936 * p7)
    (ha : a = y + y / 256) (hb : b = a + a / 65536) (hc : c = b + b / 4294967296) : a < 9223372036854775808 ∧ b < 9223372036854775808 ∧ c < 9223372036854775808 ∧ c % 128 = p0 + p1 + p2 + p3 + p4 + p5 + p6 + p7 := by
  obtain ⟨f1, e1⟩ := tailA p0 p1 p2 p3 p4 p5 p6 p7 y h0 h1 h2 h3 h4 h5 h6 h7 hy
  rw [← ha] at e1 f1
  clear ha hy
  obtain ⟨f2, e2⟩ := tailB _ _ _ _ _ _ _ _ a (by omega) (by omega) (by omega) (by omega) (by omega) (by omega) (by omega) (by omega) e1
  rw [← hb] at e2 f2
  clear hb e1
  obtain ⟨f3, e3⟩ := tailC _ _ _ _ _ _ _ _ b (by omega) (by omega) (by omega) (by omega) (by omega) (by omega) (by omega) (by omega) e2
  rw [← hc] at e3 f3
  clear hc e2
  exact ⟨by omega, by omega, by omega, by omega⟩
theorem popN_le : ∀ f x : Nat, popN f x ≤ f
  | 0, _ => Nat.le_refl _
  | f + 1, x => by have := popN_le f (x / 2); rw [popN]; omega
/-- The loop's count: the bits from i on. -/
theorem popN_bit (f i x : Nat) : popN (f + 1) (x / 2 ^ i) = x / 2 ^ i % 2 + popN f (x / 2 ^ (i + 1)) := by
  rw [popN, Nat.div_div_eq_div_mul, Nat.pow_succ]
end Go.Proofs.Ytibhikngiceeeaa
namespace Go.Proofs.Ytibhikngiceeeaa
open Go.RowKit

/-- The number of ones of x as 64 bits. -/
def onesI (x : Int) : Int := (popN 64 (x % 18446744073709551616).toNat : Nat)
theorem u64_wrap (n : Nat) (h : n < 18446744073709551616) : IntKind.u64.wrap (n : Int) = n := by
  have : IntKind.u64.wrap (n : Int) = (n : Int) % 18446744073709551616 := by rfl
  rw [this]; omega
theorem u64_and (a b : Nat) (ha : a < 18446744073709551616) (hb : b < 18446744073709551616) : bits .and .u64 (a : Int) (b : Int) = ((a &&& b : Nat) : Int) := by
  have h : bits .and .u64 (a : Int) (b : Int) = IntKind.u64.wrap (((BitVec.ofInt 64 (a : Int) &&& BitVec.ofInt 64 (b : Int)).toNat : Nat) : Int) := rfl
  have h2 : (BitVec.ofInt 64 (a : Int) &&& BitVec.ofInt 64 (b : Int)).toNat = a &&& b := by
    rw [BitVec.toNat_and, BitVec.ofInt_natCast, BitVec.ofInt_natCast, BitVec.toNat_ofNat, BitVec.toNat_ofNat, Nat.mod_eq_of_lt ha, Nat.mod_eq_of_lt hb]
  rw [h, h2, u64_wrap]
  exact Nat.lt_of_le_of_lt Nat.and_le_left ha
theorem i64_low (n : Nat) : bits .and .i64 (n : Int) 127 = ((n % 128 : Nat) : Int) := by
  have h : bits .and .i64 (n : Int) 127 = IntKind.i64.wrap (((BitVec.ofInt 64 (n : Int) &&& BitVec.ofInt 64 (127 : Int)).toNat : Nat) : Int) := rfl
  have h2 : (BitVec.ofInt 64 (n : Int) &&& BitVec.ofInt 64 (127 : Int)).toNat = n % 128 := by
    have h3 : (BitVec.ofInt 64 (127 : Int)).toNat = 127 := by decide
    rw [BitVec.toNat_and, h3, BitVec.ofInt_natCast, BitVec.toNat_ofNat]
    have := Nat.and_two_pow_sub_one_eq_mod (n % 2 ^ 64) 7
    rw [show (2 : Nat) ^ 7 - 1 = 127 by decide] at this
    rw [this]
    omega
  rw [h, h2, IntKind.wrap_i64]
  omega
theorem divN (a b : Nat) : (a : Int) / (b : Int) = ((a / b : Nat) : Int) := (Int.natCast_ediv a b).symm
theorem s64A (x : Nat) (hx : x < 18446744073709551616) : IntKind.u64.wrap (bits .and .u64 ((x : Int) / 2) 6148914691236517205 + bits .and .u64 (x : Int) 6148914691236517205) = (swarA x : Nat) := by
  obtain ⟨p0, p1, p2, p3, p4, p5, p6, p7, _, _, _, _, _, _, _, _, hA, _⟩ := swar_bytes x hx
  have e1 := u64_and (x / 2) 6148914691236517205 (by omega) (by omega)
  have e2 := u64_and x 6148914691236517205 hx (by omega)
  rw [show ((6148914691236517205 : Nat) : Int) = 6148914691236517205 from rfl] at e1 e2
  rw [show (x : Int) / 2 = ((x / 2 : Nat) : Int) from divN x 2, e1, e2, ← Int.natCast_add, ← swarA_eq, u64_wrap _ hA]
theorem s64B (y : Nat) (hy : y < 18446744073709551616) (hB : swarB y < 18446744073709551616) : IntKind.u64.wrap (bits .and .u64 ((y : Int) / 4) 3689348814741910323 + bits .and .u64 (y : Int) 3689348814741910323) = (swarB y : Nat) := by
  have e1 := u64_and (y / 4) 3689348814741910323 (by omega) (by omega)
  have e2 := u64_and y 3689348814741910323 hy (by omega)
  rw [show ((3689348814741910323 : Nat) : Int) = 3689348814741910323 from rfl] at e1 e2
  rw [show (y : Int) / 4 = ((y / 4 : Nat) : Int) from divN y 4, e1, e2, ← Int.natCast_add, ← swarB_eq, u64_wrap _ hB]
theorem s64C (z : Nat) (hz : z / 16 + z < 18446744073709551616) : bits .and .u64 (IntKind.u64.wrap ((z : Int) / 16 + (z : Int))) 1085102592571150095 = (swarC z : Nat) := by
  have e1 := u64_and (z / 16 + z) 1085102592571150095 hz (by omega)
  rw [show ((1085102592571150095 : Nat) : Int) = 1085102592571150095 from rfl] at e1
  rw [show (z : Int) / 16 = ((z / 16 : Nat) : Int) from divN z 16, ← Int.natCast_add, u64_wrap _ hz, e1, ← swarC_eq]
theorem s64s (z d : Nat) (h : z + z / d < 18446744073709551616) : IntKind.u64.wrap ((z : Int) + (z : Int) / (d : Int)) = ((z + z / d : Nat) : Int) := by
  rw [divN, ← Int.natCast_add, u64_wrap _ h]
theorem s64_end (x : Nat) (hx : x < 18446744073709551616) (c a b e : Nat) (hc : c = swarC (swarB (swarA x))) (ha : a = c + c / 256) (hb : b = a + a / 65536) (he : e = b + b / 4294967296) :
    a < 9223372036854775808 ∧ b < 9223372036854775808 ∧ e < 9223372036854775808 ∧ e % 128 = popN 64 x := by
  obtain ⟨p0, p1, p2, p3, p4, p5, p6, p7, h0, h1, h2, h3, h4, h5, h6, h7, hA, hB, hS, hC, hP⟩ := swar_bytes x hx
  rw [hP]
  exact swar_tail p0 p1 p2 p3 p4 p5 p6 p7 h0 h1 h2 h3 h4 h5 h6 h7 c a b e (by rw [hc, hC]) ha hb he
set_option maxHeartbeats 800000 in
theorem b_Ones64 (x : Nat) (w : World) (hx : x < 18446744073709551616) : Calls Try.prog 170 #[.int .u64 x] w fun e w' => e = .returned (.int .i64 (popN 64 x : Nat)) ∧ w = w' := by
  have HX := Lib.hid hx
  clear hx
  go_enter Try.func170, Try.ntmps170
  go_wp2_with fail
  go_ret
  refine ⟨ret_int ?_, rfl⟩
  have hx := HX.out
  obtain ⟨p0, p1, p2, p3, p4, p5, p6, p7, _, _, _, _, _, _, _, _, hA, hB, hS, _, _⟩ := swar_bytes x hx
  obtain ⟨k1, k2, k3, k4⟩ := s64_end x hx _ _ _ _ rfl rfl rfl rfl
  have hC : swarC (swarB (swarA x)) < 18446744073709551616 := by omega
  have t1 := s64s (swarC (swarB (swarA x))) 256 (by omega)
  have t2 := s64s (swarC (swarB (swarA x)) + swarC (swarB (swarA x)) / 256) 65536 (by omega)
  have t3 := s64s (swarC (swarB (swarA x)) + swarC (swarB (swarA x)) / 256 + (swarC (swarB (swarA x)) + swarC (swarB (swarA x)) / 256) / 65536) 4294967296 (by omega)
  rw [show ((256 : Nat) : Int) = 256 from rfl] at t1
  rw [show ((65536 : Nat) : Int) = 65536 from rfl] at t2
  rw [show ((4294967296 : Nat) : Int) = 4294967296 from rfl] at t3
  rw [s64A x hx, s64B _ hA hB, s64C _ hS, t1, t2, t3]
  generalize swarC (swarB (swarA x)) + swarC (swarB (swarA x)) / 256 + (swarC (swarB (swarA x)) + swarC (swarB (swarA x)) / 256) / 65536 + (swarC (swarB (swarA x)) + swarC (swarB (swarA x)) / 256 + (swarC (swarB (swarA x)) + swarC (swarB (swarA x)) / 256) / 65536) / 4294967296 = e at k3 k4
  have hw : wrap64 (e : Int) = e := by unfold wrap64; omega
  rw [hw, i64_low, k4]
set_option maxHeartbeats 800000 in
theorem b_Ones (x : Nat) (w : World) (hx : x < 18446744073709551616) : Calls Try.prog 154 #[.int .u64 x] w fun e w' => e = .returned (.int .i64 (popN 64 x : Nat)) ∧ w = w' := by
  have HX := Lib.hid hx
  clear hx
  go_enter Try.func154, Try.ntmps154
  go_wp2_with fail
  refine (b_Ones64 x _ HX.out).mono ?_
  rintro e w' ⟨rfl, rfl⟩
  go_wp2_with fail
  go_ret
  exact ⟨rfl, rfl⟩
set_option maxHeartbeats 800000 in
theorem i_ones (x : Int) (w : World) : Calls Try.prog 106 #[.int .i64 x] w fun e w' => e = .returned (.int .i64 (onesI x)) ∧ w = w' := by
  obtain ⟨n, hn, hw⟩ : ∃ n : Nat, n < 18446744073709551616 ∧ IntKind.u64.wrap x = n ∧ popN 64 n = popN 64 (x % 18446744073709551616).toNat := by
    refine ⟨(x % 18446744073709551616).toNat, by omega, ?_, rfl⟩
    have : IntKind.u64.wrap x = x % 18446744073709551616 := by rfl
    rw [this]; omega
  obtain ⟨hw, he⟩ := hw
  have HN := Lib.hid hn
  have HE := Lib.hid he
  clear hn he
  go_enter Try.func106, Try.ntmps106
  go_wp2_with fail
  refine (b_Ones n _ HN.out).mono ?_
  rintro e w' ⟨rfl, rfl⟩
  go_wp2_with fail
  go_ret
  exact ⟨ret_int (by rw [HE.out]; rfl), rfl⟩
theorem and_one (a : Int) : bits .and .i64 a 1 = a % 2 := by
  have h : bits .and .i64 a 1 = IntKind.i64.wrap (((BitVec.ofInt 64 a &&& BitVec.ofInt 64 (1 : Int)).toNat : Nat) : Int) := rfl
  have h2 : (BitVec.ofInt 64 (1 : Int)).toNat = 1 := by decide
  have h3 : (BitVec.ofInt 64 a &&& BitVec.ofInt 64 (1 : Int)).toNat = (BitVec.ofInt 64 a).toNat % 2 := by
    rw [BitVec.toNat_and, h2, Nat.and_one_is_mod]
  have h4 : (BitVec.ofInt 64 a).toNat = (a % 18446744073709551616).toNat := by
    rw [BitVec.toNat_ofInt]; rfl
  rw [h, IntKind.wrap_i64, h3, h4]
  omega
theorem shr_bit (x : Int) (k f : Nat) : ((popN (f + 1) ((x % 18446744073709551616).toNat / 2 ^ k) : Nat) : Int) = ((x % 18446744073709551616).toNat / 2 ^ k % 2 : Nat) + (popN f ((x % 18446744073709551616).toNat / 2 ^ (k + 1)) : Nat) := by
  rw [popN_bit]; omega
/-- Bit k of x, below bit 64. -/
theorem bit_of (x : Int) (k : Nat) (hk : k < 64) : (x / 2 ^ k) % 2 = (((x % 18446744073709551616).toNat / 2 ^ k % 2 : Nat) : Int) := by
  obtain ⟨r, q, hr, h1⟩ : ∃ (r : Nat) (q : Int), (x % 18446744073709551616).toNat = r ∧ x = r + 18446744073709551616 * q := ⟨_, x / 18446744073709551616, rfl, by omega⟩
  rw [hr]
  have h2 : (18446744073709551616 : Int) = 2 * 2 ^ (63 - k) * 2 ^ k := by
    rw [Int.mul_assoc, ← Int.pow_add, show 63 - k + k = 63 by omega]; rfl
  have h3 : x = r + (2 * (2 ^ (63 - k) * q)) * 2 ^ k := by
    rw [h1, h2]
    congr 1
    rw [Int.mul_assoc, Int.mul_assoc, Int.mul_assoc, Int.mul_comm (2 ^ k) q]
    rw [Int.mul_assoc]
  rw [h3, Int.add_mul_ediv_right _ _ (Int.pow_ne_zero (by omega)), Int.natCast_emod, Int.natCast_ediv, Int.natCast_pow]
  have h4 : ((2 : Nat) : Int) = 2 := rfl
  rw [h4]
  omega
def cntTo (x : Int) : Nat → Int
  | 0 => 0
  | k + 1 => cntTo x k + (x / 2 ^ k) % 2
theorem cntTo_pop (x : Int) : ∀ k : Nat, k ≤ 64 → cntTo x k + (popN (64 - k) ((x % 18446744073709551616).toNat / 2 ^ k) : Nat) = onesI x
  | 0, _ => by simp [cntTo, onesI]
  | k + 1, h => by
    have ih := cntTo_pop x k (by omega)
    obtain ⟨f, hf⟩ : ∃ f, 64 - k = f + 1 := ⟨63 - k, by omega⟩
    rw [hf, shr_bit, ← bit_of x k (by omega)] at ih
    rw [show 64 - (k + 1) = f by omega, cntTo]
    omega
theorem cntTo_bd (x : Int) : ∀ k : Nat, 0 ≤ cntTo x k ∧ cntTo x k ≤ k
  | 0 => by simp [cntTo]
  | k + 1 => by
    have := cntTo_bd x k
    rw [cntTo]
    omega
theorem onesI_bd (x : Int) : 0 ≤ onesI x ∧ onesI x ≤ 64 := by
  have := popN_le 64 (x % 18446744073709551616).toNat
  unfold onesI
  omega
set_option maxHeartbeats 800000 in
theorem s_ones (x : Int) (w : World) : Calls Try.prog 103 #[.int .i64 x] w fun e w' => e = .returned (.int .i64 (onesI x)) ∧ w = w' := by
  go_enter Try.func103, Try.ntmps103
  go_wp2_with fail
  go_loop [3, 4] (fun n i => ∃ k : Nat, k ≤ 64 ∧ i = .int .i64 k ∧ n = .int .i64 (cntTo x k)) (fun _ i => 64 - (intOf i).toNat)
  case atStart => exact ⟨0, by omega, rfl, rfl⟩
  case round =>
    obtain ⟨k, hk, rfl, rfl⟩ := hrel
    have hb := cntTo_bd x k
    by_cases hlt : k < 64
    · have h1 := and_one (x / 2 ^ k)
      have h2 : 0 ≤ (x / 2 ^ k) % 2 ∧ (x / 2 ^ k) % 2 ≤ 1 := by omega
      have HC : Hid (cntTo x (k + 1) = cntTo x k + (x / 2 ^ k) % 2) := Lib.hid rfl
      generalize (x / 2 ^ k) % 2 = z at h1 h2 HC
      go_wp2_with fail
      go_round
      case rel => exact ⟨k + 1, by omega, by go_num, by rw [HC.out]⟩
      case measure => simp [intOf]; omega
    · obtain rfl : k = 64 := by omega
      have HC : Hid (cntTo x 64 = onesI x) := Lib.hid (by have := cntTo_pop x 64 (by omega); simpa [popN] using this)
      go_wp2_with fail
      go_ret
      exact ⟨ret_int HC.out, rfl⟩
end Go.Proofs.Ytibhikngiceeeaa
namespace Go.Proofs.Ytibhikngiceeeaa
open Go.RowKit

def sameP (a b : List (Int × Int)) : Bool := decide (a = b)
theorem sameP_len {a b : List (Int × Int)} (h : a.length ≠ b.length) : sameP a b = false := by
  unfold sameP
  rw [decide_eq_false_iff_not]
  rintro rfl
  exact h rfl
theorem sameP_ne {a b : List (Int × Int)} {k : Nat} {x y : Int × Int} {r s : List (Int × Int)} (h1 : a.drop k = x :: r) (h2 : b.drop k = y :: s) (h : x ≠ y) : sameP a b = false := by
  unfold sameP
  rw [decide_eq_false_iff_not]
  rintro rfl
  rw [h1] at h2
  injection h2 with h2 _
  exact h h2
theorem dnn (w : World) (a b : Nat) : (w.drewN a).drewN b = w.drewN (a + b) := by simp [World.drewN, Nat.add_assoc]
theorem RdP.drewNN {w : World} {n : Nat} {A : Option Addr} {gs : List (Int × Int)} (h : RdP w A n gs) (q : Nat) : RdP (w.drewN q) A n gs := ⟨h.1, h.2.drewN q⟩
theorem sameP_self (a : List (Int × Int)) : sameP a a = true := by simp [sameP]

set_option maxRecDepth 100000 in
set_option maxHeartbeats 1600000 in
theorem i_samePT (A A' : Option Addr) (n n' c c' : Nat) (a b : List (Int × Int)) (w : World) (h : RdP w A n a) (h' : RdP w A' n' b) (hn : n ≤ 1099511627776) (hn' : n' ≤ 1099511627776) :
    Calls Try.prog 74 #[.slice A n c, .slice A' n' c'] w fun e w' => e = .returned (.bool (sameP a b)) ∧ ∃ m, w' = w.drewN m := by
  have H := Lib.hid h
  have H' := Lib.hid h'
  have hl := h.1
  have hl' := h'.1
  clear h h'
  by_cases hnn : n = n'
  · subst hnn
    clear hl hl'
    go_enter Try.func74, Try.ntmps74
    go_wp2_with fail
    go_loopg [13] n (fun m i wr => ∃ (k q : Nat), k + m = n ∧ i = .int .i64 k ∧ a.take k = b.take k ∧ wr = w.drewN q)
    case atStart => exact ⟨0, 0, by omega, rfl, rfl, rfl⟩
    case round =>
      obtain ⟨k, q, hk, rfl, he, rfl⟩ := hrel
      have HE := Lib.hid he
      clear he
      by_cases hlt : k < n
      · obtain ⟨g, off, x, y, hA, hB, hd, c0, c1⟩ := H.out.at_ hlt
        obtain ⟨g', off', x', y', hA', hB', hd', c0', c1'⟩ := H'.out.at_ hlt
        subst hA hA'
        have HD := Lib.hid hd
        have HD' := Lib.hid hd'
        clear hd hd'
        have hkI : (k : Int) < (n : Int) := by omega
        have hk0 : (0 : Int) ≤ (k : Int) := by omega
        by_cases hx : x = x'
        · subst hx
          by_cases hy : y = y'
          · subst hy
            go_wp2_with fail
            go_quiet (fail)
            go_wp2_with fail
            go_roundg (gk - 1)
            case measure => omega
            case rel => exact ⟨k + 1, _, by omega, by go_num, by rw [take_snoc HD.out, take_snoc HD'.out, HE.out], rfl⟩
          · have hy1 : (y == y') = false := by simpa using hy
            go_wp2_with fail
            go_quiet (fail)
            go_wp2_with fail
            go_ret
            exact ⟨ret_bool (sameP_ne HD.out HD'.out (by simpa using hy)).symm, _, dnn _ _ _⟩
        · have hx1 : (x == x') = false := by simpa using hx
          go_wp2_with fail
          go_quiet (fail)
          go_wp2_with fail
          go_ret
          exact ⟨ret_bool (sameP_ne HD.out HD'.out (by intro h; injection h; contradiction)).symm, _, dnn _ _ _⟩
      · go_wp2_with fail
        go_ret
        obtain rfl : k = n := by omega
        refine ⟨ret_bool ?_, _, rfl⟩
        have e := HE.out
        rw [List.take_of_length_le (by have := H.out.1; omega), List.take_of_length_le (by have := H'.out.1; omega)] at e
        rw [e, sameP_self]
  · have hnn' : ((n : Int) != (n' : Int)) = true := by simp; omega
    go_enter Try.func74, Try.ntmps74
    go_wp2_with fail
    go_ret
    exact ⟨ret_bool (sameP_len (by omega)).symm, 0, rfl⟩
set_option maxRecDepth 100000 in
set_option maxHeartbeats 1600000 in
theorem i_samePA (A A' : Option Addr) (n n' c c' : Nat) (a b : List (Int × Int)) (w : World) (h : RdP w A n a) (h' : RdP w A' n' b) (hn : n ≤ 1099511627776) (hn' : n' ≤ 1099511627776) :
    Calls Try.prog 75 #[.slice A n c, .slice A' n' c'] w fun e w' => e = .returned (.bool (sameP a b)) ∧ ∃ m, w' = w.drewN m := by
  have H := Lib.hid h
  have H' := Lib.hid h'
  have hl := h.1
  have hl' := h'.1
  clear h h'
  by_cases hnn : n = n'
  · subst hnn
    clear hl hl'
    go_enter Try.func75, Try.ntmps75
    go_wp2_with fail
    go_loopg [13] n (fun m i wr => ∃ (k q : Nat), k + m = n ∧ i = .int .i64 k ∧ a.take k = b.take k ∧ wr = w.drewN q)
    case atStart => exact ⟨0, 0, by omega, rfl, rfl, rfl⟩
    case round =>
      obtain ⟨k, q, hk, rfl, he, rfl⟩ := hrel
      have HE := Lib.hid he
      clear he
      by_cases hlt : k < n
      · obtain ⟨g, off, x, y, hA, hB, hd, c0, c1⟩ := H.out.at_ hlt
        obtain ⟨g', off', x', y', hA', hB', hd', c0', c1'⟩ := H'.out.at_ hlt
        subst hA hA'
        have HD := Lib.hid hd
        have HD' := Lib.hid hd'
        clear hd hd'
        have hkI : (k : Int) < (n : Int) := by omega
        have hk0 : (0 : Int) ≤ (k : Int) := by omega
        by_cases hx : x = x'
        · subst hx
          by_cases hy : y = y'
          · subst hy
            go_wp2_with fail
            go_quiet (fail)
            go_wp2_with fail
            go_roundg (gk - 1)
            case measure => omega
            case rel => exact ⟨k + 1, _, by omega, by go_num, by rw [take_snoc HD.out, take_snoc HD'.out, HE.out], rfl⟩
          · have hy1 : (y == y') = false := by simpa using hy
            go_wp2_with fail
            go_quiet (fail)
            go_wp2_with fail
            go_ret
            exact ⟨ret_bool (sameP_ne HD.out HD'.out (by simpa using hy)).symm, _, dnn _ _ _⟩
        · have hx1 : (x == x') = false := by simpa using hx
          go_wp2_with fail
          go_quiet (fail)
          go_wp2_with fail
          go_ret
          exact ⟨ret_bool (sameP_ne HD.out HD'.out (by intro h; injection h; contradiction)).symm, _, dnn _ _ _⟩
      · go_wp2_with fail
        go_ret
        obtain rfl : k = n := by omega
        refine ⟨ret_bool ?_, _, rfl⟩
        have e := HE.out
        rw [List.take_of_length_le (by have := H.out.1; omega), List.take_of_length_le (by have := H'.out.1; omega)] at e
        rw [e, sameP_self]
  · have hnn' : ((n : Int) != (n' : Int)) = true := by simp; omega
    go_enter Try.func75, Try.ntmps75
    go_wp2_with fail
    go_ret
    exact ⟨ret_bool (sameP_len (by omega)).symm, 0, rfl⟩
end Go.Proofs.Ytibhikngiceeeaa
namespace Go.Proofs.Ytibhikngiceeeaa
open Go.RowKit
set_option linter.unusedVariables false

def eqP (N H N' H' : Int) (t o t' o' : List (Int × Int)) : Bool := (N == N') && ((H == H') && (sameP t t' && sameP o o'))

set_option maxRecDepth 100000 in
set_option maxHeartbeats 3200000 in
theorem i_EqualP (N H N' H' : Int) (AT AT' AO AO' : Option Addr) (nT cT nT' cT' nO cO nO' cO' : Nat) (t t' o o' : List (Int × Int)) (w : World) (hT : RdP w AT nT t) (hT' : RdP w AT' nT' t') (hO : RdP w AO nO o) (hO' : RdP w AO' nO' o') (b1 : nT ≤ 1099511627776) (b2 : nT' ≤ 1099511627776) (b3 : nO ≤ 1099511627776) (b4 : nO' ≤ 1099511627776) :
    Calls Try.prog 24 #[.agg #[.int .i64 N, .int .i64 H, .slice AT nT cT, .slice AO nO cO], .agg #[.int .i64 N', .int .i64 H', .slice AT' nT' cT', .slice AO' nO' cO']] w fun e w' => e = .returned (.bool (eqP N H N' H' t o t' o')) ∧ Below w.heap.size w w' := by
  have HRT := Lib.hid hT
  have HRT' := Lib.hid hT'
  have HRO := Lib.hid hO
  have HRO' := Lib.hid hO'
  clear hT hT' hO hO'
  have X0 := Lib.hid (show Bx ((w.alloc (.cells #[.int .i64 N, .int .i64 H, .slice AT nT cT, .slice AO nO cO] 32)).alloc (.cells #[.int .i64 N', .int .i64 H', .slice AT' nT' cT', .slice AO' nO' cO'] 32)) w.heap.size 32 #[.int .i64 N, .int .i64 H, .slice AT nT cT, .slice AO nO cO] from (Bx.new w _ _).alloc _)
  have X1 := Lib.hid (show Bx ((w.alloc (.cells #[.int .i64 N, .int .i64 H, .slice AT nT cT, .slice AO nO cO] 32)).alloc (.cells #[.int .i64 N', .int .i64 H', .slice AT' nT' cT', .slice AO' nO' cO'] 32)) (w.heap.size + 1) 32 #[.int .i64 N', .int .i64 H', .slice AT' nT' cT', .slice AO' nO' cO'] from Bx.new' (by simp))
  have BZ : Hid (Below w.heap.size w ((w.alloc (.cells #[.int .i64 N, .int .i64 H, .slice AT nT cT, .slice AO nO cO] 32)).alloc (.cells #[.int .i64 N', .int .i64 H', .slice AT' nT' cT', .slice AO' nO' cO'] 32))) := Lib.hid (((Below.refl _ _).alloc (Nat.le_refl _) _).alloc (by simp) _)
  cases e1 : (N == N')
  · have E1 := Lib.hid e1
    go_enter Try.func24, Try.ntmps24
    go_wp2_with fail
    go_ret
    exact ⟨ret_bool (by unfold eqP; rw [E1.out]; simp), BZ.out⟩
  · have E1 := Lib.hid e1
    cases e2 : (H == H')
    · have E2 := Lib.hid e2
      go_enter Try.func24, Try.ntmps24
      go_wp2_with fail
      go_ret
      exact ⟨ret_bool (by unfold eqP; rw [E1.out, E2.out]; simp), BZ.out⟩
    · have E2 := Lib.hid e2
      cases e3 : sameP t t'
      · have E3 := Lib.hid e3
        clear e3
        go_enter Try.func24, Try.ntmps24
        go_wp2_with fail
        refine (i_samePT _ _ _ _ _ _ t t' _ (HRT.out.below BZ.out) (HRT'.out.below BZ.out) b1 b2).mono ?_
        rintro e w1 ⟨rfl, m, rfl⟩
        rw [E3.out]
        have hl0 : w.heap.size < ((w.alloc (.cells #[.int .i64 N, .int .i64 H, .slice AT nT cT, .slice AO nO cO] 32)).alloc (.cells #[.int .i64 N', .int .i64 H', .slice AT' nT' cT', .slice AO' nO' cO'] 32)).heap.size := X0.out.lt
        have hl1 : w.heap.size + 1 < ((w.alloc (.cells #[.int .i64 N, .int .i64 H, .slice AT nT cT, .slice AO nO cO] 32)).alloc (.cells #[.int .i64 N', .int .i64 H', .slice AT' nT' cT', .slice AO' nO' cO'] 32)).heap.size := X1.out.lt
        go_wp2_with fail
        go_ret
        exact ⟨ret_bool (by unfold eqP; rw [E1.out, E2.out, E3.out]; simp), below_drewN BZ.out m⟩
      · have E3 := Lib.hid e3
        clear e3
        go_enter Try.func24, Try.ntmps24
        go_wp2_with fail
        refine (i_samePT _ _ _ _ _ _ t t' _ (HRT.out.below BZ.out) (HRT'.out.below BZ.out) b1 b2).mono ?_
        rintro e w1 ⟨rfl, m, rfl⟩
        rw [E3.out]
        have hl0 : w.heap.size < ((w.alloc (.cells #[.int .i64 N, .int .i64 H, .slice AT nT cT, .slice AO nO cO] 32)).alloc (.cells #[.int .i64 N', .int .i64 H', .slice AT' nT' cT', .slice AO' nO' cO'] 32)).heap.size := X0.out.lt
        have hl1 : w.heap.size + 1 < ((w.alloc (.cells #[.int .i64 N, .int .i64 H, .slice AT nT cT, .slice AO nO cO] 32)).alloc (.cells #[.int .i64 N', .int .i64 H', .slice AT' nT' cT', .slice AO' nO' cO'] 32)).heap.size := X1.out.lt
        go_wp2_with fail
        refine (i_samePA _ _ _ _ _ _ o o' _ ((HRO.out.below BZ.out).drewNN m) ((HRO'.out.below BZ.out).drewNN m) b3 b4).mono ?_
        rintro e w1 ⟨rfl, m2, rfl⟩
        go_wp2_with fail
        go_ret
        exact ⟨ret_bool (by unfold eqP; rw [E1.out, E2.out, E3.out]; simp), below_drewN BZ.out _⟩
set_option maxRecDepth 100000 in
set_option maxHeartbeats 6400000 in
theorem s_EqualP (N H N' H' : Int) (AT AT' AO AO' : Option Addr) (nT cT nT' cT' nO cO nO' cO' : Nat) (t t' o o' : List (Int × Int)) (w : World) (hT : RdP w AT nT t) (hT' : RdP w AT' nT' t') (hO : RdP w AO nO o) (hO' : RdP w AO' nO' o') (b1 : nT ≤ 1099511627776) (b2 : nT' ≤ 1099511627776) (b3 : nO ≤ 1099511627776) (b4 : nO' ≤ 1099511627776) :
    Calls Try.prog 25 #[.agg #[.int .i64 N, .int .i64 H, .slice AT nT cT, .slice AO nO cO], .agg #[.int .i64 N', .int .i64 H', .slice AT' nT' cT', .slice AO' nO' cO']] w fun e w' => e = .returned (.bool (eqP N H N' H' t o t' o')) ∧ Below w.heap.size w w' := by
  have HRT := Lib.hid hT
  have hlT := hT.1
  have HRT' := Lib.hid hT'
  have hlT' := hT'.1
  have HRO := Lib.hid hO
  have hlO := hO.1
  have HRO' := Lib.hid hO'
  have hlO' := hO'.1
  clear hT hT' hO hO'
  have X0 := Lib.hid (show Bx ((w.alloc (.cells #[.int .i64 N, .int .i64 H, .slice AT nT cT, .slice AO nO cO] 32)).alloc (.cells #[.int .i64 N', .int .i64 H', .slice AT' nT' cT', .slice AO' nO' cO'] 32)) w.heap.size 32 #[.int .i64 N, .int .i64 H, .slice AT nT cT, .slice AO nO cO] from (Bx.new w _ _).alloc _)
  have X1 := Lib.hid (show Bx ((w.alloc (.cells #[.int .i64 N, .int .i64 H, .slice AT nT cT, .slice AO nO cO] 32)).alloc (.cells #[.int .i64 N', .int .i64 H', .slice AT' nT' cT', .slice AO' nO' cO'] 32)) (w.heap.size + 1) 32 #[.int .i64 N', .int .i64 H', .slice AT' nT' cT', .slice AO' nO' cO'] from Bx.new' (by simp))
  have BZ : Hid (Below w.heap.size w ((w.alloc (.cells #[.int .i64 N, .int .i64 H, .slice AT nT cT, .slice AO nO cO] 32)).alloc (.cells #[.int .i64 N', .int .i64 H', .slice AT' nT' cT', .slice AO' nO' cO'] 32))) := Lib.hid (((Below.refl _ _).alloc (Nat.le_refl _) _).alloc (by simp) _)
  have HLT := Lib.hid hlT
  have HLT' := Lib.hid hlT'
  have HLO := Lib.hid hlO
  have HLO' := Lib.hid hlO'
  clear hlT hlT' hlO hlO'
  cases e1 : (N == N')
  · have E1 := Lib.hid e1
    have e1' : (N != N') = true := by simp [bne, e1]
    go_enter Try.func25, Try.ntmps25
    go_wp2_with fail
    go_ret
    exact ⟨ret_bool (by unfold eqP; rw [E1.out]; simp), BZ.out⟩
  · have E1 := Lib.hid e1
    have e1' : (N != N') = false := by simp [bne, e1]
    cases e2 : (H == H')
    · have E2 := Lib.hid e2
      have e2' : (H != H') = true := by simp [bne, e2]
      go_enter Try.func25, Try.ntmps25
      go_wp2_with fail
      go_ret
      exact ⟨ret_bool (by unfold eqP; rw [E1.out, E2.out]; simp), BZ.out⟩
    · have E2 := Lib.hid e2
      have e2' : (H != H') = false := by simp [bne, e2]
      by_cases hnT : nT = nT'
      rotate_left
      · have e3' : ((nT : Int) != (nT' : Int)) = true := by simp; omega
        have E3 := Lib.hid (sameP_len (a := t) (b := t') (by have := HLT.out; have := HLT'.out; omega))
        go_enter Try.func25, Try.ntmps25
        go_wp2_with fail
        go_ret
        exact ⟨ret_bool (by unfold eqP; rw [E1.out, E2.out, E3.out]; simp), BZ.out⟩
      subst hnT
      by_cases hnO : nO = nO'
      rotate_left
      · have e3' : ((nO : Int) != (nO' : Int)) = true := by simp; omega
        have E3 := Lib.hid (sameP_len (a := o) (b := o') (by have := HLO.out; have := HLO'.out; omega))
        go_enter Try.func25, Try.ntmps25
        go_wp2_with fail
        go_ret
        exact ⟨ret_bool (by unfold eqP; rw [E1.out, E2.out, E3.out]; simp), BZ.out⟩
      subst hnO
      go_enter Try.func25, Try.ntmps25
      go_wp2_with fail
      have ZT := Lib.hid (HRT.out.below BZ.out)
      have ZT' := Lib.hid (HRT'.out.below BZ.out)
      have ZO := Lib.hid (HRO.out.below BZ.out)
      have ZO' := Lib.hid (HRO'.out.below BZ.out)
      generalize ((w.alloc (.cells #[.int .i64 N, .int .i64 H, .slice AT nT cT, .slice AO nO cO] 32)).alloc (.cells #[.int .i64 N', .int .i64 H', .slice AT' nT cT', .slice AO' nO cO'] 32)) = wz at X0 X1 BZ ZT ZT' ZO ZO' ⊢
      obtain ⟨p0, p1, p2, p3, _⟩ := X0.out.four
      obtain ⟨q0, q1, q2, q3, _⟩ := X1.out.four
      clear e1 e1' e2 e2'
      go_loopg [5] nT (fun m i wr => ∃ (k q : Nat), k + m = nT ∧ i = .int .i64 k ∧ t.take k = t'.take k ∧ wr = wz.drewN q)
      case atStart => exact ⟨0, 0, by omega, rfl, rfl, rfl⟩
      case round =>
        obtain ⟨k, q, hk, rfl, he, rfl⟩ := hrel
        have HE := Lib.hid he
        clear he
        by_cases hlt : k < nT
        · obtain ⟨g, off, x, y, hA, hB, hd, c0, c1⟩ := ZT.out.at_ hlt
          obtain ⟨g', off', x', y', hA', hB', hd', c0', c1'⟩ := ZT'.out.at_ hlt
          subst hA hA'
          have HD := Lib.hid hd
          have HD' := Lib.hid hd'
          clear hd hd'
          have hkI : (k : Int) < (nT : Int) := by omega
          have hk0 : (0 : Int) ≤ (k : Int) := by omega
          by_cases hx : x = x'
          · subst hx
            by_cases hy : y = y'
            · subst hy
              go_wp2_with fail
              go_quiet (fail)
              go_wp2_with fail
              go_roundg (gk - 1)
              case measure => omega
              case rel => exact ⟨k + 1, _, by omega, by go_num, by rw [take_snoc HD.out, take_snoc HD'.out, HE.out], rfl⟩
            · have hy1 : (y == y') = false := by simpa using hy
              have HS := Lib.hid (sameP_ne HD.out HD'.out (by simpa using hy))
              go_wp2_with fail
              go_quiet (fail)
              go_wp2_with fail
              go_ret
              exact ⟨ret_bool (by unfold eqP; rw [E1.out, E2.out, HS.out]; simp), below_drewN (below_drewN BZ.out _) _⟩
          · have hx1 : (x == x') = false := by simpa using hx
            have HS := Lib.hid (sameP_ne HD.out HD'.out (by intro h; injection h; contradiction))
            go_wp2_with fail
            go_quiet (fail)
            go_wp2_with fail
            go_ret
            exact ⟨ret_bool (by unfold eqP; rw [E1.out, E2.out, HS.out]; simp), below_drewN (below_drewN BZ.out _) _⟩
        · have hkn : k = nT := by omega
          have HS : Hid (sameP t t' = true) := Lib.hid (by have e := HE.out; rw [List.take_of_length_le (by have := ZT.out.1; omega), List.take_of_length_le (by have := ZT'.out.1; omega)] at e; rw [e, sameP_self])
          go_wp2_with fail
          have ST := Lib.hid HS.out
          clear HS HE hkn
          go_loopg [6] nO (fun m i wr => ∃ (k q : Nat), k + m = nO ∧ i = .int .i64 k ∧ o.take k = o'.take k ∧ wr = wz.drewN q)
          case atStart => exact ⟨0, _, by omega, rfl, rfl, rfl⟩
          case round =>
            obtain ⟨k, q, hk, rfl, he, rfl⟩ := hrel
            have HE := Lib.hid he
            clear he
            by_cases hlt : k < nO
            · obtain ⟨g, off, x, y, hA, hB, hd, c0, c1⟩ := ZO.out.at_ hlt
              obtain ⟨g', off', x', y', hA', hB', hd', c0', c1'⟩ := ZO'.out.at_ hlt
              subst hA hA'
              have HD := Lib.hid hd
              have HD' := Lib.hid hd'
              clear hd hd'
              have hkI : (k : Int) < (nO : Int) := by omega
              have hk0 : (0 : Int) ≤ (k : Int) := by omega
              by_cases hx : x = x'
              · subst hx
                by_cases hy : y = y'
                · subst hy
                  go_wp2_with fail
                  go_quiet (fail)
                  go_wp2_with fail
                  go_roundg (gk - 1)
                  case measure => omega
                  case rel => exact ⟨k + 1, _, by omega, by go_num, by rw [take_snoc HD.out, take_snoc HD'.out, HE.out], rfl⟩
                · have hy1 : (y == y') = false := by simpa using hy
                  have HS := Lib.hid (sameP_ne HD.out HD'.out (by simpa using hy))
                  go_wp2_with fail
                  go_quiet (fail)
                  go_wp2_with fail
                  go_ret
                  exact ⟨ret_bool (by unfold eqP; rw [E1.out, E2.out, ST.out, HS.out]; simp), below_drewN (below_drewN BZ.out _) _⟩
              · have hx1 : (x == x') = false := by simpa using hx
                have HS := Lib.hid (sameP_ne HD.out HD'.out (by intro h; injection h; contradiction))
                go_wp2_with fail
                go_quiet (fail)
                go_wp2_with fail
                go_ret
                exact ⟨ret_bool (by unfold eqP; rw [E1.out, E2.out, ST.out, HS.out]; simp), below_drewN (below_drewN BZ.out _) _⟩
            · have hkn : k = nO := by omega
              have HS : Hid (sameP o o' = true) := Lib.hid (by have e := HE.out; rw [List.take_of_length_le (by have := ZO.out.1; omega), List.take_of_length_le (by have := ZO'.out.1; omega)] at e; rw [e, sameP_self])
              go_wp2_with fail
              go_ret
              exact ⟨ret_bool (by unfold eqP; rw [E1.out, E2.out, ST.out, HS.out]; rfl), below_drewN BZ.out _⟩
end Go.Proofs.Ytibhikngiceeeaa
namespace Go.Proofs.Ytibhikngiceeeaa
open Go.RowKit
set_option linter.unusedVariables false

def bitO (i : Int) (o : Int × Int) : Int := (onesI (bits .and .i64 i o.1) + o.2) % 2
def evO (i : Int) : Nat → List (Int × Int) → Int → Int
  | _, [], acc => acc
  | q, o :: r, acc => evO i (q + 1) r (bits .or .i64 acc (wrap64 (bitO i o * 2 ^ min q 64)))
def evT (i : Int) : List (Int × Int) → Int → Int
  | [], k => k
  | p :: r, k => evT i r (if onesI (bits .and .i64 i p.1) % 2 = 1 then wrap64 (k + p.2) else k)

theorem quiet_add_left {P : Program} {f : FuncId} {args : Array Value} {w : World} {a n : Nat} {v : Value}
    (h : Calls P f args (w.drewN (a + n)) fun e w' => e = .returned v ∧ w.drewN (a + n) = w') :
    Calls P f args (w.drewN (a + n)) fun e w'' => e = .returned v ∧ ∃ m, w'' = w.drewN (a + m) :=
  h.mono fun _ _ ⟨he, hm⟩ => ⟨he, n, hm.symm⟩
theorem xor2 (a b : Int) : bits .xor .i64 (a % 2) (b % 2) = (a + b) % 2 := by
  have h1 : a % 2 = 0 ∨ a % 2 = 1 := by omega
  have h2 : b % 2 = 0 ∨ b % 2 = 1 := by omega
  have e00 : bits .xor .i64 0 0 = 0 := by decide
  have e01 : bits .xor .i64 0 1 = 1 := by decide
  have e10 : bits .xor .i64 1 0 = 1 := by decide
  have e11 : bits .xor .i64 1 1 = 0 := by decide
  rcases h1 with h1 | h1 <;> rcases h2 with h2 | h2 <;> rw [h1, h2]
  · rw [e00]; omega
  · rw [e01]; omega
  · rw [e10]; omega
  · rw [e11]; omega
theorem evO_step {i a x y : Int} {k : Nat} {o : List (Int × Int)} (hd : o.drop k = (x, y) :: o.drop (k + 1)) : evO i k (o.drop k) a = evO i (k + 1) (o.drop (k + 1)) (bits .or .i64 a (wrap64 (bitO i (x, y) * 2 ^ min k 64))) := by rw [hd, evO]
theorem evT_one {i a x y : Int} {k : Nat} {o : List (Int × Int)} (hd : o.drop k = (x, y) :: o.drop (k + 1)) (h : onesI (bits .and .i64 i x) % 2 = 1) : evT i (o.drop k) a = evT i (o.drop (k + 1)) (wrap64 (a + y)) := by rw [hd, evT, if_pos h]
theorem evT_no {i a x y : Int} {k : Nat} {o : List (Int × Int)} (hd : o.drop k = (x, y) :: o.drop (k + 1)) (h : onesI (bits .and .i64 i x) % 2 = 0) : evT i (o.drop k) a = evT i (o.drop (k + 1)) a := by rw [hd, evT, if_neg (by show ¬ _ = _; rw [h]; omega)]
theorem evT_mod (i : Int) : ∀ (l : List (Int × Int)) (a b : Int), a % 8 = b % 8 → evT i l a % 8 = evT i l b % 8
  | [], a, b, h => h
  | p :: r, a, b, h => by
    rw [evT, evT]
    split
    · exact evT_mod i r _ _ (by rw [wrap_mod8, wrap_mod8]; omega)
    · exact evT_mod i r _ _ h
theorem evT_spec {i a x y : Int} {k : Nat} {o : List (Int × Int)} (hd : o.drop k = (x, y) :: o.drop (k + 1)) : evT i (o.drop (k + 1)) (wrap64 (a + wrap64 (y * (onesI (bits .and .i64 i x) % 2)))) % 8 = evT i (o.drop k) a % 8 := by
  rw [hd, evT]
  split
  · rename_i h
    have h' : onesI (bits .and .i64 i x) % 2 = 1 := h
    rw [h', Int.mul_one]
    exact evT_mod _ _ _ _ (by rw [wrap_mod8, wrap_mod8]; have := wrap_mod8 y; show _ = (a + y) % 8; omega)
  · rename_i h
    have h' : onesI (bits .and .i64 i x) % 2 = 0 := by
      have : ¬ onesI (bits .and .i64 i x) % 2 = 1 := h
      omega
    rw [h', Int.mul_zero]
    exact evT_mod _ _ _ _ (by rw [wrap_mod8]; have : wrap64 0 = 0 := by unfold wrap64; omega
                              rw [this]; omega)
set_option maxRecDepth 100000 in
set_option maxHeartbeats 3200000 in
theorem i_EvalP (N H : Int) (AT AO : Option Addr) (nT cT nO cO : Nat) (t o : List (Int × Int)) (i : Int) (w : World) (hT : RdP w AT nT t) (hO : RdP w AO nO o) (b1 : nT ≤ 549755813888) (b2 : nO ≤ 549755813888) :
    Calls Try.prog 51 #[.agg #[.int .i64 N, .int .i64 H, .slice AT nT cT, .slice AO nO cO], .int .i64 i] w fun e w' => e = .returned (.tuple #[.int .i64 (evO i 0 o 0), .int .i64 (evT i t H % 8)]) ∧ Below w.heap.size w w' := by
  have HT := Lib.hid hT
  have HO := Lib.hid hO
  clear hT hO
  have X0 := Lib.hid (Bx.new w 32 #[.int .i64 N, .int .i64 H, .slice AT nT cT, .slice AO nO cO])
  have BZ := Lib.hid ((Below.refl w.heap.size w).alloc (Nat.le_refl _) (.cells #[.int .i64 N, .int .i64 H, .slice AT nT cT, .slice AO nO cO] 32))
  obtain ⟨R1, hR1⟩ : ∃ R, evO i 0 o 0 = R := ⟨_, rfl⟩
  obtain ⟨R2, hR2⟩ : ∃ R, evT i t H = R := ⟨_, rfl⟩
  rw [hR1, hR2]
  have HR1 := Lib.hid hR1
  have HR2 := Lib.hid hR2
  clear hR1 hR2
  go_enter Try.func51, Try.ntmps51
  go_wp2_with fail
  go_loopg [6, 15] nO (fun m v j wr => ∃ (k : Nat) (a : Int), k + m = nO ∧ j = .int .i64 k ∧ v = .int .i64 a ∧ evO i k (o.drop k) a = R1 ∧ Bx wr w.heap.size 32 #[.int .i64 N, .int .i64 H, .slice AT nT cT, .slice AO nO cO] ∧ Below w.heap.size w wr)
  case atStart => exact ⟨0, 0, by omega, rfl, rfl, HR1.out, X0.out, BZ.out⟩
  case round =>
    obtain ⟨k, a, hk, rfl, rfl, hq, hx, hb⟩ := hrel
    have HQ := Lib.hid hq
    have HX := Lib.hid hx
    have HB := Lib.hid hb
    have hbs := hb.size
    have hlx := hx.lt
    clear hq hx hb
    by_cases hlt : k < nO
    · obtain ⟨g, off, x, y, rfl, hBb, hd, c0, c1⟩ := (HO.out.below HB.out).at_ hlt
      have HD := Lib.hid hd
      have hkI : (k : Int) < (nO : Int) := by omega
      have hk0 : (0 : Int) ≤ (k : Int) := by omega
      have h1 := onesI_bd (bits .and .i64 i x)
      have e1 := and_one (onesI (bits .and .i64 i x))
      have e2 := and_one y
      clear hd
      go_wp2_with fail
      generalize hW : wr.alloc (.cells #[.int .i64 x, .int .i64 y] 109) = W
      have XW := Lib.hid (show Bx W wr.heap.size 109 #[.int .i64 x, .int .i64 y] from hW ▸ Bx.new wr _ _)
      have XP := Lib.hid (show Bx W w.heap.size 32 _ from hW ▸ HX.out.alloc _)
      have XB := Lib.hid (show Below w.heap.size w W from hW ▸ HB.out.alloc hbs _)
      obtain ⟨p0, p1, _, _⟩ := XW.out.two
      clear hW
      go_quiet ((go_at_call 106; exact quiet_left (i_ones _ _)))
      go_wp2_with fail
      go_roundg (gk - 1)
      case measure => omega
      case rel => exact ⟨k + 1, bits .or .i64 a (wrap64 (bitO i (x, y) * 2 ^ min k 64)), by omega, by go_num, by rw [xor2]; rfl, by rw [← HQ.out, evO_step HD.out], XP.out, below_drewN XB.out _⟩
    · obtain rfl : k = nO := by omega
      have HE : Hid (a = R1) := Lib.hid (by rw [← HQ.out, List.drop_eq_nil_of_le (by have := HO.out.1; omega)]; rfl)
      obtain ⟨p0, p1, p2, p3, _⟩ := HX.out.four
      clear HR1 HQ
      go_wp2_with fail
      obtain ⟨wy, rfl⟩ : ∃ wy, wr = wy := ⟨_, rfl⟩
      go_loopg [9, 40] nT (fun m v j wr => ∃ (q : Nat) (b : Int), q + m = nT ∧ j = .int .i64 q ∧ v = .int .i64 b ∧ evT i (t.drop q) b = R2 ∧ Below w.heap.size w wr)
      case atStart => exact ⟨0, H, by omega, rfl, rfl, HR2.out, HB.out⟩
      case round =>
        obtain ⟨q, b, hk, rfl, rfl, hq, hb⟩ := hrel
        have HQ := Lib.hid hq
        have HB2 := Lib.hid hb
        have hbs2 := hb.size
        clear hq hb
        by_cases hlt : q < nT
        · obtain ⟨g, off, x, y, rfl, hBb, hd, c0, c1⟩ := (HT.out.below HB2.out).at_ hlt
          have HD := Lib.hid hd
          have hkI : (q : Int) < (nT : Int) := by omega
          have hk0 : (0 : Int) ≤ (q : Int) := by omega
          have h1 := onesI_bd (bits .and .i64 i x)
          clear hd
          by_cases hz : onesI (bits .and .i64 i x) % 2 = 1
          · have HZ := Lib.hid hz
            have hz1 : (onesI (bits .and .i64 i x) % 2 == 1) = true := by simpa using hz
            clear hz
            go_wp2_with fail
            refine (i_ones _ _).mono ?_
            rintro e w' ⟨rfl, rfl⟩
            go_wp2_with fail
            go_roundg (gk - 1)
            case measure => omega
            case rel => exact ⟨q + 1, _, by omega, by go_num, rfl, by rw [← HQ.out, evT_one HD.out HZ.out], HB2.out.alloc hbs2 _⟩
          · have HZ := Lib.hid (show onesI (bits .and .i64 i x) % 2 = 0 by omega)
            have hz1 : (onesI (bits .and .i64 i x) % 2 == 1) = false := by simpa using hz
            clear hz
            go_wp2_with fail
            refine (i_ones _ _).mono ?_
            rintro e w' ⟨rfl, rfl⟩
            go_wp2_with fail
            go_roundg (gk - 1)
            case measure => omega
            case rel => exact ⟨q + 1, _, by omega, by go_num, rfl, by rw [← HQ.out, evT_no HD.out HZ.out], HB2.out.alloc hbs2 _⟩
        · have HE2 : Hid (b = R2) := Lib.hid (by rw [← HQ.out, List.drop_eq_nil_of_le (by have := HT.out.1; omega)]; rfl)
          go_wp2_with fail
          refine (i_mod8 _ _).mono ?_
          rintro e w' ⟨rfl, rfl⟩
          go_wp2_with fail
          go_ret2
          exact ⟨by rw [HE.out, HE2.out]; rfl, HB2.out⟩
set_option maxRecDepth 100000 in
set_option maxHeartbeats 3200000 in
theorem s_EvalP (N H : Int) (AT AO : Option Addr) (nT cT nO cO : Nat) (t o : List (Int × Int)) (i : Int) (w : World) (hT : RdP w AT nT t) (hO : RdP w AO nO o) (b1 : nT ≤ 549755813888) (b2 : nO ≤ 549755813888) :
    Calls Try.prog 44 #[.agg #[.int .i64 N, .int .i64 H, .slice AT nT cT, .slice AO nO cO], .int .i64 i] w fun e w' => e = .returned (.tuple #[.int .i64 (evO i 0 o 0), .int .i64 (evT i t H % 8)]) ∧ Below w.heap.size w w' := by
  have BZ := Lib.hid ((Below.refl w.heap.size w).alloc (Nat.le_refl _) (.cells #[.int .i64 N, .int .i64 H, .slice AT nT cT, .slice AO nO cO] 32))
  have HT := Lib.hid (hT.below BZ.out)
  have HO := Lib.hid (hO.below BZ.out)
  clear hT hO
  have X0 := Lib.hid (Bx.new w 32 #[.int .i64 N, .int .i64 H, .slice AT nT cT, .slice AO nO cO])
  obtain ⟨R1, hR1⟩ : ∃ R, evO i 0 o 0 = R := ⟨_, rfl⟩
  obtain ⟨R2, hR2⟩ : ∃ R, evT i t H = R := ⟨_, rfl⟩
  rw [hR1, hR2]
  have HR1 := Lib.hid hR1
  have HR2 := Lib.hid hR2
  clear hR1 hR2
  go_enter Try.func44, Try.ntmps44
  go_wp2_with fail
  generalize w.alloc (.cells #[.int .i64 N, .int .i64 H, .slice AT nT cT, .slice AO nO cO] 32) = wz at HT HO X0 BZ ⊢
  obtain ⟨p0, p1, p2, p3, _⟩ := X0.out.four
  go_loopg [6, 7] nO (fun m v j wr => ∃ (k d : Nat) (a : Int), k + m = nO ∧ j = .int .i64 k ∧ v = .int .i64 a ∧ evO i k (o.drop k) a = R1 ∧ wr = wz.drewN d)
  case atStart => exact ⟨0, 0, 0, by omega, rfl, rfl, HR1.out, rfl⟩
  case round =>
    obtain ⟨k, d, a, hk, rfl, rfl, hq, rfl⟩ := hrel
    have HQ := Lib.hid hq
    clear hq
    by_cases hlt : k < nO
    · obtain ⟨g, off, x, y, rfl, hBb, hd, c0, c1⟩ := HO.out.at_ hlt
      have HD := Lib.hid hd
      have hkI : (k : Int) < (nO : Int) := by omega
      have hk0 : (0 : Int) ≤ (k : Int) := by omega
      have h1 := onesI_bd (bits .and .i64 i x)
      clear hd
      go_wp2_with fail
      go_quiet ((go_at_call 103; exact quiet_add_left (s_ones _ _)))
      go_wp2_with fail
      have HB := Lib.hid (show bits .and .i64 (wrap64 (onesI (bits .and .i64 i x) + y)) 1 = bitO i (x, y) from by rw [and_one]; show _ = (onesI (bits .and .i64 i x) + y) % 2; unfold wrap64; omega)
      go_roundg (gk - 1)
      case measure => omega
      case rel => exact ⟨k + 1, _, bits .or .i64 a (wrap64 (bitO i (x, y) * 2 ^ min k 64)), by omega, by go_num, by rw [HB.out], by rw [← HQ.out, evO_step HD.out], rfl⟩
    · obtain rfl : k = nO := by omega
      have HE : Hid (a = R1) := Lib.hid (by rw [← HQ.out, List.drop_eq_nil_of_le (by have := HO.out.1; omega)]; rfl)
      clear HR1 HQ
      go_wp2_with fail
      go_loopg [8, 9] nT (fun m v j wr => ∃ (q e : Nat) (b : Int), q + m = nT ∧ j = .int .i64 q ∧ v = .int .i64 b ∧ evT i (t.drop q) b % 8 = R2 % 8 ∧ wr = wz.drewN e)
      case atStart => exact ⟨0, _, H, by omega, rfl, rfl, by rw [List.drop_zero, HR2.out], rfl⟩
      case round =>
        obtain ⟨q, e, b, hk, rfl, rfl, hq, rfl⟩ := hrel
        have HQ := Lib.hid hq
        clear hq
        by_cases hlt : q < nT
        · obtain ⟨g, off, x, y, rfl, hBb, hd, c0, c1⟩ := HT.out.at_ hlt
          have HD := Lib.hid hd
          have hkI : (q : Int) < (nT : Int) := by omega
          have hk0 : (0 : Int) ≤ (q : Int) := by omega
          have h1 := onesI_bd (bits .and .i64 i x)
          clear hd
          go_wp2_with fail
          go_quiet ((go_at_call 103; exact quiet_add_left (s_ones _ _)))
          go_wp2_with fail
          go_roundg (gk - 1)
          case measure => omega
          case rel => exact ⟨q + 1, _, _, by omega, by go_num, rfl, by rw [evT_spec HD.out, HQ.out], rfl⟩
        · have HE2 : Hid (b % 8 = R2 % 8) := Lib.hid (by rw [← HQ.out, List.drop_eq_nil_of_le (by have := HT.out.1; omega)]; rfl)
          go_wp2_with fail
          refine (s_l32Rest _ _).mono ?_
          rintro e w' ⟨rfl, rfl⟩
          go_wp2_with fail
          go_ret2
          exact ⟨by rw [← HE.out, ← HE2.out]; rfl, below_drewN BZ.out _⟩
end Go.Proofs.Ytibhikngiceeeaa
namespace Go.Proofs.Ytibhikngiceeeaa
open Go.RowKit
set_option linter.unusedVariables false

def parI (b m : Int) : Int := onesI (bits .and .i64 b m) % 2
theorem parI_01 (b m : Int) : parI b m = 0 ∨ parI b m = 1 := by unfold parI; omega
def sumT (b : Int) : List (Int × Int) → Int
  | [] => 0
  | p :: r => p.2 * parI b p.1 + sumT b r
theorem sumT_app (b : Int) : ∀ l m : List (Int × Int), sumT b (l ++ m) = sumT b l + sumT b m
  | [], m => by simp [sumT]
  | p :: r, m => by rw [List.cons_append, sumT, sumT, sumT_app b r m]; omega
theorem evT_sum (b : Int) : ∀ (t : List (Int × Int)) (k : Int), evT b t k % 8 = (k + sumT b t) % 8
  | [], k => by simp [evT, sumT]
  | p :: r, k => by
    rw [evT, sumT]
    by_cases h : onesI (bits .and .i64 b p.1) % 2 = 1
    · rw [if_pos h, evT_sum b r]
      have e : parI b p.1 = 1 := h
      have hw := wrap_mod8 (k + p.2)
      rw [e]
      omega
    · rw [if_neg h, evT_sum b r]
      have e : parI b p.1 = 0 := by
        rcases parI_01 b p.1 with h1 | h1
        · exact h1
        · exact absurd h1 h
      rw [e]
      omega
theorem sumT_nz (b : Int) : ∀ l : List (Int × Int), sumT b (nz l) = sumT b l
  | [] => rfl
  | p :: r => by
    have ih := sumT_nz b r
    unfold nz at ih ⊢
    rw [List.filter_cons]
    by_cases h : p.2 = 0
    · rw [if_neg (by simp [h]), ih, sumT, h]
      omega
    · rw [if_pos (by simp [h]), sumT, sumT, ih]
theorem sumT_bump (b c : Int) : ∀ (l : List (Int × Int)) (k : Nat), k < l.length → sumT b (bump l k c) % 8 = (sumT b l + c * parI b (l.getD k (0, 0)).1) % 8
  | [], k, h => by simp at h
  | p :: r, 0, h => by
    show ((p.2 + c) % 8 * parI b p.1 + sumT b r) % 8 = (p.2 * parI b p.1 + sumT b r + c * parI b p.1) % 8
    rcases parI_01 b p.1 with e | e <;> rw [e] <;> omega
  | p :: r, k + 1, h => by
    have ih := sumT_bump b c r k (by simpa using h)
    show (p.2 * parI b p.1 + sumT b (bump r k c)) % 8 = (p.2 * parI b p.1 + sumT b r + c * parI b (r.getD k (0, 0)).1) % 8
    omega
theorem atL_has (m : Int) : ∀ (t : List (Int × Int)) (i k : Nat), atL m i t = some k → (t.getD (k - i) (0, 0)).1 = m
  | [], i, k, h => by cases h
  | p :: r, i, k, h => by
    have hk := atL_lt m i (p :: r) k h
    rw [atL] at h
    split at h
    · rename_i hm
      injection h with h
      subst h
      rw [Nat.sub_self]
      exact by simpa using hm
    · have hk2 := atL_lt m (i + 1) r k h
      have := atL_has m r (i + 1) k h
      rw [show k - i = (k - (i + 1)) + 1 by omega]
      exact this
theorem withT_at (t : List (Int × Int)) (m : Int) : ((withT t m).getD (atT t m) (0, 0)).1 = m := by
  cases h : atL m 0 t with
  | some k =>
    obtain ⟨e1, e2⟩ := withT_has h
    rw [e1, e2]
    exact atL_has m t 0 k h
  | none =>
    obtain ⟨e1, e2⟩ := withT_new h
    have hp := plL_ge m 0 t
    rw [e1, e2, List.getD_eq_getElem?_getD, List.getElem?_append_right (by rw [List.length_take]; omega), List.length_take, show plL m 0 t - min (plL m 0 t) t.length = 0 by omega]
    rfl
theorem sumT_with (b : Int) (t : List (Int × Int)) (m : Int) : sumT b (withT t m) = sumT b t := by
  cases h : atL m 0 t with
  | some k => rw [(withT_has h).1]
  | none =>
    rw [(withT_new h).1, sumT_app, sumT]
    have := sumT_app b (t.take (plL m 0 t)) (t.drop (plL m 0 t))
    rw [List.take_append_drop] at this
    omega
theorem sumT_add (b : Int) (t : List (Int × Int)) (m c : Int) : sumT b (addT t m c) % 8 = (sumT b t + c * parI b m) % 8 := by
  unfold addT
  rw [sumT_nz, sumT_bump b c _ _ (atT_lt t m), withT_at, sumT_with]

/-- A row of bits as a number, the lowest first. -/
def valN : List Nat → Nat
  | [] => 0
  | x :: r => x + 2 * valN r
def bitN (b : Int) (o : Int × Int) : Nat := (bitO b o).toNat
theorem bitO_01 (b : Int) (o : Int × Int) : bitO b o = 0 ∨ bitO b o = 1 := by unfold bitO; omega
theorem bitN_01 (b : Int) (o : Int × Int) : bitN b o ≤ 1 := by unfold bitN; have := bitO_01 b o; omega
theorem evO_val (b : Int) {o : List (Int × Int)} (h : o.length ≤ 4) : evO b 0 o 0 = (valN (o.map (bitN b)) : Nat) := by
  have e : ∀ q, bitO b q = (bitN b q : Nat) := fun q => by unfold bitN; have := bitO_01 b q; omega
  have e0 : ∀ q, bitN b q = 0 ∨ bitN b q = 1 := fun q => by have := bitN_01 b q; omega
  match o, h with
  | [], _ => rfl
  | [o0], _ =>
    simp only [evO, List.map, valN, e]
    rcases e0 o0 with h0 | h0 <;> rw [h0] <;> decide +kernel
  | [o0, o1], _ =>
    simp only [evO, List.map, valN, e]
    rcases e0 o0 with h0 | h0 <;> rcases e0 o1 with h1 | h1 <;> rw [h0, h1] <;> decide +kernel
  | [o0, o1, o2], _ =>
    simp only [evO, List.map, valN, e]
    rcases e0 o0 with h0 | h0 <;> rcases e0 o1 with h1 | h1 <;> rcases e0 o2 with h2 | h2 <;> rw [h0, h1, h2] <;> decide +kernel
  | [o0, o1, o2, o3], _ =>
    simp only [evO, List.map, valN, e]
    rcases e0 o0 with h0 | h0 <;> rcases e0 o1 with h1 | h1 <;> rcases e0 o2 with h2 | h2 <;> rcases e0 o3 with h3 | h3 <;> rw [h0, h1, h2, h3] <;> decide +kernel
  | _ :: _ :: _ :: _ :: _ :: _, h => simp at h

def mono (g : Gt) : Bool := g.k == 1 || (g.k == 9 || (g.k == 11 || !(units g.k == 0)))
def mvX (g : Gt) (xs : List Nat) : List Nat :=
  if g.k = 1 then xs.set g.a.toNat (1 - xs.getD g.a.toNat 0)
  else if g.k = 9 then xs.set g.b.toNat ((xs.getD g.a.toNat 0 + xs.getD g.b.toNat 0) % 2)
  else if g.k = 11 then (xs.set g.a.toNat (xs.getD g.b.toNat 0)).set g.b.toNat (xs.getD g.a.toNat 0)
  else xs
def mvK (g : Gt) (xs : List Nat) : Nat := if g.k = 1 then 0 else if g.k = 9 then 0 else if g.k = 11 then 0 else (units g.k).toNat * xs.getD g.a.toNat 0
def allB : Nat → List (List Nat)
  | 0 => [[]]
  | n + 1 => (allB n).flatMap fun r => [0 :: r, 1 :: r]
theorem allB_mem : ∀ {n : Nat} {xs : List Nat}, xs.length = n → (∀ x ∈ xs, x ≤ 1) → xs ∈ allB n
  | 0, xs, h, _ => by rw [List.eq_nil_of_length_eq_zero h]; exact List.mem_singleton.2 rfl
  | n + 1, [], h, _ => by simp at h
  | n + 1, x :: r, h, hb => by
    have ih := allB_mem (n := n) (xs := r) (by simpa using h) (fun y hy => hb y (by simp [hy]))
    have hx := hb x (by simp)
    refine List.mem_flatMap.2 ⟨r, ih, ?_⟩
    obtain rfl | rfl : x = 0 ∨ x = 1 := by omega
    · simp
    · simp
def chkM (n : Nat) : Bool := (gatesN n).all fun g => !mono g || (allB n).all fun xs => decide (goes g (valN xs) = [(valN (mvX g xs), phD (mvK g xs))]) && (decide (valN xs < 2 ^ n) && (decide (mvX g (mvX g xs) = xs) && (mvX g xs).all fun x => decide (x ≤ 1)))
theorem chkM1 : chkM 1 = true := by decide +kernel
theorem chkM2 : chkM 2 = true := by decide +kernel
theorem chkM3 : chkM 3 = true := by decide +kernel
theorem chkM4 : chkM 4 = true := by decide +kernel
theorem chkM_all {n : Nat} (h : 1 ≤ n ∧ n ≤ 4) : chkM n = true := by
  obtain rfl | rfl | rfl | rfl : n = 1 ∨ n = 2 ∨ n = 3 ∨ n = 4 := by omega
  · exact chkM1
  · exact chkM2
  · exact chkM3
  · exact chkM4
theorem mv_at {n : Nat} {g : Gt} {xs : List Nat} (hg : okN n g = true) (hm : mono g = true) (hl : xs.length = n) (h01 : ∀ x ∈ xs, x ≤ 1) :
    goes g (valN xs) = [(valN (mvX g xs), phD (mvK g xs))] ∧ valN xs < 2 ^ n ∧ mvX g (mvX g xs) = xs ∧ ∀ x ∈ mvX g xs, x ≤ 1 := by
  have h := List.all_eq_true.1 (chkM_all (okN_in hg)) g (okN_mem hg)
  rw [hm] at h
  simp only [Bool.not_true, Bool.false_or] at h
  have h2 := List.all_eq_true.1 h xs (allB_mem hl h01)
  simp only [Bool.and_eq_true, decide_eq_true_eq, List.all_eq_true] at h2
  exact ⟨h2.1, h2.2.1, h2.2.2.1, h2.2.2.2⟩
theorem mvX_len (g : Gt) (xs : List Nat) : (mvX g xs).length = xs.length := by
  unfold mvX
  split
  · rw [List.length_set]
  · split
    · rw [List.length_set]
    · split
      · rw [List.length_set, List.length_set]
      · rfl
def chkX : Bool := (List.range 16).all fun a => (List.range 16).all fun c => (decide (0 ≤ bits .xor .i64 (a : Int) (c : Int)) && decide (bits .xor .i64 (a : Int) (c : Int) < 16)) && (List.range 16).all fun b => decide (parI (b : Int) (bits .xor .i64 (a : Int) (c : Int)) = (parI (b : Int) (a : Int) + parI (b : Int) (c : Int)) % 2)
theorem chkX_t : chkX = true := by decide +kernel
theorem xor_par {a c : Int} (ha : 0 ≤ a ∧ a < 16) (hc : 0 ≤ c ∧ c < 16) : (0 ≤ bits .xor .i64 a c ∧ bits .xor .i64 a c < 16) ∧ ∀ b : Nat, b < 16 → parI (b : Int) (bits .xor .i64 a c) = (parI (b : Int) a + parI (b : Int) c) % 2 := by
  have h1 := List.all_eq_true.1 (List.all_eq_true.1 chkX_t a.toNat (List.mem_range.2 (by omega))) c.toNat (List.mem_range.2 (by omega))
  rw [show ((a.toNat : Nat) : Int) = a by omega, show ((c.toNat : Nat) : Int) = c by omega] at h1
  simp only [Bool.and_eq_true, decide_eq_true_eq] at h1
  refine ⟨h1.1, fun b hb => ?_⟩
  have := List.all_eq_true.1 h1.2 b (List.mem_range.2 hb)
  simpa using this
def Mk (o : List (Int × Int)) : Prop := ∀ q ∈ o, 0 ≤ q.1 ∧ q.1 < 16
theorem at2_mk {o : List (Int × Int)} (h : Mk o) (a : Int) : 0 ≤ (at2 o a).1 ∧ (at2 o a).1 < 16 := by
  unfold at2
  rw [List.getD_eq_getElem?_getD]
  cases e : o[a.toNat]? with
  | none => exact ⟨Int.le_refl _, by decide⟩
  | some q => exact h q (List.mem_of_getElem? e)
theorem mk_set {o : List (Int × Int)} (h : Mk o) (k : Nat) (q : Int × Int) (hq : 0 ≤ q.1 ∧ q.1 < 16) : Mk (o.set k q) := by
  intro x hx
  rcases List.mem_or_eq_of_mem_set hx with h1 | h1
  · exact h x h1
  · rw [h1]; exact hq
def bitsP (b : Nat) (p : Po) : List Nat := p.o.map (bitN (b : Int))
def phP (b : Nat) (p : Po) : Int := (p.H + sumT (b : Int) p.t) % 8
theorem bits_at (b : Nat) {p : Po} {a : Int} (h : a.toNat < p.o.length) : (bitsP b p).getD a.toNat 0 = bitN (b : Int) (at2 p.o a) := by
  unfold bitsP at2
  rw [List.getD_eq_getElem?_getD, List.getD_eq_getElem?_getD, List.getElem?_map, List.getElem?_eq_getElem h]
  rfl
theorem set_map (b : Nat) (o : List (Int × Int)) (k : Nat) (q : Int × Int) : (o.set k q).map (bitN (b : Int)) = (o.map (bitN (b : Int))).set k (bitN (b : Int) q) := List.map_set
/-- One gate: the polynomial after it says what the gate does. -/
theorem act_step {p q : Po} {g : Gt} {n b : Nat} (hs : applyP p g = (q, true)) (hN : p.N = (n : Int)) (hF : Flip p.o) (hM : Mk p.o) (hb : b < 16) :
    okN n g = true ∧ mono g = true ∧ q.N = (n : Int) ∧ Flip q.o ∧ Mk q.o ∧ p.o.length = n ∧ bitsP b q = mvX g (bitsP b p) ∧ phP b q = (phP b p + mvK g (bitsP b p)) % 8 := by
  have hk : okP p g = true := applyP_okP (by rw [hs])
  obtain ⟨hg, hl⟩ := okP_parts hk
  have hab := okG_abn hg
  rw [applyP_yes hk] at hs
  have hgn : okN n g = true := by unfold okN; rw [← hN]; exact hg
  have hln : p.o.length = n := by omega
  have la : g.a.toNat < p.o.length := by omega
  have lb : g.b.toNat < p.o.length := by omega
  have fa := at2_flip hF g.a
  have fb := at2_flip hF g.b
  have ma := at2_mk hM g.a
  have mb := at2_mk hM g.b
  have ea := bits_at b (p := p) la
  have eb := bits_at b (p := p) lb
  unfold actP at hs
  by_cases h1 : (g.k == 1) = true
  · have h1' : g.k = 1 := by simpa using h1
    rw [if_pos h1] at hs
    injection hs with hs _
    subst hs
    refine ⟨hgn, by simp [mono, h1'], hN, flip_set hF _ _ _ ?_, mk_set hM _ _ ma, hln, ?_, ?_⟩
    · unfold wrap64; omega
    · unfold bitsP at ea ⊢
      show (p.o.set _ _).map _ = _
      unfold mvX
      rw [if_pos h1', set_map, ea]
      congr 1
      unfold bitN bitO wrap64
      simp only
      omega
    · unfold mvK
      rw [if_pos h1']
      show (p.H + sumT b p.t) % 8 = ((p.H + sumT b p.t) % 8 + ((0 : Nat) : Int)) % 8
      omega
  · have h1' : ¬ g.k = 1 := by simpa using h1
    rw [if_neg h1] at hs
    by_cases h2 : (g.k == 9) = true
    · have h2' : g.k = 9 := by simpa using h2
      rw [if_pos h2] at hs
      injection hs with hs _
      subst hs
      obtain ⟨x1, x2⟩ := xor_par ma mb
      refine ⟨hgn, by simp [mono, h2'], hN, flip_set hF _ _ _ (xor01 fa fb), mk_set hM _ _ x1, hln, ?_, ?_⟩
      · unfold bitsP at ea eb ⊢
        show (p.o.set _ _).map _ = _
        unfold mvX
        rw [if_neg h1', if_pos h2', set_map, ea, eb]
        congr 1
        have xb := x2 b hb
        unfold parI at xb
        have xf : bits .xor .i64 (at2 p.o g.a).2 (at2 p.o g.b).2 = ((at2 p.o g.a).2 + (at2 p.o g.b).2) % 2 := by
          have := xor2 (at2 p.o g.a).2 (at2 p.o g.b).2
          rw [show (at2 p.o g.a).2 % 2 = (at2 p.o g.a).2 by omega, show (at2 p.o g.b).2 % 2 = (at2 p.o g.b).2 by omega] at this
          exact this
        unfold bitN bitO
        simp only
        rw [xf]
        omega
      · unfold mvK
        rw [if_neg h1', if_pos h2']
        show (p.H + sumT b p.t) % 8 = ((p.H + sumT b p.t) % 8 + ((0 : Nat) : Int)) % 8
        omega
    · have h2' : ¬ g.k = 9 := by simpa using h2
      rw [if_neg h2] at hs
      by_cases h3 : (g.k == 11) = true
      · have h3' : g.k = 11 := by simpa using h3
        rw [if_pos h3] at hs
        injection hs with hs _
        subst hs
        refine ⟨hgn, by simp [mono, h3'], hN, flip_set (flip_set hF _ _ _ fb) _ _ _ fa, mk_set (mk_set hM _ _ mb) _ _ ma, hln, ?_, ?_⟩
        · unfold bitsP at ea eb ⊢
          show ((p.o.set _ _).set _ _).map _ = _
          unfold mvX
          rw [if_neg h1', if_neg h2', if_pos h3', set_map, set_map, ea, eb]
        · unfold mvK
          rw [if_neg h1', if_neg h2', if_pos h3']
          show (p.H + sumT b p.t) % 8 = ((p.H + sumT b p.t) % 8 + ((0 : Nat) : Int)) % 8
          omega
      · have h3' : ¬ g.k = 11 := by simpa using h3
        rw [if_neg h3] at hs
        by_cases h4 : (units g.k == 0) = true
        · rw [if_pos h4] at hs
          injection hs with _ hs
          cases hs
        · rw [if_neg h4] at hs
          have hu : 0 ≤ units g.k := by rcases units_cases g.k with h | h | h | h | h | h <;> omega
          have hmo : mono g = true := by
            unfold mono
            rw [show (units g.k == 0) = false by simpa using h4]
            simp
          have emv : mvX g (bitsP b p) = bitsP b p := by unfold mvX; rw [if_neg h1', if_neg h2', if_neg h3']
          have ek : mvK g (bitsP b p) = (units g.k).toNat * bitN (b : Int) (at2 p.o g.a) := by unfold mvK; rw [if_neg h1', if_neg h2', if_neg h3', ea]
          have e2 : ((mvK g (bitsP b p) : Nat) : Int) = units g.k * bitO (b : Int) (at2 p.o g.a) := by
            rw [ek, Int.natCast_mul]
            congr 1
            · omega
            · unfold bitN
              have := bitO_01 (b : Int) (at2 p.o g.a)
              omega
          have eb2 : bitO (b : Int) (at2 p.o g.a) = (parI (b : Int) (at2 p.o g.a).1 + (at2 p.o g.a).2) % 2 := by unfold bitO parI; omega
          have hp := parI_01 (b : Int) (at2 p.o g.a).1
          by_cases h5 : ((at2 p.o g.a).2 == 0) = true
          · rw [if_pos h5] at hs
            injection hs with hs _
            subst hs
            have hf : (at2 p.o g.a).2 = 0 := by simpa using h5
            refine ⟨hgn, hmo, hN, hF, hM, hln, emv.symm, ?_⟩
            rw [e2, eb2, hf]
            have hs := sumT_add (b : Int) p.t (at2 p.o g.a).1 (units g.k)
            show (p.H + sumT b (addT p.t (at2 p.o g.a).1 (units g.k))) % 8 = ((p.H + sumT b p.t) % 8 + _) % 8
            rcases hp with hp | hp <;> rw [hp] at hs ⊢ <;> simp only [Int.mul_zero, Int.mul_one, Int.add_zero, Int.zero_emod, show (1 : Int) % 2 = 1 from rfl] at hs ⊢ <;> omega
          · rw [if_neg h5] at hs
            injection hs with hs _
            subst hs
            have hf : (at2 p.o g.a).2 = 1 := by
              rcases fa with h | h
              · exact absurd (by simpa using h) h5
              · exact h
            refine ⟨hgn, hmo, hN, hF, hM, hln, emv.symm, ?_⟩
            rw [e2, eb2, hf]
            have hs := sumT_add (b : Int) p.t (at2 p.o g.a).1 (-units g.k)
            show ((p.H + units g.k) % 8 + sumT b (addT p.t (at2 p.o g.a).1 (-units g.k))) % 8 = ((p.H + sumT b p.t) % 8 + _) % 8
            rcases hp with hp | hp <;> rw [hp] at hs ⊢ <;> simp only [Int.mul_zero, Int.mul_one, Int.zero_add, Int.add_zero, show (1 : Int) % 2 = 1 from rfl, show ((1 : Int) + 1) % 2 = 0 from rfl] at hs ⊢ <;> omega
theorem bitsP_01 (b : Nat) (p : Po) : ∀ x ∈ bitsP b p, x ≤ 1 := by
  intro x hx
  obtain ⟨q, _, rfl⟩ := List.mem_map.1 hx
  exact bitN_01 _ _
theorem bitsP_len (b : Nat) (p : Po) : (bitsP b p).length = p.o.length := by unfold bitsP; rw [List.length_map]
def mvs : List Gt → List Nat → List Nat
  | [], xs => xs
  | g :: r, xs => mvs r (mvX g xs)
/-- Gates one behind another. -/
theorem acts_run {n : Nat} : ∀ (gs : List Gt) (p q : Po), compL p gs = (q, true) → p.N = (n : Int) → p.o.length = n → 1 ≤ n ∧ n ≤ 4 → Flip p.o → Mk p.o →
    (∀ g ∈ gs, okN n g = true ∧ mono g = true) ∧ q.N = (n : Int) ∧ q.o.length = n ∧ ∀ b, b < 16 → bitsP b q = mvs gs (bitsP b p) ∧ (∃ k : Nat, phP b q = (phP b p + k) % 8 ∧ actG gs (eN (2 ^ n) (valN (bitsP b p))) = scl (phZ k) (eN (2 ^ n) (valN (bitsP b q)))) ∧ valN (bitsP b q) < 2 ^ n
  | [], p, q, hc, hN, hl, hn, hF, hM => by
    injection hc with hc _
    subst hc
    refine ⟨by simp, hN, hl, fun b hb => ⟨rfl, ⟨0, ?_, ?_⟩, ?_⟩⟩
    · unfold phP; omega
    · rw [scl_0]; rfl
    · have hx : bitsP b p ∈ allB n := allB_mem (by rw [bitsP_len, hl]) (bitsP_01 b p)
      have : ∀ m : Nat, ∀ xs : List Nat, xs.length = m → (∀ x ∈ xs, x ≤ 1) → valN xs < 2 ^ m := by
        intro m
        induction m with
        | zero => intro xs h _; rw [List.eq_nil_of_length_eq_zero h]; decide
        | succ m ih =>
          intro xs h h1
          match xs, h with
          | x :: r, h =>
            have h2 := ih r (by simpa using h) (fun y hy => h1 y (by simp [hy]))
            have h3 := h1 x (by simp)
            show x + 2 * valN r < 2 ^ (m + 1)
            rw [Nat.pow_succ]
            omega
      exact this n _ (by rw [bitsP_len, hl]) (bitsP_01 b p)
  | g :: r, p, q, hc, hN, hl, hn, hF, hM => by
    obtain ⟨h1, _⟩ := compL_ok (p := p) (g := g) (r := r) (by rw [hc])
    obtain ⟨p1, hp1⟩ : ∃ p1, applyP p g = (p1, true) := ⟨_, Prod.ext rfl h1⟩
    have hp2 : compL p1 r = (q, true) := by rw [compL_go (by rw [hp1]), hp1] at hc; exact hc
    obtain ⟨a1, a2, a3, a4, a5, a6, _, _⟩ := act_step (b := 0) hp1 hN hF hM (by omega)
    have l1 : p1.o.length = n := by
      have e7 := (act_step (b := 0) hp1 hN hF hM (by omega)).2.2.2.2.2.2.1
      have := congrArg List.length e7
      rw [mvX_len, bitsP_len, bitsP_len] at this
      omega
    obtain ⟨i1, i2, i3, i4⟩ := acts_run r p1 q hp2 a3 l1 hn a4 a5
    refine ⟨fun x hx => ?_, i2, i3, fun b hb => ?_⟩
    · rcases List.mem_cons.1 hx with rfl | hx
      · exact ⟨a1, a2⟩
      · exact i1 x hx
    · obtain ⟨j1, ⟨k, j2, j3⟩, j4⟩ := i4 b hb
      obtain ⟨_, _, _, _, _, _, s1, s2⟩ := act_step (b := b) hp1 hN hF hM hb
      obtain ⟨m1, m2, m3, m4⟩ := mv_at a1 a2 (xs := bitsP b p) (by rw [bitsP_len, hl]) (bitsP_01 b p)
      have m5 := (mv_at a1 a2 (xs := mvX g (bitsP b p)) (by rw [mvX_len, bitsP_len, hl]) m4).2.1
      refine ⟨?_, ⟨mvK g (bitsP b p) + k, ?_, ?_⟩, j4⟩
      · rw [j1, s1]; rfl
      · rw [j2, s2, Int.natCast_add]; omega
      · show actG r (act g _) = _
        rw [act_unit m2 m5 m1, (actG_linN r (fun x hx => (i1 x hx).1)).2.1 _ _ (eN_len _ _), ← s1, j3, scl_ph, Nat.add_comm k]
def chkI (n : Nat) : Bool := (List.range (2 ^ n)).all fun b => decide (valN ((idO n).map (bitN (b : Int))) = b)
theorem chkI_all {n : Nat} (h : 1 ≤ n ∧ n ≤ 4) : chkI n = true := by
  obtain rfl | rfl | rfl | rfl : n = 1 ∨ n = 2 ∨ n = 3 ∨ n = 4 := by omega
  all_goals decide +kernel
theorem pow_le16 {n : Nat} (h : n ≤ 4) : 2 ^ n ≤ 16 := Nat.pow_le_pow_right (n := 2) (by omega) h
theorem idP_mk {n : Nat} (h : 1 ≤ n ∧ n ≤ 4) : idP (n : Int) = ⟨n, 0, [], idO n⟩ ∧ Mk (idO n) ∧ Flip (idO n) := by
  refine ⟨?_, ?_, ?_⟩
  · unfold idP
    rw [if_pos (inB_t (by omega) (by omega)), Int.toNat_natCast]
  · intro q hq
    simp only [idO, List.mem_map] at hq
    obtain ⟨i, hi, rfl⟩ := hq
    have := List.mem_range.1 hi
    obtain rfl | rfl | rfl | rfl : i = 0 ∨ i = 1 ∨ i = 2 ∨ i = 3 := by omega
    all_goals decide
  · intro q hq
    simp only [idO, List.mem_map] at hq
    obtain ⟨i, _, rfl⟩ := hq
    exact .inl rfl
/-- The polynomial of a row of gates says what they do to every basis state. -/
theorem poly_acts {gs : List Gt} {n : Nat} {M : Po} (h : compP gs (n : Int) = (M, true)) :
    (1 ≤ n ∧ n ≤ 4) ∧ (∀ g ∈ gs, okN n g = true ∧ mono g = true) ∧ M.N = (n : Int) ∧ M.o.length = n ∧
    (∀ b, b < 2 ^ n → actG gs (eN (2 ^ n) b) = scl (phZ (phP b M).toNat) (eN (2 ^ n) (valN (bitsP b M))) ∧ valN (bitsP b M) < 2 ^ n) ∧
    (∀ b c, b < 2 ^ n → c < 2 ^ n → valN (bitsP b M) = valN (bitsP c M) → b = c) := by
  obtain ⟨hin, hc⟩ := compP_in h
  obtain ⟨n1, n4⟩ := inB_iff.1 hin
  have hn : 1 ≤ n ∧ n ≤ 4 := by omega
  have h16 := pow_le16 hn.2
  obtain ⟨e0, mk, fl⟩ := idP_mk hn
  rw [e0] at hc
  obtain ⟨i1, i2, i3, i4⟩ := acts_run gs ⟨n, 0, [], idO n⟩ M hc rfl (by rw [idO_len]) hn fl mk
  have hid : ∀ b, b < 2 ^ n → valN (bitsP b ⟨n, 0, [], idO n⟩) = b := by
    intro b hb
    have := List.all_eq_true.1 (chkI_all hn) b (List.mem_range.2 hb)
    exact of_decide_eq_true this
  refine ⟨hn, i1, i2, i3, fun b hb => ?_, fun b c hb hc' he => ?_⟩
  · obtain ⟨j1, ⟨k, j2, j3⟩, j4⟩ := i4 b (by omega)
    refine ⟨?_, j4⟩
    rw [hid b hb] at j3
    rw [j3]
    have e : phP b ⟨n, 0, [], idO n⟩ = 0 := rfl
    rw [e] at j2
    have : phZ (phP b M).toNat = phZ k := by
      rw [j2, show ((0 + (k : Int)) % 8).toNat = k % 8 by omega]
      unfold phZ
      rw [Nat.mod_mod]
    rw [this]
  · have vinj : ∀ m : Nat, ∀ xs ys : List Nat, xs.length = m → ys.length = m → (∀ x ∈ xs, x ≤ 1) → (∀ x ∈ ys, x ≤ 1) → valN xs = valN ys → xs = ys := by
      intro m
      induction m with
      | zero => intro xs ys h1 h2 _ _ _; rw [List.eq_nil_of_length_eq_zero h1, List.eq_nil_of_length_eq_zero h2]
      | succ m ih =>
        intro xs ys h1 h2 b1 b2 hv
        match xs, ys, h1, h2 with
        | x :: r, y :: s, h1, h2 =>
          have c1 := b1 x (by simp)
          have c2 := b2 y (by simp)
          have hv2 : x + 2 * valN r = y + 2 * valN s := hv
          have := ih r s (by simpa using h1) (by simpa using h2) (fun z hz => b1 z (by simp [hz])) (fun z hz => b2 z (by simp [hz])) (by omega)
          rw [this, show x = y by omega]
    have hmv : ∀ (l : List Gt) (xs ys : List Nat), (∀ g ∈ l, okN n g = true ∧ mono g = true) → xs.length = n → ys.length = n → (∀ x ∈ xs, x ≤ 1) → (∀ x ∈ ys, x ≤ 1) → mvs l xs = mvs l ys → xs = ys := by
      intro l
      induction l with
      | nil => intro xs ys _ _ _ _ _ h; exact h
      | cons g r ih =>
        intro xs ys hg h1 h2 b1 b2 hh
        obtain ⟨g1, g2⟩ := hg g (by simp)
        obtain ⟨_, _, m3, m4⟩ := mv_at g1 g2 h1 b1
        obtain ⟨_, _, k3, k4⟩ := mv_at g1 g2 h2 b2
        have := ih (mvX g xs) (mvX g ys) (fun x hx => hg x (by simp [hx])) (by rw [mvX_len, h1]) (by rw [mvX_len, h2]) m4 k4 hh
        rw [← m3, ← k3, this]
    obtain ⟨j1, _, _⟩ := i4 b (by omega)
    obtain ⟨k1, _, _⟩ := i4 c (by omega)
    have e1 := vinj n (bitsP b M) (bitsP c M) (by rw [bitsP_len, i3]) (by rw [bitsP_len, i3]) (bitsP_01 _ _) (bitsP_01 _ _) he
    rw [j1, k1] at e1
    have e2 := hmv gs _ _ i1 (by rw [bitsP_len]; exact idO_len n) (by rw [bitsP_len]; exact idO_len n) (bitsP_01 _ _) (bitsP_01 _ _) e1
    rw [← hid b hb, ← hid c hc', e2]
theorem evO_to {b : Nat} {p : Po} (h : p.o.length ≤ 4) : evO (b : Int) 0 p.o 0 = (valN (bitsP b p) : Nat) := evO_val _ h
theorem evT_ph (b : Nat) (p : Po) : evT (b : Int) p.t p.H % 8 = phP b p := evT_sum _ _ _
theorem mono_hc {g : Gt} (h : mono g = true) : hc g = 0 := by
  unfold hc
  split
  · rename_i h4
    unfold mono at h
    rw [h4] at h
    exact absurd h (by decide)
  · rfl
theorem mono_hcs : ∀ {gs : List Gt}, (∀ g ∈ gs, mono g = true) → hcs gs = 0
  | [], _ => rfl
  | g :: r, h => by
    show hc g + hcs r = 0
    rw [mono_hc (h g (by simp)), mono_hcs (fun x hx => h x (by simp [hx]))]
end Go.Proofs.Ytibhikngiceeeaa
namespace Go.Proofs.Ytibhikngiceeeaa
open Go.RowKit

def cnt (kd : Int) : List Gt → Int
  | [] => 0
  | g :: r => (if g.k == kd then 1 else 0) + cnt kd r
theorem cnt_bd (kd : Int) (l : List Gt) : 0 ≤ cnt kd l ∧ cnt kd l ≤ l.length := by
  induction l with
  | nil => simp [cnt]
  | cons g r ih => simp only [cnt, List.length_cons]; split <;> omega
theorem cnt_nil (kd : Int) {l : List Gt} {k : Nat} (h : l.length ≤ k) : cnt kd (l.drop k) = 0 := by rw [List.drop_eq_nil_of_le h]; rfl

set_option maxHeartbeats 400000 in
theorem s_CountGates (N : Int) (A : Option Addr) (n cap : Nat) (kd : Int) (gs : List Gt) (w : World) (h : RdG w A n gs) (hn : n ≤ 1099511627776) :
    Calls Try.prog 134 #[.agg #[.int .i64 N, .slice A n cap], .int .i64 kd] w fun e w' => e = .returned (.int .i64 (cnt kd gs)) ∧ Below w.heap.size w w' := by
  have H := Lib.hid h
  clear h
  go_enter Try.func134, Try.ntmps134
  go_wp2
  go_loopg [5, 6] n (fun m s i wr => ∃ (k : Nat) (x : Int), k + m = n ∧ i = .int .i64 k ∧ s = .int .i64 x ∧ 0 ≤ x ∧ x ≤ k ∧ x + cnt kd (gs.drop k) = cnt kd gs ∧ wr = w.alloc (.cells #[.int .i64 N, .slice A n cap] 50))
  case atStart => exact ⟨0, 0, by omega, rfl, rfl, by omega, by omega, by simp, rfl⟩
  case round =>
    obtain ⟨k, x, hk, rfl, rfl, h0, h1, hx, rfl⟩ := hrel
    have HX := Lib.hid hx
    clear hx
    by_cases hlt : k < n
    · obtain ⟨b, off, g, rfl, hB, hd, c0, c1, c2, c3⟩ := H.out.at_ hlt
      have HD := Lib.hid hd
      clear hd
      have hne : b ≠ w.heap.size := by omega
      go_wp2
      all_goals
        go_roundg (gk - 1)
        case measure => omega
        case rel =>
          have := HX.out
          rw [HD.out, cnt] at this
          first
          | exact ⟨k + 1, x + 1, by omega, by go_num, rfl, by omega, by omega, by rw [if_pos ‹_›] at this; omega, rfl⟩
          | exact ⟨k + 1, x, by omega, by go_num, rfl, by omega, by omega, by rw [if_neg (by simpa using ‹(g.k == kd) = false›)] at this; omega, rfl⟩
    · go_wp2
      go_ret
      have := HX.out
      rw [cnt_nil kd (by have := H.out.1; omega)] at this
      exact ⟨ret_int (by omega), (Below.refl _ _).alloc (Nat.le_refl _) _⟩

end Go.Proofs.Ytibhikngiceeeaa
namespace Go.Proofs.Ytibhikngiceeeaa
open Go.RowKit


def markG (n : Nat) (j : Int) : List Gt := (List.range n).map fun (i : Nat) => ⟨j + 4 * i, j + 4 * i + 1, j + 4 * i + 2, j + 4 * i + 3⟩
theorem markG_take (n k : Nat) (j : Int) (h : k ≤ n) : (markG n j).take k = markG k j := by
  simp [markG, ← List.map_take, List.take_range, Nat.min_eq_left h]
theorem markG_drop (n k : Nat) (j : Int) (h : k < n) : (markG n j).drop k = ⟨j + 4 * k, j + 4 * k + 1, j + 4 * k + 2, j + 4 * k + 3⟩ :: (markG n j).drop (k + 1) := by
  rw [drop_cons (by simpa [markG] using h)]
  simp [markG]



end Go.Proofs.Ytibhikngiceeeaa
