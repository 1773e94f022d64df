/- Plain: the number of ones among 64 bits, as math/bits reckons it and as a loop counts it. Nothing is asked. -/
import Derived.Lib.Hide
namespace Go.Proofs.Ytibhikngiceeeaa

def popN : Nat → Nat → Nat
  | 0, _ => 0
  | f + 1, x => x % 2 + popN f (x / 2)
def ofB : List Nat → Nat
  | [] => 0
  | a :: r => a + 256 * ofB r
def bts : Nat → Nat → List Nat
  | 0, _ => []
  | f + 1, x => x % 256 :: bts f (x / 256)
theorem ofB_bts : ∀ (f x : Nat), x < 256 ^ f → ofB (bts f x) = x
  | 0, x, h => by simp at h; subst h; rfl
  | f + 1, x, h => by
    rw [Nat.pow_succ] at h
    have := ofB_bts f (x / 256) (by omega)
    rw [bts, ofB, this]
    omega
theorem bts_lt : ∀ (f x : Nat), ∀ b ∈ bts f x, b < 256
  | 0, _, b, h => by simp [bts] at h
  | f + 1, x, b, h => by
    rw [bts] at h
    rcases List.mem_cons.1 h with h | h
    · omega
    · exact bts_lt f _ b h
theorem popN_split : ∀ (k f x : Nat), popN (k + f) x = popN k (x % 2 ^ k) + popN f (x / 2 ^ k)
  | 0, f, x => by simp [popN]
  | k + 1, f, x => by
    have e : k + 1 + f = (k + f) + 1 := by omega
    rw [e, popN, popN_split k f (x / 2), popN]
    have h1 : x % 2 ^ (k + 1) % 2 = x % 2 := by
      rw [Nat.pow_succ, Nat.mul_comm]
      exact Nat.mod_mul_right_mod x 2 (2 ^ k)
    have h2 : x % 2 ^ (k + 1) / 2 = x / 2 % 2 ^ k := by
      rw [Nat.pow_succ, Nat.mul_comm]
      exact Nat.mod_mul_right_div_self x 2 (2 ^ k)
    have h3 : x / 2 / 2 ^ k = x / 2 ^ (k + 1) := by
      rw [Nat.div_div_eq_div_mul, Nat.pow_succ, Nat.mul_comm]
    rw [h1, h2, h3]
    omega
theorem popN_byte (f a b : Nat) (ha : a < 256) : popN (8 + f) (a + 256 * b) = popN 8 a + popN f b := by
  rw [popN_split]
  have h1 : (a + 256 * b) % 2 ^ 8 = a := by omega
  have h2 : (a + 256 * b) / 2 ^ 8 = b := by omega
  rw [h1, h2]
theorem and_byte (a b c d : Nat) (ha : a < 256) (hc : c < 256) : (a + 256 * b) &&& (c + 256 * d) = (a &&& c) + 256 * (b &&& d) := by
  have h1 := Nat.and_mod_two_pow (a := a + 256 * b) (b := c + 256 * d) (n := 8)
  have h2 := Nat.and_div_two_pow (a := a + 256 * b) (b := c + 256 * d) (n := 8)
  have e1 : (a + 256 * b) % 2 ^ 8 = a := by omega
  have e2 : (c + 256 * d) % 2 ^ 8 = c := by omega
  have e3 : (a + 256 * b) / 2 ^ 8 = b := by omega
  have e4 : (c + 256 * d) / 2 ^ 8 = d := by omega
  rw [e1, e2] at h1
  rw [e3, e4] at h2
  omega
def msk (c : Nat) : List Nat → Nat
  | [] => 0
  | _ :: r => c + 256 * msk c r
def s1 (a : Nat) : Nat := (a / 2 &&& 85) + (a &&& 85)
def s2 (a : Nat) : Nat := (a / 4 &&& 51) + (a &&& 51)
def s3 (a : Nat) : Nat := (a / 16 + a) &&& 15
theorem s1_low : ∀ (a : Fin 256) (b : Fin 2), ((a.val / 2 + 128 * b.val) &&& 85) + (a.val &&& 85) = s1 a.val ∧ s1 a.val < 256 := by decide +kernel
theorem s2_low : ∀ (a : Fin 256) (b : Fin 4), ((a.val / 4 + 64 * b.val) &&& 51) + (a.val &&& 51) = s2 a.val ∧ s2 a.val < 256 ∧ s2 a.val % 16 ≤ 6 ∧ s2 a.val / 16 ≤ 6 := by decide +kernel
theorem s3_low : ∀ (a : Fin 103) (b : Fin 9), ((a.val / 16 + 16 * b.val + a.val) &&& 15) = s3 a.val := by decide +kernel
theorem pop_all : ∀ a : Fin 256, s3 (s2 (s1 a.val)) = popN 8 a.val ∧ popN 8 a.val ≤ 8 := by decide +kernel
theorem step1 : ∀ (l : List Nat), (∀ a ∈ l, a < 256) → (ofB l / 2 &&& msk 85 l) + (ofB l &&& msk 85 l) = ofB (l.map s1)
  | [], _ => rfl
  | a :: r, h => by
    have ha := h a (by simp)
    have ih := step1 r fun b hb => h b (by simp [hb])
    obtain ⟨h1, _⟩ := s1_low ⟨a, ha⟩ ⟨ofB r % 2, by omega⟩
    simp only at h1
    have e1 : (a + 256 * ofB r) / 2 = (a / 2 + 128 * (ofB r % 2)) + 256 * (ofB r / 2) := by omega
    simp only [ofB, msk, List.map_cons]
    rw [e1, and_byte _ _ _ _ (by omega) (by omega), and_byte _ _ _ _ ha (by omega), ← ih, ← h1]
    omega
theorem step2 : ∀ (l : List Nat), (∀ a ∈ l, a < 256) → (ofB l / 4 &&& msk 51 l) + (ofB l &&& msk 51 l) = ofB (l.map s2)
  | [], _ => rfl
  | a :: r, h => by
    have ha := h a (by simp)
    have ih := step2 r fun b hb => h b (by simp [hb])
    obtain ⟨h1, _⟩ := s2_low ⟨a, ha⟩ ⟨ofB r % 4, by omega⟩
    simp only at h1
    have e1 : (a + 256 * ofB r) / 4 = (a / 4 + 64 * (ofB r % 4)) + 256 * (ofB r / 4) := by omega
    simp only [ofB, msk, List.map_cons]
    rw [e1, and_byte _ _ _ _ (by omega) (by omega), and_byte _ _ _ _ ha (by omega), ← ih, ← h1]
    omega
theorem low16 : ∀ (l : List Nat), (∀ a ∈ l, a % 16 ≤ 6) → ofB l % 16 ≤ 6
  | [], _ => by simp [ofB]
  | a :: r, h => by
    have := h a (by simp)
    simp only [ofB]
    omega
theorem step3 : ∀ (l : List Nat), (∀ a ∈ l, a % 16 ≤ 6 ∧ a / 16 ≤ 6) → (ofB l / 16 + ofB l &&& msk 15 l) = ofB (l.map s3)
  | [], _ => rfl
  | a :: r, h => by
    obtain ⟨ha1, ha2⟩ := h a (by simp)
    have ih := step3 r fun b hb => h b (by simp [hb])
    have hr := low16 r fun b hb => (h b (by simp [hb])).1
    have h1 := s3_low ⟨a, by omega⟩ ⟨ofB r % 16, by omega⟩
    simp only at h1
    have e1 : (a + 256 * ofB r) / 16 + (a + 256 * ofB r) = (a / 16 + 16 * (ofB r % 16) + a) + 256 * (ofB r / 16 + ofB r) := by omega
    simp only [ofB, msk, List.map_cons]
    rw [e1, and_byte _ _ _ _ (by omega) (by omega), ← ih, ← h1]
theorem msk_len (c : Nat) : ∀ (l : List Nat) (l' : List Nat), l.length = l'.length → msk c l = msk c l'
  | [], [], _ => rfl
  | _ :: r, _ :: r', h => by
    rw [msk, msk, msk_len c r r' (by simpa using h)]
theorem bts_len : ∀ f x : Nat, (bts f x).length = f
  | 0, _ => rfl
  | f + 1, x => by rw [bts, List.length_cons, bts_len f]
theorem popN_bytes : ∀ (l : List Nat), (∀ a ∈ l, a < 256) → popN (8 * l.length) (ofB l) = (l.map (popN 8)).sum
  | [], _ => rfl
  | a :: r, h => by
    have ih := popN_bytes r fun b hb => h b (by simp [hb])
    rw [show 8 * (a :: r).length = 8 + 8 * r.length by simp; omega, ofB, popN_byte _ _ _ (h a (by simp)), ih]
    simp
/-- What math/bits.OnesCount64 reckons of x. -/
def swarA (x : Nat) : Nat := (x / 2 &&& 6148914691236517205) + (x &&& 6148914691236517205)
def swarB (y : Nat) : Nat := (y / 4 &&& 3689348814741910323) + (y &&& 3689348814741910323)
def swarC (z : Nat) : Nat := (z / 16 + z) &&& 1085102592571150095
theorem ofB8 (c0 c1 c2 c3 c4 c5 c6 c7 : Nat) : ofB [c0, c1, c2, c3, c4, c5, c6, c7] = c0 + 256 * c1 + 65536 * c2 + 16777216 * c3 + 4294967296 * c4 + 1099511627776 * c5 + 281474976710656 * c6 + 72057594037927936 * c7 := by
  simp only [ofB]
  omega
theorem ofB8_lt (m c0 c1 c2 c3 c4 c5 c6 c7 : Nat) (h0 : c0 < m) (h1 : c1 < m) (h2 : c2 < m) (h3 : c3 < m) (h4 : c4 < m) (h5 : c5 < m) (h6 : c6 < m) (h7 : c7 < m) (hm : m ≤ 256) : ofB [c0, c1, c2, c3, c4, c5, c6, c7] < 18446744073709551616 := by
  rw [ofB8]
  omega
theorem lt103 {a : Nat} (h : a % 16 ≤ 6 ∧ a / 16 ≤ 6) : a < 103 := by omega
theorem ofB8_sum (c0 c1 c2 c3 c4 c5 c6 c7 : Nat) (h0 : c0 < 103) (h1 : c1 < 103) (h2 : c2 < 103) (h3 : c3 < 103) (h4 : c4 < 103) (h5 : c5 < 103) (h6 : c6 < 103) (h7 : c7 < 103) : ofB [c0, c1, c2, c3, c4, c5, c6, c7] / 16 + ofB [c0, c1, c2, c3, c4, c5, c6, c7] < 18446744073709551616 := by
  rw [ofB8]
  omega
theorem swarA_eq (x : Nat) : swarA x = (x / 2 &&& 6148914691236517205) + (x &&& 6148914691236517205) := by unfold swarA; exact Eq.refl _
theorem swarB_eq (y : Nat) : swarB y = (y / 4 &&& 3689348814741910323) + (y &&& 3689348814741910323) := by unfold swarB; exact Eq.refl _
theorem swarC_eq (z : Nat) : swarC z = (z / 16 + z) &&& 1085102592571150095 := by unfold swarC; exact Eq.refl _
theorem eight {l : List Nat} (h : l.length = 8) : ∃ a b c d e f g k, l = [a, b, c, d, e, f, g, k] := by
  match l, h with
  | [a, b, c, d, e, f, g, k], _ => exact ⟨a, b, c, d, e, f, g, k, rfl⟩
theorem msk8_85 {l : List Nat} (h : l.length = 8) : msk 85 l = 6148914691236517205 := by
  obtain ⟨a, b, c, d, e, f, g, k, rfl⟩ := eight h
  simp only [msk]
theorem msk8_51 {l : List Nat} (h : l.length = 8) : msk 51 l = 3689348814741910323 := by
  obtain ⟨a, b, c, d, e, f, g, k, rfl⟩ := eight h
  simp only [msk]
theorem msk8_15 {l : List Nat} (h : l.length = 8) : msk 15 l = 1085102592571150095 := by
  obtain ⟨a, b, c, d, e, f, g, k, rfl⟩ := eight h
  simp only [msk]
theorem ofB_lt8 {l : List Nat} (h : l.length = 8) (hb : ∀ a ∈ l, a < 256) : ofB l < 18446744073709551616 := by
  obtain ⟨a, b, c, d, e, f, g, k, rfl⟩ := eight h
  simp only [List.mem_cons, List.not_mem_nil, or_false, forall_eq_or_imp, forall_eq] at hb
  obtain ⟨k0, k1, k2, k3, k4, k5, k6, k7⟩ := hb
  exact ofB8_lt 256 _ _ _ _ _ _ _ _ k0 k1 k2 k3 k4 k5 k6 k7 (Nat.le_refl _)
theorem ofB_sum8 {l : List Nat} (h : l.length = 8) (hb : ∀ a ∈ l, a < 103) : ofB l / 16 + ofB l < 18446744073709551616 := by
  obtain ⟨a, b, c, d, e, f, g, k, rfl⟩ := eight h
  simp only [List.mem_cons, List.not_mem_nil, or_false, forall_eq_or_imp, forall_eq] at hb
  obtain ⟨k0, k1, k2, k3, k4, k5, k6, k7⟩ := hb
  exact ofB8_sum _ _ _ _ _ _ _ _ k0 k1 k2 k3 k4 k5 k6 k7
def l1 (x : Nat) : List Nat := (bts 8 x).map s1
def l2 (x : Nat) : List Nat := (l1 x).map s2
def l3 (x : Nat) : List Nat := (l2 x).map s3
theorem l_len (x : Nat) : (bts 8 x).length = 8 ∧ (l1 x).length = 8 ∧ (l2 x).length = 8 ∧ (l3 x).length = 8 := by
  have := bts_len 8 x
  simp [l1, l2, l3, this]
theorem l1_lt (x : Nat) : ∀ a ∈ l1 x, a < 256 := by
  intro a ha
  obtain ⟨c, hc, rfl⟩ := List.mem_map.1 ha
  exact (s1_low ⟨c, bts_lt 8 x c hc⟩ 0).2
theorem l2_lt (x : Nat) : ∀ a ∈ l2 x, a < 256 ∧ a % 16 ≤ 6 ∧ a / 16 ≤ 6 := by
  intro a ha
  obtain ⟨c, hc, rfl⟩ := List.mem_map.1 ha
  exact (s2_low ⟨c, l1_lt x c hc⟩ 0).2
theorem swA (x : Nat) (hx : x < 18446744073709551616) : swarA x = ofB (l1 x) := by
  have e := step1 (bts 8 x) (bts_lt 8 x)
  rw [msk8_85 (l_len x).1, ofB_bts 8 x (by simpa using hx)] at e
  rw [swarA_eq]
  exact e
theorem swB (x : Nat) (hx : x < 18446744073709551616) : swarB (swarA x) = ofB (l2 x) := by
  have e := step2 (l1 x) (l1_lt x)
  rw [msk8_51 (l_len x).2.1, ← swA x hx] at e
  rw [swarB_eq]
  exact e
theorem swC (x : Nat) (hx : x < 18446744073709551616) : swarC (swarB (swarA x)) = ofB (l3 x) := by
  have e := step3 (l2 x) (fun a ha => (l2_lt x a ha).2)
  rw [msk8_15 (l_len x).2.2.1, ← swB x hx] at e
  rw [swarC_eq]
  exact e
theorem l3_pop (x : Nat) : l3 x = (bts 8 x).map (popN 8) := by
  unfold l3 l2 l1
  rw [List.map_map, List.map_map]
  exact List.map_congr_left fun b hb => (pop_all ⟨b, bts_lt 8 x b hb⟩).1
theorem popN_sum (x : Nat) (hx : x < 18446744073709551616) : popN 64 x = ((bts 8 x).map (popN 8)).sum := by
  have hp := popN_bytes (bts 8 x) (bts_lt 8 x)
  rw [bts_len, ofB_bts 8 x (by simpa using hx)] at hp
  exact hp
theorem swar_bytes (x : Nat) (hx : x < 18446744073709551616) : ∃ p0 p1 p2 p3 p4 p5 p6 p7 : Nat, p0 ≤ 8 ∧ p1 ≤ 8 ∧ p2 ≤ 8 ∧ p3 ≤ 8 ∧ p4 ≤ 8 ∧ p5 ≤ 8 ∧ p6 ≤ 8 ∧ p7 ≤ 8 ∧
    swarA x < 18446744073709551616 ∧ swarB (swarA x) < 18446744073709551616 ∧ swarB (swarA x) / 16 + swarB (swarA x) < 18446744073709551616 ∧
    swarC (swarB (swarA x)) = p0 + 256 * p1 + 65536 * p2 + 16777216 * p3 + 4294967296 * p4 + 1099511627776 * p5 + 281474976710656 * p6 + 72057594037927936 * p7 ∧ popN 64 x = p0 + p1 + p2 + p3 + p4 + p5 + p6 + p7 := by
  obtain ⟨b0, b1, b2, b3, b4, b5, b6, b7, hl⟩ := eight (l_len x).1
  have q : ∀ b ∈ bts 8 x, popN 8 b ≤ 8 := fun b hb' => (pop_all ⟨b, bts_lt 8 x b hb'⟩).2
  have c := swC x hx
  have d := popN_sum x hx
  rw [l3_pop] at c
  rw [hl] at q c d
  simp only [List.mem_cons, List.not_mem_nil, or_false, forall_eq_or_imp, forall_eq] at q
  obtain ⟨d0, d1, d2, d3, d4, d5, d6, d7⟩ := q
  refine ⟨popN 8 b0, popN 8 b1, popN 8 b2, popN 8 b3, popN 8 b4, popN 8 b5, popN 8 b6, popN 8 b7, d0, d1, d2, d3, d4, d5, d6, d7, ?_, ?_, ?_, ?_, ?_⟩
  · rw [swA x hx]; exact ofB_lt8 (l_len x).2.1 (l1_lt x)
  · rw [swB x hx]; exact ofB_lt8 (l_len x).2.2.1 fun a ha => (l2_lt x a ha).1
  · rw [swB x hx]; exact ofB_sum8 (l_len x).2.2.1 fun a ha => lt103 (l2_lt x a ha).2
  · rw [c]
    simp only [List.map_cons, List.map_nil]
    exact ofB8 _ _ _ _ _ _ _ _
  · rw [d]
    simp only [List.map_cons, List.map_nil, List.sum_cons, List.sum_nil]
    generalize popN 8 b0 = r0, popN 8 b1 = r1, popN 8 b2 = r2, popN 8 b3 = r3, popN 8 b4 = r4, popN 8 b5 = r5, popN 8 b6 = r6, popN 8 b7 = r7
    omega
/-- The rest of OnesCount64: the bytes added up. -/
theorem tailA (p0 p1 p2 p3 p4 p5 p6 p7 y : Nat) (h0 : p0 ≤ 8) (h1 : p1 ≤ 8) (h2 : p2 ≤ 8) (h3 : p3 ≤ 8) (h4 : p4 ≤ 8) (h5 : p5 ≤ 8) (h6 : p6 ≤ 8) (h7 : p7 ≤ 8) (hy : y = p0 + 256 * p1 + 65536 * p2 + 16777216 * p3 + 4294967296 * p4 + 1099511627776 * p5 + 281474976710656 * p6 + 72057594037927936 * p7) : y + y / 256 < 9000000000000000000 ∧ y + y / 256 = (p0 + p1) + 256 * (p1 + p2) + 65536 * (p2 + p3) + 16777216 * (p3 + p4) + 4294967296 * (p4 + p5) + 1099511627776 * (p5 + p6) + 281474976710656 * (p6 + p7) + 72057594037927936 * p7 := by
  have : y / 256 = p1 + 256 * p2 + 65536 * p3 + 16777216 * p4 + 4294967296 * p5 + 1099511627776 * p6 + 281474976710656 * p7 := by omega
  omega
theorem tailB (q0 q1 q2 q3 q4 q5 q6 q7 y : Nat) (h0 : q0 ≤ 16) (h1 : q1 ≤ 16) (h2 : q2 ≤ 16) (h3 : q3 ≤ 16) (h4 : q4 ≤ 16) (h5 : q5 ≤ 16) (h6 : q6 ≤ 16) (h7 : q7 ≤ 16) (hy : y = q0 + 256 * q1 + 65536 * q2 + 16777216 * q3 + 4294967296 * q4 + 1099511627776 * q5 + 281474976710656 * q6 + 72057594037927936 * q7) : y + y / 65536 < 9000000000000000000 ∧ y + y / 65536 = (q0 + q2) + 256 * (q1 + q3) + 65536 * (q2 + q4) + 16777216 * (q3 + q5) + 4294967296 * (q4 + q6) + 1099511627776 * (q5 + q7) + 281474976710656 * q6 + 72057594037927936 * q7 := by
  have : y / 65536 = q2 + 256 * q3 + 65536 * q4 + 16777216 * q5 + 4294967296 * q6 + 1099511627776 * q7 := by omega
  omega
theorem tailC (q0 q1 q2 q3 q4 q5 q6 q7 y : Nat) (h0 : q0 ≤ 32) (h1 : q1 ≤ 32) (h2 : q2 ≤ 32) (h3 : q3 ≤ 32) (h4 : q4 ≤ 32) (h5 : q5 ≤ 32) (h6 : q6 ≤ 32) (h7 : q7 ≤ 32) (hy : y = q0 + 256 * q1 + 65536 * q2 + 16777216 * q3 + 4294967296 * q4 + 1099511627776 * q5 + 281474976710656 * q6 + 72057594037927936 * q7) : y + y / 4294967296 < 9000000000000000000 ∧ (y + y / 4294967296) % 128 = q0 + q4 := by
  have : y / 4294967296 = q4 + 256 * q5 + 65536 * q6 + 16777216 * q7 := by omega
  omega
theorem swar_tail (p0 p1 p2 p3 p4 p5 p6 p7 : Nat) (h0 : p0 ≤ 8) (h1 : p1 ≤ 8) (h2 : p2 ≤ 8) (h3 : p3 ≤ 8) (h4 : p4 ≤ 8) (h5 : p5 ≤ 8) (h6 : p6 ≤ 8) (h7 : p7 ≤ 8) (y a b c : Nat)
    (hy : y = p0 + 256 * p1 + 65536 * p2 + 16777216 * p3 + 4294967296 * p4 + 1099511627776 * p5 + 281474976710656 * p6 + 72057594037927936 * p7)
    (ha : a = y + y / 256) (hb : b = a + a / 65536) (hc : c = b + b / 4294967296) : a < 9223372036854775808 ∧ b < 9223372036854775808 ∧ c < 9223372036854775808 ∧ c % 128 = p0 + p1 + p2 + p3 + p4 + p5 + p6 + p7 := by
  obtain ⟨f1, e1⟩ := tailA p0 p1 p2 p3 p4 p5 p6 p7 y h0 h1 h2 h3 h4 h5 h6 h7 hy
  rw [← ha] at e1 f1
  clear ha hy
  obtain ⟨f2, e2⟩ := tailB _ _ _ _ _ _ _ _ a (by omega) (by omega) (by omega) (by omega) (by omega) (by omega) (by omega) (by omega) e1
  rw [← hb] at e2 f2
  clear hb e1
  obtain ⟨f3, e3⟩ := tailC _ _ _ _ _ _ _ _ b (by omega) (by omega) (by omega) (by omega) (by omega) (by omega) (by omega) (by omega) e2
  rw [← hc] at e3 f3
  clear hc e2
  exact ⟨by omega, by omega, by omega, by omega⟩
theorem popN_le : ∀ f x : Nat, popN f x ≤ f
  | 0, _ => Nat.le_refl _
  | f + 1, x => by have := popN_le f (x / 2); rw [popN]; omega
/-- The loop's count: the bits from i on. -/
theorem popN_bit (f i x : Nat) : popN (f + 1) (x / 2 ^ i) = x / 2 ^ i % 2 + popN f (x / 2 ^ (i + 1)) := by
  rw [popN, Nat.div_div_eq_div_mul, Nat.pow_succ]
end Go.Proofs.Ytibhikngiceeeaa
