/- Plain: the number of ones among 64 bits, as math/bits reckons it and as a loop counts it. Nothing is asked. Contracts of ones (impl), l25Ones (spec). Nothing is asked. Contracts of IsValidPauli, MulPauli, PaulisCommute, IsHermitianPauli (spec and impl), for valid operators on one to four qubits. Reads at a known place; slices of slices of gates. Nothing is asked. Tableaus as values and boxes; ... -/
import Derived.Test.YtmenmibfkojnoaaGreatQ01
import Derived.Test.YtmenmibfkojnoaaGreatQ02
import Derived.Test.YtmenmibfkojnoaaGreatQ03
import Derived.Lib.Hide
import Derived.Test.YtmenmibfkojnoaaGreatProg
import Derived.Deep.QuietTactic
import Derived.BigQuiet
import Derived.Laws.BitsAllLaws
import Derived.Laws.BitsLemmas
import Derived.Outline
import Derived.StillTailTactics
import Derived.Deep.RegionHeld3
import Derived.Deep.RegionLaw
import Derived.Deep.DeepCutAuto
set_option maxHeartbeats 16000000
namespace Go.Proofs.YtmenmibfkojnoaaGreat
def popN : Nat -> Nat -> Nat
 |0, _ => 0
 |f + 1, x => x % 2 + popN f (x / 2)
def ofB : List Nat -> Nat
 |[] => 0
 |a :: r => a + 256 * ofB r
def bts : Nat -> Nat -> List Nat
 |0, _ => []
 |f + 1, x => x % 256 :: bts f (x / 256)
theorem ofB_bts : ∀ (f x : Nat), x < 256 ^ f -> ofB (bts f x) = x
 |0, x, h => by simp at h; subst h; rfl
 |f + 1, x, h => by
  rw [Nat.pow_succ] at h
  have := ofB_bts f (x / 256) (by omega)
  rw [bts, ofB, this]
  omega
theorem bts_lt : ∀ (f x : Nat), ∀ b ∈ bts f x, b < 256
 |0, _, b, h => by simp [bts] at h
 |f + 1, x, b, h => by
  rw [bts] at h
  rcases List.mem_cons.1 h with h | h
  ·omega
  ·exact bts_lt f _ b h
theorem popN_split : ∀ (k f x : Nat), popN (k + f) x = popN k (x % 2 ^ k) + popN f (x / 2 ^ k)
 |0, f, x => by simp [popN]
 |k + 1, f, x => by
  have e : k + 1 + f = (k + f) + 1 := by omega
  rw [e, popN, popN_split k f (x / 2), popN]
  have h1 : x % 2 ^ (k + 1) % 2 = x % 2 := by
   rw [Nat.pow_succ, Nat.mul_comm]
   exact Nat.mod_mul_right_mod x 2 (2 ^ k)
  have h2 : x % 2 ^ (k + 1) / 2 = x / 2 % 2 ^ k := by
   rw [Nat.pow_succ, Nat.mul_comm]
   exact Nat.mod_mul_right_div_self x 2 (2 ^ k)
  have h3 : x / 2 / 2 ^ k = x / 2 ^ (k + 1) := by
   rw [Nat.div_div_eq_div_mul, Nat.pow_succ, Nat.mul_comm]
  rw [h1, h2, h3]
  omega
theorem popN_byte (f a b : Nat) (ha : a < 256) : popN (8 + f) (a + 256 * b) = popN 8 a + popN f b := by
 rw [popN_split]
 have h1 : (a + 256 * b) % 2 ^ 8 = a := by omega
 have h2 : (a + 256 * b) / 2 ^ 8 = b := by omega
 rw [h1, h2]
theorem and_byte (a b c d : Nat) (ha : a < 256) (hc : c < 256) : (a + 256 * b) &&& (c + 256 * d) = (a &&& c) + 256 * (b &&& d) := by
 have h1 := Nat.and_mod_two_pow (a := a + 256 * b) (b := c + 256 * d) (n := 8)
 have h2 := Nat.and_div_two_pow (a := a + 256 * b) (b := c + 256 * d) (n := 8)
 have e1 : (a + 256 * b) % 2 ^ 8 = a := by omega
 have e2 : (c + 256 * d) % 2 ^ 8 = c := by omega
 have e3 : (a + 256 * b) / 2 ^ 8 = b := by omega
 have e4 : (c + 256 * d) / 2 ^ 8 = d := by omega
 rw [e1, e2] at h1
 rw [e3, e4] at h2
 omega
def msk (c : Nat) : List Nat -> Nat
 |[] => 0
 |_ :: r => c + 256 * msk c r
def s1 (a : Nat) : Nat := (a / 2 &&& 85) + (a &&& 85)
def s2 (a : Nat) : Nat := (a / 4 &&& 51) + (a &&& 51)
def s3 (a : Nat) : Nat := (a / 16 + a) &&& 15
theorem s1_low : ∀ (a : Fin 256) (b : Fin 2), ((a.val / 2 + 128 * b.val) &&& 85) + (a.val &&& 85) = s1 a.val /\ s1 a.val < 256 := by decide +kernel
theorem s2_low : ∀ (a : Fin 256) (b : Fin 4), ((a.val / 4 + 64 * b.val) &&& 51) + (a.val &&& 51) = s2 a.val /\ s2 a.val < 256 /\ s2 a.val % 16 <= 6 /\ s2 a.val / 16 <= 6 := by decide +kernel
theorem s3_low : ∀ (a : Fin 103) (b : Fin 9), ((a.val / 16 + 16 * b.val + a.val) &&& 15) = s3 a.val := by decide +kernel
theorem pop_all : ∀ a : Fin 256, s3 (s2 (s1 a.val)) = popN 8 a.val /\ popN 8 a.val <= 8 := by decide +kernel
theorem step1 : ∀ (l : List Nat), (∀ a ∈ l, a < 256) -> (ofB l / 2 &&& msk 85 l) + (ofB l &&& msk 85 l) = ofB (l.map s1)
 |[], _ => rfl
 |a :: r, h => by
  have ha := h a (by simp)
  have ih := step1 r fun b hb => h b (by simp [hb])
  obtain ⟨h1, _⟩ := s1_low ⟨a, ha⟩ ⟨ofB r % 2, by omega⟩
  simp only at h1
  have e1 : (a + 256 * ofB r) / 2 = (a / 2 + 128 * (ofB r % 2)) + 256 * (ofB r / 2) := by omega
  simp only [ofB, msk, List.map_cons]
  rw [e1, and_byte _ _ _ _ (by omega) (by omega), and_byte _ _ _ _ ha (by omega), <- ih, <- h1]
  omega
theorem step2 : ∀ (l : List Nat), (∀ a ∈ l, a < 256) -> (ofB l / 4 &&& msk 51 l) + (ofB l &&& msk 51 l) = ofB (l.map s2)
 |[], _ => rfl
 |a :: r, h => by
  have ha := h a (by simp)
  have ih := step2 r fun b hb => h b (by simp [hb])
  obtain ⟨h1, _⟩ := s2_low ⟨a, ha⟩ ⟨ofB r % 4, by omega⟩
  simp only at h1
  have e1 : (a + 256 * ofB r) / 4 = (a / 4 + 64 * (ofB r % 4)) + 256 * (ofB r / 4) := by omega
  simp only [ofB, msk, List.map_cons]
  rw [e1, and_byte _ _ _ _ (by omega) (by omega), and_byte _ _ _ _ ha (by omega), <- ih, <- h1]
  omega
theorem low16 : ∀ (l : List Nat), (∀ a ∈ l, a % 16 <= 6) -> ofB l % 16 <= 6
 |[], _ => by simp [ofB]
 |a :: r, h => by
  have := h a (by simp)
  simp only [ofB]
  omega
theorem step3 : ∀ (l : List Nat), (∀ a ∈ l, a % 16 <= 6 /\ a / 16 <= 6) -> (ofB l / 16 + ofB l &&& msk 15 l) = ofB (l.map s3)
 |[], _ => rfl
 |a :: r, h => by
  obtain ⟨ha1, ha2⟩ := h a (by simp)
  have ih := step3 r fun b hb => h b (by simp [hb])
  have hr := low16 r fun b hb => (h b (by simp [hb])).1
  have h1 := s3_low ⟨a, by omega⟩ ⟨ofB r % 16, by omega⟩
  simp only at h1
  have e1 : (a + 256 * ofB r) / 16 + (a + 256 * ofB r) = (a / 16 + 16 * (ofB r % 16) + a) + 256 * (ofB r / 16 + ofB r) := by omega
  simp only [ofB, msk, List.map_cons]
  rw [e1, and_byte _ _ _ _ (by omega) (by omega), <- ih, <- h1]
theorem bts_len : ∀ f x : Nat, (bts f x).length = f
 |0, _ => rfl
 |f + 1, x => by rw [bts, List.length_cons, bts_len f]
theorem popN_bytes : ∀ (l : List Nat), (∀ a ∈ l, a < 256) -> popN (8 * l.length) (ofB l) = (l.map (popN 8)).sum
 |[], _ => rfl
 |a :: r, h => by
  have ih := popN_bytes r fun b hb => h b (by simp [hb])
  rw [show 8 * (a :: r).length = 8 + 8 * r.length by simp; omega, ofB, popN_byte _ _ _ (h a (by simp)), ih]
  simp
def swarA (x : Nat) : Nat := (x / 2 &&& 6148914691236517205) + (x &&& 6148914691236517205)
def swarB (y : Nat) : Nat := (y / 4 &&& 3689348814741910323) + (y &&& 3689348814741910323)
def swarC (z : Nat) : Nat := (z / 16 + z) &&& 1085102592571150095
theorem ofB8 (c0 c1 c2 c3 c4 c5 c6 c7 : Nat) : ofB [c0, c1, c2, c3, c4, c5, c6, c7] = c0 + 256 * c1 + 65536 * c2 + 16777216 * c3 + 4294967296 * c4 + 1099511627776 * c5 + 281474976710656 * c6 + 72057594037927936 * c7 := by
 simp only [ofB]
 omega
theorem ofB8_lt (m c0 c1 c2 c3 c4 c5 c6 c7 : Nat) (h0 : c0 < m) (h1 : c1 < m) (h2 : c2 < m) (h3 : c3 < m) (h4 : c4 < m) (h5 : c5 < m) (h6 : c6 < m) (h7 : c7 < m) (hm : m <= 256) : ofB [c0, c1, c2, c3, c4, c5, c6, c7] < 18446744073709551616 := by
 rw [ofB8]
 omega
theorem lt103 {a : Nat} (h : a % 16 <= 6 /\ a / 16 <= 6) : a < 103 := by omega
theorem ofB8_sum (c0 c1 c2 c3 c4 c5 c6 c7 : Nat) (h0 : c0 < 103) (h1 : c1 < 103) (h2 : c2 < 103) (h3 : c3 < 103) (h4 : c4 < 103) (h5 : c5 < 103) (h6 : c6 < 103) (h7 : c7 < 103) : ofB [c0, c1, c2, c3, c4, c5, c6, c7] / 16 + ofB [c0, c1, c2, c3, c4, c5, c6, c7] < 18446744073709551616 := by
 rw [ofB8]
 omega
theorem swarA_eq (x : Nat) : swarA x = (x / 2 &&& 6148914691236517205) + (x &&& 6148914691236517205) := by unfold swarA; exact Eq.refl _
theorem swarB_eq (y : Nat) : swarB y = (y / 4 &&& 3689348814741910323) + (y &&& 3689348814741910323) := by unfold swarB; exact Eq.refl _
theorem swarC_eq (z : Nat) : swarC z = (z / 16 + z) &&& 1085102592571150095 := by unfold swarC; exact Eq.refl _
theorem eight {l : List Nat} (h : l.length = 8) : ∃ a b c d e f g k, l = [a, b, c, d, e, f, g, k] := by
 match l, h with
 |[a, b, c, d, e, f, g, k], _ => exact ⟨a, b, c, d, e, f, g, k, rfl⟩
theorem msk8_85 {l : List Nat} (h : l.length = 8) : msk 85 l = 6148914691236517205 := by
 obtain ⟨a, b, c, d, e, f, g, k, rfl⟩ := eight h
 simp only [msk]
theorem msk8_51 {l : List Nat} (h : l.length = 8) : msk 51 l = 3689348814741910323 := by
 obtain ⟨a, b, c, d, e, f, g, k, rfl⟩ := eight h
 simp only [msk]
theorem msk8_15 {l : List Nat} (h : l.length = 8) : msk 15 l = 1085102592571150095 := by
 obtain ⟨a, b, c, d, e, f, g, k, rfl⟩ := eight h
 simp only [msk]
theorem ofB_lt8 {l : List Nat} (h : l.length = 8) (hb : ∀ a ∈ l, a < 256) : ofB l < 18446744073709551616 := by
 obtain ⟨a, b, c, d, e, f, g, k, rfl⟩ := eight h
 simp only [List.mem_cons, List.not_mem_nil, or_false, forall_eq_or_imp, forall_eq] at hb
 obtain ⟨k0, k1, k2, k3, k4, k5, k6, k7⟩ := hb
 exact ofB8_lt 256 _ _ _ _ _ _ _ _ k0 k1 k2 k3 k4 k5 k6 k7 (Nat.le_refl _)
theorem ofB_sum8 {l : List Nat} (h : l.length = 8) (hb : ∀ a ∈ l, a < 103) : ofB l / 16 + ofB l < 18446744073709551616 := by
 obtain ⟨a, b, c, d, e, f, g, k, rfl⟩ := eight h
 simp only [List.mem_cons, List.not_mem_nil, or_false, forall_eq_or_imp, forall_eq] at hb
 obtain ⟨k0, k1, k2, k3, k4, k5, k6, k7⟩ := hb
 exact ofB8_sum _ _ _ _ _ _ _ _ k0 k1 k2 k3 k4 k5 k6 k7
def l1 (x : Nat) : List Nat := (bts 8 x).map s1
def l2 (x : Nat) : List Nat := (l1 x).map s2
def l3 (x : Nat) : List Nat := (l2 x).map s3
theorem l_len (x : Nat) : (bts 8 x).length = 8 /\ (l1 x).length = 8 /\ (l2 x).length = 8 /\ (l3 x).length = 8 := by
 have := bts_len 8 x
 simp [l1, l2, l3, this]
theorem l1_lt (x : Nat) : ∀ a ∈ l1 x, a < 256 := by
 intro a ha
 obtain ⟨c, hc, rfl⟩ := List.mem_map.1 ha
 exact (s1_low ⟨c, bts_lt 8 x c hc⟩ 0).2
theorem l2_lt (x : Nat) : ∀ a ∈ l2 x, a < 256 /\ a % 16 <= 6 /\ a / 16 <= 6 := by
 intro a ha
 obtain ⟨c, hc, rfl⟩ := List.mem_map.1 ha
 exact (s2_low ⟨c, l1_lt x c hc⟩ 0).2
theorem swA (x : Nat) (hx : x < 18446744073709551616) : swarA x = ofB (l1 x) := by
 have e := step1 (bts 8 x) (bts_lt 8 x)
 rw [msk8_85 (l_len x).1, ofB_bts 8 x (by simpa using hx)] at e
 rw [swarA_eq]
 exact e
theorem swB (x : Nat) (hx : x < 18446744073709551616) : swarB (swarA x) = ofB (l2 x) := by
 have e := step2 (l1 x) (l1_lt x)
 rw [msk8_51 (l_len x).2.1, <- swA x hx] at e
 rw [swarB_eq]
 exact e
theorem swC (x : Nat) (hx : x < 18446744073709551616) : swarC (swarB (swarA x)) = ofB (l3 x) := by
 have e := step3 (l2 x) (fun a ha => (l2_lt x a ha).2)
 rw [msk8_15 (l_len x).2.2.1, <- swB x hx] at e
 rw [swarC_eq]
 exact e
theorem l3_pop (x : Nat) : l3 x = (bts 8 x).map (popN 8) := by
 unfold l3 l2 l1
 rw [List.map_map, List.map_map]
 exact List.map_congr_left fun b hb => (pop_all ⟨b, bts_lt 8 x b hb⟩).1
theorem popN_sum (x : Nat) (hx : x < 18446744073709551616) : popN 64 x = ((bts 8 x).map (popN 8)).sum := by
 have hp := popN_bytes (bts 8 x) (bts_lt 8 x)
 rw [bts_len, ofB_bts 8 x (by simpa using hx)] at hp
 exact hp
theorem swar_bytes (x : Nat) (hx : x < 18446744073709551616) : ∃ p0 p1 p2 p3 p4 p5 p6 p7 : Nat, p0 <= 8 /\ p1 <= 8 /\ p2 <= 8 /\ p3 <= 8 /\ p4 <= 8 /\ p5 <= 8 /\ p6 <= 8 /\ p7 <= 8 ∧
  swarA x < 18446744073709551616 /\ swarB (swarA x) < 18446744073709551616 /\ swarB (swarA x) / 16 + swarB (swarA x) < 18446744073709551616 ∧
  swarC (swarB (swarA x)) = p0 + 256 * p1 + 65536 * p2 + 16777216 * p3 + 4294967296 * p4 + 1099511627776 * p5 + 281474976710656 * p6 + 72057594037927936 * p7 /\ popN 64 x = p0 + p1 + p2 + p3 + p4 + p5 + p6 + p7 := by
 obtain ⟨b0, b1, b2, b3, b4, b5, b6, b7, hl⟩ := eight (l_len x).1
 have q : ∀ b ∈ bts 8 x, popN 8 b <= 8 := fun b hb' => (pop_all ⟨b, bts_lt 8 x b hb'⟩).2
 have c := swC x hx
 have d := popN_sum x hx
 rw [l3_pop] at c
 rw [hl] at q c d
 simp only [List.mem_cons, List.not_mem_nil, or_false, forall_eq_or_imp, forall_eq] at q
 obtain ⟨d0, d1, d2, d3, d4, d5, d6, d7⟩ := q
 refine ⟨popN 8 b0, popN 8 b1, popN 8 b2, popN 8 b3, popN 8 b4, popN 8 b5, popN 8 b6, popN 8 b7, d0, d1, d2, d3, d4, d5, d6, d7, ?_, ?_, ?_, ?_, ?_⟩
 ·rw [swA x hx]; exact ofB_lt8 (l_len x).2.1 (l1_lt x)
 ·rw [swB x hx]; exact ofB_lt8 (l_len x).2.2.1 fun a ha => (l2_lt x a ha).1
 ·rw [swB x hx]; exact ofB_sum8 (l_len x).2.2.1 fun a ha => lt103 (l2_lt x a ha).2
 ·rw [c]
  simp only [List.map_cons, List.map_nil]
  exact ofB8 _ _ _ _ _ _ _ _
 ·rw [d]
  simp only [List.map_cons, List.map_nil, List.sum_cons, List.sum_nil]
  generalize popN 8 b0 = r0, popN 8 b1 = r1, popN 8 b2 = r2, popN 8 b3 = r3, popN 8 b4 = r4, popN 8 b5 = r5, popN 8 b6 = r6, popN 8 b7 = r7
  omega
theorem tailA (p0 p1 p2 p3 p4 p5 p6 p7 y : Nat) (h0 : p0 <= 8) (h1 : p1 <= 8) (h2 : p2 <= 8) (h3 : p3 <= 8) (h4 : p4 <= 8) (h5 : p5 <= 8) (h6 : p6 <= 8) (h7 : p7 <= 8) (hy : y = p0 + 256 * p1 + 65536 * p2 + 16777216 * p3 + 4294967296 * p4 + 1099511627776 * p5 + 281474976710656 * p6 + 72057594037927936 * p7) : y + y / 256 < 9000000000000000000 /\ y + y / 256 = (p0 + p1) + 256 * (p1 + p2) + 65536 * (p2 + p3) + 16777216 * (p3 + p4) + 4294967296 * (p4 + p5) + 1099511627776 * (p5 + p6) + 281474976710656 * (p6 + p7) + 72057594037927936 * p7 := by
 have : y / 256 = p1 + 256 * p2 + 65536 * p3 + 16777216 * p4 + 4294967296 * p5 + 1099511627776 * p6 + 281474976710656 * p7 := by omega
 omega
theorem tailB (q0 q1 q2 q3 q4 q5 q6 q7 y : Nat) (h0 : q0 <= 16) (h1 : q1 <= 16) (h2 : q2 <= 16) (h3 : q3 <= 16) (h4 : q4 <= 16) (h5 : q5 <= 16) (h6 : q6 <= 16) (h7 : q7 <= 16) (hy : y = q0 + 256 * q1 + 65536 * q2 + 16777216 * q3 + 4294967296 * q4 + 1099511627776 * q5 + 281474976710656 * q6 + 72057594037927936 * q7) : y + y / 65536 < 9000000000000000000 /\ y + y / 65536 = (q0 + q2) + 256 * (q1 + q3) + 65536 * (q2 + q4) + 16777216 * (q3 + q5) + 4294967296 * (q4 + q6) + 1099511627776 * (q5 + q7) + 281474976710656 * q6 + 72057594037927936 * q7 := by
 have : y / 65536 = q2 + 256 * q3 + 65536 * q4 + 16777216 * q5 + 4294967296 * q6 + 1099511627776 * q7 := by omega
 omega
theorem tailC (q0 q1 q2 q3 q4 q5 q6 q7 y : Nat) (h0 : q0 <= 32) (h1 : q1 <= 32) (h2 : q2 <= 32) (h3 : q3 <= 32) (h4 : q4 <= 32) (h5 : q5 <= 32) (h6 : q6 <= 32) (h7 : q7 <= 32) (hy : y = q0 + 256 * q1 + 65536 * q2 + 16777216 * q3 + 4294967296 * q4 + 1099511627776 * q5 + 281474976710656 * q6 + 72057594037927936 * q7) : y + y / 4294967296 < 9000000000000000000 /\ (y + y / 4294967296) % 128 = q0 + q4 := by
 have : y / 4294967296 = q4 + 256 * q5 + 65536 * q6 + 16777216 * q7 := by omega
 omega
theorem swar_tail (p0 p1 p2 p3 p4 p5 p6 p7 : Nat) (h0 : p0 <= 8) (h1 : p1 <= 8) (h2 : p2 <= 8) (h3 : p3 <= 8) (h4 : p4 <= 8) (h5 : p5 <= 8) (h6 : p6 <= 8) (h7 : p7 <= 8) (y a b c : Nat)
  (hy : y = p0 + 256 * p1 + 65536 * p2 + 16777216 * p3 + 4294967296 * p4 + 1099511627776 * p5 + 281474976710656 * p6 + 72057594037927936 * p7)
  (ha : a = y + y / 256) (hb : b = a + a / 65536) (hc : c = b + b / 4294967296) : a < 9223372036854775808 /\ b < 9223372036854775808 /\ c < 9223372036854775808 /\ c % 128 = p0 + p1 + p2 + p3 + p4 + p5 + p6 + p7 := by
 obtain ⟨f1, e1⟩ := tailA p0 p1 p2 p3 p4 p5 p6 p7 y h0 h1 h2 h3 h4 h5 h6 h7 hy
 rw [<- ha] at e1 f1
 clear ha hy
 obtain ⟨f2, e2⟩ := tailB _ _ _ _ _ _ _ _ a (by omega) (by omega) (by omega) (by omega) (by omega) (by omega) (by omega) (by omega) e1
 rw [<- hb] at e2 f2
 clear hb e1
 obtain ⟨f3, e3⟩ := tailC _ _ _ _ _ _ _ _ b (by omega) (by omega) (by omega) (by omega) (by omega) (by omega) (by omega) (by omega) e2
 rw [<- hc] at e3 f3
 clear hc e2
 exact ⟨by omega, by omega, by omega, by omega⟩
theorem popN_bit (f i x : Nat) : popN (f + 1) (x / 2 ^ i) = x / 2 ^ i % 2 + popN f (x / 2 ^ (i + 1)) := by
 rw [popN, Nat.div_div_eq_div_mul, Nat.pow_succ]
open Go.RowKit
def onesI (x : Int) : Int := (popN 64 (x % 18446744073709551616).toNat : Nat)
theorem u64_wrap (n : Nat) (h : n < 18446744073709551616) : IntKind.u64.wrap (n : Int) = n := by
 have : IntKind.u64.wrap (n : Int) = (n : Int) % 18446744073709551616 := by rfl
 rw [this]; omega
theorem u64_and (a b : Nat) (ha : a < 18446744073709551616) (hb : b < 18446744073709551616) : bits .and .u64 (a : Int) (b : Int) = ((a &&& b : Nat) : Int) := by
 have h : bits .and .u64 (a : Int) (b : Int) = IntKind.u64.wrap (((BitVec.ofInt 64 (a : Int) &&& BitVec.ofInt 64 (b : Int)).toNat : Nat) : Int) := rfl
 have h2 : (BitVec.ofInt 64 (a : Int) &&& BitVec.ofInt 64 (b : Int)).toNat = a &&& b := by
  rw [BitVec.toNat_and, BitVec.ofInt_natCast, BitVec.ofInt_natCast, BitVec.toNat_ofNat, BitVec.toNat_ofNat, Nat.mod_eq_of_lt ha, Nat.mod_eq_of_lt hb]
 rw [h, h2, u64_wrap]
 exact Nat.lt_of_le_of_lt Nat.and_le_left ha
theorem i64_low (n : Nat) : bits .and .i64 (n : Int) 127 = ((n % 128 : Nat) : Int) := by
 have h : bits .and .i64 (n : Int) 127 = IntKind.i64.wrap (((BitVec.ofInt 64 (n : Int) &&& BitVec.ofInt 64 (127 : Int)).toNat : Nat) : Int) := rfl
 have h2 : (BitVec.ofInt 64 (n : Int) &&& BitVec.ofInt 64 (127 : Int)).toNat = n % 128 := by
  have h3 : (BitVec.ofInt 64 (127 : Int)).toNat = 127 := by decide
  rw [BitVec.toNat_and, h3, BitVec.ofInt_natCast, BitVec.toNat_ofNat]
  have := Nat.and_two_pow_sub_one_eq_mod (n % 2 ^ 64) 7
  rw [show (2 : Nat) ^ 7 - 1 = 127 by decide] at this
  rw [this]
  omega
 rw [h, h2, IntKind.wrap_i64]
 omega
theorem divN (a b : Nat) : (a : Int) / (b : Int) = ((a / b : Nat) : Int) := (Int.natCast_ediv a b).symm
theorem s64A (x : Nat) (hx : x < 18446744073709551616) : IntKind.u64.wrap (bits .and .u64 ((x : Int) / 2) 6148914691236517205 + bits .and .u64 (x : Int) 6148914691236517205) = (swarA x : Nat) := by
 obtain ⟨p0, p1, p2, p3, p4, p5, p6, p7, _, _, _, _, _, _, _, _, hA, _⟩ := swar_bytes x hx
 have e1 := u64_and (x / 2) 6148914691236517205 (by omega) (by omega)
 have e2 := u64_and x 6148914691236517205 hx (by omega)
 rw [show ((6148914691236517205 : Nat) : Int) = 6148914691236517205 from rfl] at e1 e2
 rw [show (x : Int) / 2 = ((x / 2 : Nat) : Int) from divN x 2, e1, e2, <- Int.natCast_add, <- swarA_eq, u64_wrap _ hA]
theorem s64B (y : Nat) (hy : y < 18446744073709551616) (hB : swarB y < 18446744073709551616) : IntKind.u64.wrap (bits .and .u64 ((y : Int) / 4) 3689348814741910323 + bits .and .u64 (y : Int) 3689348814741910323) = (swarB y : Nat) := by
 have e1 := u64_and (y / 4) 3689348814741910323 (by omega) (by omega)
 have e2 := u64_and y 3689348814741910323 hy (by omega)
 rw [show ((3689348814741910323 : Nat) : Int) = 3689348814741910323 from rfl] at e1 e2
 rw [show (y : Int) / 4 = ((y / 4 : Nat) : Int) from divN y 4, e1, e2, <- Int.natCast_add, <- swarB_eq, u64_wrap _ hB]
theorem s64C (z : Nat) (hz : z / 16 + z < 18446744073709551616) : bits .and .u64 (IntKind.u64.wrap ((z : Int) / 16 + (z : Int))) 1085102592571150095 = (swarC z : Nat) := by
 have e1 := u64_and (z / 16 + z) 1085102592571150095 hz (by omega)
 rw [show ((1085102592571150095 : Nat) : Int) = 1085102592571150095 from rfl] at e1
 rw [show (z : Int) / 16 = ((z / 16 : Nat) : Int) from divN z 16, <- Int.natCast_add, u64_wrap _ hz, e1, <- swarC_eq]
theorem s64s (z d : Nat) (h : z + z / d < 18446744073709551616) : IntKind.u64.wrap ((z : Int) + (z : Int) / (d : Int)) = ((z + z / d : Nat) : Int) := by
 rw [divN, <- Int.natCast_add, u64_wrap _ h]
theorem s64_end (x : Nat) (hx : x < 18446744073709551616) (c a b e : Nat) (hc : c = swarC (swarB (swarA x))) (ha : a = c + c / 256) (hb : b = a + a / 65536) (he : e = b + b / 4294967296) :
  a < 9223372036854775808 /\ b < 9223372036854775808 /\ e < 9223372036854775808 /\ e % 128 = popN 64 x := by
 obtain ⟨p0, p1, p2, p3, p4, p5, p6, p7, h0, h1, h2, h3, h4, h5, h6, h7, hA, hB, hS, hC, hP⟩ := swar_bytes x hx
 rw [hP]
 exact swar_tail p0 p1 p2 p3 p4 p5 p6 p7 h0 h1 h2 h3 h4 h5 h6 h7 c a b e (by rw [hc, hC]) ha hb he
theorem b_Ones64 (x : Nat) (w : World) (hx : x < 18446744073709551616) : Calls Tryz.prog 218 #[.int .u64 x] w fun e w' => e = .returned (.int .i64 (popN 64 x : Nat)) /\ w = w' := by
 have HX := zH hx
 clear hx
 go_enter Tryz.func218, Tryz.ntmps218
 go_wp2_with fail
 go_ret
 refine ⟨ret_int ?_, rfl⟩
 have hx := HX.out
 obtain ⟨p0, p1, p2, p3, p4, p5, p6, p7, _, _, _, _, _, _, _, _, hA, hB, hS, _, _⟩ := swar_bytes x hx
 obtain ⟨k1, k2, k3, k4⟩ := s64_end x hx _ _ _ _ rfl rfl rfl rfl
 have hC : swarC (swarB (swarA x)) < 18446744073709551616 := by omega
 have t1 := s64s (swarC (swarB (swarA x))) 256 (by omega)
 have t2 := s64s (swarC (swarB (swarA x)) + swarC (swarB (swarA x)) / 256) 65536 (by omega)
 have t3 := s64s (swarC (swarB (swarA x)) + swarC (swarB (swarA x)) / 256 + (swarC (swarB (swarA x)) + swarC (swarB (swarA x)) / 256) / 65536) 4294967296 (by omega)
 rw [show ((256 : Nat) : Int) = 256 from rfl] at t1
 rw [show ((65536 : Nat) : Int) = 65536 from rfl] at t2
 rw [show ((4294967296 : Nat) : Int) = 4294967296 from rfl] at t3
 rw [s64A x hx, s64B _ hA hB, s64C _ hS, t1, t2, t3]
 generalize swarC (swarB (swarA x)) + swarC (swarB (swarA x)) / 256 + (swarC (swarB (swarA x)) + swarC (swarB (swarA x)) / 256) / 65536 + (swarC (swarB (swarA x)) + swarC (swarB (swarA x)) / 256 + (swarC (swarB (swarA x)) + swarC (swarB (swarA x)) / 256) / 65536) / 4294967296 = e at k3 k4
 have hw : wrap64 (e : Int) = e := by unfold wrap64; omega
 rw [hw, i64_low, k4]
theorem b_Ones (x : Nat) (w : World) (hx : x < 18446744073709551616) : Calls Tryz.prog 216 #[.int .u64 x] w fun e w' => e = .returned (.int .i64 (popN 64 x : Nat)) /\ w = w' := by
 have HX := zH hx
 clear hx
 go_enter Tryz.func216, Tryz.ntmps216
 go_wp2_with fail
 refine (b_Ones64 x _ HX.out).mono ?_
 rintro e w' ⟨rfl, rfl⟩
 go_wp2_with fail
 go_ret
 exact ⟨rfl, rfl⟩
theorem i_ones (x : Int) (w : World) : Calls Tryz.prog 212 #[.int .i64 x] w fun e w' => e = .returned (.int .i64 (onesI x)) /\ w = w' := by
 obtain ⟨n, hn, hw⟩ : ∃ n : Nat, n < 18446744073709551616 /\ IntKind.u64.wrap x = n /\ popN 64 n = popN 64 (x % 18446744073709551616).toNat := by
  refine ⟨(x % 18446744073709551616).toNat, by omega, ?_, rfl⟩
  have : IntKind.u64.wrap x = x % 18446744073709551616 := by rfl
  rw [this]; omega
 obtain ⟨hw, he⟩ := hw
 have HN := zH hn
 have HE := zH he
 clear hn he
 go_enter Tryz.func212, Tryz.ntmps212
 go_wp2_with fail
 refine (b_Ones n _ HN.out).mono ?_
 rintro e w' ⟨rfl, rfl⟩
 go_wp2_with fail
 go_ret
 exact ⟨ret_int (by rw [HE.out]; rfl), rfl⟩
theorem and_one (a : Int) : bits .and .i64 a 1 = a % 2 := by
 have h : bits .and .i64 a 1 = IntKind.i64.wrap (((BitVec.ofInt 64 a &&& BitVec.ofInt 64 (1 : Int)).toNat : Nat) : Int) := rfl
 have h2 : (BitVec.ofInt 64 (1 : Int)).toNat = 1 := by decide
 have h3 : (BitVec.ofInt 64 a &&& BitVec.ofInt 64 (1 : Int)).toNat = (BitVec.ofInt 64 a).toNat % 2 := by
  rw [BitVec.toNat_and, h2, Nat.and_one_is_mod]
 have h4 : (BitVec.ofInt 64 a).toNat = (a % 18446744073709551616).toNat := by
  rw [BitVec.toNat_ofInt]; rfl
 rw [h, IntKind.wrap_i64, h3, h4]
 omega
theorem shr_bit (x : Int) (k f : Nat) : ((popN (f + 1) ((x % 18446744073709551616).toNat / 2 ^ k) : Nat) : Int) = ((x % 18446744073709551616).toNat / 2 ^ k % 2 : Nat) + (popN f ((x % 18446744073709551616).toNat / 2 ^ (k + 1)) : Nat) := by
 rw [popN_bit]; omega
theorem bit_of (x : Int) (k : Nat) (hk : k < 64) : (x / 2 ^ k) % 2 = (((x % 18446744073709551616).toNat / 2 ^ k % 2 : Nat) : Int) := by
 obtain ⟨r, q, hr, h1⟩ : ∃ (r : Nat) (q : Int), (x % 18446744073709551616).toNat = r /\ x = r + 18446744073709551616 * q := ⟨_, x / 18446744073709551616, rfl, by omega⟩
 rw [hr]
 have h2 : (18446744073709551616 : Int) = 2 * 2 ^ (63 - k) * 2 ^ k := by
  rw [Int.mul_assoc, <- Int.pow_add, show 63 - k + k = 63 by omega]; rfl
 have h3 : x = r + (2 * (2 ^ (63 - k) * q)) * 2 ^ k := by
  rw [h1, h2]
  congr 1
  rw [Int.mul_assoc, Int.mul_assoc, Int.mul_assoc, Int.mul_comm (2 ^ k) q]
  rw [Int.mul_assoc]
 rw [h3, Int.add_mul_ediv_right _ _ (Int.pow_ne_zero (by omega)), Int.natCast_emod, Int.natCast_ediv, Int.natCast_pow]
 have h4 : ((2 : Nat) : Int) = 2 := rfl
 rw [h4]
 omega
def cntTo (x : Int) : Nat -> Int
 |0 => 0
 |k + 1 => cntTo x k + (x / 2 ^ k) % 2
theorem cntTo_pop (x : Int) : ∀ k : Nat, k <= 64 -> cntTo x k + (popN (64 - k) ((x % 18446744073709551616).toNat / 2 ^ k) : Nat) = onesI x
 |0, _ => by simp [cntTo, onesI]
 |k + 1, h => by
  have ih := cntTo_pop x k (by omega)
  obtain ⟨f, hf⟩ : ∃ f, 64 - k = f + 1 := ⟨63 - k, by omega⟩
  rw [hf, shr_bit, <- bit_of x k (by omega)] at ih
  rw [show 64 - (k + 1) = f by omega, cntTo]
  omega
theorem cntTo_bd (x : Int) : ∀ k : Nat, 0 <= cntTo x k /\ cntTo x k <= k
 |0 => by simp [cntTo]
 |k + 1 => by
  have := cntTo_bd x k
  rw [cntTo]
  omega
theorem s_ones (x : Int) (w : World) : Calls Tryz.prog 211 #[.int .i64 x] w fun e w' => e = .returned (.int .i64 (onesI x)) /\ w = w' := by
 go_enter Tryz.func211, Tryz.ntmps211
 go_wp2_with fail
 go_loop [3, 4] (fun n i => ∃ k : Nat, k <= 64 /\ i = .int .i64 k /\ n = .int .i64 (cntTo x k)) (fun _ i => 64 - (intOf i).toNat)
 case atStart => exact ⟨0, by omega, rfl, rfl⟩
 case round =>
  obtain ⟨k, hk, rfl, rfl⟩ := hrel
  have hb := cntTo_bd x k
  by_cases hlt : k < 64
  ·have h1 := and_one (x / 2 ^ k)
   have h2 : 0 <= (x / 2 ^ k) % 2 /\ (x / 2 ^ k) % 2 <= 1 := by omega
   have HC : Hid (cntTo x (k + 1) = cntTo x k + (x / 2 ^ k) % 2) := zH rfl
   generalize (x / 2 ^ k) % 2 = z at h1 h2 HC
   go_wp2_with fail
   go_round
   case rel => exact ⟨k + 1, by omega, by go_num, by rw [HC.out]⟩
   case measure => simp [intOf]; omega
  ·obtain rfl : k = 64 := by omega
   have HC : Hid (cntTo x 64 = onesI x) := zH (by have := cntTo_pop x 64 (by omega); simpa [popN] using this)
   go_wp2_with fail
   go_ret
   exact ⟨ret_int HC.out, rfl⟩
open Go.RowKit
set_option linter.unusedVariables false
def chkBt : Bool := (List.range 16).all fun a => (List.range 16).all fun b => decide (bits .and .i64 (a : Int) (b : Int) = ((a &&& b : Nat) : Int)) && (decide (bits .xor .i64 (a : Int) (b : Int) = ((a ^^^ b : Nat) : Int)) && (decide (bits .or .i64 (a : Int) (b : Int) = ((a ||| b : Nat) : Int)) && decide (a &&& b < 16)))
theorem chkBt_t : chkBt = true := by decide +kernel
theorem bt16 {a b : Nat} (ha : a < 16) (hb : b < 16) : bits .and .i64 (a : Int) (b : Int) = ((a &&& b : Nat) : Int) /\ bits .xor .i64 (a : Int) (b : Int) = ((a ^^^ b : Nat) : Int) /\ bits .or .i64 (a : Int) (b : Int) = ((a ||| b : Nat) : Int) /\ a &&& b < 16 := by
 have := List.all_eq_true.1 (List.all_eq_true.1 chkBt_t a (List.mem_range.2 ha)) b (List.mem_range.2 hb)
 simp only [Bool.and_eq_true, decide_eq_true_eq] at this
 exact ⟨this.1, this.2.1, this.2.2.1, this.2.2.2⟩
def chkOn : Bool := (List.range 16).all fun k => decide (onesI (k : Int) = ((popQ k : Nat) : Int)) && ((List.range 4).all fun q => (bits .and .i64 ((k : Int) / 2 ^ q) 1 == 1) == bitB k q)
theorem chkOn_t : chkOn = true := by decide +kernel
theorem ones16 {k : Nat} (h : k < 16) : onesI (k : Int) = ((popQ k : Nat) : Int) := by
 have := List.all_eq_true.1 chkOn_t k (List.mem_range.2 h)
 simp only [Bool.and_eq_true, decide_eq_true_eq] at this
 exact this.1
theorem bitT {k q : Nat} (h : k < 16) (hq : q < 4) : (bits .and .i64 ((k : Int) / 2 ^ q) 1 == 1) = bitB k q := by
 have := List.all_eq_true.1 chkOn_t k (List.mem_range.2 h)
 simp only [Bool.and_eq_true, decide_eq_true_eq] at this
 exact eq_of_beq (List.all_eq_true.1 this.2 q (List.mem_range.2 hq))
theorem popQ_bd (k : Nat) : popQ k <= 4 := by unfold popQ; omega
theorem okQ16 {n : Nat} {a : Pq} (hn : n <= 4) (h : okQn n a = true) : a.x < 16 /\ a.z < 16 /\ a.p < 4 := by
 obtain ⟨h1, h2, h3⟩ := okQn_iff.1 h
 have : 2 ^ n <= 2 ^ 4 := Nat.pow_le_pow_right (by omega) hn
 exact ⟨by omega, by omega, h3⟩
def QB (w : World) (g n : Nat) (a : Pq) (wx : World) : Prop := Bx wx g 151 #[.int .i64 (n : Nat), .int .i64 (a.x : Nat), .int .i64 (a.z : Nat), .int .i64 (a.p : Nat)] /\ Below w.heap.size w wx /\ w.heap.size <= g
section
variable {w wx w' : World} {g n : Nat} {a : Pq}
theorem QB.below (h : QB w g n a wx) (hb : Below wx.heap.size wx w') : QB w g n a w' := ⟨h.1.below hb, below_trans h.2.1 hb, h.2.2⟩
theorem QB.alloc (h : QB w g n a wx) (o : Obj) : QB w g n a (wx.alloc o) := h.below ((zW).alloc zR _)
theorem QB.drew (h : QB w g n a wx) : QB w g n a wx.drew := h.below (zW).drew
end
abbrev S4 (wx : World) (r : Nat) (u0 u1 u2 u3 : Value) : World := (((wx.setCell ⟨r, 0, none⟩ u0).setCell ⟨r, 1, none⟩ u1).setCell ⟨r, 2, none⟩ u2).setCell ⟨r, 3, none⟩ u3
theorem Bx.far4 {wx : World} {g r t : Nat} {cs : Array Value} (h : Bx wx g t cs) (hr : g ≠ r) (u0 u1 u2 u3 : Value) : Bx (S4 wx r u0 u1 u2 u3) g t cs := (((h.far hr u0).far hr u1).far hr u2).far hr u3
theorem Bx.set4 {wx : World} {g t : Nat} {v0 v1 v2 v3 : Value} (h : Bx wx g t #[v0, v1, v2, v3]) (u0 u1 u2 u3 : Value) : Bx (S4 wx g u0 u1 u2 u3) g t #[u0, u1, u2, u3] := by
 have h0 : Bx (wx.setCell ⟨g, 0, none⟩ u0) g t #[u0, v1, v2, v3] := by simpa using h.set_ 0 u0
 have h1 : Bx ((wx.setCell ⟨g, 0, none⟩ u0).setCell ⟨g, 1, none⟩ u1) g t #[u0, u1, v2, v3] := by simpa using h0.set_ 1 u1
 have h2 : Bx (((wx.setCell ⟨g, 0, none⟩ u0).setCell ⟨g, 1, none⟩ u1).setCell ⟨g, 2, none⟩ u2) g t #[u0, u1, u2, v3] := by simpa using h1.set_ 2 u2
 simpa using h2.set_ 3 u3
theorem belowS4 {w wx : World} {r B : Nat} (h : Below B w wx) (hr : B <= r) (u0 u1 u2 u3 : Value) : Below B w (S4 wx r u0 u1 u2 u3) := (((h.setCell hr _).setCell hr _).setCell hr _).setCell hr _
theorem QB.set4 {w wx : World} {g n r : Nat} {a : Pq} (h : QB w g n a wx) (hr : g ≠ r) (hw : w.heap.size <= r) (u0 u1 u2 u3 : Value) : QB w g n a (S4 wx r u0 u1 u2 u3) := ⟨h.1.far4 hr _ _ _ _, belowS4 h.2.1 hw _ _ _ _, h.2.2⟩
theorem QB.cells {w wx : World} {g n : Nat} {a : Pq} (h : QB w g n a wx) : wx.cell? ⟨g, 0, none⟩ = some (.int .i64 (n : Nat)) /\ wx.cell? ⟨g, 1, none⟩ = some (.int .i64 (a.x : Nat)) /\ wx.cell? ⟨g, 2, none⟩ = some (.int .i64 (a.z : Nat)) /\ wx.cell? ⟨g, 3, none⟩ = some (.int .i64 (a.p : Nat)) := ⟨h.1.cell 0, h.1.cell 1, h.1.cell 2, h.1.cell 3⟩
theorem shl_raw4 : ∀ n : Fin 5, IntKind.i64.wrap (2 ^ min (IntKind.u64.wrap ((n : Nat) : Int)).toNat 64) = wrap64 (2 ^ (n : Nat)) /\ wrap64 (wrap64 (2 ^ (n : Nat)) - 1) = 2 ^ (n : Nat) - 1 /\ IntKind.i64.wrap (IntKind.i64.wrap (2 ^ (n : Nat)) - 1) = 2 ^ (n : Nat) - 1 := by decide +kernel
theorem top4 {n : Nat} (hn : n <= 4) {k : Nat} (h : k < 2 ^ n) : inB (k : Int) 0 (2 ^ n - 1) = true := by
 have : ((2 ^ n : Nat) : Int) = 2 ^ n := by simp
 exact inB_t (by omega) (by omega)
set_option maxRecDepth 100000 in
theorem s_IsPau (n : Nat) (a : Pq) (w : World) (hn : 1 <= n /\ n <= 4) (h : okQn n a = true) : Calls Tryz.prog 184 #[.agg #[.int .i64 (n : Nat), .int .i64 (a.x : Nat), .int .i64 (a.z : Nat), .int .i64 (a.p : Nat)]] w fun e w' => e = .returned (.bool true) /\ Below w.heap.size w w' := by
 obtain ⟨hx, hz, hp⟩ := okQn_iff.1 h
 have X0 := zH (Bx.new w 151 #[.int .i64 (n : Nat), .int .i64 (a.x : Nat), .int .i64 (a.z : Nat), .int .i64 (a.p : Nat)])
 have S1 := (shl_raw4 ⟨n, by omega⟩).1
 have S2 := (shl_raw4 ⟨n, by omega⟩).2.1
 have S3 := (shl_raw4 ⟨n, by omega⟩).2.2
 have I1 : inB (n : Int) 1 4 = true := inB_t (by omega) (by omega)
 have I2 := top4 hn.2 hx
 have I3 := top4 hn.2 hz
 have I4 : inB (a.p : Int) 0 3 = true := inB_t (by omega) (by omega)
 clear h hx hz
 obtain ⟨p0, p1, p2, p3, _⟩ := X0.out.four
 go_enter Tryz.func184, Tryz.ntmps184
 go_wp2_with fail
 refine (s_in _ _ _ _).mono ?_
 rintro e w1 ⟨rfl, rfl⟩
 rw [I1]
 go_wp2_with fail
 refine (s_in _ _ _ _).mono ?_
 rintro e w1 ⟨rfl, rfl⟩
 rw [I2]
 go_wp2_with fail
 refine (s_in _ _ _ _).mono ?_
 rintro e w1 ⟨rfl, rfl⟩
 rw [I3]
 go_wp2_with fail
 refine (s_in _ _ _ _).mono ?_
 rintro e w1 ⟨rfl, rfl⟩
 rw [I4]
 go_wp2_with fail
 go_ret
 exact ⟨rfl, (zW).alloc zR _⟩
set_option maxRecDepth 100000 in
theorem i_IsPau (n : Nat) (a : Pq) (w : World) (hn : 1 <= n /\ n <= 4) (h : okQn n a = true) : Calls Tryz.prog 193 #[.agg #[.int .i64 (n : Nat), .int .i64 (a.x : Nat), .int .i64 (a.z : Nat), .int .i64 (a.p : Nat)]] w fun e w' => e = .returned (.bool true) /\ Below w.heap.size w w' := by
 obtain ⟨hx, hz, hp⟩ := okQn_iff.1 h
 have X0 := zH (Bx.new w 151 #[.int .i64 (n : Nat), .int .i64 (a.x : Nat), .int .i64 (a.z : Nat), .int .i64 (a.p : Nat)])
 have S1 := (shl_raw4 ⟨n, by omega⟩).1
 have S2 := (shl_raw4 ⟨n, by omega⟩).2.1
 have S3 := (shl_raw4 ⟨n, by omega⟩).2.2
 have I1 : inB (n : Int) 1 4 = true := inB_t (by omega) (by omega)
 have I2 := top4 hn.2 hx
 have I3 := top4 hn.2 hz
 have I4 : inB (a.p : Int) 0 3 = true := inB_t (by omega) (by omega)
 clear h hx hz
 obtain ⟨p0, p1, p2, p3, _⟩ := X0.out.four
 go_enter Tryz.func193, Tryz.ntmps193
 go_wp2_with fail
 have BB := zH (show Below w.heap.size w (w.alloc (.cells #[.int .i64 (n : Nat), .int .i64 (a.x : Nat), .int .i64 (a.z : Nat), .int .i64 (a.p : Nat)] 151)) from (zW).alloc zR _)
 go_region_held3 (fun w' => w'.cell? ⟨w.heap.size, 0, none⟩ = some (.int .i64 (n : Nat)) /\ w'.cell? ⟨w.heap.size, 1, none⟩ = some (.int .i64 (a.x : Nat)) /\ w'.cell? ⟨w.heap.size, 2, none⟩ = some (.int .i64 (a.z : Nat)) /\ w'.cell? ⟨w.heap.size, 3, none⟩ = some (.int .i64 (a.p : Nat)))
  (first | exact ⟨p0, p1, p2, p3⟩ | go_keep)
  (first
   |(go_at_call 70; refine (i_in _ _ _ _).mono ?_; rintro e w3 ⟨rfl, rfl⟩; first | rw [I1] | rw [I2] | rw [I3] | rw [I4])
   |fail)
 go_wp2_with fail
 go_ret
 exact ⟨rfl, below_drewN BB.out _⟩
open Go.RowKit
theorem RdG.first {w : World} {A : Option Addr} {n : Nat} {gs : List Gt} (h : RdG w A n gs) (hn : 0 < n) : ∃ b off, A = some ⟨b, off, none⟩ := by
 obtain ⟨b, off, e, _⟩ := h.2.2 hn
 exact ⟨b, off, e⟩
theorem RdG.cellsAt {w : World} {b off n k : Nat} {gs r : List Gt} {g : Gt} (h : RdG w (some ⟨b, off, none⟩) n gs) (hd : gs.drop k = g :: r) :
  b < w.heap.size /\ w.cell? ⟨b, off + k * 4, none⟩ = some (.int .i64 g.k) /\ w.cell? ⟨b, off + k * 4 + 1, none⟩ = some (.int .i64 g.a) /\ w.cell? ⟨b, off + k * 4 + 2, none⟩ = some (.int .i64 g.b) /\ w.cell? ⟨b, off + k * 4 + 3, none⟩ = some (.int .i64 g.c) := by
 have hk : k < n := by
  rcases Nat.lt_or_ge k gs.length with h1 | h1
  ·have := h.1; omega
  ·rw [List.drop_eq_nil_of_le h1] at hd; cases hd
 obtain ⟨b', off', g', e, hb, hd', c⟩ := h.at_ hk
 injection e with e
 injection e with e1 e2
 subst e1 e2
 rw [hd] at hd'
 injection hd' with e3 _
 subst e3
 exact ⟨hb, c⟩
theorem RdG.mid {w : World} {A : Option Addr} {n : Nat} {gs : List Gt} (h : RdG w A n gs) {lo hi cap : Nat} (h1 : lo <= hi) (h2 : hi <= n) (hc : n <= cap) : RdG w (if cap = lo then A else A.map (·.add (lo * 4))) (hi - lo) ((gs.drop lo).take (hi - lo)) :=
 (h.cut (k := lo) (by omega) hc).pre (by omega)
theorem sl_lh (A : Option Addr) (n c lo hi : Nat) (h1 : lo <= hi) (h2 : hi <= c) (w : World) :
  (Instr.slice 24 (.slice A n c) (some (.int .i64 (lo : Int))) (some (.int .i64 (hi : Int))) none).run Tryz.prog w = .ok (.slice (if c = lo then A else A.map (·.add (lo * 4))) (hi - lo) (c - lo)) w := by
 have hz : (sizeOf (Tryz.prog.elem 24)).run Tryz.prog w = .ok 4 w := by kernel_rfl
 rw [run_slice_lh w 24 A n c (by kernel_rfl) .i64 .i64 lo hi (by omega) (by omega) (by omega), hz]
 simp only [Result.andThen, sliced, Int.toNat_natCast]
theorem sl_l (A : Option Addr) (n c lo : Nat) (h1 : lo <= n) (w : World) :
  (Instr.slice 24 (.slice A n c) (some (.int .i64 (lo : Int))) none none).run Tryz.prog w = .ok (.slice (if c = lo then A else A.map (·.add (lo * 4))) (n - lo) (c - lo)) w := by
 have hz : (sizeOf (Tryz.prog.elem 24)).run Tryz.prog w = .ok 4 w := by kernel_rfl
 rw [run_slice_l w 24 A n c (by kernel_rfl) .i64 lo (by omega) (by omega), hz]
 simp only [Result.andThen, sliced, Int.toNat_natCast]
theorem sl_h (A : Option Addr) (n c hi : Nat) (h2 : hi <= c) (w : World) :
  (Instr.slice 24 (.slice A n c) none (some (.int .i64 (hi : Int))) none).run Tryz.prog w = .ok (.slice A hi c) w := by
 have hz : (sizeOf (Tryz.prog.elem 24)).run Tryz.prog w = .ok 4 w := by kernel_rfl
 rw [run_slice_h w 24 A n c (by kernel_rfl) .i64 hi (by omega) (by omega), hz]
 simp only [Result.andThen, sliced, Int.toNat_natCast]
 cases A <;> simp [Addr.add]
section
variable {P : Program} {w : World}
theorem step_app0 {ops : Array Oper} {o : Oper} {a : Act} {K : Act -> World -> Prop} {Q : Exit -> Act -> World -> Prop} {E : Prop} (hgd : o.guard = none) (s x : Operand) (t : TypeId)
  (ho : o.op = .call { callee := .builtin .append, args := #[s, x], argTypes := #[t, t] })
  {base e : Nat} {z : Value} {size bytes : Nat} (ht : P.underlying t = some (.slice e)) (hinfo : (P.info? e).map (fun i => (i.zero, i.size, i.bytes)) = some (some z, size, bytes))
  (hzs : z.cells.size = size) (hsz : 0 < size) {A : Option Addr} {c : Nat} (hs : a.eval s = .slice A 0 c) (hown : w.ownsRow base e size (.slice A 0 c) 0 [])
  {A' : Option Addr} {m c' : Nat} {news : List Value} (hx : a.eval x = .slice A' m c') (hr : Rd w size A' m news) (h1 : ∀ u ∈ news, u.oneCell' = true)
  (hbytes : m * bytes <= 140737488355328) (hby : 0 < bytes) (hbase : base <= w.heap.size)
  (h : ∀ A'' c'' w', w'.ownsRow base e size (.slice A'' m c'') m news -> w.grownBy w' (Value.slice A 0 c).ownBlock -> K (a.put o.dst (.slice A'' m c'')) w') :
  if Region.wanted o (yielded ops a.tmps) = true then Oper.wp P o a w K Q else E := by
 have hw : Region.wanted o (yielded ops a.tmps) = true := by simp [Region.wanted, hgd]
 rw [if_pos hw]
 refine wp_app s x t ho ht hinfo hzs hsz hs hown hx hr h1 (by simpa using hbytes) hby hbase ?_
 intro A'' c'' w' h1 h2
 rw [Nat.zero_add] at h1 ⊢
 rw [List.nil_append] at h1
 exact h A'' c'' w' h1 h2
theorem wpList_app0 {ops : Array Oper} {rest : List Oper} {o : Oper} {a : Act} {Q : Exit -> Act -> World -> Prop} (hgd : o.guard = none) (s x : Operand) (t : TypeId)
  (ho : o.op = .call { callee := .builtin .append, args := #[s, x], argTypes := #[t, t] })
  {base e : Nat} {z : Value} {size bytes : Nat} (ht : P.underlying t = some (.slice e)) (hinfo : (P.info? e).map (fun i => (i.zero, i.size, i.bytes)) = some (some z, size, bytes))
  (hzs : z.cells.size = size) (hsz : 0 < size) {A : Option Addr} {c : Nat} (hs : a.eval s = .slice A 0 c) (hown : w.ownsRow base e size (.slice A 0 c) 0 [])
  {A' : Option Addr} {m c' : Nat} {news : List Value} (hx : a.eval x = .slice A' m c') (hr : Rd w size A' m news) (h1 : ∀ u ∈ news, u.oneCell' = true)
  (hbytes : m * bytes <= 140737488355328) (hby : 0 < bytes) (hbase : base <= w.heap.size)
  (h : ∀ A'' c'' w', w'.ownsRow base e size (.slice A'' m c'') m news -> w.grownBy w' (Value.slice A 0 c).ownBlock -> wpList P ops Q rest (a.put o.dst (.slice A'' m c'')) w') : wpList P ops Q (o :: rest) a w :=
 wpList_app hgd s x t ho ht hinfo hzs hsz hs hown hx hr h1 (by simpa using hbytes) hby hbase fun A'' c'' w' h1 h2 => by
  rw [Nat.zero_add] at h1 ⊢
  rw [List.nil_append] at h1
  exact h A'' c'' w' h1 h2
end
open Go.RowKit
set_option linter.unusedVariables false
theorem infoPauli : (Tryz.prog.info? 151).map (fun i => (i.zero, i.size, i.bytes)) = some (some (.agg #[.int .i64 0, .int .i64 0, .int .i64 0, .int .i64 0]), 4, 32) := by kernel_rfl
def pg (n : Nat) (a : Pq) : Gt := ⟨n, a.x, a.z, a.p⟩
def pgs (n : Nat) (r : List Pq) : List Gt := r.map (pg n)
theorem pgs_len (n : Nat) (r : List Pq) : (pgs n r).length = r.length := by unfold pgs; simp
theorem pgs_app (n : Nat) (r s : List Pq) : pgs n (r ++ s) = pgs n r ++ pgs n s := by unfold pgs; simp
theorem pgs_drop {n k : Nat} {r : List Pq} {a : Pq} (h : r[k]? = some a) : (pgs n r).drop k = pg n a :: (pgs n r).drop (k + 1) := by
 obtain ⟨hk, e⟩ := List.getElem?_eq_some_iff.1 h
 rw [drop_cons (l := pgs n r) (by rw [pgs_len]; exact hk)]
 unfold pgs
 rw [List.getElem_map, e]
def TBx (w : World) (g n : Nat) (A : Option Addr) (m c : Nat) (r : List Pq) (wx : World) : Prop :=
 Bx wx g 73 #[.int .i64 (n : Nat), .slice A m c] /\ RdG wx A m (pgs n r) /\ Below w.heap.size w wx /\ w.heap.size <= g
section
variable {w wx w' : World} {g n m c : Nat} {A : Option Addr} {r : List Pq}
theorem TBx.below (h : TBx w g n A m c r wx) (hb : Below wx.heap.size wx w') : TBx w g n A m c r w' := ⟨h.1.below hb, h.2.1.below hb, below_trans h.2.2.1 hb, h.2.2.2⟩
theorem TBx.alloc (h : TBx w g n A m c r wx) (o : Obj) : TBx w g n A m c r (wx.alloc o) := h.below ((zW).alloc zR _)
theorem TBx.drew (h : TBx w g n A m c r wx) : TBx w g n A m c r wx.drew := h.below (zW).drew
theorem TBx.cells (h : TBx w g n A m c r wx) : (wx.cell? ⟨g, 0, none⟩ = some (.int .i64 ((n : Nat) : Int)) /\ wx.cell? ⟨g, 1, none⟩ = some (.slice (A) m c)) := ⟨h.1.cell 0, h.1.cell 1⟩
theorem TBx.row {b off k : Nat} {a : Pq} (h : TBx w g n (some ⟨b, off, none⟩) m c r wx) (ha : r[k]? = some a) : b < wx.heap.size /\ (wx.cell? ⟨b, off + k * 4, none⟩ = some (.int .i64 ((n : Nat) : Int)) /\ wx.cell? ⟨b, off + k * 4 + 1, none⟩ = some (.int .i64 ((a.x : Nat) : Int)) /\ wx.cell? ⟨b, off + k * 4 + 2, none⟩ = some (.int .i64 ((a.z : Nat) : Int)) /\ wx.cell? ⟨b, off + k * 4 + 3, none⟩ = some (.int .i64 ((a.p : Nat) : Int))) := h.2.1.cellsAt (pgs_drop ha)
end
theorem Bx.four4 {wx : World} {g t : Nat} {x y z v : Value} (h : Bx wx g t #[x, y, z, v]) : wx.cell? ⟨g, 0, none⟩ = some x /\ wx.cell? ⟨g, 1, none⟩ = some y /\ wx.cell? ⟨g, 2, none⟩ = some z /\ wx.cell? ⟨g, 3, none⟩ = some v := ⟨h.cell 0, h.cell 1, h.cell 2, h.cell 3⟩
theorem get_lt {α : Type} {l : List α} {k : Nat} (h : k < l.length) : ∃ a, l[k]? = some a := ⟨l[k], List.getElem?_eq_getElem h⟩
theorem sl_hP (A : Option Addr) (n c hi : Nat) (h2 : hi <= c) (w : World) :
  (Instr.slice 71 (.slice A n c) none (some (.int .i64 (hi : Int))) none).run Tryz.prog w = .ok (.slice A hi c) w := by
 have hz : (sizeOf (Tryz.prog.elem 71)).run Tryz.prog w = .ok 4 w := by kernel_rfl
 rw [run_slice_h w 71 A n c (by kernel_rfl) .i64 hi (by omega) (by omega), hz]
 simp only [Result.andThen, sliced, Int.toNat_natCast]
 cases A <;> simp [Addr.add]
open Go.RowKit
set_option linter.unusedVariables false
theorem i64T {x : Int} (h0 : 0 <= x) (h1 : x < 1000) : IntKind.i64.wrap x = x := by rw [IntKind.wrap_i64]; omega
theorem ret_S4 {P : Program} {fn : Func} {R : Ending -> World -> Prop} {a : Act} {wy : World} {r t : Nat} {v0 v1 v2 v3 u0 u1 u2 u3 v : Value} (hB : Bx wy r t #[v0, v1, v2, v3])
  (hr : ∀ wS : World, wS.cell? ⟨r, 0, none⟩ = some u0 -> wS.cell? ⟨r, 1, none⟩ = some u1 -> wS.cell? ⟨r, 2, none⟩ = some u2 -> wS.cell? ⟨r, 3, none⟩ = some u3 -> (results fn a.tmps).run P wS = .ok v wS)
  (hd : a.defers = []) (hR : R (.returned v) (S4 wy r u0 u1 u2 u3)) : bodyPost P fn R .ret a (S4 wy r u0 u1 u2 u3) := by
 obtain ⟨z0, z1, z2, z3, _⟩ := (hB.set4 u0 u1 u2 u3).four
 exact bodyPost_ret (hr _ z0 z1 z2 z3) hd hR
theorem ret_S4d {P : Program} {fn : Func} {R : Ending -> World -> Prop} {a : Act} {wy : World} {r t : Nat} {v0 v1 v2 v3 u0 u1 u2 u3 v : Value} (hB : Bx wy r t #[v0, v1, v2, v3])
  (hr : ∀ wS : World, wS.cell? ⟨r, 0, none⟩ = some u0 -> wS.cell? ⟨r, 1, none⟩ = some u1 -> wS.cell? ⟨r, 2, none⟩ = some u2 -> wS.cell? ⟨r, 3, none⟩ = some u3 -> (results fn a.tmps).run P wS = .ok v wS)
  (hd : a.defers = []) (hR : R (.returned v) (S4 wy r u0 u1 u2 u3).drew) : bodyPost P fn R .ret a (S4 wy r u0 u1 u2 u3).drew := by
 obtain ⟨z0, z1, z2, z3, _⟩ := (hB.set4 u0 u1 u2 u3).drew.four
 exact bodyPost_ret (hr _ z0 z1 z2 z3) hd hR
theorem par2 (u : Nat) : (((u : Nat) : Int) % 2 == 0) = (u % 2 == 0) := by
 rcases Nat.mod_two_eq_zero_or_one u with h | h
 ·rw [h, show ((u : Int) % 2) = 0 by omega]; rfl
 ·rw [h, show ((u : Int) % 2) = 1 by omega]; rfl
theorem par3 (u v : Nat) : (((u : Nat) : Int) % 2 == ((v : Nat) : Int) % 2) = ((u + v) % 2 == 0) := by
 rcases Nat.mod_two_eq_zero_or_one u with h | h <;> rcases Nat.mod_two_eq_zero_or_one v with h2 | h2
 ·rw [show ((u : Int) % 2) = 0 by omega, show ((v : Int) % 2) = 0 by omega, show (u + v) % 2 = 0 by omega]; rfl
 ·rw [show ((u : Int) % 2) = 0 by omega, show ((v : Int) % 2) = 1 by omega, show (u + v) % 2 = 1 by omega]; rfl
 ·rw [show ((u : Int) % 2) = 1 by omega, show ((v : Int) % 2) = 0 by omega, show (u + v) % 2 = 1 by omega]; rfl
 ·rw [show ((u : Int) % 2) = 1 by omega, show ((v : Int) % 2) = 1 by omega, show (u + v) % 2 = 0 by omega]; rfl
set_option maxRecDepth 100000 in
theorem s_ComPau (n : Nat) (a b : Pq) (w : World) (hn : 1 <= n /\ n <= 4) (ha : okQn n a = true) (hb : okQn n b = true) : Calls Tryz.prog 183 #[.agg #[.int .i64 (n : Nat), .int .i64 (a.x : Nat), .int .i64 (a.z : Nat), .int .i64 (a.p : Nat)], .agg #[.int .i64 (n : Nat), .int .i64 (b.x : Nat), .int .i64 (b.z : Nat), .int .i64 (b.p : Nat)]] w fun e w' => e = .returned (.bool (comQ a b)) /\ Below w.heap.size w w' := by
 obtain ⟨a1, a2, a3⟩ := okQ16 hn.2 ha
 obtain ⟨b1, b2, b3⟩ := okQ16 hn.2 hb
 obtain ⟨m, hm⟩ : ∃ m, popQ (a.x &&& b.z) = m := ⟨_, rfl⟩
 obtain ⟨k, hk⟩ : ∃ m, popQ (a.z &&& b.x) = m := ⟨_, rfl⟩
 have hm4 : m <= 4 := by rw [<- hm]; exact popQ_bd _
 have hk4 : k <= 4 := by rw [<- hk]; exact popQ_bd _
 have e1 : onesI (bits .and .i64 (a.x : Int) (b.z : Int)) = (m : Nat) := by rw [(bt16 a1 b2).1, ones16 (bt16 a1 b2).2.2.2, hm]
 have e2 : onesI (bits .and .i64 (a.z : Int) (b.x : Int)) = (k : Nat) := by rw [(bt16 a2 b1).1, ones16 (bt16 a2 b1).2.2.2, hk]
 have HC := zH (show comQ a b = ((m + k) % 2 == 0) by unfold comQ; rw [hm, hk])
 have X0 := zH (show QB w w.heap.size n a ((w.alloc (.cells #[.int .i64 (n : Nat), .int .i64 (a.x : Nat), .int .i64 (a.z : Nat), .int .i64 (a.p : Nat)] 151)).alloc (.cells #[.int .i64 (n : Nat), .int .i64 (b.x : Nat), .int .i64 (b.z : Nat), .int .i64 (b.p : Nat)] 151)) from ⟨(Bx.new w _ _).alloc _, ((zW).alloc zR _).alloc (by simp) _, zR⟩)
 have Y0 := zH (show QB w (w.heap.size + 1) n b ((w.alloc (.cells #[.int .i64 (n : Nat), .int .i64 (a.x : Nat), .int .i64 (a.z : Nat), .int .i64 (a.p : Nat)] 151)).alloc (.cells #[.int .i64 (n : Nat), .int .i64 (b.x : Nat), .int .i64 (b.z : Nat), .int .i64 (b.p : Nat)] 151)) from ⟨Bx.new' (by simp), X0.out.2.1, by omega⟩)
 clear ha hb hm hk a1 a2 b1 b2
 obtain ⟨p0, p1, p2, p3⟩ := X0.out.cells
 obtain ⟨q0, q1, q2, q3⟩ := Y0.out.cells
 rw [HC.out]
 go_enter Tryz.func183, Tryz.ntmps183
 go_wp2_with fail
 go_quiet ((go_at_call 211; exact quiet_left (s_ones _ _)))
 go_wp2_with fail
 go_ret
 exact ⟨ret_bool (by rw [<- Int.natCast_add, par2]), below_drewN X0.out.2.1 _⟩
set_option maxRecDepth 100000 in
theorem i_ComPau (n : Nat) (a b : Pq) (w : World) (hn : 1 <= n /\ n <= 4) (ha : okQn n a = true) (hb : okQn n b = true) : Calls Tryz.prog 192 #[.agg #[.int .i64 (n : Nat), .int .i64 (a.x : Nat), .int .i64 (a.z : Nat), .int .i64 (a.p : Nat)], .agg #[.int .i64 (n : Nat), .int .i64 (b.x : Nat), .int .i64 (b.z : Nat), .int .i64 (b.p : Nat)]] w fun e w' => e = .returned (.bool (comQ a b)) /\ Below w.heap.size w w' := by
 obtain ⟨a1, a2, a3⟩ := okQ16 hn.2 ha
 obtain ⟨b1, b2, b3⟩ := okQ16 hn.2 hb
 obtain ⟨m, hm⟩ : ∃ m, popQ (a.x &&& b.z) = m := ⟨_, rfl⟩
 obtain ⟨k, hk⟩ : ∃ m, popQ (a.z &&& b.x) = m := ⟨_, rfl⟩
 have hm4 : m <= 4 := by rw [<- hm]; exact popQ_bd _
 have hk4 : k <= 4 := by rw [<- hk]; exact popQ_bd _
 have e1 : onesI (bits .and .i64 (a.x : Int) (b.z : Int)) = (m : Nat) := by rw [(bt16 a1 b2).1, ones16 (bt16 a1 b2).2.2.2, hm]
 have e2 : onesI (bits .and .i64 (a.z : Int) (b.x : Int)) = (k : Nat) := by rw [(bt16 a2 b1).1, ones16 (bt16 a2 b1).2.2.2, hk]
 have HC := zH (show comQ a b = ((m + k) % 2 == 0) by unfold comQ; rw [hm, hk])
 have X0 := zH (show QB w w.heap.size n a ((w.alloc (.cells #[.int .i64 (n : Nat), .int .i64 (a.x : Nat), .int .i64 (a.z : Nat), .int .i64 (a.p : Nat)] 151)).alloc (.cells #[.int .i64 (n : Nat), .int .i64 (b.x : Nat), .int .i64 (b.z : Nat), .int .i64 (b.p : Nat)] 151)) from ⟨(Bx.new w _ _).alloc _, ((zW).alloc zR _).alloc (by simp) _, zR⟩)
 have Y0 := zH (show QB w (w.heap.size + 1) n b ((w.alloc (.cells #[.int .i64 (n : Nat), .int .i64 (a.x : Nat), .int .i64 (a.z : Nat), .int .i64 (a.p : Nat)] 151)).alloc (.cells #[.int .i64 (n : Nat), .int .i64 (b.x : Nat), .int .i64 (b.z : Nat), .int .i64 (b.p : Nat)] 151)) from ⟨Bx.new' (by simp), X0.out.2.1, by omega⟩)
 clear ha hb hm hk a1 a2 b1 b2
 obtain ⟨p0, p1, p2, p3⟩ := X0.out.cells
 obtain ⟨q0, q1, q2, q3⟩ := Y0.out.cells
 rw [HC.out]
 go_enter Tryz.func192, Tryz.ntmps192
 go_wp2_with fail
 go_quiet ((go_at_call 212; exact quiet_left (i_ones _ _)))
 go_wp2_with fail
 go_ret
 exact ⟨ret_bool (by rw [<- Int.natCast_add, par2]), below_drewN X0.out.2.1 _⟩
theorem shl2 : ∀ q : Fin 4, IntKind.i64.wrap (2 ^ min (IntKind.u64.wrap ((q : Nat) : Int)).toNat 64) = ((2 ^ (q : Nat) : Nat) : Int) /\ wrap64 (2 ^ (q : Nat)) = ((2 ^ (q : Nat) : Nat) : Int) /\ IntKind.i64.wrap (2 ^ (q : Nat)) = ((2 ^ (q : Nat) : Nat) : Int) := by decide +kernel
set_option maxRecDepth 100000 in
theorem s_Single (n q : Nat) (z : Bool) (c : Pq) (w : World) (hq : q < 4) (hc : (if z then zQ q else xQ q) = c) : Calls Tryz.prog 148 #[.int .i64 (n : Nat), .int .i64 (q : Nat), .bool z] w fun e w' => e = .returned (.agg #[.int .i64 (n : Nat), .int .i64 (c.x : Nat), .int .i64 (c.z : Nat), .int .i64 (c.p : Nat)]) /\ Below w.heap.size w w' := by
 obtain ⟨S1, S2, S3⟩ := shl2 ⟨q, hq⟩
 simp only at S1 S2 S3
 obtain ⟨X, hX⟩ : ∃ X : Nat, 2 ^ q = X := ⟨_, rfl⟩
 rw [hX] at S1 S2 S3
 subst hc
 cases z
 ·have hc : (if false then zQ q else xQ q) = ⟨X, 0, 0⟩ := by rw [<- hX]; rfl
  rw [hc]
  clear hc hX
  go_enter Tryz.func148, Tryz.ntmps148
  go_wp2_with fail
  exact bodyPost_ret (v := .agg #[.int .i64 (n : Nat), .int .i64 (X : Nat), .int .i64 0, .int .i64 0]) (by simp [results, Tryz.results148, go_sem]) rfl ⟨rfl, (zW).alloc zR _⟩
 ·have hc : (if true then zQ q else xQ q) = ⟨0, X, 0⟩ := by rw [<- hX]; rfl
  rw [hc]
  clear hc hX
  go_enter Tryz.func148, Tryz.ntmps148
  go_wp2_with fail
  exact bodyPost_ret (v := .agg #[.int .i64 (n : Nat), .int .i64 0, .int .i64 (X : Nat), .int .i64 0]) (by simp [results, Tryz.results148, go_sem]) rfl ⟨rfl, (zW).alloc zR _⟩
set_option maxRecDepth 100000 in
theorem s_HerPau (n : Nat) (a : Pq) (w : World) (hn : 1 <= n /\ n <= 4) (ha : okQn n a = true) : Calls Tryz.prog 182 #[.agg #[.int .i64 (n : Nat), .int .i64 (a.x : Nat), .int .i64 (a.z : Nat), .int .i64 (a.p : Nat)]] w fun e w' => e = .returned (.bool (herQ a)) /\ Below w.heap.size w w' := by
 obtain ⟨a1, a2, a3⟩ := okQ16 hn.2 ha
 obtain ⟨m, hm⟩ : ∃ m, popQ (a.x &&& a.z) = m := ⟨_, rfl⟩
 have hm4 : m <= 4 := by rw [<- hm]; exact popQ_bd _
 have e1 : onesI (bits .and .i64 (a.x : Int) (a.z : Int)) = (m : Nat) := by rw [(bt16 a1 a2).1, ones16 (bt16 a1 a2).2.2.2, hm]
 have HC := zH (show herQ a = ((a.p + m) % 2 == 0) by unfold herQ; rw [hm])
 have X0 := zH (show QB w w.heap.size n a (w.alloc (.cells #[.int .i64 (n : Nat), .int .i64 (a.x : Nat), .int .i64 (a.z : Nat), .int .i64 (a.p : Nat)] 151)) from ⟨Bx.new w _ _, (zW).alloc zR _, zR⟩)
 have HA := zH ha
 clear ha hm a1 a2
 obtain ⟨p0, p1, p2, p3⟩ := X0.out.cells
 rw [HC.out]
 go_enter Tryz.func182, Tryz.ntmps182
 go_wp2_with fail
 have XD := X0.out.drew
 clear X0
 go_region_held3 (fun w' => w'.cell? ⟨w.heap.size, 0, none⟩ = some (.int .i64 (n : Nat)) /\ w'.cell? ⟨w.heap.size, 1, none⟩ = some (.int .i64 (a.x : Nat)) /\ w'.cell? ⟨w.heap.size, 2, none⟩ = some (.int .i64 (a.z : Nat)) /\ w'.cell? ⟨w.heap.size, 3, none⟩ = some (.int .i64 (a.p : Nat)))
  (first | exact ⟨p0, p1, p2, p3⟩ | exact X1.cells | go_keep)
  (first
   |(go_at_call 184; refine (s_IsPau n a _ hn HA.out).mono ?_; rintro e w3 ⟨rfl, b1⟩; have X1 := XD.below b1)
   |(go_at_call 211; refine (s_ones _ _).mono ?_; rintro e w3 ⟨rfl, rfl⟩)
   |fail)
 go_wp2_with fail
 go_ret
 exact ⟨ret_bool (by rw [<- Int.natCast_add, i64T (by omega) (by omega), Int.tmod_eq_emod_of_nonneg (by omega), par2]), X1.2.1⟩
set_option maxRecDepth 100000 in
theorem i_HerPau (n : Nat) (a : Pq) (w : World) (hn : 1 <= n /\ n <= 4) (ha : okQn n a = true) : Calls Tryz.prog 191 #[.agg #[.int .i64 (n : Nat), .int .i64 (a.x : Nat), .int .i64 (a.z : Nat), .int .i64 (a.p : Nat)]] w fun e w' => e = .returned (.bool (herQ a)) /\ Below w.heap.size w w' := by
 obtain ⟨a1, a2, a3⟩ := okQ16 hn.2 ha
 obtain ⟨m, hm⟩ : ∃ m, popQ (a.x &&& a.z) = m := ⟨_, rfl⟩
 have hm4 : m <= 4 := by rw [<- hm]; exact popQ_bd _
 have e1 : onesI (bits .and .i64 (a.x : Int) (a.z : Int)) = (m : Nat) := by rw [(bt16 a1 a2).1, ones16 (bt16 a1 a2).2.2.2, hm]
 have HC := zH (show herQ a = ((a.p + m) % 2 == 0) by unfold herQ; rw [hm])
 have X0 := zH (show QB w w.heap.size n a (w.alloc (.cells #[.int .i64 (n : Nat), .int .i64 (a.x : Nat), .int .i64 (a.z : Nat), .int .i64 (a.p : Nat)] 151)) from ⟨Bx.new w _ _, (zW).alloc zR _, zR⟩)
 have HA := zH ha
 clear ha hm a1 a2
 obtain ⟨p0, p1, p2, p3⟩ := X0.out.cells
 rw [HC.out]
 go_enter Tryz.func191, Tryz.ntmps191
 go_wp2_with fail
 have XD := X0.out.drew
 clear X0
 go_region_held3 (fun w' => w'.cell? ⟨w.heap.size, 0, none⟩ = some (.int .i64 (n : Nat)) /\ w'.cell? ⟨w.heap.size, 1, none⟩ = some (.int .i64 (a.x : Nat)) /\ w'.cell? ⟨w.heap.size, 2, none⟩ = some (.int .i64 (a.z : Nat)) /\ w'.cell? ⟨w.heap.size, 3, none⟩ = some (.int .i64 (a.p : Nat)))
  (first | exact ⟨p0, p1, p2, p3⟩ | exact X1.cells | go_keep)
  (first
   |(go_at_call 193; refine (i_IsPau n a _ hn HA.out).mono ?_; rintro e w3 ⟨rfl, b1⟩; have X1 := XD.below b1)
   |(go_at_call 212; refine (i_ones _ _).mono ?_; rintro e w3 ⟨rfl, rfl⟩)
   |fail)
 go_wp2_with fail
 go_ret
 exact ⟨ret_bool (by rw [Int.tmod_eq_emod_of_nonneg (by omega), Int.tmod_eq_emod_of_nonneg (by omega), par3]), X1.2.1⟩
end Go.Proofs.YtmenmibfkojnoaaGreat
