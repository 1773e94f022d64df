/- Plain: what a phase polynomial says of each basis state is what the gates do to it. Nothing else is asked. -/
import Derived.Test.YtibhikngiceeeaaDomP
import Derived.Test.YtibhikngiceeeaaFoldQ
import Derived.Test.YtibhikngiceeeaaEval
namespace Go.Proofs.Ytibhikngiceeeaa
open Go.RowKit
set_option linter.unusedVariables false

def parI (b m : Int) : Int := onesI (bits .and .i64 b m) % 2
theorem parI_01 (b m : Int) : parI b m = 0 ∨ parI b m = 1 := by unfold parI; omega
def sumT (b : Int) : List (Int × Int) → Int
  | [] => 0
  | p :: r => p.2 * parI b p.1 + sumT b r
theorem sumT_app (b : Int) : ∀ l m : List (Int × Int), sumT b (l ++ m) = sumT b l + sumT b m
  | [], m => by simp [sumT]
  | p :: r, m => by rw [List.cons_append, sumT, sumT, sumT_app b r m]; omega
theorem evT_sum (b : Int) : ∀ (t : List (Int × Int)) (k : Int), evT b t k % 8 = (k + sumT b t) % 8
  | [], k => by simp [evT, sumT]
  | p :: r, k => by
    rw [evT, sumT]
    by_cases h : onesI (bits .and .i64 b p.1) % 2 = 1
    · rw [if_pos h, evT_sum b r]
      have e : parI b p.1 = 1 := h
      have hw := wrap_mod8 (k + p.2)
      rw [e]
      omega
    · rw [if_neg h, evT_sum b r]
      have e : parI b p.1 = 0 := by
        rcases parI_01 b p.1 with h1 | h1
        · exact h1
        · exact absurd h1 h
      rw [e]
      omega
theorem sumT_nz (b : Int) : ∀ l : List (Int × Int), sumT b (nz l) = sumT b l
  | [] => rfl
  | p :: r => by
    have ih := sumT_nz b r
    unfold nz at ih ⊢
    rw [List.filter_cons]
    by_cases h : p.2 = 0
    · rw [if_neg (by simp [h]), ih, sumT, h]
      omega
    · rw [if_pos (by simp [h]), sumT, sumT, ih]
theorem sumT_bump (b c : Int) : ∀ (l : List (Int × Int)) (k : Nat), k < l.length → sumT b (bump l k c) % 8 = (sumT b l + c * parI b (l.getD k (0, 0)).1) % 8
  | [], k, h => by simp at h
  | p :: r, 0, h => by
    show ((p.2 + c) % 8 * parI b p.1 + sumT b r) % 8 = (p.2 * parI b p.1 + sumT b r + c * parI b p.1) % 8
    rcases parI_01 b p.1 with e | e <;> rw [e] <;> omega
  | p :: r, k + 1, h => by
    have ih := sumT_bump b c r k (by simpa using h)
    show (p.2 * parI b p.1 + sumT b (bump r k c)) % 8 = (p.2 * parI b p.1 + sumT b r + c * parI b (r.getD k (0, 0)).1) % 8
    omega
theorem atL_has (m : Int) : ∀ (t : List (Int × Int)) (i k : Nat), atL m i t = some k → (t.getD (k - i) (0, 0)).1 = m
  | [], i, k, h => by cases h
  | p :: r, i, k, h => by
    have hk := atL_lt m i (p :: r) k h
    rw [atL] at h
    split at h
    · rename_i hm
      injection h with h
      subst h
      rw [Nat.sub_self]
      exact by simpa using hm
    · have hk2 := atL_lt m (i + 1) r k h
      have := atL_has m r (i + 1) k h
      rw [show k - i = (k - (i + 1)) + 1 by omega]
      exact this
theorem withT_at (t : List (Int × Int)) (m : Int) : ((withT t m).getD (atT t m) (0, 0)).1 = m := by
  cases h : atL m 0 t with
  | some k =>
    obtain ⟨e1, e2⟩ := withT_has h
    rw [e1, e2]
    exact atL_has m t 0 k h
  | none =>
    obtain ⟨e1, e2⟩ := withT_new h
    have hp := plL_ge m 0 t
    rw [e1, e2, List.getD_eq_getElem?_getD, List.getElem?_append_right (by rw [List.length_take]; omega), List.length_take, show plL m 0 t - min (plL m 0 t) t.length = 0 by omega]
    rfl
theorem sumT_with (b : Int) (t : List (Int × Int)) (m : Int) : sumT b (withT t m) = sumT b t := by
  cases h : atL m 0 t with
  | some k => rw [(withT_has h).1]
  | none =>
    rw [(withT_new h).1, sumT_app, sumT]
    have := sumT_app b (t.take (plL m 0 t)) (t.drop (plL m 0 t))
    rw [List.take_append_drop] at this
    omega
theorem sumT_add (b : Int) (t : List (Int × Int)) (m c : Int) : sumT b (addT t m c) % 8 = (sumT b t + c * parI b m) % 8 := by
  unfold addT
  rw [sumT_nz, sumT_bump b c _ _ (atT_lt t m), withT_at, sumT_with]

/-- A row of bits as a number, the lowest first. -/
def valN : List Nat → Nat
  | [] => 0
  | x :: r => x + 2 * valN r
def bitN (b : Int) (o : Int × Int) : Nat := (bitO b o).toNat
theorem bitO_01 (b : Int) (o : Int × Int) : bitO b o = 0 ∨ bitO b o = 1 := by unfold bitO; omega
theorem bitN_01 (b : Int) (o : Int × Int) : bitN b o ≤ 1 := by unfold bitN; have := bitO_01 b o; omega
theorem evO_val (b : Int) {o : List (Int × Int)} (h : o.length ≤ 4) : evO b 0 o 0 = (valN (o.map (bitN b)) : Nat) := by
  have e : ∀ q, bitO b q = (bitN b q : Nat) := fun q => by unfold bitN; have := bitO_01 b q; omega
  have e0 : ∀ q, bitN b q = 0 ∨ bitN b q = 1 := fun q => by have := bitN_01 b q; omega
  match o, h with
  | [], _ => rfl
  | [o0], _ =>
    simp only [evO, List.map, valN, e]
    rcases e0 o0 with h0 | h0 <;> rw [h0] <;> decide +kernel
  | [o0, o1], _ =>
    simp only [evO, List.map, valN, e]
    rcases e0 o0 with h0 | h0 <;> rcases e0 o1 with h1 | h1 <;> rw [h0, h1] <;> decide +kernel
  | [o0, o1, o2], _ =>
    simp only [evO, List.map, valN, e]
    rcases e0 o0 with h0 | h0 <;> rcases e0 o1 with h1 | h1 <;> rcases e0 o2 with h2 | h2 <;> rw [h0, h1, h2] <;> decide +kernel
  | [o0, o1, o2, o3], _ =>
    simp only [evO, List.map, valN, e]
    rcases e0 o0 with h0 | h0 <;> rcases e0 o1 with h1 | h1 <;> rcases e0 o2 with h2 | h2 <;> rcases e0 o3 with h3 | h3 <;> rw [h0, h1, h2, h3] <;> decide +kernel
  | _ :: _ :: _ :: _ :: _ :: _, h => simp at h

def mono (g : Gt) : Bool := g.k == 1 || (g.k == 9 || (g.k == 11 || !(units g.k == 0)))
def mvX (g : Gt) (xs : List Nat) : List Nat :=
  if g.k = 1 then xs.set g.a.toNat (1 - xs.getD g.a.toNat 0)
  else if g.k = 9 then xs.set g.b.toNat ((xs.getD g.a.toNat 0 + xs.getD g.b.toNat 0) % 2)
  else if g.k = 11 then (xs.set g.a.toNat (xs.getD g.b.toNat 0)).set g.b.toNat (xs.getD g.a.toNat 0)
  else xs
def mvK (g : Gt) (xs : List Nat) : Nat := if g.k = 1 then 0 else if g.k = 9 then 0 else if g.k = 11 then 0 else (units g.k).toNat * xs.getD g.a.toNat 0
def allB : Nat → List (List Nat)
  | 0 => [[]]
  | n + 1 => (allB n).flatMap fun r => [0 :: r, 1 :: r]
theorem allB_mem : ∀ {n : Nat} {xs : List Nat}, xs.length = n → (∀ x ∈ xs, x ≤ 1) → xs ∈ allB n
  | 0, xs, h, _ => by rw [List.eq_nil_of_length_eq_zero h]; exact List.mem_singleton.2 rfl
  | n + 1, [], h, _ => by simp at h
  | n + 1, x :: r, h, hb => by
    have ih := allB_mem (n := n) (xs := r) (by simpa using h) (fun y hy => hb y (by simp [hy]))
    have hx := hb x (by simp)
    refine List.mem_flatMap.2 ⟨r, ih, ?_⟩
    obtain rfl | rfl : x = 0 ∨ x = 1 := by omega
    · simp
    · simp
def chkM (n : Nat) : Bool := (gatesN n).all fun g => !mono g || (allB n).all fun xs => decide (goes g (valN xs) = [(valN (mvX g xs), phD (mvK g xs))]) && (decide (valN xs < 2 ^ n) && (decide (mvX g (mvX g xs) = xs) && (mvX g xs).all fun x => decide (x ≤ 1)))
theorem chkM1 : chkM 1 = true := by decide +kernel
theorem chkM2 : chkM 2 = true := by decide +kernel
theorem chkM3 : chkM 3 = true := by decide +kernel
theorem chkM4 : chkM 4 = true := by decide +kernel
theorem chkM_all {n : Nat} (h : 1 ≤ n ∧ n ≤ 4) : chkM n = true := by
  obtain rfl | rfl | rfl | rfl : n = 1 ∨ n = 2 ∨ n = 3 ∨ n = 4 := by omega
  · exact chkM1
  · exact chkM2
  · exact chkM3
  · exact chkM4
theorem mv_at {n : Nat} {g : Gt} {xs : List Nat} (hg : okN n g = true) (hm : mono g = true) (hl : xs.length = n) (h01 : ∀ x ∈ xs, x ≤ 1) :
    goes g (valN xs) = [(valN (mvX g xs), phD (mvK g xs))] ∧ valN xs < 2 ^ n ∧ mvX g (mvX g xs) = xs ∧ ∀ x ∈ mvX g xs, x ≤ 1 := by
  have h := List.all_eq_true.1 (chkM_all (okN_in hg)) g (okN_mem hg)
  rw [hm] at h
  simp only [Bool.not_true, Bool.false_or] at h
  have h2 := List.all_eq_true.1 h xs (allB_mem hl h01)
  simp only [Bool.and_eq_true, decide_eq_true_eq, List.all_eq_true] at h2
  exact ⟨h2.1, h2.2.1, h2.2.2.1, h2.2.2.2⟩
theorem mvX_len (g : Gt) (xs : List Nat) : (mvX g xs).length = xs.length := by
  unfold mvX
  split
  · rw [List.length_set]
  · split
    · rw [List.length_set]
    · split
      · rw [List.length_set, List.length_set]
      · rfl
def chkX : Bool := (List.range 16).all fun a => (List.range 16).all fun c => (decide (0 ≤ bits .xor .i64 (a : Int) (c : Int)) && decide (bits .xor .i64 (a : Int) (c : Int) < 16)) && (List.range 16).all fun b => decide (parI (b : Int) (bits .xor .i64 (a : Int) (c : Int)) = (parI (b : Int) (a : Int) + parI (b : Int) (c : Int)) % 2)
theorem chkX_t : chkX = true := by decide +kernel
theorem xor_par {a c : Int} (ha : 0 ≤ a ∧ a < 16) (hc : 0 ≤ c ∧ c < 16) : (0 ≤ bits .xor .i64 a c ∧ bits .xor .i64 a c < 16) ∧ ∀ b : Nat, b < 16 → parI (b : Int) (bits .xor .i64 a c) = (parI (b : Int) a + parI (b : Int) c) % 2 := by
  have h1 := List.all_eq_true.1 (List.all_eq_true.1 chkX_t a.toNat (List.mem_range.2 (by omega))) c.toNat (List.mem_range.2 (by omega))
  rw [show ((a.toNat : Nat) : Int) = a by omega, show ((c.toNat : Nat) : Int) = c by omega] at h1
  simp only [Bool.and_eq_true, decide_eq_true_eq] at h1
  refine ⟨h1.1, fun b hb => ?_⟩
  have := List.all_eq_true.1 h1.2 b (List.mem_range.2 hb)
  simpa using this
def Mk (o : List (Int × Int)) : Prop := ∀ q ∈ o, 0 ≤ q.1 ∧ q.1 < 16
theorem at2_mk {o : List (Int × Int)} (h : Mk o) (a : Int) : 0 ≤ (at2 o a).1 ∧ (at2 o a).1 < 16 := by
  unfold at2
  rw [List.getD_eq_getElem?_getD]
  cases e : o[a.toNat]? with
  | none => exact ⟨Int.le_refl _, by decide⟩
  | some q => exact h q (List.mem_of_getElem? e)
theorem mk_set {o : List (Int × Int)} (h : Mk o) (k : Nat) (q : Int × Int) (hq : 0 ≤ q.1 ∧ q.1 < 16) : Mk (o.set k q) := by
  intro x hx
  rcases List.mem_or_eq_of_mem_set hx with h1 | h1
  · exact h x h1
  · rw [h1]; exact hq
def bitsP (b : Nat) (p : Po) : List Nat := p.o.map (bitN (b : Int))
def phP (b : Nat) (p : Po) : Int := (p.H + sumT (b : Int) p.t) % 8
theorem bits_at (b : Nat) {p : Po} {a : Int} (h : a.toNat < p.o.length) : (bitsP b p).getD a.toNat 0 = bitN (b : Int) (at2 p.o a) := by
  unfold bitsP at2
  rw [List.getD_eq_getElem?_getD, List.getD_eq_getElem?_getD, List.getElem?_map, List.getElem?_eq_getElem h]
  rfl
theorem set_map (b : Nat) (o : List (Int × Int)) (k : Nat) (q : Int × Int) : (o.set k q).map (bitN (b : Int)) = (o.map (bitN (b : Int))).set k (bitN (b : Int) q) := List.map_set
/-- One gate: the polynomial after it says what the gate does. -/
theorem act_step {p q : Po} {g : Gt} {n b : Nat} (hs : applyP p g = (q, true)) (hN : p.N = (n : Int)) (hF : Flip p.o) (hM : Mk p.o) (hb : b < 16) :
    okN n g = true ∧ mono g = true ∧ q.N = (n : Int) ∧ Flip q.o ∧ Mk q.o ∧ p.o.length = n ∧ bitsP b q = mvX g (bitsP b p) ∧ phP b q = (phP b p + mvK g (bitsP b p)) % 8 := by
  have hk : okP p g = true := applyP_okP (by rw [hs])
  obtain ⟨hg, hl⟩ := okP_parts hk
  have hab := okG_abn hg
  rw [applyP_yes hk] at hs
  have hgn : okN n g = true := by unfold okN; rw [← hN]; exact hg
  have hln : p.o.length = n := by omega
  have la : g.a.toNat < p.o.length := by omega
  have lb : g.b.toNat < p.o.length := by omega
  have fa := at2_flip hF g.a
  have fb := at2_flip hF g.b
  have ma := at2_mk hM g.a
  have mb := at2_mk hM g.b
  have ea := bits_at b (p := p) la
  have eb := bits_at b (p := p) lb
  unfold actP at hs
  by_cases h1 : (g.k == 1) = true
  · have h1' : g.k = 1 := by simpa using h1
    rw [if_pos h1] at hs
    injection hs with hs _
    subst hs
    refine ⟨hgn, by simp [mono, h1'], hN, flip_set hF _ _ _ ?_, mk_set hM _ _ ma, hln, ?_, ?_⟩
    · unfold wrap64; omega
    · unfold bitsP at ea ⊢
      show (p.o.set _ _).map _ = _
      unfold mvX
      rw [if_pos h1', set_map, ea]
      congr 1
      unfold bitN bitO wrap64
      simp only
      omega
    · unfold mvK
      rw [if_pos h1']
      show (p.H + sumT b p.t) % 8 = ((p.H + sumT b p.t) % 8 + ((0 : Nat) : Int)) % 8
      omega
  · have h1' : ¬ g.k = 1 := by simpa using h1
    rw [if_neg h1] at hs
    by_cases h2 : (g.k == 9) = true
    · have h2' : g.k = 9 := by simpa using h2
      rw [if_pos h2] at hs
      injection hs with hs _
      subst hs
      obtain ⟨x1, x2⟩ := xor_par ma mb
      refine ⟨hgn, by simp [mono, h2'], hN, flip_set hF _ _ _ (xor01 fa fb), mk_set hM _ _ x1, hln, ?_, ?_⟩
      · unfold bitsP at ea eb ⊢
        show (p.o.set _ _).map _ = _
        unfold mvX
        rw [if_neg h1', if_pos h2', set_map, ea, eb]
        congr 1
        have xb := x2 b hb
        unfold parI at xb
        have xf : bits .xor .i64 (at2 p.o g.a).2 (at2 p.o g.b).2 = ((at2 p.o g.a).2 + (at2 p.o g.b).2) % 2 := by
          have := xor2 (at2 p.o g.a).2 (at2 p.o g.b).2
          rw [show (at2 p.o g.a).2 % 2 = (at2 p.o g.a).2 by omega, show (at2 p.o g.b).2 % 2 = (at2 p.o g.b).2 by omega] at this
          exact this
        unfold bitN bitO
        simp only
        rw [xf]
        omega
      · unfold mvK
        rw [if_neg h1', if_pos h2']
        show (p.H + sumT b p.t) % 8 = ((p.H + sumT b p.t) % 8 + ((0 : Nat) : Int)) % 8
        omega
    · have h2' : ¬ g.k = 9 := by simpa using h2
      rw [if_neg h2] at hs
      by_cases h3 : (g.k == 11) = true
      · have h3' : g.k = 11 := by simpa using h3
        rw [if_pos h3] at hs
        injection hs with hs _
        subst hs
        refine ⟨hgn, by simp [mono, h3'], hN, flip_set (flip_set hF _ _ _ fb) _ _ _ fa, mk_set (mk_set hM _ _ mb) _ _ ma, hln, ?_, ?_⟩
        · unfold bitsP at ea eb ⊢
          show ((p.o.set _ _).set _ _).map _ = _
          unfold mvX
          rw [if_neg h1', if_neg h2', if_pos h3', set_map, set_map, ea, eb]
        · unfold mvK
          rw [if_neg h1', if_neg h2', if_pos h3']
          show (p.H + sumT b p.t) % 8 = ((p.H + sumT b p.t) % 8 + ((0 : Nat) : Int)) % 8
          omega
      · have h3' : ¬ g.k = 11 := by simpa using h3
        rw [if_neg h3] at hs
        by_cases h4 : (units g.k == 0) = true
        · rw [if_pos h4] at hs
          injection hs with _ hs
          cases hs
        · rw [if_neg h4] at hs
          have hu : 0 ≤ units g.k := by rcases units_cases g.k with h | h | h | h | h | h <;> omega
          have hmo : mono g = true := by
            unfold mono
            rw [show (units g.k == 0) = false by simpa using h4]
            simp
          have emv : mvX g (bitsP b p) = bitsP b p := by unfold mvX; rw [if_neg h1', if_neg h2', if_neg h3']
          have ek : mvK g (bitsP b p) = (units g.k).toNat * bitN (b : Int) (at2 p.o g.a) := by unfold mvK; rw [if_neg h1', if_neg h2', if_neg h3', ea]
          have e2 : ((mvK g (bitsP b p) : Nat) : Int) = units g.k * bitO (b : Int) (at2 p.o g.a) := by
            rw [ek, Int.natCast_mul]
            congr 1
            · omega
            · unfold bitN
              have := bitO_01 (b : Int) (at2 p.o g.a)
              omega
          have eb2 : bitO (b : Int) (at2 p.o g.a) = (parI (b : Int) (at2 p.o g.a).1 + (at2 p.o g.a).2) % 2 := by unfold bitO parI; omega
          have hp := parI_01 (b : Int) (at2 p.o g.a).1
          by_cases h5 : ((at2 p.o g.a).2 == 0) = true
          · rw [if_pos h5] at hs
            injection hs with hs _
            subst hs
            have hf : (at2 p.o g.a).2 = 0 := by simpa using h5
            refine ⟨hgn, hmo, hN, hF, hM, hln, emv.symm, ?_⟩
            rw [e2, eb2, hf]
            have hs := sumT_add (b : Int) p.t (at2 p.o g.a).1 (units g.k)
            show (p.H + sumT b (addT p.t (at2 p.o g.a).1 (units g.k))) % 8 = ((p.H + sumT b p.t) % 8 + _) % 8
            rcases hp with hp | hp <;> rw [hp] at hs ⊢ <;> simp only [Int.mul_zero, Int.mul_one, Int.add_zero, Int.zero_emod, show (1 : Int) % 2 = 1 from rfl] at hs ⊢ <;> omega
          · rw [if_neg h5] at hs
            injection hs with hs _
            subst hs
            have hf : (at2 p.o g.a).2 = 1 := by
              rcases fa with h | h
              · exact absurd (by simpa using h) h5
              · exact h
            refine ⟨hgn, hmo, hN, hF, hM, hln, emv.symm, ?_⟩
            rw [e2, eb2, hf]
            have hs := sumT_add (b : Int) p.t (at2 p.o g.a).1 (-units g.k)
            show ((p.H + units g.k) % 8 + sumT b (addT p.t (at2 p.o g.a).1 (-units g.k))) % 8 = ((p.H + sumT b p.t) % 8 + _) % 8
            rcases hp with hp | hp <;> rw [hp] at hs ⊢ <;> simp only [Int.mul_zero, Int.mul_one, Int.zero_add, Int.add_zero, show (1 : Int) % 2 = 1 from rfl, show ((1 : Int) + 1) % 2 = 0 from rfl] at hs ⊢ <;> omega
theorem bitsP_01 (b : Nat) (p : Po) : ∀ x ∈ bitsP b p, x ≤ 1 := by
  intro x hx
  obtain ⟨q, _, rfl⟩ := List.mem_map.1 hx
  exact bitN_01 _ _
theorem bitsP_len (b : Nat) (p : Po) : (bitsP b p).length = p.o.length := by unfold bitsP; rw [List.length_map]
def mvs : List Gt → List Nat → List Nat
  | [], xs => xs
  | g :: r, xs => mvs r (mvX g xs)
/-- Gates one behind another. -/
theorem acts_run {n : Nat} : ∀ (gs : List Gt) (p q : Po), compL p gs = (q, true) → p.N = (n : Int) → p.o.length = n → 1 ≤ n ∧ n ≤ 4 → Flip p.o → Mk p.o →
    (∀ g ∈ gs, okN n g = true ∧ mono g = true) ∧ q.N = (n : Int) ∧ q.o.length = n ∧ ∀ b, b < 16 → bitsP b q = mvs gs (bitsP b p) ∧ (∃ k : Nat, phP b q = (phP b p + k) % 8 ∧ actG gs (eN (2 ^ n) (valN (bitsP b p))) = scl (phZ k) (eN (2 ^ n) (valN (bitsP b q)))) ∧ valN (bitsP b q) < 2 ^ n
  | [], p, q, hc, hN, hl, hn, hF, hM => by
    injection hc with hc _
    subst hc
    refine ⟨by simp, hN, hl, fun b hb => ⟨rfl, ⟨0, ?_, ?_⟩, ?_⟩⟩
    · unfold phP; omega
    · rw [scl_0]; rfl
    · have hx : bitsP b p ∈ allB n := allB_mem (by rw [bitsP_len, hl]) (bitsP_01 b p)
      have : ∀ m : Nat, ∀ xs : List Nat, xs.length = m → (∀ x ∈ xs, x ≤ 1) → valN xs < 2 ^ m := by
        intro m
        induction m with
        | zero => intro xs h _; rw [List.eq_nil_of_length_eq_zero h]; decide
        | succ m ih =>
          intro xs h h1
          match xs, h with
          | x :: r, h =>
            have h2 := ih r (by simpa using h) (fun y hy => h1 y (by simp [hy]))
            have h3 := h1 x (by simp)
            show x + 2 * valN r < 2 ^ (m + 1)
            rw [Nat.pow_succ]
            omega
      exact this n _ (by rw [bitsP_len, hl]) (bitsP_01 b p)
  | g :: r, p, q, hc, hN, hl, hn, hF, hM => by
    obtain ⟨h1, _⟩ := compL_ok (p := p) (g := g) (r := r) (by rw [hc])
    obtain ⟨p1, hp1⟩ : ∃ p1, applyP p g = (p1, true) := ⟨_, Prod.ext rfl h1⟩
    have hp2 : compL p1 r = (q, true) := by rw [compL_go (by rw [hp1]), hp1] at hc; exact hc
    obtain ⟨a1, a2, a3, a4, a5, a6, _, _⟩ := act_step (b := 0) hp1 hN hF hM (by omega)
    have l1 : p1.o.length = n := by
      have e7 := (act_step (b := 0) hp1 hN hF hM (by omega)).2.2.2.2.2.2.1
      have := congrArg List.length e7
      rw [mvX_len, bitsP_len, bitsP_len] at this
      omega
    obtain ⟨i1, i2, i3, i4⟩ := acts_run r p1 q hp2 a3 l1 hn a4 a5
    refine ⟨fun x hx => ?_, i2, i3, fun b hb => ?_⟩
    · rcases List.mem_cons.1 hx with rfl | hx
      · exact ⟨a1, a2⟩
      · exact i1 x hx
    · obtain ⟨j1, ⟨k, j2, j3⟩, j4⟩ := i4 b hb
      obtain ⟨_, _, _, _, _, _, s1, s2⟩ := act_step (b := b) hp1 hN hF hM hb
      obtain ⟨m1, m2, m3, m4⟩ := mv_at a1 a2 (xs := bitsP b p) (by rw [bitsP_len, hl]) (bitsP_01 b p)
      have m5 := (mv_at a1 a2 (xs := mvX g (bitsP b p)) (by rw [mvX_len, bitsP_len, hl]) m4).2.1
      refine ⟨?_, ⟨mvK g (bitsP b p) + k, ?_, ?_⟩, j4⟩
      · rw [j1, s1]; rfl
      · rw [j2, s2, Int.natCast_add]; omega
      · show actG r (act g _) = _
        rw [act_unit m2 m5 m1, (actG_linN r (fun x hx => (i1 x hx).1)).2.1 _ _ (eN_len _ _), ← s1, j3, scl_ph, Nat.add_comm k]
def chkI (n : Nat) : Bool := (List.range (2 ^ n)).all fun b => decide (valN ((idO n).map (bitN (b : Int))) = b)
theorem chkI_all {n : Nat} (h : 1 ≤ n ∧ n ≤ 4) : chkI n = true := by
  obtain rfl | rfl | rfl | rfl : n = 1 ∨ n = 2 ∨ n = 3 ∨ n = 4 := by omega
  all_goals decide +kernel
theorem pow_le16 {n : Nat} (h : n ≤ 4) : 2 ^ n ≤ 16 := Nat.pow_le_pow_right (n := 2) (by omega) h
theorem idP_mk {n : Nat} (h : 1 ≤ n ∧ n ≤ 4) : idP (n : Int) = ⟨n, 0, [], idO n⟩ ∧ Mk (idO n) ∧ Flip (idO n) := by
  refine ⟨?_, ?_, ?_⟩
  · unfold idP
    rw [if_pos (inB_t (by omega) (by omega)), Int.toNat_natCast]
  · intro q hq
    simp only [idO, List.mem_map] at hq
    obtain ⟨i, hi, rfl⟩ := hq
    have := List.mem_range.1 hi
    obtain rfl | rfl | rfl | rfl : i = 0 ∨ i = 1 ∨ i = 2 ∨ i = 3 := by omega
    all_goals decide
  · intro q hq
    simp only [idO, List.mem_map] at hq
    obtain ⟨i, _, rfl⟩ := hq
    exact .inl rfl
/-- The polynomial of a row of gates says what they do to every basis state. -/
theorem poly_acts {gs : List Gt} {n : Nat} {M : Po} (h : compP gs (n : Int) = (M, true)) :
    (1 ≤ n ∧ n ≤ 4) ∧ (∀ g ∈ gs, okN n g = true ∧ mono g = true) ∧ M.N = (n : Int) ∧ M.o.length = n ∧
    (∀ b, b < 2 ^ n → actG gs (eN (2 ^ n) b) = scl (phZ (phP b M).toNat) (eN (2 ^ n) (valN (bitsP b M))) ∧ valN (bitsP b M) < 2 ^ n) ∧
    (∀ b c, b < 2 ^ n → c < 2 ^ n → valN (bitsP b M) = valN (bitsP c M) → b = c) := by
  obtain ⟨hin, hc⟩ := compP_in h
  obtain ⟨n1, n4⟩ := inB_iff.1 hin
  have hn : 1 ≤ n ∧ n ≤ 4 := by omega
  have h16 := pow_le16 hn.2
  obtain ⟨e0, mk, fl⟩ := idP_mk hn
  rw [e0] at hc
  obtain ⟨i1, i2, i3, i4⟩ := acts_run gs ⟨n, 0, [], idO n⟩ M hc rfl (by rw [idO_len]) hn fl mk
  have hid : ∀ b, b < 2 ^ n → valN (bitsP b ⟨n, 0, [], idO n⟩) = b := by
    intro b hb
    have := List.all_eq_true.1 (chkI_all hn) b (List.mem_range.2 hb)
    exact of_decide_eq_true this
  refine ⟨hn, i1, i2, i3, fun b hb => ?_, fun b c hb hc' he => ?_⟩
  · obtain ⟨j1, ⟨k, j2, j3⟩, j4⟩ := i4 b (by omega)
    refine ⟨?_, j4⟩
    rw [hid b hb] at j3
    rw [j3]
    have e : phP b ⟨n, 0, [], idO n⟩ = 0 := rfl
    rw [e] at j2
    have : phZ (phP b M).toNat = phZ k := by
      rw [j2, show ((0 + (k : Int)) % 8).toNat = k % 8 by omega]
      unfold phZ
      rw [Nat.mod_mod]
    rw [this]
  · have vinj : ∀ m : Nat, ∀ xs ys : List Nat, xs.length = m → ys.length = m → (∀ x ∈ xs, x ≤ 1) → (∀ x ∈ ys, x ≤ 1) → valN xs = valN ys → xs = ys := by
      intro m
      induction m with
      | zero => intro xs ys h1 h2 _ _ _; rw [List.eq_nil_of_length_eq_zero h1, List.eq_nil_of_length_eq_zero h2]
      | succ m ih =>
        intro xs ys h1 h2 b1 b2 hv
        match xs, ys, h1, h2 with
        | x :: r, y :: s, h1, h2 =>
          have c1 := b1 x (by simp)
          have c2 := b2 y (by simp)
          have hv2 : x + 2 * valN r = y + 2 * valN s := hv
          have := ih r s (by simpa using h1) (by simpa using h2) (fun z hz => b1 z (by simp [hz])) (fun z hz => b2 z (by simp [hz])) (by omega)
          rw [this, show x = y by omega]
    have hmv : ∀ (l : List Gt) (xs ys : List Nat), (∀ g ∈ l, okN n g = true ∧ mono g = true) → xs.length = n → ys.length = n → (∀ x ∈ xs, x ≤ 1) → (∀ x ∈ ys, x ≤ 1) → mvs l xs = mvs l ys → xs = ys := by
      intro l
      induction l with
      | nil => intro xs ys _ _ _ _ _ h; exact h
      | cons g r ih =>
        intro xs ys hg h1 h2 b1 b2 hh
        obtain ⟨g1, g2⟩ := hg g (by simp)
        obtain ⟨_, _, m3, m4⟩ := mv_at g1 g2 h1 b1
        obtain ⟨_, _, k3, k4⟩ := mv_at g1 g2 h2 b2
        have := ih (mvX g xs) (mvX g ys) (fun x hx => hg x (by simp [hx])) (by rw [mvX_len, h1]) (by rw [mvX_len, h2]) m4 k4 hh
        rw [← m3, ← k3, this]
    obtain ⟨j1, _, _⟩ := i4 b (by omega)
    obtain ⟨k1, _, _⟩ := i4 c (by omega)
    have e1 := vinj n (bitsP b M) (bitsP c M) (by rw [bitsP_len, i3]) (by rw [bitsP_len, i3]) (bitsP_01 _ _) (bitsP_01 _ _) he
    rw [j1, k1] at e1
    have e2 := hmv gs _ _ i1 (by rw [bitsP_len]; exact idO_len n) (by rw [bitsP_len]; exact idO_len n) (bitsP_01 _ _) (bitsP_01 _ _) e1
    rw [← hid b hb, ← hid c hc', e2]
theorem evO_to {b : Nat} {p : Po} (h : p.o.length ≤ 4) : evO (b : Int) 0 p.o 0 = (valN (bitsP b p) : Nat) := evO_val _ h
theorem evT_ph (b : Nat) (p : Po) : evT (b : Int) p.t p.H % 8 = phP b p := evT_sum _ _ _
theorem mono_hc {g : Gt} (h : mono g = true) : hc g = 0 := by
  unfold hc
  split
  · rename_i h4
    unfold mono at h
    rw [h4] at h
    exact absurd h (by decide)
  · rfl
theorem mono_hcs : ∀ {gs : List Gt}, (∀ g ∈ gs, mono g = true) → hcs gs = 0
  | [], _ => rfl
  | g :: r, h => by
    show hc g + hcs r = 0
    rw [mono_hc (h g (by simp)), mono_hcs (fun x hx => h x (by simp [hx]))]
end Go.Proofs.Ytibhikngiceeeaa
