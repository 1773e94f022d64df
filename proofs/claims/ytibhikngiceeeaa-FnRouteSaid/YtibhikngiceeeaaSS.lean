/- Slices of slices: what it is to read one, to own one; how appends and marks turn them. Nothing is asked. -/
import Derived.Test.YtibhikngiceeeaaBase
namespace Go.Proofs.Ytibhikngiceeeaa
open Go.RowKit

section
variable {α : Type} {cs : List α → List Value} {w w' : World} {sz n : Nat} {A : Option Addr}

/-- The slice of slices '.slice A n c' reads as the rows l; each inner row reads as the cells 'cs x', sz an element. -/
def RdSS (cs : List α → List Value) (w : World) (sz : Nat) (A : Option Addr) (n : Nat) (l : List (List α)) : Prop :=
  l.length = n ∧ ∃ vs : List Value, Rd w 1 A n vs ∧ ∀ (j : Nat) (x : List α), l[j]? = some x → ∃ B c, vs[j]? = some (Value.slice B x.length c) ∧ x.length ≤ c ∧ Rd w sz B x.length (cs x)

theorem RdSS.below {l : List (List α)} (h : RdSS cs w sz A n l) (hb : Below w.heap.size w w') : RdSS cs w' sz A n l := by
  obtain ⟨h1, vs, h2, h3⟩ := h
  refine ⟨h1, vs, h2.below hb, fun j x hx => ?_⟩
  obtain ⟨B, c, a1, a2, a3⟩ := h3 j x hx
  exact ⟨B, c, a1, a2, a3.below hb⟩
theorem RdSS.alloc {l : List (List α)} (h : RdSS cs w sz A n l) (o : Obj) : RdSS cs (w.alloc o) sz A n l := h.below ((Below.refl _ _).alloc (Nat.le_refl _) _)
theorem RdSS.drew {l : List (List α)} (h : RdSS cs w sz A n l) : RdSS cs w.drew sz A n l := h
theorem RdSS.at_ {l : List (List α)} (h : RdSS cs w sz A n l) {k : Nat} (hk : k < n) : ∃ (b off : Nat) (x : List α) (B : Option Addr) (c : Nat), A = some ⟨b, off, none⟩ ∧ b < w.heap.size ∧ l.drop k = x :: l.drop (k + 1) ∧
    w.cell? ⟨b, off + k, none⟩ = some (Value.slice B x.length c) ∧ x.length ≤ c ∧ Rd w sz B x.length (cs x) := by
  obtain ⟨hl, vs, hr, hi⟩ := h
  obtain ⟨b, off, e, hb, hc⟩ := hr.2 (by omega)
  have hd := drop_cons (l := l) (k := k) (by omega)
  obtain ⟨B, c, a1, a2, a3⟩ := hi k l[k] (List.getElem?_eq_getElem (by omega))
  exact ⟨b, off, l[k], B, c, e, hb, hd, hc _ _ a1, a2, a3⟩

/-- A slice of slices of the call's own: the outer row, each inner row in a block of its own. -/
def OwnSS (cs : List α → List Value) (w : World) (base : Nat) (eo ei sz : Nat) (v : Value) (l : List (List α)) : Prop :=
  ∃ vs : List Value, w.ownsRow base eo 1 v l.length vs ∧
    (∀ (j : Nat) (x : List α), l[j]? = some x → ∃ B c, vs[j]? = some (Value.slice B x.length c) ∧ w.ownsRow base ei sz (.slice B x.length c) x.length (cs x)) ∧
    (∀ (i j : Nat) (u u' : Value), i ≠ j → vs[i]? = some u → vs[j]? = some u' → u.ownBlock = none ∨ u.ownBlock ≠ u'.ownBlock)

theorem OwnSS.rd {base eo ei c : Nat} {l : List (List α)} (h : OwnSS cs w base eo ei sz (.slice A n c) l) (hn : l.length = n) : RdSS cs w sz A n l := by
  obtain ⟨vs, h1, h2, h3⟩ := h
  subst hn
  refine ⟨rfl, vs, Rd.own h1, fun j x hx => ?_⟩
  obtain ⟨B, c, a1, a2⟩ := h2 j x hx
  exact ⟨B, c, a1, ownsRow_cap a2, Rd.own a2⟩
theorem OwnSS.below {base eo ei : Nat} {v : Value} {l : List (List α)} (h : OwnSS cs w base eo ei sz v l) (hb : Below w.heap.size w w') : OwnSS cs w' base eo ei sz v l := by
  obtain ⟨vs, h1, h2, h3⟩ := h
  refine ⟨vs, ownsRow_below h1 hb, fun j x hx => ?_, h3⟩
  obtain ⟨B, c, a1, a2⟩ := h2 j x hx
  exact ⟨B, c, a1, ownsRow_below a2 hb⟩
theorem OwnSS.alloc {base eo ei : Nat} {v : Value} {l : List (List α)} (h : OwnSS cs w base eo ei sz v l) (o : Obj) : OwnSS cs (w.alloc o) base eo ei sz v l := h.below ((Below.refl _ _).alloc (Nat.le_refl _) _)
theorem OwnSS.drew {base eo ei : Nat} {v : Value} {l : List (List α)} (h : OwnSS cs w base eo ei sz v l) : OwnSS cs w.drew base eo ei sz v l := h
theorem OwnSS.base_ {base base' eo ei : Nat} {v : Value} {l : List (List α)} (h : OwnSS cs w base eo ei sz v l) (hb : base' ≤ base) : OwnSS cs w base' eo ei sz v l := by
  obtain ⟨vs, h1, h2, h3⟩ := h
  refine ⟨vs, ownsRow_base h1 hb, fun j x hx => ?_, h3⟩
  obtain ⟨B, c, a1, a2⟩ := h2 j x hx
  exact ⟨B, c, a1, ownsRow_base a2 hb⟩
theorem OwnSS.shape {base eo ei : Nat} {v : Value} {l : List (List α)} (h : OwnSS cs w base eo ei sz v l) : ∃ A c, v = .slice A l.length c := by
  obtain ⟨vs, h1, _⟩ := h
  exact ownsRow_shape h1
theorem OwnSS.cap {base eo ei c : Nat} {l : List (List α)} (h : OwnSS cs w base eo ei sz (.slice A n c) l) (hn : l.length = n) : n ≤ c := by
  obtain ⟨vs, h1, _⟩ := h
  subst hn
  exact ownsRow_cap h1
theorem OwnSS.lit0 (w : World) {base : Nat} (hb : base ≤ w.heap.size) (eo ei sz : Nat) (cs : List α → List Value) : OwnSS cs (w.alloc (.cells #[] eo)) base eo ei sz (.slice (some ⟨w.heap.size, 0, none⟩) 0 0) [] :=
  ⟨[], World.ownsRow_lit w #[] 0 hb (by simp [maxLen]) rfl, fun j x hx => by simp at hx, fun i j u u' _ hu => by simp at hu⟩
theorem OwnSS.nil (w : World) (base eo ei sz : Nat) (cs : List α → List Value) : OwnSS cs w base eo ei sz (.slice none 0 0) [] :=
  ⟨[], World.ownsRow_nil _ _ _ _, fun j x hx => by simp at hx, fun i j u u' _ hu => by simp at hu⟩

theorem own_lt {w : World} {base : Nat} {e : TypeId} {sz n : Nat} {v : Value} {xs : List Value} (h : w.ownsRow base e sz v n xs) {B : Nat} (hB : w.heap.size ≤ B) : ∀ k, v.ownBlock = some k → k < B := fun k hk => by have := (h.lt k hk).2; omega
theorem kept_below {w w' : World} {base : Nat} {e : TypeId} {sz n : Nat} {v : Value} {xs : List Value} (h : w.ownsRow base e sz v n xs) {B : Nat} (hb : Below B w w') (hlt : ∀ k, v.ownBlock = some k → k < B) : w'.ownsRow base e sz v n xs := by
  refine ⟨h.1, ?_⟩
  rcases h.2 with h0 | ⟨g, cap, cur, h1, h2, h3, h4⟩
  · exact .inl h0
  · exact .inr ⟨g, cap, cur, h1, h2, (hb.block g (hlt g (by rw [h1]; rfl))).trans h3, h4⟩

/-- The rows of l, and those of l' that were made later (from block number B on), in one outer row. -/
theorem OwnSS.app {base B eo ei : Nat} {v v'' : Value} {l l' : List (List α)} {vs' : List Value} {w0 w1 w2 : World} (hne : eo ≠ ei)
    (h : OwnSS cs w0 base eo ei sz v l) (hB : w0.heap.size ≤ B) (hb : base ≤ B) (h01 : Below w0.heap.size w0 w1)
    (h2 : ∀ (j : Nat) (x : List α), l'[j]? = some x → ∃ D c, vs'[j]? = some (Value.slice D x.length c) ∧ w1.ownsRow B ei sz (.slice D x.length c) x.length (cs x))
    (h3 : ∀ (i j : Nat) (u u' : Value), i ≠ j → vs'[i]? = some u → vs'[j]? = some u' → u.ownBlock = none ∨ u.ownBlock ≠ u'.ownBlock)
    (hlen : vs'.length = l'.length)
    (hg : w1.grownBy w2 v.ownBlock)
    (ho : ∀ vs, w1.ownsRow base eo 1 v l.length vs → w2.ownsRow base eo 1 v'' (l.length + l'.length) (vs ++ vs')) : OwnSS cs w2 base eo ei sz v'' (l ++ l') := by
  obtain ⟨vs, a1, a2, a3⟩ := h
  have b1 := ownsRow_below a1 h01
  have hlv : vs.length = l.length := by simpa using a1.1
  have key : ∀ (j : Nat) (x : List α) (D : Option Addr) (c : Nat), vs[j]? = some (Value.slice D x.length c) → w0.ownsRow base ei sz (.slice D x.length c) x.length (cs x) → w2.ownsRow base ei sz (.slice D x.length c) x.length (cs x) := fun j x D c _ ho' =>
    (ownsRow_below ho' h01).kept hg (by
      rcases (ownsRow_below ho' h01).2 with ⟨e1, _⟩ | ⟨g, cap, cur, e1, _, hh, _⟩
      · rw [e1]; exact .inl rfl
      · rcases b1.2 with ⟨e2, _⟩ | ⟨g', cap', cur', e2, _, hh', _⟩
        · rw [e2, e1]; exact .inr (by simp [Value.ownBlock])
        · rw [e2, e1]
          refine .inr fun he => ?_
          have : g = g' := by simpa [Value.ownBlock] using he
          subst this
          rw [hh] at hh'
          injection hh' with hh'
          injection hh' with _ ht
          exact hne ht.symm)
  have key' : ∀ (x : List α) (D : Option Addr) (c : Nat), w1.ownsRow B ei sz (.slice D x.length c) x.length (cs x) → w2.ownsRow base ei sz (.slice D x.length c) x.length (cs x) := fun x D c ho' =>
    ownsRow_base (ho'.kept hg (by
      cases hv : (Value.slice D x.length c).ownBlock with
      | none => exact .inl rfl
      | some k =>
        refine .inr fun he => ?_
        have a := (ho'.lt k hv).1
        have b := (a1.lt k he.symm).2
        omega)) hb
  refine ⟨vs ++ vs', by rw [List.length_append]; exact ho vs b1, fun j x hx => ?_, fun i j u u' hij hu hu' => ?_⟩
  · rcases Nat.lt_or_ge j l.length with hj | hj
    · rw [List.getElem?_append_left hj] at hx
      obtain ⟨D, c, c1, c2⟩ := a2 j x hx
      exact ⟨D, c, by rw [List.getElem?_append_left (by omega)]; exact c1, key j x D c c1 c2⟩
    · rw [List.getElem?_append_right hj] at hx
      obtain ⟨D, c, c1, c2⟩ := h2 _ x hx
      exact ⟨D, c, by rw [List.getElem?_append_right (by omega), hlv]; exact c1, key' x D c c2⟩
  · have old : ∀ (i : Nat) (u : Value), i < l.length → vs[i]? = some u → ∀ k, u.ownBlock = some k → k < B := fun i u hi hu k hk => by
      obtain ⟨D, c, c1, c2⟩ := a2 i l[i] (List.getElem?_eq_getElem hi)
      rw [hu] at c1
      injection c1 with c1
      subst c1
      exact own_lt c2 hB k hk
    have new : ∀ (i : Nat) (u : Value), vs'[i]? = some u → ∀ k, u.ownBlock = some k → B ≤ k := fun i u hu k hk => by
      have hi : i < l'.length := by
        have := (List.getElem?_eq_some_iff.1 hu).1
        omega
      obtain ⟨D, c, c1, c2⟩ := h2 i l'[i] (List.getElem?_eq_getElem hi)
      rw [hu] at c1
      injection c1 with c1
      subst c1
      exact (c2.lt k hk).1
    rcases Nat.lt_or_ge i l.length with hi | hi
    · rw [List.getElem?_append_left (by omega)] at hu
      rcases Nat.lt_or_ge j l.length with hj | hj
      · rw [List.getElem?_append_left (by omega)] at hu'
        exact a3 i j u u' hij hu hu'
      · rw [List.getElem?_append_right (by omega)] at hu'
        cases h : u.ownBlock with
        | none => exact .inl rfl
        | some k =>
          refine .inr fun he => ?_
          have a := old i u hi hu k h
          have b := new _ u' hu' k he.symm
          omega
    · rw [List.getElem?_append_right (by omega)] at hu
      rcases Nat.lt_or_ge j l.length with hj | hj
      · rw [List.getElem?_append_left (by omega)] at hu'
        cases h : u.ownBlock with
        | none => exact .inl rfl
        | some k =>
          refine .inr fun he => ?_
          have a := new _ u hu k h
          have b := old j u' hj hu' k he.symm
          omega
      · rw [List.getElem?_append_right (by omega)] at hu'
        exact h3 _ _ u u' (by omega) hu hu'

/-- One inner row is turned in place: cells of block g alone. -/
theorem OwnSS.turn {base eo ei : Nat} {v : Value} {l : List (List α)} {k : Nat} {y : List α} (hne : eo ≠ ei) (h : OwnSS cs w base eo ei sz v l) {x : List α} (hk : l[k]? = some x) (hy : y.length = x.length)
    {D : Option Addr} {c : Nat} (hat : ∀ vs, w.ownsRow base eo 1 v l.length vs → vs[k]? = some (Value.slice D x.length c))
    (hg : w.grownBy w' (Value.slice D x.length c).ownBlock) (ho : w'.ownsRow base ei sz (.slice D x.length c) x.length (cs y)) : OwnSS cs w' base eo ei sz v (l.set k y) := by
  obtain ⟨vs, a1, a2, a3⟩ := h
  have hkv := hat vs a1
  refine ⟨vs, ?_, fun j z hz => ?_, a3⟩
  · rw [List.length_set]
    refine a1.kept hg ?_
    obtain ⟨D', c', e1, e2⟩ := a2 k x hk
    rw [hkv] at e1
    injection e1 with e1
    rcases a1.2 with ⟨e3, _⟩ | ⟨g, cap, cur, e3, _, hh, _⟩
    · rw [e3]; exact .inl rfl
    · rw [← e1] at e2
      rcases e2.2 with ⟨e4, _⟩ | ⟨g', cap', cur', e4, _, hh', _⟩
      · rw [e3, e4]; exact .inr (by simp [Value.ownBlock])
      · rw [e3, e4]
        refine .inr fun he => ?_
        have : g = g' := by simpa [Value.ownBlock] using he
        subst this
        rw [hh] at hh'
        injection hh' with hh'
        injection hh' with _ ht
        exact hne ht
  · by_cases hjk : k = j
    · subst hjk
      rw [List.getElem?_set_self (by have := (List.getElem?_eq_some_iff.1 hk).1; omega)] at hz
      injection hz with hz
      subst hz
      refine ⟨D, c, ?_, ?_⟩
      · rw [hy]; exact hkv
      · rw [hy]; exact ho
    · rw [List.getElem?_set_ne hjk] at hz
      obtain ⟨D', c', e1, e2⟩ := a2 j z hz
      exact ⟨D', c', e1, e2.kept hg (a3 j k _ _ (fun e => hjk e.symm) e1 hkv)⟩
theorem OwnSS.at_ {base eo ei k : Nat} {v : Value} {l : List (List α)} (hne : eo ≠ ei) (h : OwnSS cs w base eo ei sz v l) (hk : k < l.length) : ∃ (g cap : Nat) (x : List α) (D : Option Addr) (c : Nat), v = .slice (some ⟨g, 0, none⟩) l.length cap ∧ l.drop k = x :: l.drop (k + 1) ∧
    w.cell? ⟨g, k, none⟩ = some (Value.slice D x.length c) ∧ w.frozen? ⟨g, k, none⟩ = false ∧ w.ownsRow base ei sz (.slice D x.length c) x.length (cs x) ∧
    (∀ (w' : World) (y : List α), y.length = x.length → w.grownBy w' (Value.slice D x.length c).ownBlock → w'.ownsRow base ei sz (.slice D x.length c) x.length (cs y) → OwnSS cs w' base eo ei sz v (l.set k y)) := by
  have h0 := h
  obtain ⟨vs, a1, a2, a3⟩ := h
  obtain ⟨D, c, e1, e2⟩ := a2 k l[k] (List.getElem?_eq_getElem hk)
  obtain ⟨g, cap, hv⟩ : ∃ g cap, v = .slice (some ⟨g, 0, none⟩) l.length cap := by
    rcases a1.2 with ⟨_, h0⟩ | ⟨g, cap, cur, hv, _⟩
    · omega
    · exact ⟨g, cap, hv⟩
  subst hv
  refine ⟨g, cap, l[k], D, c, rfl, drop_cons hk, (a1.cellAt k (by omega)).trans e1, a1.frozenAt k, e2, fun w' y hy hg ho => h0.turn hne (List.getElem?_eq_getElem hk) hy (fun vs' b1 => ?_) hg ho⟩
  rw [← b1.cellAt k (by omega), a1.cellAt k (by omega), e1]
end

/-- The marks on a slice of slices whose rows have these lengths. -/
def marksL {α : Type} (mk : Nat → Int → List α) (st : Nat) : List Nat → Int → List (List α)
  | [], _ => []
  | n :: r, j => mk n j :: marksL mk st r (j + st * n)
def tot : List Nat → Nat
  | [] => 0
  | n :: r => n + tot r
theorem marksL_len {α : Type} (mk : Nat → Int → List α) (st : Nat) : ∀ (ls : List Nat) (j : Int), (marksL mk st ls j).length = ls.length
  | [], _ => rfl
  | n :: r, j => by rw [marksL, List.length_cons, marksL_len mk st r, List.length_cons]
theorem tot_take {ls : List Nat} {k n : Nat} (hd : ls.drop k = n :: ls.drop (k + 1)) : tot (ls.take (k + 1)) = tot (ls.take k) + n := by
  have hl : ∀ a b : List Nat, tot (a ++ b) = tot a + tot b := by
    intro a b
    induction a with
    | nil => simp [tot]
    | cons x r ih => simp only [List.cons_append, tot, ih]; omega
  rw [take_snoc hd, hl]
  simp [tot]
theorem marksL_drop {α : Type} (mk : Nat → Int → List α) (st : Nat) : ∀ (ls : List Nat) (k n : Nat) (j : Int), ls.drop k = n :: ls.drop (k + 1) → (marksL mk st ls j)[k]? = some (mk n (j + st * tot (ls.take k)))
  | [], k, n, j, h => by simp at h
  | m :: r, 0, n, j, h => by
    simp at h
    subst h
    simp [marksL, tot]
  | m :: r, k + 1, n, j, h => by
    have h' : r.drop k = n :: r.drop (k + 1) := by simpa using h
    have := marksL_drop mk st r k n (j + st * m) h'
    rw [marksL, List.getElem?_cons_succ, this, List.take_succ_cons, tot]
    congr 2
    rw [Int.natCast_add, Int.mul_add]
    omega
theorem tot_le : ∀ (ls : List Nat) (b : Nat), (∀ x ∈ ls, x ≤ b) → tot ls ≤ ls.length * b
  | [], _, _ => by simp [tot]
  | n :: r, b, h => by
    have h1 := tot_le r b (fun x hx => h x (by simp [hx]))
    have h2 := h n (by simp)
    rw [tot, List.length_cons, Nat.add_mul]
    omega
theorem tot_take_le (ls : List Nat) (k : Nat) : tot (ls.take k) ≤ tot ls := by
  induction ls generalizing k with
  | nil => simp [tot]
  | cons n r ih =>
    cases k with
    | zero => simp [tot]
    | succ k => simp only [List.take_succ_cons, tot]; have := ih k; omega
end Go.Proofs.Ytibhikngiceeeaa
