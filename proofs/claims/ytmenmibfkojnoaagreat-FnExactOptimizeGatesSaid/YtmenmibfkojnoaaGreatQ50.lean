/- Slices of slices: what it is to read one, to own one; how appends and marks turn them. Nothing is asked. append onto a row of the call's own, with the fact where the new row lies; one inner row of a slice of slices grown. Nothing is asked. Contracts of isPhased, l33Moves and PhaseSections (impl and spec). At most 2^20 gates. -/
import Derived.Test.YtmenmibfkojnoaaGreatQ01
import Derived.Test.YtmenmibfkojnoaaGreatQ23
import Derived.Test.YtmenmibfkojnoaaGreatQ04
import Derived.Deep.RegionLaw
import Derived.Deep.RegionHeld3
set_option maxHeartbeats 16000000
namespace Go.Proofs.YtmenmibfkojnoaaGreat
open Go.RowKit
section
variable {α : Type} {cs : List α -> List Value} {w w' : World} {sz n : Nat} {A : Option Addr}
def RdSS (cs : List α -> List Value) (w : World) (sz : Nat) (A : Option Addr) (n : Nat) (l : List (List α)) : Prop :=
 l.length = n /\ ∃ vs : List Value, Rd w 1 A n vs /\ ∀ (j : Nat) (x : List α), l[j]? = some x -> ∃ B c, vs[j]? = some (Value.slice B x.length c) /\ x.length <= c /\ Rd w sz B x.length (cs x)
theorem RdSS.below {l : List (List α)} (h : RdSS cs w sz A n l) (hb : Below w.heap.size w w') : RdSS cs w' sz A n l := by
 obtain ⟨h1, vs, h2, h3⟩ := h
 refine ⟨h1, vs, h2.below hb, fun j x hx => ?_⟩
 obtain ⟨B, c, a1, a2, a3⟩ := h3 j x hx
 exact ⟨B, c, a1, a2, a3.below hb⟩
theorem RdSS.alloc {l : List (List α)} (h : RdSS cs w sz A n l) (o : Obj) : RdSS cs (w.alloc o) sz A n l := h.below ((zW).alloc zR _)
theorem RdSS.drew {l : List (List α)} (h : RdSS cs w sz A n l) : RdSS cs w.drew sz A n l := h
theorem RdSS.at_ {l : List (List α)} (h : RdSS cs w sz A n l) {k : Nat} (hk : k < n) : ∃ (b off : Nat) (x : List α) (B : Option Addr) (c : Nat), A = some ⟨b, off, none⟩ /\ b < w.heap.size /\ l.drop k = x :: l.drop (k + 1) ∧
  w.cell? ⟨b, off + k, none⟩ = some (Value.slice B x.length c) /\ x.length <= c /\ Rd w sz B x.length (cs x) := by
 obtain ⟨hl, vs, hr, hi⟩ := h
 obtain ⟨b, off, e, hb, hc⟩ := hr.2 (by omega)
 have hd := drop_cons (l := l) (k := k) (by omega)
 obtain ⟨B, c, a1, a2, a3⟩ := hi k l[k] (List.getElem?_eq_getElem (by omega))
 exact ⟨b, off, l[k], B, c, e, hb, hd, hc _ _ a1, a2, a3⟩
def OwnSS (cs : List α -> List Value) (w : World) (base : Nat) (eo ei sz : Nat) (v : Value) (l : List (List α)) : Prop :=
 ∃ vs : List Value, w.ownsRow base eo 1 v l.length vs ∧
  (∀ (j : Nat) (x : List α), l[j]? = some x -> ∃ B c, vs[j]? = some (Value.slice B x.length c) /\ w.ownsRow base ei sz (.slice B x.length c) x.length (cs x)) ∧
  (∀ (i j : Nat) (u u' : Value), i ≠ j -> vs[i]? = some u -> vs[j]? = some u' -> u.ownBlock = none ∨ u.ownBlock ≠ u'.ownBlock)
theorem OwnSS.rd {base eo ei c : Nat} {l : List (List α)} (h : OwnSS cs w base eo ei sz (.slice A n c) l) (hn : l.length = n) : RdSS cs w sz A n l := by
 obtain ⟨vs, h1, h2, h3⟩ := h
 subst hn
 refine ⟨rfl, vs, Rd.own h1, fun j x hx => ?_⟩
 obtain ⟨B, c, a1, a2⟩ := h2 j x hx
 exact ⟨B, c, a1, ownsRow_cap a2, Rd.own a2⟩
theorem OwnSS.below {base eo ei : Nat} {v : Value} {l : List (List α)} (h : OwnSS cs w base eo ei sz v l) (hb : Below w.heap.size w w') : OwnSS cs w' base eo ei sz v l := by
 obtain ⟨vs, h1, h2, h3⟩ := h
 refine ⟨vs, ownsRow_below h1 hb, fun j x hx => ?_, h3⟩
 obtain ⟨B, c, a1, a2⟩ := h2 j x hx
 exact ⟨B, c, a1, ownsRow_below a2 hb⟩
theorem OwnSS.alloc {base eo ei : Nat} {v : Value} {l : List (List α)} (h : OwnSS cs w base eo ei sz v l) (o : Obj) : OwnSS cs (w.alloc o) base eo ei sz v l := h.below ((zW).alloc zR _)
theorem OwnSS.drew {base eo ei : Nat} {v : Value} {l : List (List α)} (h : OwnSS cs w base eo ei sz v l) : OwnSS cs w.drew base eo ei sz v l := h
theorem OwnSS.base_ {base base' eo ei : Nat} {v : Value} {l : List (List α)} (h : OwnSS cs w base eo ei sz v l) (hb : base' <= base) : OwnSS cs w base' eo ei sz v l := by
 obtain ⟨vs, h1, h2, h3⟩ := h
 refine ⟨vs, ownsRow_base h1 hb, fun j x hx => ?_, h3⟩
 obtain ⟨B, c, a1, a2⟩ := h2 j x hx
 exact ⟨B, c, a1, ownsRow_base a2 hb⟩
theorem OwnSS.cap {base eo ei c : Nat} {l : List (List α)} (h : OwnSS cs w base eo ei sz (.slice A n c) l) (hn : l.length = n) : n <= c := by
 obtain ⟨vs, h1, _⟩ := h
 subst hn
 exact ownsRow_cap h1
theorem OwnSS.lit0 (w : World) {base : Nat} (hb : base <= w.heap.size) (eo ei sz : Nat) (cs : List α -> List Value) : OwnSS cs (w.alloc (.cells #[] eo)) base eo ei sz (.slice (some ⟨w.heap.size, 0, none⟩) 0 0) [] :=
 ⟨[], World.ownsRow_lit w #[] 0 hb (by simp [maxLen]) rfl, fun j x hx => by simp at hx, fun i j u u' _ hu => by simp at hu⟩
theorem own_lt {w : World} {base : Nat} {e : TypeId} {sz n : Nat} {v : Value} {xs : List Value} (h : w.ownsRow base e sz v n xs) {B : Nat} (hB : w.heap.size <= B) : ∀ k, v.ownBlock = some k -> k < B := fun k hk => by have := (h.lt k hk).2; omega
theorem OwnSS.app {base B eo ei : Nat} {v v'' : Value} {l l' : List (List α)} {vs' : List Value} {w0 w1 w2 : World} (hne : eo ≠ ei)
  (h : OwnSS cs w0 base eo ei sz v l) (hB : w0.heap.size <= B) (hb : base <= B) (h01 : Below w0.heap.size w0 w1)
  (h2 : ∀ (j : Nat) (x : List α), l'[j]? = some x -> ∃ D c, vs'[j]? = some (Value.slice D x.length c) /\ w1.ownsRow B ei sz (.slice D x.length c) x.length (cs x))
  (h3 : ∀ (i j : Nat) (u u' : Value), i ≠ j -> vs'[i]? = some u -> vs'[j]? = some u' -> u.ownBlock = none ∨ u.ownBlock ≠ u'.ownBlock)
  (hlen : vs'.length = l'.length)
  (hg : w1.grownBy w2 v.ownBlock)
  (ho : ∀ vs, w1.ownsRow base eo 1 v l.length vs -> w2.ownsRow base eo 1 v'' (l.length + l'.length) (vs ++ vs')) : OwnSS cs w2 base eo ei sz v'' (l ++ l') := by
 obtain ⟨vs, a1, a2, a3⟩ := h
 have b1 := ownsRow_below a1 h01
 have hlv : vs.length = l.length := by simpa using a1.1
 have key : ∀ (j : Nat) (x : List α) (D : Option Addr) (c : Nat), vs[j]? = some (Value.slice D x.length c) -> w0.ownsRow base ei sz (.slice D x.length c) x.length (cs x) -> w2.ownsRow base ei sz (.slice D x.length c) x.length (cs x) := fun j x D c _ ho' =>
  (ownsRow_below ho' h01).kept hg (by
   rcases (ownsRow_below ho' h01).2 with ⟨e1, _⟩ | ⟨g, cap, cur, e1, _, hh, _⟩
   ·rw [e1]; exact .inl rfl
   ·rcases b1.2 with ⟨e2, _⟩ | ⟨g', cap', cur', e2, _, hh', _⟩
    ·rw [e2, e1]; exact .inr (by simp [Value.ownBlock])
    ·rw [e2, e1]
     refine .inr fun he => ?_
     have : g = g' := by simpa [Value.ownBlock] using he
     subst this
     rw [hh] at hh'
     injection hh' with hh'
     injection hh' with _ ht
     exact hne ht.symm)
 have key' : ∀ (x : List α) (D : Option Addr) (c : Nat), w1.ownsRow B ei sz (.slice D x.length c) x.length (cs x) -> w2.ownsRow base ei sz (.slice D x.length c) x.length (cs x) := fun x D c ho' =>
  ownsRow_base (ho'.kept hg (by
   cases hv : (Value.slice D x.length c).ownBlock with
   |none => exact .inl rfl
   |some k =>
    refine .inr fun he => ?_
    have a := (ho'.lt k hv).1
    have b := (a1.lt k he.symm).2
    omega)) hb
 refine ⟨vs ++ vs', by rw [List.length_append]; exact ho vs b1, fun j x hx => ?_, fun i j u u' hij hu hu' => ?_⟩
 ·rcases Nat.lt_or_ge j l.length with hj | hj
  ·rw [List.getElem?_append_left hj] at hx
   obtain ⟨D, c, c1, c2⟩ := a2 j x hx
   exact ⟨D, c, by rw [List.getElem?_append_left (by omega)]; exact c1, key j x D c c1 c2⟩
  ·rw [List.getElem?_append_right hj] at hx
   obtain ⟨D, c, c1, c2⟩ := h2 _ x hx
   exact ⟨D, c, by rw [List.getElem?_append_right (by omega), hlv]; exact c1, key' x D c c2⟩
 ·have old : ∀ (i : Nat) (u : Value), i < l.length -> vs[i]? = some u -> ∀ k, u.ownBlock = some k -> k < B := fun i u hi hu k hk => by
   obtain ⟨D, c, c1, c2⟩ := a2 i l[i] (List.getElem?_eq_getElem hi)
   rw [hu] at c1
   injection c1 with c1
   subst c1
   exact own_lt c2 hB k hk
  have new : ∀ (i : Nat) (u : Value), vs'[i]? = some u -> ∀ k, u.ownBlock = some k -> B <= k := fun i u hu k hk => by
   have hi : i < l'.length := by
    have := (List.getElem?_eq_some_iff.1 hu).1
    omega
   obtain ⟨D, c, c1, c2⟩ := h2 i l'[i] (List.getElem?_eq_getElem hi)
   rw [hu] at c1
   injection c1 with c1
   subst c1
   exact (c2.lt k hk).1
  rcases Nat.lt_or_ge i l.length with hi | hi
  ·rw [List.getElem?_append_left (by omega)] at hu
   rcases Nat.lt_or_ge j l.length with hj | hj
   ·rw [List.getElem?_append_left (by omega)] at hu'
    exact a3 i j u u' hij hu hu'
   ·rw [List.getElem?_append_right (by omega)] at hu'
    cases h : u.ownBlock with
    |none => exact .inl rfl
    |some k =>
     refine .inr fun he => ?_
     have a := old i u hi hu k h
     have b := new _ u' hu' k he.symm
     omega
  ·rw [List.getElem?_append_right (by omega)] at hu
   rcases Nat.lt_or_ge j l.length with hj | hj
   ·rw [List.getElem?_append_left (by omega)] at hu'
    cases h : u.ownBlock with
    |none => exact .inl rfl
    |some k =>
     refine .inr fun he => ?_
     have a := new _ u hu k h
     have b := old j u' hj hu' k he.symm
     omega
   ·rw [List.getElem?_append_right (by omega)] at hu'
    exact h3 _ _ u u' (by omega) hu hu'
theorem OwnSS.turn {base eo ei : Nat} {v : Value} {l : List (List α)} {k : Nat} {y : List α} (hne : eo ≠ ei) (h : OwnSS cs w base eo ei sz v l) {x : List α} (hk : l[k]? = some x) (hy : y.length = x.length)
  {D : Option Addr} {c : Nat} (hat : ∀ vs, w.ownsRow base eo 1 v l.length vs -> vs[k]? = some (Value.slice D x.length c))
  (hg : w.grownBy w' (Value.slice D x.length c).ownBlock) (ho : w'.ownsRow base ei sz (.slice D x.length c) x.length (cs y)) : OwnSS cs w' base eo ei sz v (l.set k y) := by
 obtain ⟨vs, a1, a2, a3⟩ := h
 have hkv := hat vs a1
 refine ⟨vs, ?_, fun j z hz => ?_, a3⟩
 ·rw [List.length_set]
  refine a1.kept hg ?_
  obtain ⟨D', c', e1, e2⟩ := a2 k x hk
  rw [hkv] at e1
  injection e1 with e1
  rcases a1.2 with ⟨e3, _⟩ | ⟨g, cap, cur, e3, _, hh, _⟩
  ·rw [e3]; exact .inl rfl
  ·rw [<- e1] at e2
   rcases e2.2 with ⟨e4, _⟩ | ⟨g', cap', cur', e4, _, hh', _⟩
   ·rw [e3, e4]; exact .inr (by simp [Value.ownBlock])
   ·rw [e3, e4]
    refine .inr fun he => ?_
    have : g = g' := by simpa [Value.ownBlock] using he
    subst this
    rw [hh] at hh'
    injection hh' with hh'
    injection hh' with _ ht
    exact hne ht
 ·by_cases hjk : k = j
  ·subst hjk
   rw [List.getElem?_set_self (by have := (List.getElem?_eq_some_iff.1 hk).1; omega)] at hz
   injection hz with hz
   subst hz
   refine ⟨D, c, ?_, ?_⟩
   ·rw [hy]; exact hkv
   ·rw [hy]; exact ho
  ·rw [List.getElem?_set_ne hjk] at hz
   obtain ⟨D', c', e1, e2⟩ := a2 j z hz
   exact ⟨D', c', e1, e2.kept hg (a3 j k _ _ (fun e => hjk e.symm) e1 hkv)⟩
theorem OwnSS.at_ {base eo ei k : Nat} {v : Value} {l : List (List α)} (hne : eo ≠ ei) (h : OwnSS cs w base eo ei sz v l) (hk : k < l.length) : ∃ (g cap : Nat) (x : List α) (D : Option Addr) (c : Nat), v = .slice (some ⟨g, 0, none⟩) l.length cap /\ l.drop k = x :: l.drop (k + 1) ∧
  w.cell? ⟨g, k, none⟩ = some (Value.slice D x.length c) /\ w.frozen? ⟨g, k, none⟩ = false /\ w.ownsRow base ei sz (.slice D x.length c) x.length (cs x) ∧
  (∀ (w' : World) (y : List α), y.length = x.length -> w.grownBy w' (Value.slice D x.length c).ownBlock -> w'.ownsRow base ei sz (.slice D x.length c) x.length (cs y) -> OwnSS cs w' base eo ei sz v (l.set k y)) := by
 have h0 := h
 obtain ⟨vs, a1, a2, a3⟩ := h
 obtain ⟨D, c, e1, e2⟩ := a2 k l[k] (List.getElem?_eq_getElem hk)
 obtain ⟨g, cap, hv⟩ : ∃ g cap, v = .slice (some ⟨g, 0, none⟩) l.length cap := by
  rcases a1.2 with ⟨_, h0⟩ | ⟨g, cap, cur, hv, _⟩
  ·omega
  ·exact ⟨g, cap, hv⟩
 subst hv
 refine ⟨g, cap, l[k], D, c, rfl, drop_cons hk, (a1.cellAt k (by omega)).trans e1, a1.frozenAt k, e2, fun w' y hy hg ho => h0.turn hne (List.getElem?_eq_getElem hk) hy (fun vs' b1 => ?_) hg ho⟩
 rw [<- b1.cellAt k (by omega), a1.cellAt k (by omega), e1]
end
section
variable {P : Program} {w : World}
theorem run_app2 (base : Nat) (t ty e : TypeId) {z : Value} {size bytes : Nat} (ht : P.underlying t = some (.slice e)) (hinfo : (P.info? e).map (fun i => (i.zero, i.size, i.bytes)) = some (some z, size, bytes))
  (hzs : z.cells.size = size) (hsz : 0 < size) (A : Option Addr) (n c : Nat) (xs : List Value) (hown : w.ownsRow base e size (.slice A n c) n xs)
  (A' : Option Addr) (m c' : Nat) (news : List Value) (hr : Rd w size A' m news) (h1 : ∀ u ∈ news, u.oneCell' = true)
  (hbytes : (n + m) * bytes <= 140737488355328) (hby : 0 < bytes) (hbase : base <= w.heap.size) :
  ∃ A'' c'' w', (Builtin.append_ #[t, t] ty #[.slice A n c, .slice A' m c']).run P w = .ok (.slice A'' (n + m) c'') w' /\ w'.ownsRow base e size (.slice A'' (n + m) c'') (n + m) (xs ++ news) /\ w.grownBy w' (Value.slice A n c).ownBlock ∧
   ((Value.slice A'' (n + m) c'').ownBlock = (Value.slice A n c).ownBlock ∨ ∀ b, (Value.slice A'' (n + m) c'').ownBlock = some b -> w.heap.size <= b) := by
 obtain ⟨i, hi, hz, hs, hb⟩ := info_parts hinfo
 have h63 : n + m <= maxLen := by
  have h := Nat.le_trans (Nat.le_mul_of_pos_right (n + m) hby) hbytes
  simp only [maxLen]
  omega
 have key : ∃ v' w', (Builtin.append_ #[t, t] ty #[.slice A n c, .slice A' m c']).run P w = .ok v' w' /\ w'.ownsRow base e size v' (n + m) (xs ++ news) /\ w.grownBy w' (Value.slice A n c).ownBlock /\ (v'.ownBlock = (Value.slice A n c).ownBlock ∨ ∀ b, v'.ownBlock = some b -> w.heap.size <= b) := by
  rcases A' with _ | ad
  ·have hm : m = 0 := by
    rcases Nat.eq_zero_or_pos m with h0 | h0
    ·exact h0
    ·obtain ⟨b, off, h, _⟩ := hr.2 h0
     cases h
   subst hm
   have hn : news = [] := List.eq_nil_of_length_eq_zero (by simpa using hr.1)
   subst hn
   exact ⟨_, w, run_app_nil base t ty e i size ht hi _ n xs hown c', by simpa using hown, World.grownBy.refl w _, .inl rfl⟩
  ·have hcells : ∀ j u, news[j]? = some u -> w.cell? (ad.add j) = some u := by
    intro j u hu
    rcases Nat.eq_zero_or_pos m with h0 | h0
    ·subst h0
     have hn : news = [] := List.eq_nil_of_length_eq_zero (by simpa using hr.1)
     subst hn
     simp at hu
    ·obtain ⟨b, off, h, _, hc⟩ := hr.2 h0
     injection h with h
     subst h
     have := hc j u hu
     unfold Addr.add
     split
     ·subst j; simpa using this
     ·exact this
   obtain ⟨v', w', hrun, h2, h3, h4⟩ := run_append_own_at (P := P) w base t ty e i z size bytes ht hi hz hs hb hzs hsz _ n xs hown ad m c' news hr.1 hcells h1 h63 hbytes hbase
   refine ⟨v', w', hrun, h2, h3, ?_⟩
   have h5 : v'.ownBlock = (Value.slice A n c).ownBlock ∨ v'.ownBlock = some w.heap.size := by first | exact h4 | exact h4.1 | exact h4.2
   rcases h5 with h5 | h5
   ·exact .inl h5
   ·exact .inr fun b hb => by rw [h5] at hb; injection hb with hb; omega
 obtain ⟨v', w', hrun, h2, h3, h4⟩ := key
 obtain ⟨A'', c'', rfl⟩ := ownsRow_shape h2
 exact ⟨A'', c'', w', hrun, h2, h3, h4⟩
theorem step_app2 {ops : Array Oper} {o : Oper} {a : Act} {K : Act -> World -> Prop} {Q : Exit -> Act -> World -> Prop} {E : Prop} (hgd : o.guard = none) (s x : Operand) (t : TypeId)
  (ho : o.op = .call { callee := .builtin .append, args := #[s, x], argTypes := #[t, t] })
  {base e : Nat} {z : Value} {size bytes : Nat} (ht : P.underlying t = some (.slice e)) (hinfo : (P.info? e).map (fun i => (i.zero, i.size, i.bytes)) = some (some z, size, bytes))
  (hzs : z.cells.size = size) (hsz : 0 < size) {A : Option Addr} {n c : Nat} {xs : List Value} (hs : a.eval s = .slice A n c) (hown : w.ownsRow base e size (.slice A n c) n xs)
  {A' : Option Addr} {m c' : Nat} {news : List Value} (hx : a.eval x = .slice A' m c') (hr : Rd w size A' m news) (h1 : ∀ u ∈ news, u.oneCell' = true)
  (hbytes : (n + m) * bytes <= 140737488355328) (hby : 0 < bytes) (hbase : base <= w.heap.size)
  (h : ∀ A'' c'' w', w'.ownsRow base e size (.slice A'' (n + m) c'') (n + m) (xs ++ news) -> w.grownBy w' (Value.slice A n c).ownBlock -> ((Value.slice A'' (n + m) c'').ownBlock = (Value.slice A n c).ownBlock ∨ ∀ b, (Value.slice A'' (n + m) c'').ownBlock = some b -> w.heap.size <= b) -> K (a.put o.dst (.slice A'' (n + m) c'')) w') :
  if Region.wanted o (yielded ops a.tmps) = true then Oper.wp P o a w K Q else E := by
 have hw : Region.wanted o (yielded ops a.tmps) = true := by simp [Region.wanted, hgd]
 rw [if_pos hw]
 obtain ⟨A'', c'', w', hrun, h2, h3, h4⟩ := run_app2 (P := P) base t o.type e ht hinfo hzs hsz A n c xs hown A' m c' news hr h1 hbytes hby hbase
 unfold Oper.wp execOp
 simp only [ho, resolve, invoke, builtin, Sem.run_bind, Sem.run_pure, Result.andThen_ok, List.map_toArray, List.map_cons, List.map_nil, hs, hx, hrun]
 exact h A'' c'' w' h2 h3 h4
end
section
variable {α : Type} {cs : List α -> List Value} {w w1 : World} {sz : Nat}
theorem OwnSS.ext {base eo ei k go n cap c c' : Nat} {l : List (List α)} {x y : List α} {D D' : Option Addr} (hne : eo ≠ ei) (h : OwnSS cs w base eo ei sz (.slice (some ⟨go, 0, none⟩) n cap) l) (hk : l[k]? = some x)
  (hcell : w.cell? ⟨go, k, none⟩ = some (.slice D x.length c)) (hg : w.grownBy w1 (Value.slice D x.length c).ownBlock)
  (ho : w1.ownsRow base ei sz (.slice D' y.length c') y.length (cs y)) (hb : (Value.slice D' y.length c').ownBlock = (Value.slice D x.length c).ownBlock ∨ ∀ b, (Value.slice D' y.length c').ownBlock = some b -> w.heap.size <= b) :
  OwnSS cs (w1.setCell ⟨go, k, none⟩ (.slice D' y.length c')) base eo ei sz (.slice (some ⟨go, 0, none⟩) n cap) (l.set k y) := by
 obtain ⟨vs, a1, a2, a3⟩ := h
 have hkl : k < l.length := (List.getElem?_eq_some_iff.1 hk).1
 have hln : l.length = n := by
  obtain ⟨A, c, e⟩ := ownsRow_shape a1
  injection e with _ e _
  exact e.symm
 subst hln
 have hvl : vs.length = l.length := by simpa using a1.1
 have hvk : vs[k]? = some (.slice D x.length c) := by rw [<- a1.cellAt k (by omega)]; exact hcell
 obtain ⟨D0, c0, e1, e2⟩ := a2 k x hk
 rw [hvk] at e1
 injection e1 with e1
 injection e1 with e3 _ e4
 subst e3 e4
 have b1 := a1.kept hg (own_types a1 e2 hne)
 have s1 := b1.stored k (.slice D' y.length c')
 have gset : w1.grownBy (w1.setCell ⟨go, k, none⟩ (.slice D' y.length c')) (some go) := s1.2
 have keep : ∀ (v : Value) (n' : Nat) (xs : List Value), w1.ownsRow base ei sz v n' xs -> (w1.setCell ⟨go, k, none⟩ (.slice D' y.length c')).ownsRow base ei sz v n' xs := fun v n' xs hv => by
  refine hv.kept gset ?_
  rcases own_types hv b1 (fun e => hne e.symm) with h0 | h0
  ·exact .inl h0
  ·exact .inr h0
 have hnew : (vs.set k (.slice D' y.length c'))[k]? = some (.slice D' y.length c') := List.getElem?_set_self (by omega)
 have old : ∀ (j : Nat) (u : Value), vs[j]? = some u -> ∀ b, u.ownBlock = some b -> b < w.heap.size := fun j u hu b hb' => by
  have hj : j < l.length := by have := (List.getElem?_eq_some_iff.1 hu).1; omega
  obtain ⟨B, cc, f1, f2⟩ := a2 j l[j] (List.getElem?_eq_getElem hj)
  rw [hu] at f1
  injection f1 with f1
  subst f1
  exact (f2.lt b hb').2
 refine ⟨vs.set k (.slice D' y.length c'), by rw [List.length_set]; exact s1.1, fun j z hz => ?_, fun i j u u' hij hu hu' => ?_⟩
 ·by_cases hjk : k = j
  ·subst hjk
   rw [List.getElem?_set_self hkl] at hz
   injection hz with hz
   subst hz
   exact ⟨D', c', hnew, keep _ _ _ ho⟩
  ·rw [List.getElem?_set_ne hjk] at hz ⊢
   obtain ⟨B, cc, f1, f2⟩ := a2 j z hz
   exact ⟨B, cc, f1, keep _ _ _ (f2.kept hg (a3 j k _ _ (fun e => hjk e.symm) f1 hvk))⟩
 ·by_cases hik : k = i
  ·subst hik
   rw [hnew] at hu
   injection hu with hu
   subst hu
   rw [List.getElem?_set_ne hij] at hu'
   rcases hb with hb | hb
   ·rw [hb]; exact a3 k j _ _ hij hvk hu'
   ·cases hq : (Value.slice D' y.length c').ownBlock with
    |none => exact .inl rfl
    |some b =>
     refine .inr fun he => ?_
     have h1 := hb b hq
     have h2 := old j u' hu' b he.symm
     omega
  ·rw [List.getElem?_set_ne hik] at hu
   by_cases hjk : k = j
   ·subst hjk
    rw [hnew] at hu'
    injection hu' with hu'
    subst hu'
    rcases hb with hb | hb
    ·rw [hb]; exact a3 i k _ _ hij hu hvk
    ·cases hq : u.ownBlock with
     |none => exact .inl rfl
     |some b =>
      refine .inr fun he => ?_
      have h1 := hb b he.symm
      have h2 := old i u hu b hq
      omega
   ·rw [List.getElem?_set_ne hjk] at hu'
    exact a3 i j u u' hij hu hu'
end
def ph (k : Int) : Bool := k == 1 || (k == 9 || (k == 11 || (units k != 0)))
def addLast (acc : List (List Gt)) (g : Gt) : List (List Gt) := acc.set (acc.length - 1) (acc.getD (acc.length - 1) [] ++ [g])
def secL : Bool -> List (List Gt) -> List Gt -> List (List Gt)
 |_, acc, [] => acc
 |o, acc, g :: r => if (o && ph g.k) = true then secL (ph g.k) (addLast acc g) r else secL (ph g.k) (acc ++ [[g]]) r
def secs (gs : List Gt) : List (List Gt) := secL false [] gs
theorem secL_add {o : Bool} {acc : List (List Gt)} {g : Gt} {r : List Gt} (h1 : o = true) (h2 : ph g.k = true) : secL o acc (g :: r) = secL true (addLast acc g) r := by rw [secL, h1, h2]; rfl
theorem secL_new {o : Bool} {acc : List (List Gt)} {g : Gt} {r : List Gt} (h : o = false ∨ ph g.k = false) : secL o acc (g :: r) = secL (ph g.k) (acc ++ [[g]]) r := by
 rw [secL, if_neg]
 rcases h with h | h <;> rw [h] <;> simp
def RetGG (l : List (List Gt)) (w : World) (e : Ending) (w' : World) : Prop :=
 ∃ A c, e = .returned (.slice A l.length c) /\ OwnSS cellsG w' w.heap.size 24 39 4 (.slice A l.length c) l /\ Below w.heap.size w w'
theorem infoGateS : (Tryz.prog.info? 24).map (fun i => (i.zero, i.size, i.bytes)) = some (some (.slice none 0 0), 1, 24) := by kernel_rfl
theorem unitsZ (k : Int) : (units k != 0) = decide (0 < units k) := by
 have := units_bd k
 by_cases h : units k = 0
 ·rw [h]; rfl
 ·have : 0 < units k := by omega
  simp [h, this]
theorem totG_add {acc : List (List Gt)} (g : Gt) (h : 0 < acc.length) : (addLast acc g).length = acc.length /\ ∀ b, (∀ x ∈ acc, x.length <= b) -> ∀ x ∈ addLast acc g, x.length <= b + 1 := by
 refine ⟨by simp [addLast], fun b hb x hx => ?_⟩
 unfold addLast at hx
 rcases List.mem_or_eq_of_mem_set hx with h1 | h1
 ·have := hb x h1; omega
 ·rw [h1, List.length_append, List.length_singleton]
  rw [List.getD_eq_getElem?_getD, List.getElem?_eq_getElem (by omega), Option.getD_some]
  have := hb _ (List.getElem_mem (by omega : acc.length - 1 < acc.length))
  omega
theorem own_uniqG {w : World} {b1 b2 : Nat} {e : TypeId} {sz n : Nat} {v : Value} {xs ys : List Value} (h1 : w.ownsRow b1 e sz v n xs) (h2 : w.ownsRow b2 e sz v n ys) : xs = ys := by
 have l1 := h1.1
 have l2 := h2.1
 rcases h1.2 with ⟨rfl, rfl⟩ | ⟨g, cap, cur, rfl, _, hh, _, _, _, ht⟩
 ·rw [List.eq_nil_of_length_eq_zero (by omega : xs.length = 0), List.eq_nil_of_length_eq_zero (by omega : ys.length = 0)]
 ·rcases h2.2 with ⟨h3, _⟩ | ⟨g', cap', cur', h3, _, hh', _, _, _, ht'⟩
  ·simp at h3
  ·simp only [Value.slice.injEq, Option.some.injEq, Addr.mk.injEq, and_true, true_and] at h3
   obtain ⟨rfl, rfl⟩ := h3
   rw [hh] at hh'
   injection hh' with hh'
   injection hh' with hc _
   subst hc
   rw [<- ht, <- ht']
theorem i_isPhased (k a b c : Int) (w : World) : Calls Tryz.prog 76 #[.agg #[.int .i64 k, .int .i64 a, .int .i64 b, .int .i64 c]] w fun e w' => e = .returned (.bool (ph k)) /\ Below w.heap.size w w' := by
 by_cases h1 : k = 1
 ·subst h1
  go_enter Tryz.func76, Tryz.ntmps76
  go_wp2_with fail
  go_ret
  exact ⟨rfl, (zW).alloc zR _⟩
 ·have e1 : (k == 1) = false := by simpa using h1
  by_cases h2 : k = 9
  ·subst h2
   go_enter Tryz.func76, Tryz.ntmps76
   go_wp2_with fail
   go_ret
   exact ⟨rfl, (zW).alloc zR _⟩
  ·have e2 : (k == 9) = false := by simpa using h2
   by_cases h3 : k = 11
   ·subst h3
    go_enter Tryz.func76, Tryz.ntmps76
    go_wp2_with fail
    go_ret
    exact ⟨rfl, (zW).alloc zR _⟩
   ·have e3 : (k == 11) = false := by simpa using h3
    have HP : Hid (ph k = (units k != 0)) := zH (by unfold ph; rw [e1, e2, e3]; rfl)
    clear h1 h2 h3
    go_enter Tryz.func76, Tryz.ntmps76
    go_wp2_with fail
    refine (i_RotationUnits _ _).mono ?_
    rintro e w1 ⟨rfl, rfl⟩
    go_wp2_with fail
    go_ret
    exact ⟨ret_bool (by rw [HP.out]), (zW).alloc zR _⟩
theorem s_l33Moves (k a b c : Int) (w : World) : Calls Tryz.prog 98 #[.agg #[.int .i64 k, .int .i64 a, .int .i64 b, .int .i64 c]] w fun e w' => e = .returned (.bool (ph k)) /\ Below w.heap.size w w' := by
 by_cases h1 : k = 1
 ·subst h1
  go_enter Tryz.func98, Tryz.ntmps98
  go_wp2_with fail
  go_ret
  exact ⟨rfl, (zW).alloc zR _⟩
 ·have e1 : (k == 1) = false := by simpa using h1
  by_cases h2 : k = 9
  ·subst h2
   go_enter Tryz.func98, Tryz.ntmps98
   go_wp2_with fail
   go_ret
   exact ⟨rfl, (zW).alloc zR _⟩
  ·have e2 : (k == 9) = false := by simpa using h2
   by_cases h3 : k = 11
   ·subst h3
    go_enter Tryz.func98, Tryz.ntmps98
    go_wp2_with fail
    go_ret
    exact ⟨rfl, (zW).alloc zR _⟩
   ·have e3 : (k == 11) = false := by simpa using h3
    have HP : Hid (ph k = (units k != 0)) := zH (by unfold ph; rw [e1, e2, e3]; rfl)
    clear h1 h2 h3
    go_enter Tryz.func98, Tryz.ntmps98
    go_wp2_with fail
    refine (s_RotationUnits _ _).mono ?_
    rintro e w1 ⟨rfl, rfl⟩
    go_wp2_with fail
    go_ret
    exact ⟨ret_bool (by rw [HP.out]; first | exact (unitsZ k).symm | simp [unitsZ]), (zW).alloc zR _⟩
set_option maxRecDepth 100000 in
theorem i_PhaseSections (A : Option Addr) (n cap : Nat) (gs : List Gt) (w : World) (h : RdG w A n gs) (hn : n <= 1073741824) : Calls Tryz.prog 41 #[.slice A n cap] w (RetGG (secs gs) w) := by
 have H := zH h
 clear h
 obtain ⟨R, hR⟩ : ∃ R, secs gs = R := ⟨_, rfl⟩
 have HR : Hid (secL false [] gs = R) := zH hR
 rw [hR]
 clear hR
 go_enter Tryz.func41, Tryz.ntmps41
 go_wp2_with fail
 go_loopg [3, 9] n (fun r v i wr => ∃ (k : Nat) (o : Bool) (l : List (List Gt)) (A0 : Option Addr) (q c0 : Nat), k + r = n /\ i = .int .i64 k /\ v = .slice A0 q c0 /\ l.length = q /\ q <= k /\ (0 < k -> 0 < q) /\ (o = true -> 0 < k) /\ (0 < k -> ∀ g', gs[k - 1]? = some g' -> o = ph g'.k) /\ (∀ x ∈ l, x.length <= k) /\ secL o l (gs.drop k) = R /\ OwnSS cellsG wr w.heap.size 24 39 4 (.slice A0 q c0) l /\ Below w.heap.size w wr)
 case atStart => exact ⟨0, false, [], _, 0, 0, by omega, rfl, rfl, rfl, by omega, (fun h => absurd h (by omega)), (fun h => by cases h), (fun h => absurd h (by omega)), (fun x hx => by simp at hx), HR.out, OwnSS.lit0 w zR _ _ _ _, (zW).alloc zR _⟩
 case round =>
  clear HR
  obtain ⟨k, o, l, A0, q, c0, hk, rfl, rfl, hl, hqk, hq0, ho0, hop, hrow, hq, ow, hb⟩ := hrel
  have HL := zH hl
  have HO0 := zH ho0
  have HOP := zH hop
  have HROW := zH hrow
  have HQ := zH hq
  have OW := zH ow
  have HQ0 := zH hq0
  clear hl ho0 hop hrow hq ow hq0
  have hs0 := hb.size
  by_cases hlt : k < n
  ·obtain ⟨bg, fg, g, hA, hBg, hd, q0, q1, q2, q3⟩ := (H.out.below hb).at_ hlt
   subst hA
   have HD := zH hd
   clear hd
   have HGK : Hid (gs[k]? = some g) := zH (by have := congrArg (fun r => r[0]?) HD.out; simpa using this)
   have B0 := zH (show Below w.heap.size w (wr.alloc (.cells #[.int .i64 g.k, .int .i64 g.a, .int .i64 g.b, .int .i64 g.c] 39)) from hb.alloc hs0 _)
   have X0 := zH (Bx.new wr 39 #[.int .i64 g.k, .int .i64 g.a, .int .i64 g.b, .int .i64 g.c])
   have O0 := zH (OW.out.alloc (.cells #[.int .i64 g.k, .int .i64 g.a, .int .i64 g.b, .int .i64 g.c] 39))
   have hkI : (k : Int) < (n : Int) := by omega
   have NEW : Hid (∀ (wx w5 : World) (A5 : Option Addr) (c5 : Nat) (vs0 : List Value), OwnSS cellsG wx w.heap.size 24 39 4 (.slice A0 q c0) l -> wx.ownsRow w.heap.size 24 1 (.slice A0 q c0) q vs0 -> Below w.heap.size w wx -> w5.ownsRow w.heap.size 24 1 (.slice A5 (q + 1) c5) (q + 1) (vs0 ++ [.slice (some ⟨wx.heap.size, 0, none⟩) 1 1]) -> ((wx.alloc (.cells #[.int .i64 g.k, .int .i64 g.a, .int .i64 g.b, .int .i64 g.c] 39)).alloc (.cells #[.slice (some ⟨wx.heap.size, 0, none⟩) 1 1] 24)).grownBy w5 (Value.slice A0 q c0).ownBlock -> (o = false ∨ ph g.k = false) -> (∃ (k' : Nat) (o' : Bool) (l' : List (List Gt)) (A0' : Option Addr) (q' c0' : Nat), k' = k + 1 /\ o' = ph g.k /\ q' = q + 1 /\ A0' = A5 /\ c0' = c5 /\ l'.length = q' /\ q' <= k' /\ (0 < k' -> 0 < q') /\ (o' = true -> 0 < k') /\ (0 < k' -> ∀ g', gs[k' - 1]? = some g' -> o' = ph g'.k) /\ (∀ x ∈ l', x.length <= k') /\ secL o' l' (gs.drop k') = R /\ OwnSS cellsG w5 w.heap.size 24 39 4 (.slice A0' q' c0') l' /\ Below w.heap.size w w5)) := zH (by
    intro wx w5 A5 c5 vs0 hO hD hB h5 g5 hcnd
    have hsx := hB.size
    have hne : (24 : Nat) ≠ 39 := by decide
    have b1 : Below wx.heap.size wx ((wx.alloc (.cells #[.int .i64 g.k, .int .i64 g.a, .int .i64 g.b, .int .i64 g.c] 39)).alloc (.cells #[.slice (some ⟨wx.heap.size, 0, none⟩) 1 1] 24)) := ((zW).alloc zR _).alloc (by simp) _
    refine ⟨k + 1, ph g.k, l ++ [[g]], A5, q + 1, c5, rfl, rfl, rfl, rfl, rfl, by rw [List.length_append, HL.out]; rfl, by omega, fun _ => by omega, fun _ => by omega, fun _ g' hg' => ?_, fun x hx => ?_, ?_, ?_, ?_⟩
    ·rw [show k + 1 - 1 = k from by omega, HGK.out] at hg'
     injection hg' with hg'
     rw [hg']
    ·rcases List.mem_append.1 hx with hx | hx
     ·have := HROW.out x hx; omega
     ·simp at hx; subst hx; simp
    ·rw [<- HQ.out, HD.out, secL_new hcnd]
    ·have hap := OwnSS.app (cs := cellsG) (B := wx.heap.size) (w0 := wx) (w1 := (wx.alloc (.cells #[.int .i64 g.k, .int .i64 g.a, .int .i64 g.b, .int .i64 g.c] 39)).alloc (.cells #[.slice (some ⟨wx.heap.size, 0, none⟩) 1 1] 24)) (w2 := w5) (l := l) (l' := [[g]]) (vs' := [.slice (some ⟨wx.heap.size, 0, none⟩) 1 1]) (v'' := .slice A5 (q + 1) c5) hne hO zR hsx b1
      (fun j x hj => by
       have h0 : j = 0 := by have := (List.getElem?_eq_some_iff.1 hj).1; simp at this; omega
       subst h0
       simp at hj
       subst hj
       exact ⟨_, 1, rfl, (World.ownsRow_lit (e := 39) (size := 4) wx #[.int .i64 g.k, .int .i64 g.a, .int .i64 g.b, .int .i64 g.c] 1 zR (by simp [maxLen]) rfl).alloc _⟩)
      (fun i j u u' hij hu hu' => by
       have h1 := (List.getElem?_eq_some_iff.1 hu).1
       have h2 := (List.getElem?_eq_some_iff.1 hu').1
       simp at h1 h2
       omega)
      rfl g5 (fun vs hv => by rw [HL.out] at hv ⊢; rw [own_uniqG hv ((hD.alloc _).alloc _)]; exact h5)
     exact hap
    ·exact below_grown ((hB.alloc hsx _).alloc (by simp <;> omega) _) (by simp <;> omega) ((hD.alloc _).alloc _) zR g5)
   have EXT : Hid (∀ (wx w5 : World) (go : Nat) (x : List Gt) (D D' : Option Addr) (c c' : Nat), A0 = some ⟨go, 0, none⟩ -> OwnSS cellsG wx w.heap.size 24 39 4 (.slice A0 q c0) l -> l[q - 1]? = some x -> wx.cell? ⟨go, q - 1, none⟩ = some (.slice D x.length c) -> wx.ownsRow w.heap.size 39 4 (.slice D x.length c) x.length (cellsG x) -> Below w.heap.size w wx -> w5.ownsRow w.heap.size 39 4 (.slice D' (x.length + 1) c') (x.length + 1) (cellsG x ++ g.cells) -> wx.grownBy w5 (Value.slice D x.length c).ownBlock -> ((Value.slice D' (x.length + 1) c').ownBlock = (Value.slice D x.length c).ownBlock ∨ ∀ b, (Value.slice D' (x.length + 1) c').ownBlock = some b -> wx.heap.size <= b) -> o = true -> ph g.k = true -> (∃ (k' : Nat) (o' : Bool) (l' : List (List Gt)), k' = k + 1 /\ o' = true /\ l'.length = q /\ q <= k' /\ (0 < k' -> 0 < q) /\ (o' = true -> 0 < k') /\ (0 < k' -> ∀ g', gs[k' - 1]? = some g' -> o' = ph g'.k) /\ (∀ x ∈ l', x.length <= k') /\ secL o' l' (gs.drop k') = R /\ OwnSS cellsG (w5.setCell ⟨go, q - 1, none⟩ (.slice D' (x.length + 1) c')) w.heap.size 24 39 4 (.slice A0 q c0) l' /\ Below w.heap.size w (w5.setCell ⟨go, q - 1, none⟩ (.slice D' (x.length + 1) c')))) := zH (by
    intro wx w5 go x D D' c c' hA0 hO hx hcell hown hB h5 g5 hbb ho hph
    subst hA0
    have hq0 : 0 < q := HQ0.out (HO0.out ho)
    have hadd : addLast l g = l.set (q - 1) (x ++ [g]) := by unfold addLast; rw [HL.out, List.getD_eq_getElem?_getD, hx, Option.getD_some]
    obtain ⟨t1, t2⟩ := totG_add (acc := l) g (by rw [HL.out]; exact hq0)
    have hxl : (x ++ [g]).length = x.length + 1 := by simp
    have hext := OwnSS.ext (cs := cellsG) (w1 := w5) (c' := c') (D' := D') (y := x ++ [g]) (by decide) hO hx hcell g5 (by rw [hxl, cellsG_append]; exact h5) (by rw [hxl]; exact hbb)
    rw [hxl, <- hadd] at hext
    obtain ⟨vs, a1, _⟩ := hO
    refine ⟨k + 1, true, addLast l g, rfl, rfl, by rw [t1, HL.out], by omega, fun _ => hq0, fun _ => by omega, fun _ g' hg' => ?_, fun y hy => ?_, ?_, hext, ?_⟩
    ·rw [show k + 1 - 1 = k from by omega, HGK.out] at hg'
     injection hg' with hg'
     rw [<- hg', hph]
    ·have := t2 k HROW.out y hy
     omega
    ·rw [<- HQ.out, HD.out, secL_add ho hph]
    ·exact (below_grown hB hB.size hown zR g5).setCell (a1.lt go rfl).1 _)
   by_cases hk0 : k = 0
   ·have ho : o = false := by cases o with | false => rfl | true => exact absurd (HO0.out rfl) (by omega)
    have hkf : ¬ (0 < k) := by omega
    have hkg : ¬ ((0 : Int) < (k : Int)) := by omega
    clear hk0
    obtain ⟨x0, x1, x2, x3, _, _, _, _⟩ := X0.out.four
    obtain ⟨vs0, d1, d2, d3⟩ := O0.out
    rw [HL.out] at d1
    have D1 := zH d1
    clear d1 d2 d3
    have hsx := B0.out.size
    have DA := zH ((D1.out.alloc (.cells #[.int .i64 g.k, .int .i64 g.a, .int .i64 g.b, .int .i64 g.c] 39)).alloc (.cells #[.slice (some ⟨wr.heap.size + 1, 0, none⟩) 1 1] 24))
    have RA := zH (show Rd (((wr.alloc (.cells #[.int .i64 g.k, .int .i64 g.a, .int .i64 g.b, .int .i64 g.c] 39)).alloc (.cells #[.int .i64 g.k, .int .i64 g.a, .int .i64 g.b, .int .i64 g.c] 39)).alloc (.cells #[.slice (some ⟨wr.heap.size + 1, 0, none⟩) 1 1] 24)) 1 (some ⟨wr.heap.size + 1 + 1, 0, none⟩) 1 [.slice (some ⟨wr.heap.size + 1, 0, none⟩) 1 1] from by have := Rd.lit ((wr.alloc (.cells #[.int .i64 g.k, .int .i64 g.a, .int .i64 g.b, .int .i64 g.c] 39)).alloc (.cells #[.int .i64 g.k, .int .i64 g.a, .int .i64 g.b, .int .i64 g.c] 39)) 24 #[.slice (some ⟨wr.heap.size + 1, 0, none⟩) 1 1] 1 1 rfl; rw [World.size_alloc, World.size_alloc] at this; exact this)
    go_wp2_with (at_builtin; refine wpList_app rfl (.tmp 42) (.tmp 45) 42 rfl Tryz.underlying42 infoGateS rfl (by decide) rfl DA.out rfl RA.out (by simp [Value.oneCell']) (by omega) (by decide) (by simp <;> omega) ?_; intro A5 c5 w5 o5 g5)
    have NW := NEW.out (wr.alloc (.cells #[.int .i64 g.k, .int .i64 g.a, .int .i64 g.b, .int .i64 g.c] 39)) w5 A5 c5 vs0 O0.out D1.out B0.out
    simp only [World.size_alloc] at NW
    obtain ⟨k', o', l', A0', q', c0', rfl, rfl, rfl, rfl, rfl, f1, f2, f3, f4, f5, f6, f7, f8, f9⟩ := NW o5 g5 (.inl ho)
    go_roundg (gk - 1)
    case measure => omega
    case rel => exact ⟨k + 1, ph g.k, l', A0', q + 1, c0', by omega, by go_num, rfl, f1, f2, f3, f4, f5, f6, f7, f8, f9⟩
   ·have hk1 : (0 : Int) < (k : Int) := by omega
    have hk2 : 0 < k := by omega
    go_wp2_with fail
    refine (i_isPhased _ _ _ _ _).mono ?_
    rintro e w1 ⟨rfl, b1⟩
    have X1 := zH (X0.out.below b1)
    have O1 := zH (O0.out.below b1)
    have B1 := zH (below_trans B0.out b1)
    clear b1 q0 q1 q2 q3
    cases hph : ph g.k
    ·have HPH := zH hph
     clear hph
     obtain ⟨x0, x1, x2, x3, _, _, _, _⟩ := X1.out.four
     obtain ⟨vs0, d1, d2, d3⟩ := O1.out
     rw [HL.out] at d1
     have D1 := zH d1
     clear d1 d2 d3
     have hsx := B1.out.size
     have DA := zH ((D1.out.alloc (.cells #[.int .i64 g.k, .int .i64 g.a, .int .i64 g.b, .int .i64 g.c] 39)).alloc (.cells #[.slice (some ⟨w1.heap.size, 0, none⟩) 1 1] 24))
     have RA := zH (show Rd (((w1).alloc (.cells #[.int .i64 g.k, .int .i64 g.a, .int .i64 g.b, .int .i64 g.c] 39)).alloc (.cells #[.slice (some ⟨w1.heap.size, 0, none⟩) 1 1] 24)) 1 (some ⟨w1.heap.size + 1, 0, none⟩) 1 [.slice (some ⟨w1.heap.size, 0, none⟩) 1 1] from by have := Rd.lit ((w1).alloc (.cells #[.int .i64 g.k, .int .i64 g.a, .int .i64 g.b, .int .i64 g.c] 39)) 24 #[.slice (some ⟨w1.heap.size, 0, none⟩) 1 1] 1 1 rfl; rw [World.size_alloc] at this; exact this)
     go_wp2_with (at_builtin; refine wpList_app rfl (.tmp 42) (.tmp 45) 42 rfl Tryz.underlying42 infoGateS rfl (by decide) rfl DA.out rfl RA.out (by simp [Value.oneCell']) (by omega) (by decide) (by simp <;> omega) ?_; intro A5 c5 w5 o5 g5)
     have NW := NEW.out (w1) w5 A5 c5 vs0 O1.out D1.out B1.out
     obtain ⟨k', o', l', A0', q', c0', rfl, rfl, rfl, rfl, rfl, f1, f2, f3, f4, f5, f6, f7, f8, f9⟩ := NW o5 g5 (.inr HPH.out)
     go_roundg (gk - 1)
     case measure => omega
     case rel => exact ⟨k + 1, ph g.k, l', A0', q + 1, c0', by omega, by go_num, rfl, f1, f2, f3, f4, f5, f6, f7, f8, f9⟩
    ·have HPH := zH hph
     clear hph
     obtain ⟨kp, hkp⟩ : ∃ kp, k = kp + 1 := ⟨k - 1, by omega⟩
     obtain ⟨bp, fp, g', hA', hBp, hd', r0, r1, r2, r3⟩ := (H.out.below B1.out).at_ (show kp < n by omega)
     injection hA' with hA'
     injection hA' with e1 e2 _
     subst e1 e2
     have hoo := HOP.out hk2 g' (by rw [hkp]; have := congrArg (fun r => r[0]?) hd'; simpa using this)
     have HOO := zH hoo
     have hkk : (k : Int) - 1 = (kp : Int) := by omega
     have hkpn : (kp : Int) < (n : Int) := by omega
     have HKP := zH hkp
     clear hoo hd' hkp
     go_wp2_with fail
     refine (i_isPhased _ _ _ _ _).mono ?_
     rintro e w2 ⟨rfl, b2⟩
     have X2 := zH (X1.out.below b2)
     have O2 := zH (O1.out.below b2)
     have B2 := zH (below_trans B1.out b2)
     clear b2 r0 r1 r2 r3 X1 O1 B1 hkk
     cases hph2 : ph g'.k
     ·have HO := zH (HOO.out.trans hph2)
      clear hph2
      obtain ⟨x0, x1, x2, x3, _, _, _, _⟩ := X2.out.four
      obtain ⟨vs0, d1, d2, d3⟩ := O2.out
      rw [HL.out] at d1
      have D1 := zH d1
      clear d1 d2 d3
      have hsx := B2.out.size
      have DA := zH ((D1.out.alloc (.cells #[.int .i64 g.k, .int .i64 g.a, .int .i64 g.b, .int .i64 g.c] 39)).alloc (.cells #[.slice (some ⟨w2.heap.size, 0, none⟩) 1 1] 24))
      have RA := zH (show Rd (((w2).alloc (.cells #[.int .i64 g.k, .int .i64 g.a, .int .i64 g.b, .int .i64 g.c] 39)).alloc (.cells #[.slice (some ⟨w2.heap.size, 0, none⟩) 1 1] 24)) 1 (some ⟨w2.heap.size + 1, 0, none⟩) 1 [.slice (some ⟨w2.heap.size, 0, none⟩) 1 1] from by have := Rd.lit ((w2).alloc (.cells #[.int .i64 g.k, .int .i64 g.a, .int .i64 g.b, .int .i64 g.c] 39)) 24 #[.slice (some ⟨w2.heap.size, 0, none⟩) 1 1] 1 1 rfl; rw [World.size_alloc] at this; exact this)
      go_wp2_with (at_builtin; refine wpList_app rfl (.tmp 42) (.tmp 45) 42 rfl Tryz.underlying42 infoGateS rfl (by decide) rfl DA.out rfl RA.out (by simp [Value.oneCell']) (by omega) (by decide) (by simp <;> omega) ?_; intro A5 c5 w5 o5 g5)
      have NW := NEW.out (w2) w5 A5 c5 vs0 O2.out D1.out B2.out
      obtain ⟨k', o', l', A0', q', c0', rfl, rfl, rfl, rfl, rfl, f1, f2, f3, f4, f5, f6, f7, f8, f9⟩ := NW o5 g5 (.inl HO.out)
      go_roundg (gk - 1)
      case measure => omega
      case rel => exact ⟨k + 1, ph g.k, l', A0', q + 1, c0', by omega, by go_num, rfl, f1, f2, f3, f4, f5, f6, f7, f8, f9⟩
     ·have HO := zH (HOO.out.trans hph2)
      clear hph2
      have hq0 : 0 < q := HQ0.out (HO0.out HO.out)
      obtain ⟨L, hL⟩ : ∃ L, q = L + 1 := ⟨q - 1, by omega⟩
      obtain ⟨go, cap1, x, D, dc, hv, hdx, cc, ff, ox, _⟩ := OwnSS.at_ (by decide) O2.out (k := L) (by rw [HL.out]; omega)
      rw [HL.out] at hv
      injection hv with hv1 _ hv3
      subst hv1 hv3
      have hxk := HROW.out x (List.mem_of_mem_drop (i := L) (by rw [hdx]; simp))
      have HXL : Hid (l[L]? = some x) := zH (by have := congrArg (fun r => r[0]?) hdx; simpa using this)
      have hqL : q - 1 = L := by omega
      obtain ⟨vs0, d1, d2, d3⟩ := O2.out
      rw [HL.out] at d1
      have HVL : Hid (vs0[L]? = some (.slice D x.length dc)) := zH (by rw [<- d1.cellAt L (by omega)]; exact cc)
      have EX0 := EXT.out ((w2).alloc (.cells #[.int .i64 g.k, .int .i64 g.a, .int .i64 g.b, .int .i64 g.c] 39)).drew
      rw [hqL] at EX0
      have EX := zH EX0
      have CA := zH (show ((w2).alloc (.cells #[.int .i64 g.k, .int .i64 g.a, .int .i64 g.b, .int .i64 g.c] 39)).drew.cell? ⟨go, L, none⟩ = some (.slice D x.length dc) from (((Below.refl (w2).heap.size (w2)).alloc zR (.cells #[.int .i64 g.k, .int .i64 g.a, .int .i64 g.b, .int .i64 g.c] 39)).cell (p := ⟨go, L, none⟩) (World.block_lt_of_cell? _ _ cc)).trans cc)
      have OSA := zH (show OwnSS cellsG ((w2).alloc (.cells #[.int .i64 g.k, .int .i64 g.a, .int .i64 g.b, .int .i64 g.c] 39)).drew w.heap.size 24 39 4 (.slice (some ⟨go, 0, none⟩) q c0) l from O2.out.alloc _)
      have BA := zH (show Below w.heap.size w ((w2).alloc (.cells #[.int .i64 g.k, .int .i64 g.a, .int .i64 g.b, .int .i64 g.c] 39)).drew from (B2.out.alloc B2.out.size _).drew)
      have OXA := zH (show ((w2).alloc (.cells #[.int .i64 g.k, .int .i64 g.a, .int .i64 g.b, .int .i64 g.c] 39)).drew.ownsRow w.heap.size 39 4 (.slice D x.length dc) x.length (cellsG x) from ox.alloc _)
      have DA1 := zH (show ((w2).alloc (.cells #[.int .i64 g.k, .int .i64 g.a, .int .i64 g.b, .int .i64 g.c] 39)).drew.ownsRow w.heap.size 24 1 (.slice (some ⟨go, 0, none⟩) q c0) q vs0 from d1.alloc _)
      have RA := zH (show Rd ((w2).alloc (.cells #[.int .i64 g.k, .int .i64 g.a, .int .i64 g.b, .int .i64 g.c] 39)).drew 4 (some ⟨(w2).heap.size, 0, none⟩) 1 g.cells from Rd.lit (w2) 39 #[.int .i64 g.k, .int .i64 g.a, .int .i64 g.b, .int .i64 g.c] 1 4 rfl)
      have hz4 : (Value.agg #[.int .i64 0, .int .i64 0, .int .i64 0, .int .i64 0]).cells.size = 4 := rfl
      obtain ⟨nx, hnx⟩ : ∃ nx, x.length = nx := ⟨_, rfl⟩
      have HNX := zH hnx
      rw [hnx] at cc hxk HVL CA OXA
      have CA' := CA.out
      have hsx := B2.out.size
      have one4 : ∀ u ∈ g.cells, u.oneCell' = true := by simp [Gt.cells, Value.oneCell']
      have ONE4 := zH one4
      have hLq : L < q * 1 := by omega
      have hLi : (L : Int) < (q : Int) := by omega
      have hLj : L < q := by omega
      have hLz : (0 : Int) <= (L : Int) := by omega
      have HLE := zH hL
      have hgo := World.block_lt_of_cell? _ _ cc
      obtain ⟨x0, x1, x2, x3, _, _, _, _⟩ := X2.out.four
      have nn := World.new_ne (w2) _ cc
      have hw1 : IntKind.i64.wrap ((q : Int) - 1) = (L : Int) := by rw [IntKind.wrap_i64]; omega
      have hw3 : IntKind.i64.wrap (L : Int) = (L : Int) := by rw [IntKind.wrap_i64]; omega
      have hw2 : (q : Int) - 1 = (L : Int) := by omega
      clear d1 d2 d3 hdx ox hL hnx hqL EX0 one4
      go_wp2_with fail
      go_region_law
       (first | (refine step_app2 (by rfl) (.tmp 37) (.tmp 39) 24 (by rfl) Tryz.underlying24 infoGate hz4 (by decide) (by simp [Act.eval] <;> rfl) OXA.out (by simp [Act.eval] <;> rfl) RA.out ONE4.out (by omega) (by decide) (by simp <;> omega) ?_; intro A5 c5 w5 o5 g5 hb5; have D5 := DA1.out.kept g5 (own_types DA1.out OXA.out (by decide)); have cl5 := (D5.cellAt L hLq).trans HVL.out; have fl5 := D5.frozenAt L) | fail)
      all_goals clear hw1 hw2 hw3
      all_goals go_wp2_with fail
      all_goals have h5 := EX.out w5 go x D A5 dc c5 rfl OSA.out HXL.out (by rw [HNX.out]; exact CA.out) (by rw [HNX.out]; exact OXA.out) BA.out (by rw [HNX.out]; exact o5) (by rw [HNX.out]; exact g5) (by rw [HNX.out]; exact hb5) HO.out HPH.out
      all_goals rw [HNX.out] at h5
      all_goals obtain ⟨k', o', l', rfl, rfl, f1, f2, f3, f4, f5, f6, f7, f8, f9⟩ := h5
      all_goals go_roundg (gk - 1)
      all_goals first
       |omega
       |exact ⟨k + 1, true, l', some ⟨go, 0, none⟩, q, c0, by omega, by go_num, rfl, f1, f2, f3, f4, f5, f6, f7, f8, f9⟩
  ·go_wp2_with fail
   go_ret
   have hend : l = R := by rw [<- HQ.out, List.drop_eq_nil_of_le (by have := H.out.1; omega), secL]
   have e1 := HL.out
   subst hend
   subst e1
   exact ⟨A0, c0, rfl, OW.out, hb⟩
end Go.Proofs.YtmenmibfkojnoaaGreat
