/- append onto a row of the call's own, with the fact where the new row lies; one inner row of a slice of slices grown. Nothing is asked. -/
import Derived.Test.YthfacfnknpomcaaSS
import Derived.Test.YthfacfnknpomcaaPairN
namespace Go.Proofs.Ythfacfnknpomcaa
open Go.RowKit
section
variable {P : Program} {w : World}
theorem run_app2 (base : Nat) (t ty e : TypeId) {z : Value} {size bytes : Nat} (ht : P.underlying t = some (.slice e)) (hinfo : (P.info? e).map (fun i => (i.zero, i.size, i.bytes)) = some (some z, size, bytes))
    (hzs : z.cells.size = size) (hsz : 0 < size) (A : Option Addr) (n c : Nat) (xs : List Value) (hown : w.ownsRow base e size (.slice A n c) n xs)
    (A' : Option Addr) (m c' : Nat) (news : List Value) (hr : Rd w size A' m news) (h1 : ∀ u ∈ news, u.oneCell' = true)
    (hbytes : (n + m) * bytes ≤ 140737488355328) (hby : 0 < bytes) (hbase : base ≤ w.heap.size) :
    ∃ A'' c'' w', (Builtin.append_ #[t, t] ty #[.slice A n c, .slice A' m c']).run P w = .ok (.slice A'' (n + m) c'') w' ∧ w'.ownsRow base e size (.slice A'' (n + m) c'') (n + m) (xs ++ news) ∧ w.grownBy w' (Value.slice A n c).ownBlock ∧
      ((Value.slice A'' (n + m) c'').ownBlock = (Value.slice A n c).ownBlock ∨ ∀ b, (Value.slice A'' (n + m) c'').ownBlock = some b → w.heap.size ≤ b) := by
  obtain ⟨i, hi, hz, hs, hb⟩ := info_parts hinfo
  have h63 : n + m ≤ maxLen := by
    have h := Nat.le_trans (Nat.le_mul_of_pos_right (n + m) hby) hbytes
    simp only [maxLen]
    omega
  have key : ∃ v' w', (Builtin.append_ #[t, t] ty #[.slice A n c, .slice A' m c']).run P w = .ok v' w' ∧ w'.ownsRow base e size v' (n + m) (xs ++ news) ∧ w.grownBy w' (Value.slice A n c).ownBlock ∧ (v'.ownBlock = (Value.slice A n c).ownBlock ∨ ∀ b, v'.ownBlock = some b → w.heap.size ≤ b) := by
    rcases A' with _ | ad
    · have hm : m = 0 := by
        rcases Nat.eq_zero_or_pos m with h0 | h0
        · exact h0
        · obtain ⟨b, off, h, _⟩ := hr.2 h0
          cases h
      subst hm
      have hn : news = [] := List.eq_nil_of_length_eq_zero (by simpa using hr.1)
      subst hn
      exact ⟨_, w, run_app_nil base t ty e i size ht hi _ n xs hown c', by simpa using hown, World.grownBy.refl w _, .inl rfl⟩
    · have hcells : ∀ j u, news[j]? = some u → w.cell? (ad.add j) = some u := by
        intro j u hu
        rcases Nat.eq_zero_or_pos m with h0 | h0
        · subst h0
          have hn : news = [] := List.eq_nil_of_length_eq_zero (by simpa using hr.1)
          subst hn
          simp at hu
        · obtain ⟨b, off, h, _, hc⟩ := hr.2 h0
          injection h with h
          subst h
          have := hc j u hu
          unfold Addr.add
          split
          · subst j; simpa using this
          · exact this
      obtain ⟨v', w', hrun, h2, h3, h4⟩ := run_append_own_at (P := P) w base t ty e i z size bytes ht hi hz hs hb hzs hsz _ n xs hown ad m c' news hr.1 hcells h1 h63 hbytes hbase
      refine ⟨v', w', hrun, h2, h3, ?_⟩
      have h5 : v'.ownBlock = (Value.slice A n c).ownBlock ∨ v'.ownBlock = some w.heap.size := by first | exact h4 | exact h4.1 | exact h4.2
      rcases h5 with h5 | h5
      · exact .inl h5
      · exact .inr fun b hb => by rw [h5] at hb; injection hb with hb; omega
  obtain ⟨v', w', hrun, h2, h3, h4⟩ := key
  obtain ⟨A'', c'', rfl⟩ := ownsRow_shape h2
  exact ⟨A'', c'', w', hrun, h2, h3, h4⟩

theorem step_app2 {ops : Array Oper} {o : Oper} {a : Act} {K : Act → World → Prop} {Q : Exit → Act → World → Prop} {E : Prop} (hgd : o.guard = none) (s x : Operand) (t : TypeId)
    (ho : o.op = .call { callee := .builtin .append, args := #[s, x], argTypes := #[t, t] })
    {base e : Nat} {z : Value} {size bytes : Nat} (ht : P.underlying t = some (.slice e)) (hinfo : (P.info? e).map (fun i => (i.zero, i.size, i.bytes)) = some (some z, size, bytes))
    (hzs : z.cells.size = size) (hsz : 0 < size) {A : Option Addr} {n c : Nat} {xs : List Value} (hs : a.eval s = .slice A n c) (hown : w.ownsRow base e size (.slice A n c) n xs)
    {A' : Option Addr} {m c' : Nat} {news : List Value} (hx : a.eval x = .slice A' m c') (hr : Rd w size A' m news) (h1 : ∀ u ∈ news, u.oneCell' = true)
    (hbytes : (n + m) * bytes ≤ 140737488355328) (hby : 0 < bytes) (hbase : base ≤ w.heap.size)
    (h : ∀ A'' c'' w', w'.ownsRow base e size (.slice A'' (n + m) c'') (n + m) (xs ++ news) → w.grownBy w' (Value.slice A n c).ownBlock → ((Value.slice A'' (n + m) c'').ownBlock = (Value.slice A n c).ownBlock ∨ ∀ b, (Value.slice A'' (n + m) c'').ownBlock = some b → w.heap.size ≤ b) → K (a.put o.dst (.slice A'' (n + m) c'')) w') :
    if Region.wanted o (yielded ops a.tmps) = true then Oper.wp P o a w K Q else E := by
  have hw : Region.wanted o (yielded ops a.tmps) = true := by simp [Region.wanted, hgd]
  rw [if_pos hw]
  obtain ⟨A'', c'', w', hrun, h2, h3, h4⟩ := run_app2 (P := P) base t o.type e ht hinfo hzs hsz A n c xs hown A' m c' news hr h1 hbytes hby hbase
  unfold Oper.wp execOp
  simp only [ho, resolve, invoke, builtin, Sem.run_bind, Sem.run_pure, Result.andThen_ok, List.map_toArray, List.map_cons, List.map_nil, hs, hx, hrun]
  exact h A'' c'' w' h2 h3 h4
end
section
variable {α : Type} {cs : List α → List Value} {w w1 : World} {sz : Nat}
theorem OwnSS.ext {base eo ei k go n cap c c' : Nat} {l : List (List α)} {x y : List α} {D D' : Option Addr} (hne : eo ≠ ei) (h : OwnSS cs w base eo ei sz (.slice (some ⟨go, 0, none⟩) n cap) l) (hk : l[k]? = some x)
    (hcell : w.cell? ⟨go, k, none⟩ = some (.slice D x.length c)) (hg : w.grownBy w1 (Value.slice D x.length c).ownBlock)
    (ho : w1.ownsRow base ei sz (.slice D' y.length c') y.length (cs y)) (hb : (Value.slice D' y.length c').ownBlock = (Value.slice D x.length c).ownBlock ∨ ∀ b, (Value.slice D' y.length c').ownBlock = some b → w.heap.size ≤ b) :
    OwnSS cs (w1.setCell ⟨go, k, none⟩ (.slice D' y.length c')) base eo ei sz (.slice (some ⟨go, 0, none⟩) n cap) (l.set k y) := by
  obtain ⟨vs, a1, a2, a3⟩ := h
  have hkl : k < l.length := (List.getElem?_eq_some_iff.1 hk).1
  have hln : l.length = n := by
    obtain ⟨A, c, e⟩ := ownsRow_shape a1
    injection e with _ e _
    exact e.symm
  subst hln
  have hvl : vs.length = l.length := by simpa using a1.1
  have hvk : vs[k]? = some (.slice D x.length c) := by rw [← a1.cellAt k (by omega)]; exact hcell
  obtain ⟨D0, c0, e1, e2⟩ := a2 k x hk
  rw [hvk] at e1
  injection e1 with e1
  injection e1 with e3 _ e4
  subst e3 e4
  have b1 := a1.kept hg (own_types a1 e2 hne)
  have s1 := b1.stored k (.slice D' y.length c')
  have gset : w1.grownBy (w1.setCell ⟨go, k, none⟩ (.slice D' y.length c')) (some go) := s1.2
  have keep : ∀ (v : Value) (n' : Nat) (xs : List Value), w1.ownsRow base ei sz v n' xs → (w1.setCell ⟨go, k, none⟩ (.slice D' y.length c')).ownsRow base ei sz v n' xs := fun v n' xs hv => by
    refine hv.kept gset ?_
    rcases own_types hv b1 (fun e => hne e.symm) with h0 | h0
    · exact .inl h0
    · exact .inr h0
  have hnew : (vs.set k (.slice D' y.length c'))[k]? = some (.slice D' y.length c') := List.getElem?_set_self (by omega)
  have old : ∀ (j : Nat) (u : Value), vs[j]? = some u → ∀ b, u.ownBlock = some b → b < w.heap.size := fun j u hu b hb' => by
    have hj : j < l.length := by have := (List.getElem?_eq_some_iff.1 hu).1; omega
    obtain ⟨B, cc, f1, f2⟩ := a2 j l[j] (List.getElem?_eq_getElem hj)
    rw [hu] at f1
    injection f1 with f1
    subst f1
    exact (f2.lt b hb').2
  refine ⟨vs.set k (.slice D' y.length c'), by rw [List.length_set]; exact s1.1, fun j z hz => ?_, fun i j u u' hij hu hu' => ?_⟩
  · by_cases hjk : k = j
    · subst hjk
      rw [List.getElem?_set_self hkl] at hz
      injection hz with hz
      subst hz
      exact ⟨D', c', hnew, keep _ _ _ ho⟩
    · rw [List.getElem?_set_ne hjk] at hz ⊢
      obtain ⟨B, cc, f1, f2⟩ := a2 j z hz
      exact ⟨B, cc, f1, keep _ _ _ (f2.kept hg (a3 j k _ _ (fun e => hjk e.symm) f1 hvk))⟩
  · by_cases hik : k = i
    · subst hik
      rw [hnew] at hu
      injection hu with hu
      subst hu
      rw [List.getElem?_set_ne hij] at hu'
      rcases hb with hb | hb
      · rw [hb]; exact a3 k j _ _ hij hvk hu'
      · cases hq : (Value.slice D' y.length c').ownBlock with
        | none => exact .inl rfl
        | some b =>
          refine .inr fun he => ?_
          have h1 := hb b hq
          have h2 := old j u' hu' b he.symm
          omega
    · rw [List.getElem?_set_ne hik] at hu
      by_cases hjk : k = j
      · subst hjk
        rw [hnew] at hu'
        injection hu' with hu'
        subst hu'
        rcases hb with hb | hb
        · rw [hb]; exact a3 i k _ _ hij hu hvk
        · cases hq : u.ownBlock with
          | none => exact .inl rfl
          | some b =>
            refine .inr fun he => ?_
            have h1 := hb b he.symm
            have h2 := old i u hu b hq
            omega
      · rw [List.getElem?_set_ne hjk] at hu'
        exact a3 i j u u' hij hu hu'
end
end Go.Proofs.Ythfacfnknpomcaa
