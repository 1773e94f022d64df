/- append onto a row of the call's own, with the fact where the new row lies; one inner row of a slice of slices grown. Nothing is asked. Contracts of isPhased, l33Moves and PhaseSections (impl and spec). At most 2^20 gates. Contract of spec.PhaseSections. At most 2^20 gates. Contracts of FoldAllPhases (impl, spec). At most 2^20 gates. Plain: folding all sections keeps the operation but for the phase, and does not raise the number of T gates. Nothing else is asked. How the arguments of the laws read as lists of gates, pairs, numbers and bytes. Nothing is asked. -/
import Derived.Test.YtibhikngiceeeaaSS
import Derived.Test.YtibhikngiceeeaaPairs
import Derived.Test.YtibhikngiceeeaaGateS
import Derived.Test.YtibhikngiceeeaaReads
import Derived.Test.YtibhikngiceeeaaFoldSBx
import Derived.Test.YtibhikngiceeeaaGateTBx
import Derived.Test.YtibhikngiceeeaaBase
import Derived.Deep.RegionLaw
import Derived.Deep.RegionHeld3
import Derived.ProofKit
import Derived.OpenShut
import Derived.Lib.SmallJoins
import Derived.Deep.Slices
import Derived.Deep.Fields
namespace Go.Proofs.Ytibhikngiceeeaa
open Go.RowKit
section
variable {P : Program} {w : World}
theorem run_app2 (base : Nat) (t ty e : TypeId) {z : Value} {size bytes : Nat} (ht : P.underlying t = some (.slice e)) (hinfo : (P.info? e).map (fun i => (i.zero, i.size, i.bytes)) = some (some z, size, bytes))
    (hzs : z.cells.size = size) (hsz : 0 < size) (A : Option Addr) (n c : Nat) (xs : List Value) (hown : w.ownsRow base e size (.slice A n c) n xs)
    (A' : Option Addr) (m c' : Nat) (news : List Value) (hr : Rd w size A' m news) (h1 : ∀ u ∈ news, u.oneCell' = true)
    (hbytes : (n + m) * bytes ≤ 140737488355328) (hby : 0 < bytes) (hbase : base ≤ w.heap.size) :
    ∃ A'' c'' w', (Builtin.append_ #[t, t] ty #[.slice A n c, .slice A' m c']).run P w = .ok (.slice A'' (n + m) c'') w' ∧ w'.ownsRow base e size (.slice A'' (n + m) c'') (n + m) (xs ++ news) ∧ w.grownBy w' (Value.slice A n c).ownBlock ∧
      ((Value.slice A'' (n + m) c'').ownBlock = (Value.slice A n c).ownBlock ∨ ∀ b, (Value.slice A'' (n + m) c'').ownBlock = some b → w.heap.size ≤ b) := by
  obtain ⟨i, hi, hz, hs, hb⟩ := info_parts hinfo
  have h63 : n + m ≤ maxLen := by
    have h := Nat.le_trans (Nat.le_mul_of_pos_right (n + m) hby) hbytes
    simp only [maxLen]
    omega
  have key : ∃ v' w', (Builtin.append_ #[t, t] ty #[.slice A n c, .slice A' m c']).run P w = .ok v' w' ∧ w'.ownsRow base e size v' (n + m) (xs ++ news) ∧ w.grownBy w' (Value.slice A n c).ownBlock ∧ (v'.ownBlock = (Value.slice A n c).ownBlock ∨ ∀ b, v'.ownBlock = some b → w.heap.size ≤ b) := by
    rcases A' with _ | ad
    · have hm : m = 0 := by
        rcases Nat.eq_zero_or_pos m with h0 | h0
        · exact h0
        · obtain ⟨b, off, h, _⟩ := hr.2 h0
          cases h
      subst hm
      have hn : news = [] := List.eq_nil_of_length_eq_zero (by simpa using hr.1)
      subst hn
      exact ⟨_, w, run_app_nil base t ty e i size ht hi _ n xs hown c', by simpa using hown, World.grownBy.refl w _, .inl rfl⟩
    · have hcells : ∀ j u, news[j]? = some u → w.cell? (ad.add j) = some u := by
        intro j u hu
        rcases Nat.eq_zero_or_pos m with h0 | h0
        · subst h0
          have hn : news = [] := List.eq_nil_of_length_eq_zero (by simpa using hr.1)
          subst hn
          simp at hu
        · obtain ⟨b, off, h, _, hc⟩ := hr.2 h0
          injection h with h
          subst h
          have := hc j u hu
          unfold Addr.add
          split
          · subst j; simpa using this
          · exact this
      obtain ⟨v', w', hrun, h2, h3, h4⟩ := run_append_own_at (P := P) w base t ty e i z size bytes ht hi hz hs hb hzs hsz _ n xs hown ad m c' news hr.1 hcells h1 h63 hbytes hbase
      refine ⟨v', w', hrun, h2, h3, ?_⟩
      have h5 : v'.ownBlock = (Value.slice A n c).ownBlock ∨ v'.ownBlock = some w.heap.size := by first | exact h4 | exact h4.1 | exact h4.2
      rcases h5 with h5 | h5
      · exact .inl h5
      · exact .inr fun b hb => by rw [h5] at hb; injection hb with hb; omega
  obtain ⟨v', w', hrun, h2, h3, h4⟩ := key
  obtain ⟨A'', c'', rfl⟩ := ownsRow_shape h2
  exact ⟨A'', c'', w', hrun, h2, h3, h4⟩

theorem step_app2 {ops : Array Oper} {o : Oper} {a : Act} {K : Act → World → Prop} {Q : Exit → Act → World → Prop} {E : Prop} (hgd : o.guard = none) (s x : Operand) (t : TypeId)
    (ho : o.op = .call { callee := .builtin .append, args := #[s, x], argTypes := #[t, t] })
    {base e : Nat} {z : Value} {size bytes : Nat} (ht : P.underlying t = some (.slice e)) (hinfo : (P.info? e).map (fun i => (i.zero, i.size, i.bytes)) = some (some z, size, bytes))
    (hzs : z.cells.size = size) (hsz : 0 < size) {A : Option Addr} {n c : Nat} {xs : List Value} (hs : a.eval s = .slice A n c) (hown : w.ownsRow base e size (.slice A n c) n xs)
    {A' : Option Addr} {m c' : Nat} {news : List Value} (hx : a.eval x = .slice A' m c') (hr : Rd w size A' m news) (h1 : ∀ u ∈ news, u.oneCell' = true)
    (hbytes : (n + m) * bytes ≤ 140737488355328) (hby : 0 < bytes) (hbase : base ≤ w.heap.size)
    (h : ∀ A'' c'' w', w'.ownsRow base e size (.slice A'' (n + m) c'') (n + m) (xs ++ news) → w.grownBy w' (Value.slice A n c).ownBlock → ((Value.slice A'' (n + m) c'').ownBlock = (Value.slice A n c).ownBlock ∨ ∀ b, (Value.slice A'' (n + m) c'').ownBlock = some b → w.heap.size ≤ b) → K (a.put o.dst (.slice A'' (n + m) c'')) w') :
    if Region.wanted o (yielded ops a.tmps) = true then Oper.wp P o a w K Q else E := by
  have hw : Region.wanted o (yielded ops a.tmps) = true := by simp [Region.wanted, hgd]
  rw [if_pos hw]
  obtain ⟨A'', c'', w', hrun, h2, h3, h4⟩ := run_app2 (P := P) base t o.type e ht hinfo hzs hsz A n c xs hown A' m c' news hr h1 hbytes hby hbase
  unfold Oper.wp execOp
  simp only [ho, resolve, invoke, builtin, Sem.run_bind, Sem.run_pure, Result.andThen_ok, List.map_toArray, List.map_cons, List.map_nil, hs, hx, hrun]
  exact h A'' c'' w' h2 h3 h4
end
section
variable {α : Type} {cs : List α → List Value} {w w1 : World} {sz : Nat}
theorem OwnSS.ext {base eo ei k go n cap c c' : Nat} {l : List (List α)} {x y : List α} {D D' : Option Addr} (hne : eo ≠ ei) (h : OwnSS cs w base eo ei sz (.slice (some ⟨go, 0, none⟩) n cap) l) (hk : l[k]? = some x)
    (hcell : w.cell? ⟨go, k, none⟩ = some (.slice D x.length c)) (hg : w.grownBy w1 (Value.slice D x.length c).ownBlock)
    (ho : w1.ownsRow base ei sz (.slice D' y.length c') y.length (cs y)) (hb : (Value.slice D' y.length c').ownBlock = (Value.slice D x.length c).ownBlock ∨ ∀ b, (Value.slice D' y.length c').ownBlock = some b → w.heap.size ≤ b) :
    OwnSS cs (w1.setCell ⟨go, k, none⟩ (.slice D' y.length c')) base eo ei sz (.slice (some ⟨go, 0, none⟩) n cap) (l.set k y) := by
  obtain ⟨vs, a1, a2, a3⟩ := h
  have hkl : k < l.length := (List.getElem?_eq_some_iff.1 hk).1
  have hln : l.length = n := by
    obtain ⟨A, c, e⟩ := ownsRow_shape a1
    injection e with _ e _
    exact e.symm
  subst hln
  have hvl : vs.length = l.length := by simpa using a1.1
  have hvk : vs[k]? = some (.slice D x.length c) := by rw [← a1.cellAt k (by omega)]; exact hcell
  obtain ⟨D0, c0, e1, e2⟩ := a2 k x hk
  rw [hvk] at e1
  injection e1 with e1
  injection e1 with e3 _ e4
  subst e3 e4
  have b1 := a1.kept hg (own_types a1 e2 hne)
  have s1 := b1.stored k (.slice D' y.length c')
  have gset : w1.grownBy (w1.setCell ⟨go, k, none⟩ (.slice D' y.length c')) (some go) := s1.2
  have keep : ∀ (v : Value) (n' : Nat) (xs : List Value), w1.ownsRow base ei sz v n' xs → (w1.setCell ⟨go, k, none⟩ (.slice D' y.length c')).ownsRow base ei sz v n' xs := fun v n' xs hv => by
    refine hv.kept gset ?_
    rcases own_types hv b1 (fun e => hne e.symm) with h0 | h0
    · exact .inl h0
    · exact .inr h0
  have hnew : (vs.set k (.slice D' y.length c'))[k]? = some (.slice D' y.length c') := List.getElem?_set_self (by omega)
  have old : ∀ (j : Nat) (u : Value), vs[j]? = some u → ∀ b, u.ownBlock = some b → b < w.heap.size := fun j u hu b hb' => by
    have hj : j < l.length := by have := (List.getElem?_eq_some_iff.1 hu).1; omega
    obtain ⟨B, cc, f1, f2⟩ := a2 j l[j] (List.getElem?_eq_getElem hj)
    rw [hu] at f1
    injection f1 with f1
    subst f1
    exact (f2.lt b hb').2
  refine ⟨vs.set k (.slice D' y.length c'), by rw [List.length_set]; exact s1.1, fun j z hz => ?_, fun i j u u' hij hu hu' => ?_⟩
  · by_cases hjk : k = j
    · subst hjk
      rw [List.getElem?_set_self hkl] at hz
      injection hz with hz
      subst hz
      exact ⟨D', c', hnew, keep _ _ _ ho⟩
    · rw [List.getElem?_set_ne hjk] at hz ⊢
      obtain ⟨B, cc, f1, f2⟩ := a2 j z hz
      exact ⟨B, cc, f1, keep _ _ _ (f2.kept hg (a3 j k _ _ (fun e => hjk e.symm) f1 hvk))⟩
  · by_cases hik : k = i
    · subst hik
      rw [hnew] at hu
      injection hu with hu
      subst hu
      rw [List.getElem?_set_ne hij] at hu'
      rcases hb with hb | hb
      · rw [hb]; exact a3 k j _ _ hij hvk hu'
      · cases hq : (Value.slice D' y.length c').ownBlock with
        | none => exact .inl rfl
        | some b =>
          refine .inr fun he => ?_
          have h1 := hb b hq
          have h2 := old j u' hu' b he.symm
          omega
    · rw [List.getElem?_set_ne hik] at hu
      by_cases hjk : k = j
      · subst hjk
        rw [hnew] at hu'
        injection hu' with hu'
        subst hu'
        rcases hb with hb | hb
        · rw [hb]; exact a3 i k _ _ hij hu hvk
        · cases hq : u.ownBlock with
          | none => exact .inl rfl
          | some b =>
            refine .inr fun he => ?_
            have h1 := hb b he.symm
            have h2 := old i u hu b hq
            omega
      · rw [List.getElem?_set_ne hjk] at hu'
        exact a3 i j u u' hij hu hu'
end
end Go.Proofs.Ytibhikngiceeeaa
namespace Go.Proofs.Ytibhikngiceeeaa
open Go.RowKit

def ph (k : Int) : Bool := k == 1 || (k == 9 || (k == 11 || (units k != 0)))
def addLast (acc : List (List Gt)) (g : Gt) : List (List Gt) := acc.set (acc.length - 1) (acc.getD (acc.length - 1) [] ++ [g])
def secL : Bool → List (List Gt) → List Gt → List (List Gt)
  | _, acc, [] => acc
  | o, acc, g :: r => if (o && ph g.k) = true then secL (ph g.k) (addLast acc g) r else secL (ph g.k) (acc ++ [[g]]) r
def secs (gs : List Gt) : List (List Gt) := secL false [] gs
theorem secL_add {o : Bool} {acc : List (List Gt)} {g : Gt} {r : List Gt} (h1 : o = true) (h2 : ph g.k = true) : secL o acc (g :: r) = secL true (addLast acc g) r := by rw [secL, h1, h2]; rfl
theorem secL_new {o : Bool} {acc : List (List Gt)} {g : Gt} {r : List Gt} (h : o = false ∨ ph g.k = false) : secL o acc (g :: r) = secL (ph g.k) (acc ++ [[g]]) r := by
  rw [secL, if_neg]
  rcases h with h | h <;> rw [h] <;> simp
/-- What a function that hands back a new slice of slices of gates comes to. -/
def RetGG (l : List (List Gt)) (w : World) (e : Ending) (w' : World) : Prop :=
  ∃ A c, e = .returned (.slice A l.length c) ∧ OwnSS cellsG w' w.heap.size 41 55 4 (.slice A l.length c) l ∧ Below w.heap.size w w'
theorem infoGateS : (Try.prog.info? 41).map (fun i => (i.zero, i.size, i.bytes)) = some (some (.slice none 0 0), 1, 24) := by kernel_rfl
theorem unitsZ (k : Int) : (units k != 0) = decide (0 < units k) := by
  have := units_bd k
  by_cases h : units k = 0
  · rw [h]; rfl
  · have : 0 < units k := by omega
    simp [h, this]
theorem totG_add {acc : List (List Gt)} (g : Gt) (h : 0 < acc.length) : (addLast acc g).length = acc.length ∧ ∀ b, (∀ x ∈ acc, x.length ≤ b) → ∀ x ∈ addLast acc g, x.length ≤ b + 1 := by
  refine ⟨by simp [addLast], fun b hb x hx => ?_⟩
  unfold addLast at hx
  rcases List.mem_or_eq_of_mem_set hx with h1 | h1
  · have := hb x h1; omega
  · rw [h1, List.length_append, List.length_singleton]
    rw [List.getD_eq_getElem?_getD, List.getElem?_eq_getElem (by omega), Option.getD_some]
    have := hb _ (List.getElem_mem (by omega : acc.length - 1 < acc.length))
    omega
theorem own_uniqG {w : World} {b1 b2 : Nat} {e : TypeId} {sz n : Nat} {v : Value} {xs ys : List Value} (h1 : w.ownsRow b1 e sz v n xs) (h2 : w.ownsRow b2 e sz v n ys) : xs = ys := by
  have l1 := h1.1
  have l2 := h2.1
  rcases h1.2 with ⟨rfl, rfl⟩ | ⟨g, cap, cur, rfl, _, hh, _, _, _, ht⟩
  · rw [List.eq_nil_of_length_eq_zero (by omega : xs.length = 0), List.eq_nil_of_length_eq_zero (by omega : ys.length = 0)]
  · rcases h2.2 with ⟨h3, _⟩ | ⟨g', cap', cur', h3, _, hh', _, _, _, ht'⟩
    · simp at h3
    · simp only [Value.slice.injEq, Option.some.injEq, Addr.mk.injEq, and_true, true_and] at h3
      obtain ⟨rfl, rfl⟩ := h3
      rw [hh] at hh'
      injection hh' with hh'
      injection hh' with hc _
      subst hc
      rw [← ht, ← ht']

set_option maxHeartbeats 800000 in
theorem i_isPhased (k a b c : Int) (w : World) : Calls Try.prog 121 #[.agg #[.int .i64 k, .int .i64 a, .int .i64 b, .int .i64 c]] w fun e w' => e = .returned (.bool (ph k)) ∧ Below w.heap.size w w' := by
  by_cases h1 : k = 1
  · subst h1
    go_enter Try.func121, Try.ntmps121
    go_wp2_with fail
    go_ret
    exact ⟨rfl, (Below.refl _ _).alloc (Nat.le_refl _) _⟩
  · have e1 : (k == 1) = false := by simpa using h1
    by_cases h2 : k = 9
    · subst h2
      go_enter Try.func121, Try.ntmps121
      go_wp2_with fail
      go_ret
      exact ⟨rfl, (Below.refl _ _).alloc (Nat.le_refl _) _⟩
    · have e2 : (k == 9) = false := by simpa using h2
      by_cases h3 : k = 11
      · subst h3
        go_enter Try.func121, Try.ntmps121
        go_wp2_with fail
        go_ret
        exact ⟨rfl, (Below.refl _ _).alloc (Nat.le_refl _) _⟩
      · have e3 : (k == 11) = false := by simpa using h3
        have HP : Hid (ph k = (units k != 0)) := Lib.hid (by unfold ph; rw [e1, e2, e3]; rfl)
        clear h1 h2 h3
        go_enter Try.func121, Try.ntmps121
        go_wp2_with fail
        refine (i_RotationUnits _ _).mono ?_
        rintro e w1 ⟨rfl, rfl⟩
        go_wp2_with fail
        go_ret
        exact ⟨ret_bool (by rw [HP.out]), (Below.refl _ _).alloc (Nat.le_refl _) _⟩
set_option maxHeartbeats 800000 in
theorem s_l33Moves (k a b c : Int) (w : World) : Calls Try.prog 125 #[.agg #[.int .i64 k, .int .i64 a, .int .i64 b, .int .i64 c]] w fun e w' => e = .returned (.bool (ph k)) ∧ Below w.heap.size w w' := by
  by_cases h1 : k = 1
  · subst h1
    go_enter Try.func125, Try.ntmps125
    go_wp2_with fail
    go_ret
    exact ⟨rfl, (Below.refl _ _).alloc (Nat.le_refl _) _⟩
  · have e1 : (k == 1) = false := by simpa using h1
    by_cases h2 : k = 9
    · subst h2
      go_enter Try.func125, Try.ntmps125
      go_wp2_with fail
      go_ret
      exact ⟨rfl, (Below.refl _ _).alloc (Nat.le_refl _) _⟩
    · have e2 : (k == 9) = false := by simpa using h2
      by_cases h3 : k = 11
      · subst h3
        go_enter Try.func125, Try.ntmps125
        go_wp2_with fail
        go_ret
        exact ⟨rfl, (Below.refl _ _).alloc (Nat.le_refl _) _⟩
      · have e3 : (k == 11) = false := by simpa using h3
        have HP : Hid (ph k = (units k != 0)) := Lib.hid (by unfold ph; rw [e1, e2, e3]; rfl)
        clear h1 h2 h3
        go_enter Try.func125, Try.ntmps125
        go_wp2_with fail
        refine (s_RotationUnits _ _).mono ?_
        rintro e w1 ⟨rfl, rfl⟩
        go_wp2_with fail
        go_ret
        exact ⟨ret_bool (by rw [HP.out]; first | exact (unitsZ k).symm | simp [unitsZ]), (Below.refl _ _).alloc (Nat.le_refl _) _⟩

set_option maxRecDepth 100000 in
set_option maxHeartbeats 3200000 in
theorem i_PhaseSections (A : Option Addr) (n cap : Nat) (gs : List Gt) (w : World) (h : RdG w A n gs) (hn : n ≤ 1048576) : Calls Try.prog 77 #[.slice A n cap] w (RetGG (secs gs) w) := by
  have H := Lib.hid h
  clear h
  obtain ⟨R, hR⟩ : ∃ R, secs gs = R := ⟨_, rfl⟩
  have HR : Hid (secL false [] gs = R) := Lib.hid hR
  rw [hR]
  clear hR
  go_enter Try.func77, Try.ntmps77
  go_wp2_with fail
  go_loopg [3, 9] n (fun r v i wr => ∃ (k : Nat) (o : Bool) (l : List (List Gt)) (A0 : Option Addr) (q c0 : Nat), k + r = n ∧ i = .int .i64 k ∧ v = .slice A0 q c0 ∧ l.length = q ∧ q ≤ k ∧ (0 < k → 0 < q) ∧ (o = true → 0 < k) ∧ (0 < k → ∀ g', gs[k - 1]? = some g' → o = ph g'.k) ∧ (∀ x ∈ l, x.length ≤ k) ∧ secL o l (gs.drop k) = R ∧ OwnSS cellsG wr w.heap.size 41 55 4 (.slice A0 q c0) l ∧ Below w.heap.size w wr)
  case atStart => exact ⟨0, false, [], _, 0, 0, by omega, rfl, rfl, rfl, by omega, (fun h => absurd h (by omega)), (fun h => by cases h), (fun h => absurd h (by omega)), (fun x hx => by simp at hx), HR.out, OwnSS.lit0 w (Nat.le_refl _) _ _ _ _, (Below.refl _ _).alloc (Nat.le_refl _) _⟩
  case round =>
    clear HR
    obtain ⟨k, o, l, A0, q, c0, hk, rfl, rfl, hl, hqk, hq0, ho0, hop, hrow, hq, ow, hb⟩ := hrel
    have HL := Lib.hid hl
    have HO0 := Lib.hid ho0
    have HOP := Lib.hid hop
    have HROW := Lib.hid hrow
    have HQ := Lib.hid hq
    have OW := Lib.hid ow
    have HQ0 := Lib.hid hq0
    clear hl ho0 hop hrow hq ow hq0
    have hs0 := hb.size
    by_cases hlt : k < n
    · obtain ⟨bg, fg, g, hA, hBg, hd, q0, q1, q2, q3⟩ := (H.out.below hb).at_ hlt
      subst hA
      have HD := Lib.hid hd
      clear hd
      have HGK : Hid (gs[k]? = some g) := Lib.hid (by have := congrArg (fun r => r[0]?) HD.out; simpa using this)
      have B0 := Lib.hid (show Below w.heap.size w (wr.alloc (.cells #[.int .i64 g.k, .int .i64 g.a, .int .i64 g.b, .int .i64 g.c] 55)) from hb.alloc hs0 _)
      have X0 := Lib.hid (Bx.new wr 55 #[.int .i64 g.k, .int .i64 g.a, .int .i64 g.b, .int .i64 g.c])
      have O0 := Lib.hid (OW.out.alloc (.cells #[.int .i64 g.k, .int .i64 g.a, .int .i64 g.b, .int .i64 g.c] 55))
      have hkI : (k : Int) < (n : Int) := by omega
      have NEW : Hid (∀ (wx w5 : World) (A5 : Option Addr) (c5 : Nat) (vs0 : List Value), OwnSS cellsG wx w.heap.size 41 55 4 (.slice A0 q c0) l → wx.ownsRow w.heap.size 41 1 (.slice A0 q c0) q vs0 → Below w.heap.size w wx → w5.ownsRow w.heap.size 41 1 (.slice A5 (q + 1) c5) (q + 1) (vs0 ++ [.slice (some ⟨wx.heap.size, 0, none⟩) 1 1]) → ((wx.alloc (.cells #[.int .i64 g.k, .int .i64 g.a, .int .i64 g.b, .int .i64 g.c] 55)).alloc (.cells #[.slice (some ⟨wx.heap.size, 0, none⟩) 1 1] 41)).grownBy w5 (Value.slice A0 q c0).ownBlock → (o = false ∨ ph g.k = false) → (∃ (k' : Nat) (o' : Bool) (l' : List (List Gt)) (A0' : Option Addr) (q' c0' : Nat), k' = k + 1 ∧ o' = ph g.k ∧ q' = q + 1 ∧ A0' = A5 ∧ c0' = c5 ∧ l'.length = q' ∧ q' ≤ k' ∧ (0 < k' → 0 < q') ∧ (o' = true → 0 < k') ∧ (0 < k' → ∀ g', gs[k' - 1]? = some g' → o' = ph g'.k) ∧ (∀ x ∈ l', x.length ≤ k') ∧ secL o' l' (gs.drop k') = R ∧ OwnSS cellsG w5 w.heap.size 41 55 4 (.slice A0' q' c0') l' ∧ Below w.heap.size w w5)) := Lib.hid (by
        intro wx w5 A5 c5 vs0 hO hD hB h5 g5 hcnd
        have hsx := hB.size
        have hne : (41 : Nat) ≠ 55 := by decide
        have b1 : Below wx.heap.size wx ((wx.alloc (.cells #[.int .i64 g.k, .int .i64 g.a, .int .i64 g.b, .int .i64 g.c] 55)).alloc (.cells #[.slice (some ⟨wx.heap.size, 0, none⟩) 1 1] 41)) := ((Below.refl _ _).alloc (Nat.le_refl _) _).alloc (by simp) _
        refine ⟨k + 1, ph g.k, l ++ [[g]], A5, q + 1, c5, rfl, rfl, rfl, rfl, rfl, by rw [List.length_append, HL.out]; rfl, by omega, fun _ => by omega, fun _ => by omega, fun _ g' hg' => ?_, fun x hx => ?_, ?_, ?_, ?_⟩
        · rw [show k + 1 - 1 = k from by omega, HGK.out] at hg'
          injection hg' with hg'
          rw [hg']
        · rcases List.mem_append.1 hx with hx | hx
          · have := HROW.out x hx; omega
          · simp at hx; subst hx; simp
        · rw [← HQ.out, HD.out, secL_new hcnd]
        · have hap := OwnSS.app (cs := cellsG) (B := wx.heap.size) (w0 := wx) (w1 := (wx.alloc (.cells #[.int .i64 g.k, .int .i64 g.a, .int .i64 g.b, .int .i64 g.c] 55)).alloc (.cells #[.slice (some ⟨wx.heap.size, 0, none⟩) 1 1] 41)) (w2 := w5) (l := l) (l' := [[g]]) (vs' := [.slice (some ⟨wx.heap.size, 0, none⟩) 1 1]) (v'' := .slice A5 (q + 1) c5) hne hO (Nat.le_refl _) hsx b1
            (fun j x hj => by
              have h0 : j = 0 := by have := (List.getElem?_eq_some_iff.1 hj).1; simp at this; omega
              subst h0
              simp at hj
              subst hj
              exact ⟨_, 1, rfl, (World.ownsRow_lit (e := 55) (size := 4) wx #[.int .i64 g.k, .int .i64 g.a, .int .i64 g.b, .int .i64 g.c] 1 (Nat.le_refl _) (by simp [maxLen]) rfl).alloc _⟩)
            (fun i j u u' hij hu hu' => by
              have h1 := (List.getElem?_eq_some_iff.1 hu).1
              have h2 := (List.getElem?_eq_some_iff.1 hu').1
              simp at h1 h2
              omega)
            rfl g5 (fun vs hv => by rw [HL.out] at hv ⊢; rw [own_uniqG hv ((hD.alloc _).alloc _)]; exact h5)
          exact hap
        · exact below_grown ((hB.alloc hsx _).alloc (by simp <;> omega) _) (by simp <;> omega) ((hD.alloc _).alloc _) (Nat.le_refl _) g5)
      have EXT : Hid (∀ (wx w5 : World) (go : Nat) (x : List Gt) (D D' : Option Addr) (c c' : Nat), A0 = some ⟨go, 0, none⟩ → OwnSS cellsG wx w.heap.size 41 55 4 (.slice A0 q c0) l → l[q - 1]? = some x → wx.cell? ⟨go, q - 1, none⟩ = some (.slice D x.length c) → wx.ownsRow w.heap.size 55 4 (.slice D x.length c) x.length (cellsG x) → Below w.heap.size w wx → w5.ownsRow w.heap.size 55 4 (.slice D' (x.length + 1) c') (x.length + 1) (cellsG x ++ g.cells) → wx.grownBy w5 (Value.slice D x.length c).ownBlock → ((Value.slice D' (x.length + 1) c').ownBlock = (Value.slice D x.length c).ownBlock ∨ ∀ b, (Value.slice D' (x.length + 1) c').ownBlock = some b → wx.heap.size ≤ b) → o = true → ph g.k = true → (∃ (k' : Nat) (o' : Bool) (l' : List (List Gt)), k' = k + 1 ∧ o' = true ∧ l'.length = q ∧ q ≤ k' ∧ (0 < k' → 0 < q) ∧ (o' = true → 0 < k') ∧ (0 < k' → ∀ g', gs[k' - 1]? = some g' → o' = ph g'.k) ∧ (∀ x ∈ l', x.length ≤ k') ∧ secL o' l' (gs.drop k') = R ∧ OwnSS cellsG (w5.setCell ⟨go, q - 1, none⟩ (.slice D' (x.length + 1) c')) w.heap.size 41 55 4 (.slice A0 q c0) l' ∧ Below w.heap.size w (w5.setCell ⟨go, q - 1, none⟩ (.slice D' (x.length + 1) c')))) := Lib.hid (by
        intro wx w5 go x D D' c c' hA0 hO hx hcell hown hB h5 g5 hbb ho hph
        subst hA0
        have hq0 : 0 < q := HQ0.out (HO0.out ho)
        have hadd : addLast l g = l.set (q - 1) (x ++ [g]) := by unfold addLast; rw [HL.out, List.getD_eq_getElem?_getD, hx, Option.getD_some]
        obtain ⟨t1, t2⟩ := totG_add (acc := l) g (by rw [HL.out]; exact hq0)
        have hxl : (x ++ [g]).length = x.length + 1 := by simp
        have hext := OwnSS.ext (cs := cellsG) (w1 := w5) (c' := c') (D' := D') (y := x ++ [g]) (by decide) hO hx hcell g5 (by rw [hxl, cellsG_append]; exact h5) (by rw [hxl]; exact hbb)
        rw [hxl, ← hadd] at hext
        obtain ⟨vs, a1, _⟩ := hO
        refine ⟨k + 1, true, addLast l g, rfl, rfl, by rw [t1, HL.out], by omega, fun _ => hq0, fun _ => by omega, fun _ g' hg' => ?_, fun y hy => ?_, ?_, hext, ?_⟩
        · rw [show k + 1 - 1 = k from by omega, HGK.out] at hg'
          injection hg' with hg'
          rw [← hg', hph]
        · have := t2 k HROW.out y hy
          omega
        · rw [← HQ.out, HD.out, secL_add ho hph]
        · exact (below_grown hB hB.size hown (Nat.le_refl _) g5).setCell (a1.lt go rfl).1 _)
      by_cases hk0 : k = 0
      · have ho : o = false := by cases o with | false => rfl | true => exact absurd (HO0.out rfl) (by omega)
        have hkf : ¬ (0 < k) := by omega
        have hkg : ¬ ((0 : Int) < (k : Int)) := by omega
        clear hk0
        obtain ⟨x0, x1, x2, x3, _, _, _, _⟩ := X0.out.four
        obtain ⟨vs0, d1, d2, d3⟩ := O0.out
        rw [HL.out] at d1
        have D1 := Lib.hid d1
        clear d1 d2 d3
        have hsx := B0.out.size
        have DA := Lib.hid ((D1.out.alloc (.cells #[.int .i64 g.k, .int .i64 g.a, .int .i64 g.b, .int .i64 g.c] 55)).alloc (.cells #[.slice (some ⟨wr.heap.size + 1, 0, none⟩) 1 1] 41))
        have RA := Lib.hid (show Rd (((wr.alloc (.cells #[.int .i64 g.k, .int .i64 g.a, .int .i64 g.b, .int .i64 g.c] 55)).alloc (.cells #[.int .i64 g.k, .int .i64 g.a, .int .i64 g.b, .int .i64 g.c] 55)).alloc (.cells #[.slice (some ⟨wr.heap.size + 1, 0, none⟩) 1 1] 41)) 1 (some ⟨wr.heap.size + 1 + 1, 0, none⟩) 1 [.slice (some ⟨wr.heap.size + 1, 0, none⟩) 1 1] from by have := Rd.lit ((wr.alloc (.cells #[.int .i64 g.k, .int .i64 g.a, .int .i64 g.b, .int .i64 g.c] 55)).alloc (.cells #[.int .i64 g.k, .int .i64 g.a, .int .i64 g.b, .int .i64 g.c] 55)) 41 #[.slice (some ⟨wr.heap.size + 1, 0, none⟩) 1 1] 1 1 rfl; rw [World.size_alloc, World.size_alloc] at this; exact this)
        go_wp2_with (at_builtin; refine wpList_app rfl (.tmp 42) (.tmp 45) 111 rfl Try.underlying111 infoGateS rfl (by decide) rfl DA.out rfl RA.out (by simp [Value.oneCell']) (by omega) (by decide) (by simp <;> omega) ?_; intro A5 c5 w5 o5 g5)
        have NW := NEW.out (wr.alloc (.cells #[.int .i64 g.k, .int .i64 g.a, .int .i64 g.b, .int .i64 g.c] 55)) w5 A5 c5 vs0 O0.out D1.out B0.out
        simp only [World.size_alloc] at NW
        obtain ⟨k', o', l', A0', q', c0', rfl, rfl, rfl, rfl, rfl, f1, f2, f3, f4, f5, f6, f7, f8, f9⟩ := NW o5 g5 (.inl ho)
        go_roundg (gk - 1)
        case measure => omega
        case rel => exact ⟨k + 1, ph g.k, l', A0', q + 1, c0', by omega, by go_num, rfl, f1, f2, f3, f4, f5, f6, f7, f8, f9⟩
      · have hk1 : (0 : Int) < (k : Int) := by omega
        have hk2 : 0 < k := by omega
        go_wp2_with fail
        refine (i_isPhased _ _ _ _ _).mono ?_
        rintro e w1 ⟨rfl, b1⟩
        have X1 := Lib.hid (X0.out.below b1)
        have O1 := Lib.hid (O0.out.below b1)
        have B1 := Lib.hid (below_trans B0.out b1)
        clear b1 q0 q1 q2 q3
        cases hph : ph g.k
        · have HPH := Lib.hid hph
          clear hph
          obtain ⟨x0, x1, x2, x3, _, _, _, _⟩ := X1.out.four
          obtain ⟨vs0, d1, d2, d3⟩ := O1.out
          rw [HL.out] at d1
          have D1 := Lib.hid d1
          clear d1 d2 d3
          have hsx := B1.out.size
          have DA := Lib.hid ((D1.out.alloc (.cells #[.int .i64 g.k, .int .i64 g.a, .int .i64 g.b, .int .i64 g.c] 55)).alloc (.cells #[.slice (some ⟨w1.heap.size, 0, none⟩) 1 1] 41))
          have RA := Lib.hid (show Rd (((w1).alloc (.cells #[.int .i64 g.k, .int .i64 g.a, .int .i64 g.b, .int .i64 g.c] 55)).alloc (.cells #[.slice (some ⟨w1.heap.size, 0, none⟩) 1 1] 41)) 1 (some ⟨w1.heap.size + 1, 0, none⟩) 1 [.slice (some ⟨w1.heap.size, 0, none⟩) 1 1] from by have := Rd.lit ((w1).alloc (.cells #[.int .i64 g.k, .int .i64 g.a, .int .i64 g.b, .int .i64 g.c] 55)) 41 #[.slice (some ⟨w1.heap.size, 0, none⟩) 1 1] 1 1 rfl; rw [World.size_alloc] at this; exact this)
          go_wp2_with (at_builtin; refine wpList_app rfl (.tmp 42) (.tmp 45) 111 rfl Try.underlying111 infoGateS rfl (by decide) rfl DA.out rfl RA.out (by simp [Value.oneCell']) (by omega) (by decide) (by simp <;> omega) ?_; intro A5 c5 w5 o5 g5)
          have NW := NEW.out (w1) w5 A5 c5 vs0 O1.out D1.out B1.out
          obtain ⟨k', o', l', A0', q', c0', rfl, rfl, rfl, rfl, rfl, f1, f2, f3, f4, f5, f6, f7, f8, f9⟩ := NW o5 g5 (.inr HPH.out)
          go_roundg (gk - 1)
          case measure => omega
          case rel => exact ⟨k + 1, ph g.k, l', A0', q + 1, c0', by omega, by go_num, rfl, f1, f2, f3, f4, f5, f6, f7, f8, f9⟩
        · have HPH := Lib.hid hph
          clear hph
          obtain ⟨kp, hkp⟩ : ∃ kp, k = kp + 1 := ⟨k - 1, by omega⟩
          obtain ⟨bp, fp, g', hA', hBp, hd', r0, r1, r2, r3⟩ := (H.out.below B1.out).at_ (show kp < n by omega)
          injection hA' with hA'
          injection hA' with e1 e2 _
          subst e1 e2
          have hoo := HOP.out hk2 g' (by rw [hkp]; have := congrArg (fun r => r[0]?) hd'; simpa using this)
          have HOO := Lib.hid hoo
          have hkk : (k : Int) - 1 = (kp : Int) := by omega
          have hkpn : (kp : Int) < (n : Int) := by omega
          have HKP := Lib.hid hkp
          clear hoo hd' hkp
          go_wp2_with fail
          refine (i_isPhased _ _ _ _ _).mono ?_
          rintro e w2 ⟨rfl, b2⟩
          have X2 := Lib.hid (X1.out.below b2)
          have O2 := Lib.hid (O1.out.below b2)
          have B2 := Lib.hid (below_trans B1.out b2)
          clear b2 r0 r1 r2 r3 X1 O1 B1 hkk
          cases hph2 : ph g'.k
          · have HO := Lib.hid (HOO.out.trans hph2)
            clear hph2
            obtain ⟨x0, x1, x2, x3, _, _, _, _⟩ := X2.out.four
            obtain ⟨vs0, d1, d2, d3⟩ := O2.out
            rw [HL.out] at d1
            have D1 := Lib.hid d1
            clear d1 d2 d3
            have hsx := B2.out.size
            have DA := Lib.hid ((D1.out.alloc (.cells #[.int .i64 g.k, .int .i64 g.a, .int .i64 g.b, .int .i64 g.c] 55)).alloc (.cells #[.slice (some ⟨w2.heap.size, 0, none⟩) 1 1] 41))
            have RA := Lib.hid (show Rd (((w2).alloc (.cells #[.int .i64 g.k, .int .i64 g.a, .int .i64 g.b, .int .i64 g.c] 55)).alloc (.cells #[.slice (some ⟨w2.heap.size, 0, none⟩) 1 1] 41)) 1 (some ⟨w2.heap.size + 1, 0, none⟩) 1 [.slice (some ⟨w2.heap.size, 0, none⟩) 1 1] from by have := Rd.lit ((w2).alloc (.cells #[.int .i64 g.k, .int .i64 g.a, .int .i64 g.b, .int .i64 g.c] 55)) 41 #[.slice (some ⟨w2.heap.size, 0, none⟩) 1 1] 1 1 rfl; rw [World.size_alloc] at this; exact this)
            go_wp2_with (at_builtin; refine wpList_app rfl (.tmp 42) (.tmp 45) 111 rfl Try.underlying111 infoGateS rfl (by decide) rfl DA.out rfl RA.out (by simp [Value.oneCell']) (by omega) (by decide) (by simp <;> omega) ?_; intro A5 c5 w5 o5 g5)
            have NW := NEW.out (w2) w5 A5 c5 vs0 O2.out D1.out B2.out
            obtain ⟨k', o', l', A0', q', c0', rfl, rfl, rfl, rfl, rfl, f1, f2, f3, f4, f5, f6, f7, f8, f9⟩ := NW o5 g5 (.inl HO.out)
            go_roundg (gk - 1)
            case measure => omega
            case rel => exact ⟨k + 1, ph g.k, l', A0', q + 1, c0', by omega, by go_num, rfl, f1, f2, f3, f4, f5, f6, f7, f8, f9⟩
          · have HO := Lib.hid (HOO.out.trans hph2)
            clear hph2
            have hq0 : 0 < q := HQ0.out (HO0.out HO.out)
            obtain ⟨L, hL⟩ : ∃ L, q = L + 1 := ⟨q - 1, by omega⟩
            obtain ⟨go, cap1, x, D, dc, hv, hdx, cc, ff, ox, _⟩ := OwnSS.at_ (by decide) O2.out (k := L) (by rw [HL.out]; omega)
            rw [HL.out] at hv
            injection hv with hv1 _ hv3
            subst hv1 hv3
            have hxk := HROW.out x (List.mem_of_mem_drop (i := L) (by rw [hdx]; simp))
            have HXL : Hid (l[L]? = some x) := Lib.hid (by have := congrArg (fun r => r[0]?) hdx; simpa using this)
            have hqL : q - 1 = L := by omega
            obtain ⟨vs0, d1, d2, d3⟩ := O2.out
            rw [HL.out] at d1
            have HVL : Hid (vs0[L]? = some (.slice D x.length dc)) := Lib.hid (by rw [← d1.cellAt L (by omega)]; exact cc)
            have EX0 := EXT.out ((w2).alloc (.cells #[.int .i64 g.k, .int .i64 g.a, .int .i64 g.b, .int .i64 g.c] 55)).drew
            rw [hqL] at EX0
            have EX := Lib.hid EX0
            have CA := Lib.hid (show ((w2).alloc (.cells #[.int .i64 g.k, .int .i64 g.a, .int .i64 g.b, .int .i64 g.c] 55)).drew.cell? ⟨go, L, none⟩ = some (.slice D x.length dc) from (((Below.refl (w2).heap.size (w2)).alloc (Nat.le_refl _) (.cells #[.int .i64 g.k, .int .i64 g.a, .int .i64 g.b, .int .i64 g.c] 55)).cell (p := ⟨go, L, none⟩) (World.block_lt_of_cell? _ _ cc)).trans cc)
            have OSA := Lib.hid (show OwnSS cellsG ((w2).alloc (.cells #[.int .i64 g.k, .int .i64 g.a, .int .i64 g.b, .int .i64 g.c] 55)).drew w.heap.size 41 55 4 (.slice (some ⟨go, 0, none⟩) q c0) l from O2.out.alloc _)
            have BA := Lib.hid (show Below w.heap.size w ((w2).alloc (.cells #[.int .i64 g.k, .int .i64 g.a, .int .i64 g.b, .int .i64 g.c] 55)).drew from (B2.out.alloc B2.out.size _).drew)
            have OXA := Lib.hid (show ((w2).alloc (.cells #[.int .i64 g.k, .int .i64 g.a, .int .i64 g.b, .int .i64 g.c] 55)).drew.ownsRow w.heap.size 55 4 (.slice D x.length dc) x.length (cellsG x) from ox.alloc _)
            have DA1 := Lib.hid (show ((w2).alloc (.cells #[.int .i64 g.k, .int .i64 g.a, .int .i64 g.b, .int .i64 g.c] 55)).drew.ownsRow w.heap.size 41 1 (.slice (some ⟨go, 0, none⟩) q c0) q vs0 from d1.alloc _)
            have RA := Lib.hid (show Rd ((w2).alloc (.cells #[.int .i64 g.k, .int .i64 g.a, .int .i64 g.b, .int .i64 g.c] 55)).drew 4 (some ⟨(w2).heap.size, 0, none⟩) 1 g.cells from Rd.lit (w2) 55 #[.int .i64 g.k, .int .i64 g.a, .int .i64 g.b, .int .i64 g.c] 1 4 rfl)
            have hz4 : (Value.agg #[.int .i64 0, .int .i64 0, .int .i64 0, .int .i64 0]).cells.size = 4 := rfl
            obtain ⟨nx, hnx⟩ : ∃ nx, x.length = nx := ⟨_, rfl⟩
            have HNX := Lib.hid hnx
            rw [hnx] at cc hxk HVL CA OXA
            have CA' := CA.out
            have hsx := B2.out.size
            have one4 : ∀ u ∈ g.cells, u.oneCell' = true := by simp [Gt.cells, Value.oneCell']
            have ONE4 := Lib.hid one4
            have hLq : L < q * 1 := by omega
            have hLi : (L : Int) < (q : Int) := by omega
            have hLj : L < q := by omega
            have hLz : (0 : Int) ≤ (L : Int) := by omega
            have HLE := Lib.hid hL
            have hgo := World.block_lt_of_cell? _ _ cc
            obtain ⟨x0, x1, x2, x3, _, _, _, _⟩ := X2.out.four
            have nn := World.new_ne (w2) _ cc
            have hw1 : IntKind.i64.wrap ((q : Int) - 1) = (L : Int) := by rw [IntKind.wrap_i64]; omega
            have hw3 : IntKind.i64.wrap (L : Int) = (L : Int) := by rw [IntKind.wrap_i64]; omega
            have hw2 : (q : Int) - 1 = (L : Int) := by omega
            clear d1 d2 d3 hdx ox hL hnx hqL EX0 one4
            go_wp2_with fail
            go_region_law
              (first | (refine step_app2 (by rfl) (.tmp 37) (.tmp 39) 41 (by rfl) Try.underlying41 infoGate hz4 (by decide) (by simp [Act.eval] <;> rfl) OXA.out (by simp [Act.eval] <;> rfl) RA.out ONE4.out (by omega) (by decide) (by simp <;> omega) ?_; intro A5 c5 w5 o5 g5 hb5; have D5 := DA1.out.kept g5 (own_types DA1.out OXA.out (by decide)); have cl5 := (D5.cellAt L hLq).trans HVL.out; have fl5 := D5.frozenAt L) | fail)
            all_goals clear hw1 hw2 hw3
            all_goals go_wp2_with fail
            all_goals have h5 := EX.out w5 go x D A5 dc c5 rfl OSA.out HXL.out (by rw [HNX.out]; exact CA.out) (by rw [HNX.out]; exact OXA.out) BA.out (by rw [HNX.out]; exact o5) (by rw [HNX.out]; exact g5) (by rw [HNX.out]; exact hb5) HO.out HPH.out
            all_goals rw [HNX.out] at h5
            all_goals obtain ⟨k', o', l', rfl, rfl, f1, f2, f3, f4, f5, f6, f7, f8, f9⟩ := h5
            all_goals go_roundg (gk - 1)
            all_goals first
              | omega
              | exact ⟨k + 1, true, l', some ⟨go, 0, none⟩, q, c0, by omega, by go_num, rfl, f1, f2, f3, f4, f5, f6, f7, f8, f9⟩
    · go_wp2_with fail
      go_ret
      have hend : l = R := by rw [← HQ.out, List.drop_eq_nil_of_le (by have := H.out.1; omega), secL]
      have e1 := HL.out
      subst hend
      subst e1
      exact ⟨A0, c0, rfl, OW.out, hb⟩
end Go.Proofs.Ytibhikngiceeeaa
namespace Go.Proofs.Ytibhikngiceeeaa
open Go.RowKit

set_option maxRecDepth 100000 in
set_option maxHeartbeats 3200000 in
theorem s_PhaseSections (A : Option Addr) (n cap : Nat) (gs : List Gt) (w : World) (h : RdG w A n gs) (hn : n ≤ 1048576) : Calls Try.prog 80 #[.slice A n cap] w (RetGG (secs gs) w) := by
  have H := Lib.hid h
  clear h
  obtain ⟨R, hR⟩ : ∃ R, secs gs = R := ⟨_, rfl⟩
  have HR : Hid (secL false [] gs = R) := Lib.hid hR
  rw [hR]
  clear hR
  go_enter Try.func80, Try.ntmps80
  go_wp2_with fail
  go_loopg [3, 4, 5] n (fun r v ob i wr => ∃ (k : Nat) (o : Bool) (l : List (List Gt)) (A0 : Option Addr) (q c0 : Nat), k + r = n ∧ i = .int .i64 k ∧ v = .slice A0 q c0 ∧ ob = .bool o ∧ l.length = q ∧ q ≤ k ∧ (0 < k → 0 < q) ∧ (o = true → 0 < k) ∧ (0 < k → ∀ g', gs[k - 1]? = some g' → o = ph g'.k) ∧ (∀ x ∈ l, x.length ≤ k) ∧ secL o l (gs.drop k) = R ∧ OwnSS cellsG wr w.heap.size 41 55 4 (.slice A0 q c0) l ∧ Below w.heap.size w wr)
  case atStart => exact ⟨0, false, [], _, 0, 0, by omega, rfl, rfl, rfl, rfl, by omega, (fun h => absurd h (by omega)), (fun h => by cases h), (fun h => absurd h (by omega)), (fun x hx => by simp at hx), HR.out, OwnSS.lit0 w (Nat.le_refl _) _ _ _ _, (Below.refl _ _).alloc (Nat.le_refl _) _⟩
  case round =>
    clear HR
    obtain ⟨k, o, l, A0, q, c0, hk, rfl, rfl, rfl, hl, hqk, hq0, ho0, hop, hrow, hq, ow, hb⟩ := hrel
    have HL := Lib.hid hl
    have HO0 := Lib.hid ho0
    have HOP := Lib.hid hop
    have HROW := Lib.hid hrow
    have HQ := Lib.hid hq
    have OW := Lib.hid ow
    have HQ0 := Lib.hid hq0
    clear hl ho0 hop hrow hq ow hq0
    have hs0 := hb.size
    by_cases hlt : k < n
    · obtain ⟨bg, fg, g, hA, hBg, hd, q0, q1, q2, q3⟩ := (H.out.below hb).at_ hlt
      subst hA
      have HD := Lib.hid hd
      clear hd
      have HGK : Hid (gs[k]? = some g) := Lib.hid (by have := congrArg (fun r => r[0]?) HD.out; simpa using this)
      have B0 := Lib.hid (show Below w.heap.size w (wr.alloc (.cells #[.int .i64 g.k, .int .i64 g.a, .int .i64 g.b, .int .i64 g.c] 55)) from hb.alloc hs0 _)
      have X0 := Lib.hid (Bx.new wr 55 #[.int .i64 g.k, .int .i64 g.a, .int .i64 g.b, .int .i64 g.c])
      have O0 := Lib.hid (OW.out.alloc (.cells #[.int .i64 g.k, .int .i64 g.a, .int .i64 g.b, .int .i64 g.c] 55))
      have hkI : (k : Int) < (n : Int) := by omega
      have NEW : Hid (∀ (wx w5 : World) (A5 : Option Addr) (c5 : Nat) (vs0 : List Value), OwnSS cellsG wx w.heap.size 41 55 4 (.slice A0 q c0) l → wx.ownsRow w.heap.size 41 1 (.slice A0 q c0) q vs0 → Below w.heap.size w wx → w5.ownsRow w.heap.size 41 1 (.slice A5 (q + 1) c5) (q + 1) (vs0 ++ [.slice (some ⟨wx.heap.size, 0, none⟩) 1 1]) → ((wx.alloc (.cells #[.int .i64 g.k, .int .i64 g.a, .int .i64 g.b, .int .i64 g.c] 55)).alloc (.cells #[.slice (some ⟨wx.heap.size, 0, none⟩) 1 1] 41)).grownBy w5 (Value.slice A0 q c0).ownBlock → (o = false ∨ ph g.k = false) → (∃ (k' : Nat) (o' : Bool) (l' : List (List Gt)) (A0' : Option Addr) (q' c0' : Nat), k' = k + 1 ∧ o' = ph g.k ∧ q' = q + 1 ∧ A0' = A5 ∧ c0' = c5 ∧ l'.length = q' ∧ q' ≤ k' ∧ (0 < k' → 0 < q') ∧ (o' = true → 0 < k') ∧ (0 < k' → ∀ g', gs[k' - 1]? = some g' → o' = ph g'.k) ∧ (∀ x ∈ l', x.length ≤ k') ∧ secL o' l' (gs.drop k') = R ∧ OwnSS cellsG w5 w.heap.size 41 55 4 (.slice A0' q' c0') l' ∧ Below w.heap.size w w5)) := Lib.hid (by
        intro wx w5 A5 c5 vs0 hO hD hB h5 g5 hcnd
        have hsx := hB.size
        have hne : (41 : Nat) ≠ 55 := by decide
        have b1 : Below wx.heap.size wx ((wx.alloc (.cells #[.int .i64 g.k, .int .i64 g.a, .int .i64 g.b, .int .i64 g.c] 55)).alloc (.cells #[.slice (some ⟨wx.heap.size, 0, none⟩) 1 1] 41)) := ((Below.refl _ _).alloc (Nat.le_refl _) _).alloc (by simp) _
        refine ⟨k + 1, ph g.k, l ++ [[g]], A5, q + 1, c5, rfl, rfl, rfl, rfl, rfl, by rw [List.length_append, HL.out]; rfl, by omega, fun _ => by omega, fun _ => by omega, fun _ g' hg' => ?_, fun x hx => ?_, ?_, ?_, ?_⟩
        · rw [show k + 1 - 1 = k from by omega, HGK.out] at hg'
          injection hg' with hg'
          rw [hg']
        · rcases List.mem_append.1 hx with hx | hx
          · have := HROW.out x hx; omega
          · simp at hx; subst hx; simp
        · rw [← HQ.out, HD.out, secL_new hcnd]
        · have hap := OwnSS.app (cs := cellsG) (B := wx.heap.size) (w0 := wx) (w1 := (wx.alloc (.cells #[.int .i64 g.k, .int .i64 g.a, .int .i64 g.b, .int .i64 g.c] 55)).alloc (.cells #[.slice (some ⟨wx.heap.size, 0, none⟩) 1 1] 41)) (w2 := w5) (l := l) (l' := [[g]]) (vs' := [.slice (some ⟨wx.heap.size, 0, none⟩) 1 1]) (v'' := .slice A5 (q + 1) c5) hne hO (Nat.le_refl _) hsx b1
            (fun j x hj => by
              have h0 : j = 0 := by have := (List.getElem?_eq_some_iff.1 hj).1; simp at this; omega
              subst h0
              simp at hj
              subst hj
              exact ⟨_, 1, rfl, (World.ownsRow_lit (e := 55) (size := 4) wx #[.int .i64 g.k, .int .i64 g.a, .int .i64 g.b, .int .i64 g.c] 1 (Nat.le_refl _) (by simp [maxLen]) rfl).alloc _⟩)
            (fun i j u u' hij hu hu' => by
              have h1 := (List.getElem?_eq_some_iff.1 hu).1
              have h2 := (List.getElem?_eq_some_iff.1 hu').1
              simp at h1 h2
              omega)
            rfl g5 (fun vs hv => by rw [HL.out] at hv ⊢; rw [own_uniqG hv ((hD.alloc _).alloc _)]; exact h5)
          exact hap
        · exact below_grown ((hB.alloc hsx _).alloc (by simp <;> omega) _) (by simp <;> omega) ((hD.alloc _).alloc _) (Nat.le_refl _) g5)
      have EXT : Hid (∀ (wx w5 : World) (go : Nat) (x : List Gt) (D D' : Option Addr) (c c' : Nat), A0 = some ⟨go, 0, none⟩ → OwnSS cellsG wx w.heap.size 41 55 4 (.slice A0 q c0) l → l[q - 1]? = some x → wx.cell? ⟨go, q - 1, none⟩ = some (.slice D x.length c) → wx.ownsRow w.heap.size 55 4 (.slice D x.length c) x.length (cellsG x) → Below w.heap.size w wx → w5.ownsRow w.heap.size 55 4 (.slice D' (x.length + 1) c') (x.length + 1) (cellsG x ++ g.cells) → wx.grownBy w5 (Value.slice D x.length c).ownBlock → ((Value.slice D' (x.length + 1) c').ownBlock = (Value.slice D x.length c).ownBlock ∨ ∀ b, (Value.slice D' (x.length + 1) c').ownBlock = some b → wx.heap.size ≤ b) → o = true → ph g.k = true → (∃ (k' : Nat) (o' : Bool) (l' : List (List Gt)), k' = k + 1 ∧ o' = true ∧ l'.length = q ∧ q ≤ k' ∧ (0 < k' → 0 < q) ∧ (o' = true → 0 < k') ∧ (0 < k' → ∀ g', gs[k' - 1]? = some g' → o' = ph g'.k) ∧ (∀ x ∈ l', x.length ≤ k') ∧ secL o' l' (gs.drop k') = R ∧ OwnSS cellsG (w5.setCell ⟨go, q - 1, none⟩ (.slice D' (x.length + 1) c')) w.heap.size 41 55 4 (.slice A0 q c0) l' ∧ Below w.heap.size w (w5.setCell ⟨go, q - 1, none⟩ (.slice D' (x.length + 1) c')))) := Lib.hid (by
        intro wx w5 go x D D' c c' hA0 hO hx hcell hown hB h5 g5 hbb ho hph
        subst hA0
        have hq0 : 0 < q := HQ0.out (HO0.out ho)
        have hadd : addLast l g = l.set (q - 1) (x ++ [g]) := by unfold addLast; rw [HL.out, List.getD_eq_getElem?_getD, hx, Option.getD_some]
        obtain ⟨t1, t2⟩ := totG_add (acc := l) g (by rw [HL.out]; exact hq0)
        have hxl : (x ++ [g]).length = x.length + 1 := by simp
        have hext := OwnSS.ext (cs := cellsG) (w1 := w5) (c' := c') (D' := D') (y := x ++ [g]) (by decide) hO hx hcell g5 (by rw [hxl, cellsG_append]; exact h5) (by rw [hxl]; exact hbb)
        rw [hxl, ← hadd] at hext
        obtain ⟨vs, a1, _⟩ := hO
        refine ⟨k + 1, true, addLast l g, rfl, rfl, by rw [t1, HL.out], by omega, fun _ => hq0, fun _ => by omega, fun _ g' hg' => ?_, fun y hy => ?_, ?_, hext, ?_⟩
        · rw [show k + 1 - 1 = k from by omega, HGK.out] at hg'
          injection hg' with hg'
          rw [← hg', hph]
        · have := t2 k HROW.out y hy
          omega
        · rw [← HQ.out, HD.out, secL_add ho hph]
        · exact (below_grown hB hB.size hown (Nat.le_refl _) g5).setCell (a1.lt go rfl).1 _)
      cases ho : o
      · have HO := Lib.hid ho
        clear ho
        obtain ⟨x0, x1, x2, x3, _, _, _, _⟩ := X0.out.four
        obtain ⟨vs0, d1, d2, d3⟩ := O0.out
        rw [HL.out] at d1
        have D1 := Lib.hid d1
        clear d1 d2 d3
        have hsx := B0.out.size
        have DA := Lib.hid ((D1.out.alloc (.cells #[.int .i64 g.k, .int .i64 g.a, .int .i64 g.b, .int .i64 g.c] 55)).alloc (.cells #[.slice (some ⟨wr.heap.size + 1, 0, none⟩) 1 1] 41))
        have RA := Lib.hid (show Rd (((wr.alloc (.cells #[.int .i64 g.k, .int .i64 g.a, .int .i64 g.b, .int .i64 g.c] 55)).alloc (.cells #[.int .i64 g.k, .int .i64 g.a, .int .i64 g.b, .int .i64 g.c] 55)).alloc (.cells #[.slice (some ⟨wr.heap.size + 1, 0, none⟩) 1 1] 41)) 1 (some ⟨wr.heap.size + 1 + 1, 0, none⟩) 1 [.slice (some ⟨wr.heap.size + 1, 0, none⟩) 1 1] from by have := Rd.lit ((wr.alloc (.cells #[.int .i64 g.k, .int .i64 g.a, .int .i64 g.b, .int .i64 g.c] 55)).alloc (.cells #[.int .i64 g.k, .int .i64 g.a, .int .i64 g.b, .int .i64 g.c] 55)) 41 #[.slice (some ⟨wr.heap.size + 1, 0, none⟩) 1 1] 1 1 rfl; rw [World.size_alloc, World.size_alloc] at this; exact this)
        go_wp2_with (at_builtin; refine wpList_app rfl (.tmp 37) (.tmp 40) 111 rfl Try.underlying111 infoGateS rfl (by decide) rfl DA.out rfl RA.out (by simp [Value.oneCell']) (by omega) (by decide) (by simp <;> omega) ?_; intro A5 c5 w5 o5 g5; have X5 := kept_app DA.out g5 ((X0.out.alloc _).alloc _) (by decide); have ⟨y0, y1, y2, y3, _, _, _, _⟩ := X5.four)
        have NW := NEW.out (wr.alloc (.cells #[.int .i64 g.k, .int .i64 g.a, .int .i64 g.b, .int .i64 g.c] 55)) w5 A5 c5 vs0 O0.out D1.out B0.out
        simp only [World.size_alloc] at NW
        obtain ⟨k', o', l', A0', q', c0', rfl, rfl, rfl, rfl, rfl, f1, f2, f3, f4, f5, f6, f7, f8, f9⟩ := NW o5 g5 (.inl HO.out)
        refine (s_l33Moves _ _ _ _ _).mono ?_
        rintro e w6 ⟨rfl, b6⟩
        clear y0 y1 y2 y3
        go_wp2_with fail
        go_roundg (gk - 1)
        case measure => omega
        case rel => exact ⟨k + 1, ph g.k, l', A0', q + 1, c0', by omega, by go_num, rfl, rfl, f1, f2, f3, f4, f5, f6, f7, f8.below b6, below_trans f9 b6⟩
      · have HO := Lib.hid ho
        clear ho
        go_wp2_with fail
        refine (s_l33Moves _ _ _ _ _).mono ?_
        rintro e w1 ⟨rfl, b1⟩
        have X1 := Lib.hid (X0.out.below b1)
        have O1 := Lib.hid (O0.out.below b1)
        have B1 := Lib.hid (below_trans B0.out b1)
        clear b1 q0 q1 q2 q3
        cases hph : ph g.k
        · have HPH := Lib.hid hph
          clear hph
          obtain ⟨x0, x1, x2, x3, _, _, _, _⟩ := X1.out.four
          obtain ⟨vs0, d1, d2, d3⟩ := O1.out
          rw [HL.out] at d1
          have D1 := Lib.hid d1
          clear d1 d2 d3
          have hsx := B1.out.size
          have DA := Lib.hid ((D1.out.alloc (.cells #[.int .i64 g.k, .int .i64 g.a, .int .i64 g.b, .int .i64 g.c] 55)).alloc (.cells #[.slice (some ⟨w1.heap.size, 0, none⟩) 1 1] 41))
          have RA := Lib.hid (show Rd (((w1).alloc (.cells #[.int .i64 g.k, .int .i64 g.a, .int .i64 g.b, .int .i64 g.c] 55)).alloc (.cells #[.slice (some ⟨w1.heap.size, 0, none⟩) 1 1] 41)) 1 (some ⟨w1.heap.size + 1, 0, none⟩) 1 [.slice (some ⟨w1.heap.size, 0, none⟩) 1 1] from by have := Rd.lit ((w1).alloc (.cells #[.int .i64 g.k, .int .i64 g.a, .int .i64 g.b, .int .i64 g.c] 55)) 41 #[.slice (some ⟨w1.heap.size, 0, none⟩) 1 1] 1 1 rfl; rw [World.size_alloc] at this; exact this)
          go_wp2_with (at_builtin; refine wpList_app rfl (.tmp 37) (.tmp 40) 111 rfl Try.underlying111 infoGateS rfl (by decide) rfl DA.out rfl RA.out (by simp [Value.oneCell']) (by omega) (by decide) (by simp <;> omega) ?_; intro A5 c5 w5 o5 g5; have X5 := kept_app DA.out g5 ((X1.out.alloc _).alloc _) (by decide); have ⟨y0, y1, y2, y3, _, _, _, _⟩ := X5.four)
          have NW := NEW.out (w1) w5 A5 c5 vs0 O1.out D1.out B1.out
          obtain ⟨k', o', l', A0', q', c0', rfl, rfl, rfl, rfl, rfl, f1, f2, f3, f4, f5, f6, f7, f8, f9⟩ := NW o5 g5 (.inr HPH.out)
          refine (s_l33Moves _ _ _ _ _).mono ?_
          rintro e w6 ⟨rfl, b6⟩
          clear y0 y1 y2 y3
          go_wp2_with fail
          go_roundg (gk - 1)
          case measure => omega
          case rel => exact ⟨k + 1, ph g.k, l', A0', q + 1, c0', by omega, by go_num, rfl, rfl, f1, f2, f3, f4, f5, f6, f7, f8.below b6, below_trans f9 b6⟩
        · have HPH := Lib.hid hph
          clear hph
          have hq0 : 0 < q := HQ0.out (HO0.out HO.out)
          obtain ⟨L, hL⟩ : ∃ L, q = L + 1 := ⟨q - 1, by omega⟩
          obtain ⟨go, cap1, x, D, dc, hv, hdx, cc, ff, ox, _⟩ := OwnSS.at_ (by decide) O1.out (k := L) (by rw [HL.out]; omega)
          rw [HL.out] at hv
          injection hv with hv1 _ hv3
          subst hv1 hv3
          have hxk := HROW.out x (List.mem_of_mem_drop (i := L) (by rw [hdx]; simp))
          have HXL : Hid (l[L]? = some x) := Lib.hid (by have := congrArg (fun r => r[0]?) hdx; simpa using this)
          have hqL : q - 1 = L := by omega
          obtain ⟨vs0, d1, d2, d3⟩ := O1.out
          rw [HL.out] at d1
          have HVL : Hid (vs0[L]? = some (.slice D x.length dc)) := Lib.hid (by rw [← d1.cellAt L (by omega)]; exact cc)
          have EX0 := EXT.out ((w1).alloc (.cells #[.int .i64 g.k, .int .i64 g.a, .int .i64 g.b, .int .i64 g.c] 55)).drew
          rw [hqL] at EX0
          have EX := Lib.hid EX0
          have CA := Lib.hid (show ((w1).alloc (.cells #[.int .i64 g.k, .int .i64 g.a, .int .i64 g.b, .int .i64 g.c] 55)).drew.cell? ⟨go, L, none⟩ = some (.slice D x.length dc) from (((Below.refl (w1).heap.size (w1)).alloc (Nat.le_refl _) (.cells #[.int .i64 g.k, .int .i64 g.a, .int .i64 g.b, .int .i64 g.c] 55)).cell (p := ⟨go, L, none⟩) (World.block_lt_of_cell? _ _ cc)).trans cc)
          have OSA := Lib.hid (show OwnSS cellsG ((w1).alloc (.cells #[.int .i64 g.k, .int .i64 g.a, .int .i64 g.b, .int .i64 g.c] 55)).drew w.heap.size 41 55 4 (.slice (some ⟨go, 0, none⟩) q c0) l from O1.out.alloc _)
          have BA := Lib.hid (show Below w.heap.size w ((w1).alloc (.cells #[.int .i64 g.k, .int .i64 g.a, .int .i64 g.b, .int .i64 g.c] 55)).drew from (B1.out.alloc B1.out.size _).drew)
          have OXA := Lib.hid (show ((w1).alloc (.cells #[.int .i64 g.k, .int .i64 g.a, .int .i64 g.b, .int .i64 g.c] 55)).drew.ownsRow w.heap.size 55 4 (.slice D x.length dc) x.length (cellsG x) from ox.alloc _)
          have DA1 := Lib.hid (show ((w1).alloc (.cells #[.int .i64 g.k, .int .i64 g.a, .int .i64 g.b, .int .i64 g.c] 55)).drew.ownsRow w.heap.size 41 1 (.slice (some ⟨go, 0, none⟩) q c0) q vs0 from d1.alloc _)
          have RA := Lib.hid (show Rd ((w1).alloc (.cells #[.int .i64 g.k, .int .i64 g.a, .int .i64 g.b, .int .i64 g.c] 55)).drew 4 (some ⟨(w1).heap.size, 0, none⟩) 1 g.cells from Rd.lit (w1) 55 #[.int .i64 g.k, .int .i64 g.a, .int .i64 g.b, .int .i64 g.c] 1 4 rfl)
          have hz4 : (Value.agg #[.int .i64 0, .int .i64 0, .int .i64 0, .int .i64 0]).cells.size = 4 := rfl
          obtain ⟨nx, hnx⟩ : ∃ nx, x.length = nx := ⟨_, rfl⟩
          have HNX := Lib.hid hnx
          rw [hnx] at cc hxk HVL CA OXA
          have CA' := CA.out
          have hsx := B1.out.size
          have one4 : ∀ u ∈ g.cells, u.oneCell' = true := by simp [Gt.cells, Value.oneCell']
          have ONE4 := Lib.hid one4
          have hLq : L < q * 1 := by omega
          have hLi : (L : Int) < (q : Int) := by omega
          have hLj : L < q := by omega
          have hLz : (0 : Int) ≤ (L : Int) := by omega
          have HLE := Lib.hid hL
          have hgo := World.block_lt_of_cell? _ _ cc
          obtain ⟨x0, x1, x2, x3, _, _, _, _⟩ := X1.out.four
          have nn := World.new_ne (w1) _ cc
          have hw1 : IntKind.i64.wrap ((q : Int) - 1) = (L : Int) := by rw [IntKind.wrap_i64]; omega
          have hw3 : IntKind.i64.wrap (L : Int) = (L : Int) := by rw [IntKind.wrap_i64]; omega
          have hw2 : (q : Int) - 1 = (L : Int) := by omega
          clear d1 d2 d3 hdx ox hL hnx hqL EX0 one4
          go_wp2_with fail
          go_region_law
            (first | (refine step_app2 (by rfl) (.tmp 32) (.tmp 34) 41 (by rfl) Try.underlying41 infoGate hz4 (by decide) (by simp [Act.eval] <;> rfl) OXA.out (by simp [Act.eval] <;> rfl) RA.out ONE4.out (by omega) (by decide) (by simp <;> omega) ?_; intro A5 c5 w5 o5 g5 hb5; have D5 := DA1.out.kept g5 (own_types DA1.out OXA.out (by decide)); have cl5 := (D5.cellAt L hLq).trans HVL.out; have fl5 := D5.frozenAt L) | fail)
          all_goals clear hw1 hw2 hw3
          all_goals go_wp2_with fail
          all_goals have h5 := EX.out w5 go x D A5 dc c5 rfl OSA.out HXL.out (by rw [HNX.out]; exact CA.out) (by rw [HNX.out]; exact OXA.out) BA.out (by rw [HNX.out]; exact o5) (by rw [HNX.out]; exact g5) (by rw [HNX.out]; exact hb5) HO.out HPH.out
          all_goals rw [HNX.out] at h5
          all_goals obtain ⟨k', o', l', rfl, rfl, f1, f2, f3, f4, f5, f6, f7, f8, f9⟩ := h5
          all_goals go_roundg (gk - 1)
          all_goals first
            | omega
            | exact ⟨k + 1, true, l', some ⟨go, 0, none⟩, q, c0, by omega, by go_num, rfl, rfl, f1, f2, f3, f4, f5, f6, f7, f8, f9⟩
    · go_wp2_with fail
      go_ret
      have hend : l = R := by rw [← HQ.out, List.drop_eq_nil_of_le (by have := H.out.1; omega), secL]
      have e1 := HL.out
      subst hend
      subst e1
      exact ⟨A0, c0, rfl, OW.out, hb⟩
end Go.Proofs.Ytibhikngiceeeaa
namespace Go.Proofs.Ytibhikngiceeeaa
open Go.RowKit
set_option linter.unusedVariables false

section
variable {P : Program} {w : World}
theorem wpList_app2 {ops : Array Oper} {rest : List Oper} {o : Oper} {a : Act} {Q : Exit → Act → World → Prop} (hgd : o.guard = none) (s x : Operand) (t : TypeId)
    (ho : o.op = .call { callee := .builtin .append, args := #[s, x], argTypes := #[t, t] })
    {base e : Nat} {z : Value} {size bytes : Nat} (ht : P.underlying t = some (.slice e)) (hinfo : (P.info? e).map (fun i => (i.zero, i.size, i.bytes)) = some (some z, size, bytes))
    (hzs : z.cells.size = size) (hsz : 0 < size) {A : Option Addr} {n c : Nat} {xs : List Value} (hs : a.eval s = .slice A n c) (hown : w.ownsRow base e size (.slice A n c) n xs)
    {A' : Option Addr} {m c' : Nat} {news : List Value} (hx : a.eval x = .slice A' m c') (hr : Rd w size A' m news) (h1 : ∀ u ∈ news, u.oneCell' = true)
    (hbytes : (n + m) * bytes ≤ 140737488355328) (hby : 0 < bytes) (hbase : base ≤ w.heap.size)
    (h : ∀ A'' c'' w', w'.ownsRow base e size (.slice A'' (n + m) c'') (n + m) (xs ++ news) → w.grownBy w' (Value.slice A n c).ownBlock → ((Value.slice A'' (n + m) c'').ownBlock = (Value.slice A n c).ownBlock ∨ ∀ b, (Value.slice A'' (n + m) c'').ownBlock = some b → w.heap.size ≤ b) → wpList P ops Q rest (a.put o.dst (.slice A'' (n + m) c'')) w') : wpList P ops Q (o :: rest) a w :=
  wpList_plain hgd fun K hK => by
    obtain ⟨A'', c'', w', hrun, h2, h3, h4⟩ := run_app2 (P := P) base t o.type e ht hinfo hzs hsz A n c xs hown A' m c' news hr h1 hbytes hby hbase
    unfold Oper.wp execOp
    simp only [ho, resolve, invoke, builtin, Sem.run_bind, Sem.run_pure, Result.andThen_ok, List.map_toArray, List.map_cons, List.map_nil, hs, hx, hrun]
    exact hK _ _ (h A'' c'' w' h2 h3 h4)
end
theorem secL_flat : ∀ (gs : List Gt) (o : Bool) (acc : List (List Gt)), (o = true → acc ≠ []) → (secL o acc gs).flatten = acc.flatten ++ gs
  | [], o, acc, _ => by rw [secL]; simp
  | g :: r, o, acc, h => by
    rw [secL]
    split
    · rename_i hh
      have ho : o = true := by rw [Bool.and_eq_true] at hh; exact hh.1
      have hne := h ho
      have hl : 0 < acc.length := List.length_pos_iff.2 hne
      have hne2 : addLast acc g ≠ [] := by intro e; have := congrArg List.length e; simp [addLast] at this; exact hne this
      rw [secL_flat r _ _ (fun _ => hne2)]
      obtain ⟨ini, last, rfl⟩ : ∃ ini last, acc = ini ++ [last] := ⟨acc.dropLast, acc.getLast hne, (List.dropLast_concat_getLast hne).symm⟩
      simp [addLast]
    · rw [secL_flat r _ _ (fun _ => by simp)]
      simp
theorem secs_flat (gs : List Gt) : (secs gs).flatten = gs := by unfold secs; rw [secL_flat _ _ _ (by simp)]; rfl
theorem secL_cnt : ∀ (gs : List Gt) (o : Bool) (acc : List (List Gt)), (secL o acc gs).length ≤ acc.length + gs.length
  | [], o, acc => by rw [secL]; simp
  | g :: r, o, acc => by
    rw [secL]
    split
    · have := secL_cnt r (ph g.k) (addLast acc g)
      simp only [addLast, List.length_set, List.length_cons] at this ⊢
      omega
    · have := secL_cnt r (ph g.k) (acc ++ [[g]])
      simp only [List.length_append, List.length_cons, List.length_nil] at this ⊢
      omega
theorem secs_cnt (gs : List Gt) : (secs gs).length ≤ gs.length := by have := secL_cnt gs false []; simpa [secs] using this
def foldAllL (n : Int) : List (List Gt) → List Gt → Int → List Gt × Int
  | [], acc, k => (acc, k)
  | s :: r, acc, k => foldAllL n r (acc ++ (foldP s n).1) ((k + (foldP s n).2) % 8)
def foldAllP (gs : List Gt) (n : Int) : List Gt × Int := foldAllL n (secs gs) [] 0
theorem foldAllL_len (n : Int) : ∀ (l : List (List Gt)) (acc : List Gt) (k : Int), (foldAllL n l acc k).1.length ≤ acc.length + 2 * l.flatten.length
  | [], acc, k => by rw [foldAllL]; simp
  | s :: r, acc, k => by
    rw [foldAllL]
    have h1 := foldAllL_len n r (acc ++ (foldP s n).1) ((k + (foldP s n).2) % 8)
    have h2 := foldP_len s n
    rw [List.length_append] at h1
    rw [List.flatten_cons, List.length_append]
    omega
theorem foldAllP_len (gs : List Gt) (n : Int) : (foldAllP gs n).1.length ≤ 2 * gs.length := by
  have := foldAllL_len n (secs gs) [] 0
  rw [secs_flat] at this
  simpa [foldAllP] using this
section
variable {α : Type} {cs : List α → List Value} {w w' : World} {sz : Nat}
theorem OwnSS.grownLow {base eo ei g : Nat} {v : Value} {l : List (List α)} (h : OwnSS cs w base eo ei sz v l) (hg : w.grownBy w' (some g)) (hlt : g < base) : OwnSS cs w' base eo ei sz v l := by
  obtain ⟨vs, h1, h2, h3⟩ := h
  have ne : ∀ {e n s : Nat} {u : Value} {xs : List Value}, w.ownsRow base e s u n xs → u.ownBlock = none ∨ u.ownBlock ≠ some g := fun ho => by
    cases hk : Value.ownBlock _ with
    | none => exact .inl rfl
    | some k => exact .inr fun e => by injection e with e; have := (ho.lt k hk).1; omega
  refine ⟨vs, h1.kept hg (ne h1), fun j x hx => ?_, h3⟩
  obtain ⟨B, c, a1, a2⟩ := h2 j x hx
  exact ⟨B, c, a1, a2.kept hg (ne a2)⟩
end
theorem dr_row2 {a b c : World} {g : Nat} {row : Option Nat} (h : a.grownBy b (some g)) (k : b.grownBy c row) (hr : ∀ i, row = some i → a.heap.size ≤ i ∨ i = g) : a.grownBy c (some g) := by
  refine ⟨k.os.trans h.os, k.tape.trans h.tape, k.output.trans h.output, Nat.le_trans h.size k.size, fun i hi hne => (k.block i (Nat.lt_of_lt_of_le hi h.size) ?_).trans (h.block i hi hne)⟩
  intro e
  rcases hr i e.symm with q | q
  · omega
  · exact hne (by rw [q])
theorem gr_below {a b c : World} {g : Nat} (h : a.grownBy b (some g)) (k : Below b.heap.size b c) : a.grownBy c (some g) :=
  ⟨k.os.trans h.os, k.tape.trans h.tape, k.output.trans h.output, Nat.le_trans h.size k.size, fun i hi hne => (k.block i (Nat.lt_of_lt_of_le hi h.size)).trans (h.block i hi hne)⟩

set_option maxRecDepth 100000 in
set_option maxHeartbeats 3200000 in
theorem i_FoldAllP (A : Option Addr) (n cap : Nat) (gs : List Gt) (N : Int) (w : World) (h : RdG w A n gs) (hn : n ≤ 1048576) :
    Calls Try.prog 27 #[.slice A n cap, .int .i64 N] w (RetGI (foldAllP gs N) w) := by
  have hz4 : (Value.agg #[.int .i64 0, .int .i64 0, .int .i64 0, .int .i64 0]).cells.size = 4 := rfl
  have B0 := Lib.hid ((Below.refl w.heap.size w).alloc (Nat.le_refl _) (.cells #[] 55))
  have H := Lib.hid (h.below B0.out)
  have hfl := secs_flat gs
  have hgl := h.1
  clear h
  obtain ⟨L, hL⟩ : ∃ L, secs gs = L := ⟨_, rfl⟩
  have hft : 2 * L.flatten.length ≤ 2097152 := by rw [← hL, hfl]; omega
  have hcnt : L.length ≤ 1048576 := by rw [← hL]; have := secs_cnt gs; omega
  obtain ⟨R, hR⟩ : ∃ R, foldAllP gs N = R := ⟨_, rfl⟩
  rw [hR]
  have HR : Hid (foldAllL N L [] 0 = R) := Lib.hid (by rw [← hR, ← hL]; rfl)
  have HLL := Lib.hid hL
  clear hR hL hfl hgl
  have OG := Lib.hid (show (w.alloc (.cells #[] 55)).ownsRow w.heap.size 55 4 (.slice (some ⟨w.heap.size, 0, none⟩) 0 0) 0 (cellsG []) from own0_bx (Nat.le_refl _) (Bx.new w _ _))
  go_enter Try.func27, Try.ntmps27
  go_wp2_with fail
  refine (i_PhaseSections _ _ _ _ _ H.out hn).mono ?_
  rintro e wS ⟨A1, c1, rfl, oS, bS⟩
  rw [HLL.out] at oS ⊢
  obtain ⟨m, hm⟩ : ∃ m, L.length = m := ⟨_, rfl⟩
  rw [hm] at oS hcnt ⊢
  have HLm := Lib.hid hm
  have SS := Lib.hid (oS.base_ (base' := w.heap.size + 1) (by simp))
  have O1 := Lib.hid (ownsRow_below OG.out bS)
  have hwS : w.heap.size + 1 ≤ wS.heap.size := by have := bS.size; simpa using this
  have BW := Lib.hid (below_trans B0.out bS)
  clear oS bS OG hm
  go_wp2_with fail
  go_loopg [6, 7, 16] m (fun r s q i wr => ∃ (k : Nat) (A3 : Option Addr) (c3 : Nat) (acc : List Gt) (kk : Int), k + r = m ∧ i = .int .i64 k ∧ s = .slice A3 acc.length c3 ∧ q = .int .i64 kk ∧ foldAllL N (L.drop k) acc kk = R ∧ acc.length + 2 * (L.drop k).flatten.length ≤ 2097152 ∧ wr.ownsRow w.heap.size 55 4 (.slice A3 acc.length c3) acc.length (cellsG acc) ∧ wS.grownBy wr (some w.heap.size) ∧ (∀ b, (Value.slice A3 acc.length c3).ownBlock = some b → wS.heap.size ≤ b ∨ b = w.heap.size) ∧ Below w.heap.size w wr)
  case atStart => exact ⟨0, _, 0, [], 0, by omega, rfl, rfl, rfl, HR.out, by simpa using hft, O1.out, World.grownBy.refl _ _, fun b hb => by simp [Value.ownBlock] at hb; omega, BW.out⟩
  case round =>
    clear O1 BW HR hft
    obtain ⟨k, A3, c3, acc, kk, hk, rfl, rfl, rfl, hf, hal, ho, hg, hbk, hb⟩ := hrel
    have HF := Lib.hid hf
    have HO := Lib.hid ho
    have HG := Lib.hid hg
    have HBK := Lib.hid hbk
    have HB := Lib.hid hb
    have hbs := hb.size
    have hgs := hg.size
    clear hf ho hg hbk hb
    by_cases hlt : k < m
    · have RS := Lib.hid ((SS.out.grownLow HG.out (by omega)).rd HLm.out)
      obtain ⟨b, off, x, B, c, rfl, hbb, hd, c0, hxc, hx⟩ := RS.out.at_ hlt
      have HX := Lib.hid (show RdG wr B x.length x from ⟨rfl, hx⟩)
      have HD := Lib.hid hd
      have hxl : (L.drop k).flatten.length = x.length + (L.drop (k + 1)).flatten.length := by rw [hd, List.flatten_cons, List.length_append]
      have hfl := foldP_len x N
      have hkI : (k : Int) < (m : Int) := by omega
      clear hd hx
      obtain ⟨⟨F, fk⟩, hfp⟩ : ∃ r, foldP x N = r := ⟨_, rfl⟩
      rw [hfp] at hfl
      have HFP := Lib.hid hfp
      have hfl2 : F.length ≤ 2 * x.length := hfl
      clear hfp hfl
      go_wp2_with fail
      refine (i_FoldP _ _ _ x N _ HX.out (by omega)).mono ?_
      rintro e w5 ⟨A5, c5, rfl, o5, b5⟩
      rw [HFP.out] at o5 ⊢
      dsimp only at o5 ⊢
      have O5 := Lib.hid o5
      have HO5 := Lib.hid (ownsRow_below HO.out b5)
      have hs5 := b5.size
      have HG5 := Lib.hid (gr_below HG.out b5)
      have HB5 := Lib.hid (below_trans HB.out b5)
      clear o5 b5
      go_wp2_with (at_builtin; refine wpList_app2 rfl (.tmp 26) (.tmp 27) 41 rfl Try.underlying41 infoGate hz4 (by decide) rfl HO5.out rfl (Rd.own O5.out) one_cellsG (by omega) (by decide) (by omega) ?_; intro A7 c7 w7 o7 g7 q7; have O7 := Lib.hid o7; have G7 := Lib.hid g7; have Q7 := Lib.hid q7; clear o7 g7 q7)
      refine (i_mod8 _ _).mono ?_
      rintro e w' ⟨rfl, rfl⟩
      rw [wrap_mod8]
      go_wp2_with fail
      go_roundg (gk - 1)
      case measure => omega
      case rel =>
        have hlen : (acc ++ F).length = acc.length + F.length := List.length_append
        refine ⟨k + 1, A7, c7, acc ++ F, (kk + fk) % 8, by omega, by go_num, by rw [hlen], rfl, by rw [← HF.out, HD.out, foldAllL, HFP.out], by omega, by rw [hlen, cellsG_append]; exact O7.out, dr_row2 HG5.out G7.out HBK.out, ?_, below_grown HB5.out HB5.out.size HO5.out (Nat.le_refl _) G7.out⟩
        intro b hb
        rw [hlen] at hb
        rcases Q7.out with h1 | h1
        · exact HBK.out b (by rw [← h1]; exact hb)
        · exact .inl (by have := h1 b hb; omega)
    · have hE : (acc, kk) = R := by
        have e := HF.out
        rw [List.drop_eq_nil_of_le (by have := HLm.out; omega)] at e
        exact e
      have HE := Lib.hid hE
      clear hE
      go_wp2_with fail
      go_ret2
      rw [← HE.out]
      exact ⟨A3, c3, rfl, HO.out, HB.out⟩

set_option maxRecDepth 100000 in
set_option maxHeartbeats 3200000 in
theorem s_FoldAllP (A : Option Addr) (n cap : Nat) (gs : List Gt) (N : Int) (w : World) (h : RdG w A n gs) (hn : n ≤ 1048576) :
    Calls Try.prog 28 #[.slice A n cap, .int .i64 N] w (RetGI (foldAllP gs N) w) := by
  have hz4 : (Value.agg #[.int .i64 0, .int .i64 0, .int .i64 0, .int .i64 0]).cells.size = 4 := rfl
  have B0 := Lib.hid ((Below.refl w.heap.size w).alloc (Nat.le_refl _) (.cells #[] 55))
  have H := Lib.hid (h.below B0.out)
  have hfl := secs_flat gs
  have hgl := h.1
  clear h
  obtain ⟨L, hL⟩ : ∃ L, secs gs = L := ⟨_, rfl⟩
  have hft : 2 * L.flatten.length ≤ 2097152 := by rw [← hL, hfl]; omega
  have hcnt : L.length ≤ 1048576 := by rw [← hL]; have := secs_cnt gs; omega
  obtain ⟨R, hR⟩ : ∃ R, foldAllP gs N = R := ⟨_, rfl⟩
  rw [hR]
  have HR : Hid (foldAllL N L [] 0 = R) := Lib.hid (by rw [← hR, ← hL]; rfl)
  have HLL := Lib.hid hL
  clear hR hL hfl hgl
  have OG := Lib.hid (show (w.alloc (.cells #[] 55)).ownsRow w.heap.size 55 4 (.slice (some ⟨w.heap.size, 0, none⟩) 0 0) 0 (cellsG []) from own0_bx (Nat.le_refl _) (Bx.new w _ _))
  go_enter Try.func28, Try.ntmps28
  go_wp2_with fail
  refine (s_PhaseSections _ _ _ _ _ H.out hn).mono ?_
  rintro e wS ⟨A1, c1, rfl, oS, bS⟩
  rw [HLL.out] at oS ⊢
  obtain ⟨m, hm⟩ : ∃ m, L.length = m := ⟨_, rfl⟩
  rw [hm] at oS hcnt ⊢
  have HLm := Lib.hid hm
  have SS := Lib.hid (oS.base_ (base' := w.heap.size + 1) (by simp))
  have O1 := Lib.hid (ownsRow_below OG.out bS)
  have hwS : w.heap.size + 1 ≤ wS.heap.size := by have := bS.size; simpa using this
  have BW := Lib.hid (below_trans B0.out bS)
  clear oS bS OG hm
  go_wp2_with fail
  go_loopg [6, 7, 9] m (fun r s q i wr => ∃ (k : Nat) (A3 : Option Addr) (c3 : Nat) (acc : List Gt) (kk : Int), k + r = m ∧ i = .int .i64 k ∧ s = .slice A3 acc.length c3 ∧ q = .int .i64 kk ∧ foldAllL N (L.drop k) acc kk = R ∧ acc.length + 2 * (L.drop k).flatten.length ≤ 2097152 ∧ wr.ownsRow w.heap.size 55 4 (.slice A3 acc.length c3) acc.length (cellsG acc) ∧ wS.grownBy wr (some w.heap.size) ∧ (∀ b, (Value.slice A3 acc.length c3).ownBlock = some b → wS.heap.size ≤ b ∨ b = w.heap.size) ∧ Below w.heap.size w wr)
  case atStart => exact ⟨0, _, 0, [], 0, by omega, rfl, rfl, rfl, HR.out, by simpa using hft, O1.out, World.grownBy.refl _ _, fun b hb => by simp [Value.ownBlock] at hb; omega, BW.out⟩
  case round =>
    clear O1 BW HR hft
    obtain ⟨k, A3, c3, acc, kk, hk, rfl, rfl, rfl, hf, hal, ho, hg, hbk, hb⟩ := hrel
    have HF := Lib.hid hf
    have HO := Lib.hid ho
    have HG := Lib.hid hg
    have HBK := Lib.hid hbk
    have HB := Lib.hid hb
    have hbs := hb.size
    have hgs := hg.size
    clear hf ho hg hbk hb
    by_cases hlt : k < m
    · have RS := Lib.hid ((SS.out.grownLow HG.out (by omega)).rd HLm.out)
      obtain ⟨b, off, x, B, c, rfl, hbb, hd, c0, hxc, hx⟩ := RS.out.at_ hlt
      have HX := Lib.hid (show RdG wr B x.length x from ⟨rfl, hx⟩)
      have HD := Lib.hid hd
      have hxl : (L.drop k).flatten.length = x.length + (L.drop (k + 1)).flatten.length := by rw [hd, List.flatten_cons, List.length_append]
      have hfl := foldP_len x N
      have hkI : (k : Int) < (m : Int) := by omega
      clear hd hx
      obtain ⟨⟨F, fk⟩, hfp⟩ : ∃ r, foldP x N = r := ⟨_, rfl⟩
      rw [hfp] at hfl
      have HFP := Lib.hid hfp
      have hfl2 : F.length ≤ 2 * x.length := hfl
      clear hfp hfl
      go_wp2_with fail
      refine (s_FoldP _ _ _ x N _ HX.out (by omega)).mono ?_
      rintro e w5 ⟨A5, c5, rfl, o5, b5⟩
      rw [HFP.out] at o5 ⊢
      dsimp only at o5 ⊢
      have O5 := Lib.hid o5
      have HO5 := Lib.hid (ownsRow_below HO.out b5)
      have hs5 := b5.size
      have HG5 := Lib.hid (gr_below HG.out b5)
      have HB5 := Lib.hid (below_trans HB.out b5)
      clear o5 b5
      go_wp2_with (at_builtin; refine wpList_app2 rfl (.tmp 30) (.tmp 31) 41 rfl Try.underlying41 infoGate hz4 (by decide) rfl HO5.out rfl (Rd.own O5.out) one_cellsG (by omega) (by decide) (by omega) ?_; intro A7 c7 w7 o7 g7 q7; have O7 := Lib.hid o7; have G7 := Lib.hid g7; have Q7 := Lib.hid q7; clear o7 g7 q7)
      refine (s_l32Rest _ _).mono ?_
      rintro e w' ⟨rfl, rfl⟩
      rw [wrap_mod8]
      go_wp2_with fail
      go_roundg (gk - 1)
      case measure => omega
      case rel =>
        have hlen : (acc ++ F).length = acc.length + F.length := List.length_append
        refine ⟨k + 1, A7, c7, acc ++ F, (kk + fk) % 8, by omega, by go_num, by rw [hlen], rfl, by rw [← HF.out, HD.out, foldAllL, HFP.out], by omega, by rw [hlen, cellsG_append]; exact O7.out, dr_row2 HG5.out G7.out HBK.out, ?_, below_grown HB5.out HB5.out.size HO5.out (Nat.le_refl _) G7.out⟩
        intro b hb
        rw [hlen] at hb
        rcases Q7.out with h1 | h1
        · exact HBK.out b (by rw [← h1]; exact hb)
        · exact .inl (by have := h1 b hb; omega)
    · have hE : (acc, kk) = R := by
        have e := HF.out
        rw [List.drop_eq_nil_of_le (by have := HLm.out; omega)] at e
        exact e
      have HE := Lib.hid hE
      clear hE
      go_wp2_with fail
      go_ret2
      rw [← HE.out]
      exact ⟨A3, c3, rfl, HO.out, HB.out⟩

end Go.Proofs.Ytibhikngiceeeaa
namespace Go.Proofs.Ytibhikngiceeeaa
open Go.RowKit
set_option linter.unusedVariables false

theorem phZ_mod {a b : Nat} (h : a % 8 = b % 8) : phZ a = phZ b := by
  unfold phZ
  rw [h]
/-- One section. -/
theorem fold_acts {n : Nat} {s : List Gt} (hs : ∀ g ∈ s, okN n g = true) :
    (∀ g ∈ (foldP s (n : Int)).1, okN n g = true) ∧ hcs (foldP s (n : Int)).1 = hcs s ∧ tcnt (foldP s (n : Int)).1 ≤ tcnt s ∧ ∃ j : Nat, (foldP s (n : Int)).2 = (j : Int) ∧ j < 8 ∧ ∀ V, V.length = 2 ^ n → actG s V = scl (phZ j) (actG (foldP s (n : Int)).1 V) := by
  cases hc : compP s (n : Int) with
  | mk M ok =>
    cases ok
    · rw [foldP_no (by rw [hc])]
      exact ⟨hs, rfl, Int.le_refl _, 0, rfl, by omega, fun V _ => (scl_0 _).symm⟩
    · obtain ⟨Q, q1, q2, q3, q4, q5, q6, q7, q8, q9, q10, q11, _⟩ := fold_law hc
      obtain ⟨hn, m1, m2, m3, m4, _⟩ := poly_acts hc
      obtain ⟨_, k1, k2, k3, k4, _⟩ := poly_acts q1
      refine ⟨fun g hg => (k1 g hg).1, ?_, by omega, (foldP s (n : Int)).2.toNat, by omega, by omega, fun V hV => ?_⟩
      · rw [mono_hcs fun g hg => (k1 g hg).2, mono_hcs fun g hg => (m1 g hg).2]
      · refine linN_ext (actG_linN s hs) ((actG_linN _ fun g hg => (k1 g hg).1).comp (linN_scl _ (ph_isU _))) (fun b hb => ?_) hV
        have e1 := (m4 b hb).1
        have e2 := (k4 b hb).1
        have eb : bitsP b Q = bitsP b M := by unfold bitsP; rw [q4]
        rw [e1]
        show _ = scl _ (actG _ _)
        rw [e2, scl_ph, eb]
        congr 1
        refine phZ_mod ?_
        unfold phP
        rw [← q5, q3]
        omega
/-- All sections. -/
theorem foldAll_acts {n : Nat} : ∀ (l : List (List Gt)) (acc : List Gt) (k : Int), (∀ s ∈ l, ∀ g ∈ s, okN n g = true) → 0 ≤ k → k < 8 →
    ∃ f p, foldAllL (n : Int) l acc k = (acc ++ f, p) ∧ (∀ g ∈ f, okN n g = true) ∧ hcs f = hcs l.flatten ∧ tcnt f ≤ tcnt l.flatten ∧ ∃ j : Nat, p = (k + j) % 8 ∧ ∀ V, V.length = 2 ^ n → actG l.flatten V = scl (phZ j) (actG f V)
  | [], acc, k, _, h0, h8 => ⟨[], k, by rw [foldAllL, List.append_nil], by simp, rfl, Int.le_refl _, 0, by omega, fun V _ => (scl_0 _).symm⟩
  | s :: r, acc, k, h, h0, h8 => by
    obtain ⟨a1, a2, a3, j, a4, a5, a6⟩ := fold_acts (h s (by simp))
    obtain ⟨f, p, b1, b2, b3, b4, j2, b5, b6⟩ := foldAll_acts r (acc ++ (foldP s (n : Int)).1) ((k + (foldP s (n : Int)).2) % 8) (fun x hx => h x (by simp [hx])) (by omega) (by omega)
    refine ⟨(foldP s (n : Int)).1 ++ f, p, ?_, fun g hg => ?_, ?_, ?_, j + j2, ?_, fun V hV => ?_⟩
    · rw [foldAllL, b1, List.append_assoc]
    · rcases List.mem_append.1 hg with hg | hg
      · exact a1 g hg
      · exact b2 g hg
    · rw [hcs_app, a2, b3, List.flatten_cons, hcs_app]
    · rw [tcnt_app, List.flatten_cons, tcnt_app]; omega
    · rw [b5, a4]; omega
    · have l1 := (actG_linN _ a1).2.2 V hV
      rw [List.flatten_cons, actG_app, actG_app, a6 V hV, b6 _ (by rw [scl_lenN, l1]), (actG_linN f b2).2.1 _ _ l1, scl_ph]
theorem foldAll_law {n : Nat} {gs : List Gt} (h : ∀ g ∈ gs, okN n g = true) :
    (∀ g ∈ (foldAllP gs (n : Int)).1, okN n g = true) ∧ hcs (foldAllP gs (n : Int)).1 = hcs gs ∧ tcnt (foldAllP gs (n : Int)).1 ≤ tcnt gs ∧ ∃ j : Nat, (foldAllP gs (n : Int)).2 = (j : Int) ∧ j < 8 ∧ ∀ V, V.length = 2 ^ n → actG gs V = scl (phZ j) (actG (foldAllP gs (n : Int)).1 V) := by
  have hm : ∀ s ∈ secs gs, ∀ g ∈ s, okN n g = true := fun s hs g hg => h g (by rw [← secs_flat gs]; exact List.mem_flatten.2 ⟨s, hs, hg⟩)
  obtain ⟨f, p, b1, b2, b3, b4, j, b5, b6⟩ := foldAll_acts (secs gs) [] 0 hm (by omega) (by omega)
  have e : foldAllP gs (n : Int) = (f, p) := by unfold foldAllP; rw [b1, List.nil_append]
  rw [secs_flat] at b3 b4 b6
  rw [e]
  refine ⟨b2, b3, b4, j % 8, ?_, by omega, fun V hV => ?_⟩
  · simp only
    rw [b5]
    omega
  · rw [b6 V hV, phZ_mod (show j % 8 % 8 = j % 8 by omega)]
end Go.Proofs.Ytibhikngiceeeaa
namespace Go.Proofs.Ytibhikngiceeeaa
open Go.ChangeShapes Go.WideShapes Go.ChangeAt Go.RowKit Go.Deep

def I64 (n : Int) : Prop := -9223372036854775808 ≤ n ∧ n ≤ 9223372036854775807
theorem i64_of_wf {n : Int} (h : (Lit.int .i64 n).wf = true) : I64 n := by
  simpa [Lit.wf, IntKind.min, IntKind.max, IntKind.signed, IntKind.bits, I64] using h
def Gt.ok (g : Gt) : Prop := I64 g.k ∧ I64 g.a ∧ I64 g.b ∧ I64 g.c

theorem addr_plain {w : World} {a : Addr} {v : Value} (h : w.cell? (a.add 0) = some v) : ∃ b off, a = ⟨b, off, none⟩ ∧ b < w.heap.size := by
  obtain ⟨b, off, spot⟩ := a
  have e : spot = none := by simpa [Addr.add] using World.cell?_spot h
  subst e
  exact ⟨b, off, rfl, by simpa [Addr.add] using World.block_lt_of_cell? w _ h⟩
theorem add_lit (b off j : Nat) : (⟨b, off, none⟩ : Addr).add j = ⟨b, off + j, none⟩ := by
  unfold Addr.add
  split
  · subst j; rfl
  · rfl

section
variable {H : Type} {enc : TypeId × Value → H} {P : Program} {w : World} {base : Nat} {spare : Nat → Bool} {held : Bool}

theorem choose_list {α : Type} (n : Nat) (p : Nat → α → Prop) (h : ∀ i, i < n → ∃ x, p i x) : ∃ l : List α, l.length = n ∧ ∀ i x, l[i]? = some x → p i x := by
  induction n with
  | zero => exact ⟨[], rfl, fun i x hx => by simp at hx⟩
  | succ n ih =>
    obtain ⟨l, hl, hp⟩ := ih fun i hi => h i (by omega)
    obtain ⟨x, hx⟩ := h n (by omega)
    refine ⟨l ++ [x], by simp [hl], fun i y hy => ?_⟩
    rw [List.getElem?_append] at hy
    split at hy
    · exact hp i y hy
    · rename_i hge
      have : i - l.length = 0 := by
        rcases Nat.eq_zero_or_pos (i - l.length) with h0 | h0
        · exact h0
        · rw [List.getElem?_eq_none (by simp; omega)] at hy; cases hy
      rw [this] at hy
      simp at hy
      subst hy
      obtain rfl : i = n := by omega
      exact hx

theorem open_rows {t e : TypeId} {fuel sz : Nat} {v : Value} {x : DataW H × List MemPlace} (hC : P.cellsOf e = sz) (hsz : 0 < sz) (ht : P.underlying t = some (.slice e)) (h : DataW.trod enc P w base spare held fuel t [v] = some x) :
    ∃ A n cap, v = .slice A n cap ∧ n ≤ cap ∧ cap ≤ maxLen ∧ (A = none → n = 0 ∧ cap = 0) ∧
      ∃ l : List (List Value), l.length = n ∧ (∀ c ∈ l, c.length = sz ∧ ∃ m y, DataW.trod enc P w base spare held m e c = some y) ∧
        (0 < n → ∃ b off, A = some ⟨b, off, none⟩ ∧ b < w.heap.size ∧ ∀ i c j u, l[i]? = some c → c[j]? = some u → w.cell? ⟨b, off + (i * sz + j), none⟩ = some u) := by
  rcases open_slice ht h with ⟨h0, _⟩ | ⟨a, len, cap, m, n, D, Pl, hcs, hb, hl, hm, hmm, hx, hi⟩
  · simp at h0
    subst h0
    exact ⟨none, 0, 0, rfl, by omega, by simp [maxLen], fun _ => ⟨rfl, rfl⟩, [], rfl, fun c hc => by simp at hc, fun h => absurd h (by omega)⟩
  · simp at hcs
    subst hcs
    refine ⟨some a, len, cap, rfl, hl, hm, (fun h => by simp at h), ?_⟩
    have hle : len ≤ m := by rw [hmm]; split <;> omega
    obtain ⟨l, hll, hp⟩ := choose_list len (fun i c => c.length = sz ∧ (∃ m y, DataW.trod enc P w base spare held m e c = some y) ∧ ∀ j u, c[j]? = some u → w.cell? (a.add (i * sz + j)) = some u) (fun i hi' => by
      obtain ⟨cs', hc, ht'⟩ := hi i (by omega)
      rw [hC] at hc
      obtain ⟨_, hcl, hat⟩ := World.cells?_some hc
      refine ⟨cs', hcl, ⟨_, _, ht'⟩, fun j u hu => ?_⟩
      have hjl : j < sz := by
        rcases Nat.lt_or_ge j cs'.length with h | h
        · omega
        · rw [List.getElem?_eq_none h] at hu; cases hu
      have := hat j hjl
      rw [hu] at this
      rw [← Go.Deep.add_add]
      exact this)
    refine ⟨l, hll, fun c hc => ?_, fun hn => ?_⟩
    · obtain ⟨i, hi1, rfl⟩ := List.getElem_of_mem hc
      obtain ⟨h1, h2, _⟩ := hp i l[i] (List.getElem?_eq_getElem hi1)
      exact ⟨h1, h2⟩
    · have h0 : l[0]? = some (l[0]'(by omega)) := List.getElem?_eq_getElem (by omega)
      obtain ⟨g1, _, g3⟩ := hp 0 _ h0
      have h00 : (l[0]'(by omega))[0]? = some ((l[0]'(by omega))[0]'(by omega)) := List.getElem?_eq_getElem (by omega)
      have hc0 := g3 0 _ h00
      simp only [Nat.zero_mul, Nat.add_zero] at hc0
      obtain ⟨b, off, rfl, hlt⟩ := addr_plain hc0
      refine ⟨b, off, rfl, hlt, fun i c j u hc hu => ?_⟩
      obtain ⟨_, _, k3⟩ := hp i c hc
      rw [← add_lit]
      exact k3 j u hu

theorem flat_at (sz : Nat) : ∀ (l : List (List Value)) (j : Nat) (u : Value), (∀ c ∈ l, c.length = sz) → l.flatten[j]? = some u → ∃ i c k, l[i]? = some c ∧ c[k]? = some u ∧ j = i * sz + k
  | [], j, u, _, h => by simp at h
  | c :: r, j, u, hl, h => by
    have hc := hl c (by simp)
    rw [List.flatten_cons, List.getElem?_append] at h
    split at h
    · exact ⟨0, c, j, by simp, h, by omega⟩
    · obtain ⟨i, c', k, h1, h2, h3⟩ := flat_at sz r (j - c.length) u (fun c hc => hl c (by simp [hc])) h
      refine ⟨i + 1, c', k, by simpa using h1, h2, ?_⟩
      rw [Nat.add_mul]; omega

theorem rd_rows {A : Option Addr} {n sz : Nat} {l : List (List Value)} (hl : l.length = n) (hc : ∀ c ∈ l, c.length = sz)
    (h : 0 < n → ∃ b off, A = some ⟨b, off, none⟩ ∧ b < w.heap.size ∧ ∀ i c j u, l[i]? = some c → c[j]? = some u → w.cell? ⟨b, off + (i * sz + j), none⟩ = some u) : Rd w sz A n l.flatten := by
  refine ⟨?_, fun hn => ?_⟩
  · subst hl
    clear h
    induction l with
    | nil => simp
    | cons c r ih =>
      rw [List.flatten_cons, List.length_append, ih fun c hc' => hc c (by simp [hc']), hc c (by simp), List.length_cons, Nat.add_mul]; omega
  · obtain ⟨b, off, e, hb, hh⟩ := h hn
    refine ⟨b, off, e, hb, fun j u hu => ?_⟩
    obtain ⟨i, c, k, h1, h2, rfl⟩ := flat_at sz l j u hc hu
    exact hh i c k u h1 h2

theorem map_of {α : Type} (f : α → List Value) (ok : α → Prop) (l : List (List Value)) (h : ∀ c ∈ l, ∃ g, c = f g ∧ ok g) : ∃ gs : List α, l = gs.map f ∧ ∀ g ∈ gs, ok g := by
  induction l with
  | nil => exact ⟨[], rfl, fun g hg => by simp at hg⟩
  | cons c r ih =>
    obtain ⟨gs, e, hk⟩ := ih fun c hc => h c (by simp [hc])
    obtain ⟨g, rfl, hg⟩ := h c (by simp)
    exact ⟨g :: gs, by simp [e], fun x hx => by
      rcases List.mem_cons.1 hx with rfl | hx
      · exact hg
      · exact hk x hx⟩

theorem open_gates {t e : TypeId} {fuel : Nat} {v : Value} {x : DataW H × List MemPlace} {f0 f1 f2 f3 : Field} (ht : P.underlying t = some (.slice e)) (he : P.underlying e = some (.struct #[f0, f1, f2, f3]))
    (hone : oneCellFields P #[f0, f1, f2, f3] = true) (hC : P.cellsOf e = 4) (h0 : P.underlying f0.type = some (.int .i64)) (h1 : P.underlying f1.type = some (.int .i64)) (h2 : P.underlying f2.type = some (.int .i64)) (h3 : P.underlying f3.type = some (.int .i64))
    (h : DataW.trod enc P w base spare held fuel t [v] = some x) :
    ∃ A n cap gs, v = .slice A n cap ∧ RdG w A n gs ∧ n ≤ cap ∧ cap ≤ maxLen ∧ ∀ g ∈ gs, g.ok := by
  obtain ⟨A, n, cap, rfl, h4, h5, _, l, hl, hc, hr⟩ := open_rows hC (by omega) ht h
  obtain ⟨gs, rfl, hok⟩ := map_of Gt.cells Gt.ok l (fun c hcm => by
    obtain ⟨hlen, m, y, hy⟩ := hc c hcm
    obtain ⟨ys, n', _, _, _, _, hf⟩ := DataW.trod_struct he hy
    obtain ⟨c0, c1, c2, c3, rfl⟩ : ∃ c0 c1 c2 c3, c = [c0, c1, c2, c3] := by
      match c, hlen with
      | [c0, c1, c2, c3], _ => exact ⟨c0, c1, c2, c3, rfl⟩
    have g : ∀ (i : Nat) (f : Field) (u : Value), #[f0, f1, f2, f3][i]? = some f → [c0, c1, c2, c3][i]? = some u → P.underlying f.type = some (.int .i64) → ∃ z, u = .int .i64 z ∧ I64 z := by
      intro i f u hi hu hi64
      obtain ⟨ho, hk⟩ := hone_of hone i f hi
      have hyi := hf i f hi
      rw [ho, hk] at hyi
      have hil : i < 4 := by have := (Array.getElem?_eq_some_iff.1 hi).1; simpa using this
      have hil' : i < [c0, c1, c2, c3].length := by simpa using hil
      have e1 : ([c0, c1, c2, c3].drop i).take 1 = [u] := by
        rw [List.drop_eq_getElem_cons hil']
        rw [List.getElem?_eq_getElem hil'] at hu
        simp at hu
        simp [hu]
      rw [e1] at hyi
      have hys : ∃ y, ys[i]? = some y := by
        have : i < ys.length := by simp_all
        exact ⟨_, List.getElem?_eq_getElem this⟩
      obtain ⟨y', hy'⟩ := hys
      rw [hy'] at hyi
      obtain ⟨z, hz, _, hw⟩ := DataW.trod_int hi64 hyi
      simp at hz
      exact ⟨z, hz, i64_of_wf hw⟩
    obtain ⟨z0, rfl, b0⟩ := g 0 f0 c0 rfl rfl h0
    obtain ⟨z1, rfl, b1⟩ := g 1 f1 c1 rfl rfl h1
    obtain ⟨z2, rfl, b2⟩ := g 2 f2 c2 rfl rfl h2
    obtain ⟨z3, rfl, b3⟩ := g 3 f3 c3 rfl rfl h3
    exact ⟨⟨z0, z1, z2, z3⟩, rfl, b0, b1, b2, b3⟩)
  refine ⟨A, n, cap, gs, rfl, ⟨by simpa using hl, ?_⟩, h4, h5, hok⟩
  have := rd_rows hl (fun c hcm => (hc c hcm).1) hr
  rwa [← List.flatMap_def] at this

theorem open_pairs {t e : TypeId} {fuel : Nat} {v : Value} {x : DataW H × List MemPlace} {f0 f1 : Field} (ht : P.underlying t = some (.slice e)) (he : P.underlying e = some (.struct #[f0, f1]))
    (hone : oneCellFields P #[f0, f1] = true) (hC : P.cellsOf e = 2) (h0 : P.underlying f0.type = some (.int .i64)) (h1 : P.underlying f1.type = some (.int .i64))
    (h : DataW.trod enc P w base spare held fuel t [v] = some x) :
    ∃ A n cap ps, v = .slice A n cap ∧ RdP w A n ps ∧ n ≤ cap ∧ cap ≤ maxLen ∧ ∀ g ∈ ps, I64 g.1 ∧ I64 g.2 := by
  obtain ⟨A, n, cap, rfl, h4, h5, _, l, hl, hc, hr⟩ := open_rows hC (by omega) ht h
  obtain ⟨gs, rfl, hok⟩ := map_of (fun p : Int × Int => [Value.int .i64 p.1, .int .i64 p.2]) (fun p => I64 p.1 ∧ I64 p.2) l (fun c hcm => by
    obtain ⟨hlen, m, y, hy⟩ := hc c hcm
    obtain ⟨ys, n', _, _, _, _, hf⟩ := DataW.trod_struct he hy
    obtain ⟨c0, c1, rfl⟩ : ∃ c0 c1, c = [c0, c1] := by
      match c, hlen with
      | [c0, c1], _ => exact ⟨c0, c1, rfl⟩
    have g : ∀ (i : Nat) (f : Field) (u : Value), #[f0, f1][i]? = some f → [c0, c1][i]? = some u → P.underlying f.type = some (.int .i64) → ∃ z, u = .int .i64 z ∧ I64 z := by
      intro i f u hi hu hi64
      obtain ⟨ho, hk⟩ := hone_of hone i f hi
      have hyi := hf i f hi
      rw [ho, hk] at hyi
      have hil : i < 2 := by have := (Array.getElem?_eq_some_iff.1 hi).1; simpa using this
      have hil' : i < [c0, c1].length := by simpa using hil
      have e1 : ([c0, c1].drop i).take 1 = [u] := by
        rw [List.drop_eq_getElem_cons hil']
        rw [List.getElem?_eq_getElem hil'] at hu
        simp at hu
        simp [hu]
      rw [e1] at hyi
      have hys : ∃ y, ys[i]? = some y := by
        have : i < ys.length := by simp_all
        exact ⟨_, List.getElem?_eq_getElem this⟩
      obtain ⟨y', hy'⟩ := hys
      rw [hy'] at hyi
      obtain ⟨z, hz, _, hw⟩ := DataW.trod_int hi64 hyi
      simp at hz
      exact ⟨z, hz, i64_of_wf hw⟩
    obtain ⟨z0, rfl, b0⟩ := g 0 f0 c0 rfl rfl h0
    obtain ⟨z1, rfl, b1⟩ := g 1 f1 c1 rfl rfl h1
    exact ⟨(z0, z1), rfl, b0, b1⟩)
  refine ⟨A, n, cap, gs, rfl, ⟨by simpa using hl, ?_⟩, h4, h5, hok⟩
  have := rd_rows hl (fun c hcm => (hc c hcm).1) hr
  rwa [← List.flatMap_def] at this

theorem flat_ones (k : IntKind) (gs : List Int) : gs.map (Value.int k) = (gs.map fun z : Int => [Value.int k z]).flatten := by
  induction gs with
  | nil => rfl
  | cons a r ih => simp only [List.map_cons, List.flatten_cons, ih, List.singleton_append]

theorem open_nums {t e : TypeId} {fuel : Nat} {v : Value} {x : DataW H × List MemPlace} (ht : P.underlying t = some (.slice e)) (he : P.underlying e = some (.int .i64)) (hC : P.cellsOf e = 1)
    (h : DataW.trod enc P w base spare held fuel t [v] = some x) :
    ∃ A n cap zs, v = .slice A n cap ∧ RdI w A n zs ∧ n ≤ cap ∧ cap ≤ maxLen ∧ ∀ z ∈ zs, I64 z := by
  obtain ⟨A, n, cap, rfl, h4, h5, _, l, hl, hc, hr⟩ := open_rows hC (by omega) ht h
  obtain ⟨gs, rfl, hok⟩ := map_of (fun z : Int => [Value.int .i64 z]) I64 l (fun c hcm => by
    obtain ⟨hlen, m, y, hy⟩ := hc c hcm
    obtain ⟨z, hz, _, hw⟩ := DataW.trod_int he hy
    exact ⟨z, hz, i64_of_wf hw⟩)
  refine ⟨A, n, cap, gs, rfl, ⟨by simpa using hl, ?_⟩, h4, h5, hok⟩
  have := rd_rows hl (fun c hcm => (hc c hcm).1) hr
  rwa [← flat_ones] at this

theorem open_bytes {t e : TypeId} {fuel : Nat} {v : Value} {x : DataW H × List MemPlace} (ht : P.underlying t = some (.slice e)) (he : P.underlying e = some (.int .u8)) (hC : P.cellsOf e = 1)
    (h : DataW.trod enc P w base spare held fuel t [v] = some x) :
    ∃ (A : Option Addr) (n cap : Nat) (zs : List Int), v = .slice A n cap ∧ (zs.length = n ∧ Rd w 1 A n (zs.map (Value.int .u8))) ∧ n ≤ cap ∧ cap ≤ maxLen ∧ ∀ z ∈ zs, 0 ≤ z ∧ z ≤ 255 := by
  obtain ⟨A, n, cap, rfl, h4, h5, _, l, hl, hc, hr⟩ := open_rows hC (by omega) ht h
  obtain ⟨gs, rfl, hok⟩ := map_of (fun z : Int => [Value.int .u8 z]) (fun z => 0 ≤ z ∧ z ≤ 255) l (fun c hcm => by
    obtain ⟨hlen, m, y, hy⟩ := hc c hcm
    obtain ⟨z, hz, _, hw⟩ := DataW.trod_int he hy
    exact ⟨z, hz, by simpa [Lit.wf, IntKind.min, IntKind.max, IntKind.signed, IntKind.bits] using hw⟩)
  refine ⟨A, n, cap, gs, rfl, ⟨by simpa using hl, ?_⟩, h4, h5, hok⟩
  have := rd_rows hl (fun c hcm => (hc c hcm).1) hr
  rwa [← flat_ones] at this
end
end Go.Proofs.Ytibhikngiceeeaa
