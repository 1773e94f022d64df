/- Contracts of isPhased, l33Moves and PhaseSections (impl and spec). At most 2^20 gates. -/
import Derived.Test.YthfacfnknpomcaaApp2
import Derived.Test.YthfacfnknpomcaaGateS
import Derived.Test.YthfacfnknpomcaaSmall
import Derived.Test.YthfacfnknpomcaaReads
import Derived.Deep.RegionLaw
import Derived.Deep.RegionHeld3
namespace Go.Proofs.Ythfacfnknpomcaa
open Go.RowKit

def ph (k : Int) : Bool := k == 1 || (k == 9 || (k == 11 || (units k != 0)))
def addLast (acc : List (List Gt)) (g : Gt) : List (List Gt) := acc.set (acc.length - 1) (acc.getD (acc.length - 1) [] ++ [g])
def secL : Bool → List (List Gt) → List Gt → List (List Gt)
  | _, acc, [] => acc
  | o, acc, g :: r => if (o && ph g.k) = true then secL (ph g.k) (addLast acc g) r else secL (ph g.k) (acc ++ [[g]]) r
def secs (gs : List Gt) : List (List Gt) := secL false [] gs
theorem secL_add {o : Bool} {acc : List (List Gt)} {g : Gt} {r : List Gt} (h1 : o = true) (h2 : ph g.k = true) : secL o acc (g :: r) = secL true (addLast acc g) r := by rw [secL, h1, h2]; rfl
theorem secL_new {o : Bool} {acc : List (List Gt)} {g : Gt} {r : List Gt} (h : o = false ∨ ph g.k = false) : secL o acc (g :: r) = secL (ph g.k) (acc ++ [[g]]) r := by
  rw [secL, if_neg]
  rcases h with h | h <;> rw [h] <;> simp
/-- What a function that hands back a new slice of slices of gates comes to. -/
def RetGG (l : List (List Gt)) (w : World) (e : Ending) (w' : World) : Prop :=
  ∃ A c, e = .returned (.slice A l.length c) ∧ OwnSS cellsG w' w.heap.size 47 38 4 (.slice A l.length c) l ∧ Below w.heap.size w w'
theorem infoGateS : (Try.prog.info? 47).map (fun i => (i.zero, i.size, i.bytes)) = some (some (.slice none 0 0), 1, 24) := by kernel_rfl
theorem unitsZ (k : Int) : (units k != 0) = decide (0 < units k) := by
  have := units_bd k
  by_cases h : units k = 0
  · rw [h]; rfl
  · have : 0 < units k := by omega
    simp [h, this]
theorem totG_add {acc : List (List Gt)} (g : Gt) (h : 0 < acc.length) : (addLast acc g).length = acc.length ∧ ∀ b, (∀ x ∈ acc, x.length ≤ b) → ∀ x ∈ addLast acc g, x.length ≤ b + 1 := by
  refine ⟨by simp [addLast], fun b hb x hx => ?_⟩
  unfold addLast at hx
  rcases List.mem_or_eq_of_mem_set hx with h1 | h1
  · have := hb x h1; omega
  · rw [h1, List.length_append, List.length_singleton]
    rw [List.getD_eq_getElem?_getD, List.getElem?_eq_getElem (by omega), Option.getD_some]
    have := hb _ (List.getElem_mem (by omega : acc.length - 1 < acc.length))
    omega
theorem own_uniqG {w : World} {b1 b2 : Nat} {e : TypeId} {sz n : Nat} {v : Value} {xs ys : List Value} (h1 : w.ownsRow b1 e sz v n xs) (h2 : w.ownsRow b2 e sz v n ys) : xs = ys := by
  have l1 := h1.1
  have l2 := h2.1
  rcases h1.2 with ⟨rfl, rfl⟩ | ⟨g, cap, cur, rfl, _, hh, _, _, _, ht⟩
  · rw [List.eq_nil_of_length_eq_zero (by omega : xs.length = 0), List.eq_nil_of_length_eq_zero (by omega : ys.length = 0)]
  · rcases h2.2 with ⟨h3, _⟩ | ⟨g', cap', cur', h3, _, hh', _, _, _, ht'⟩
    · simp at h3
    · simp only [Value.slice.injEq, Option.some.injEq, Addr.mk.injEq, and_true, true_and] at h3
      obtain ⟨rfl, rfl⟩ := h3
      rw [hh] at hh'
      injection hh' with hh'
      injection hh' with hc _
      subst hc
      rw [← ht, ← ht']

set_option maxHeartbeats 800000 in
theorem i_isPhased (k a b c : Int) (w : World) : Calls Try.prog 113 #[.agg #[.int .i64 k, .int .i64 a, .int .i64 b, .int .i64 c]] w fun e w' => e = .returned (.bool (ph k)) ∧ Below w.heap.size w w' := by
  by_cases h1 : k = 1
  · subst h1
    go_enter Try.func113, Try.ntmps113
    go_wp2_with fail
    go_ret
    exact ⟨rfl, (Below.refl _ _).alloc (Nat.le_refl _) _⟩
  · have e1 : (k == 1) = false := by simpa using h1
    by_cases h2 : k = 9
    · subst h2
      go_enter Try.func113, Try.ntmps113
      go_wp2_with fail
      go_ret
      exact ⟨rfl, (Below.refl _ _).alloc (Nat.le_refl _) _⟩
    · have e2 : (k == 9) = false := by simpa using h2
      by_cases h3 : k = 11
      · subst h3
        go_enter Try.func113, Try.ntmps113
        go_wp2_with fail
        go_ret
        exact ⟨rfl, (Below.refl _ _).alloc (Nat.le_refl _) _⟩
      · have e3 : (k == 11) = false := by simpa using h3
        have HP : Hid (ph k = (units k != 0)) := Lib.hid (by unfold ph; rw [e1, e2, e3]; rfl)
        clear h1 h2 h3
        go_enter Try.func113, Try.ntmps113
        go_wp2_with fail
        refine (i_RotationUnits _ _).mono ?_
        rintro e w1 ⟨rfl, rfl⟩
        go_wp2_with fail
        go_ret
        exact ⟨ret_bool (by rw [HP.out]), (Below.refl _ _).alloc (Nat.le_refl _) _⟩
set_option maxHeartbeats 800000 in
theorem s_l33Moves (k a b c : Int) (w : World) : Calls Try.prog 135 #[.agg #[.int .i64 k, .int .i64 a, .int .i64 b, .int .i64 c]] w fun e w' => e = .returned (.bool (ph k)) ∧ Below w.heap.size w w' := by
  by_cases h1 : k = 1
  · subst h1
    go_enter Try.func135, Try.ntmps135
    go_wp2_with fail
    go_ret
    exact ⟨rfl, (Below.refl _ _).alloc (Nat.le_refl _) _⟩
  · have e1 : (k == 1) = false := by simpa using h1
    by_cases h2 : k = 9
    · subst h2
      go_enter Try.func135, Try.ntmps135
      go_wp2_with fail
      go_ret
      exact ⟨rfl, (Below.refl _ _).alloc (Nat.le_refl _) _⟩
    · have e2 : (k == 9) = false := by simpa using h2
      by_cases h3 : k = 11
      · subst h3
        go_enter Try.func135, Try.ntmps135
        go_wp2_with fail
        go_ret
        exact ⟨rfl, (Below.refl _ _).alloc (Nat.le_refl _) _⟩
      · have e3 : (k == 11) = false := by simpa using h3
        have HP : Hid (ph k = (units k != 0)) := Lib.hid (by unfold ph; rw [e1, e2, e3]; rfl)
        clear h1 h2 h3
        go_enter Try.func135, Try.ntmps135
        go_wp2_with fail
        refine (s_RotationUnits _ _).mono ?_
        rintro e w1 ⟨rfl, rfl⟩
        go_wp2_with fail
        go_ret
        exact ⟨ret_bool (by rw [HP.out]; first | exact (unitsZ k).symm | simp [unitsZ]), (Below.refl _ _).alloc (Nat.le_refl _) _⟩

set_option maxRecDepth 100000 in
set_option maxHeartbeats 3200000 in
theorem i_PhaseSections (A : Option Addr) (n cap : Nat) (gs : List Gt) (w : World) (h : RdG w A n gs) (hn : n ≤ 1048576) : Calls Try.prog 43 #[.slice A n cap] w (RetGG (secs gs) w) := by
  have H := Lib.hid h
  clear h
  obtain ⟨R, hR⟩ : ∃ R, secs gs = R := ⟨_, rfl⟩
  have HR : Hid (secL false [] gs = R) := Lib.hid hR
  rw [hR]
  clear hR
  go_enter Try.func43, Try.ntmps43
  go_wp2_with fail
  go_loopg [3, 9] n (fun r v i wr => ∃ (k : Nat) (o : Bool) (l : List (List Gt)) (A0 : Option Addr) (q c0 : Nat), k + r = n ∧ i = .int .i64 k ∧ v = .slice A0 q c0 ∧ l.length = q ∧ q ≤ k ∧ (0 < k → 0 < q) ∧ (o = true → 0 < k) ∧ (0 < k → ∀ g', gs[k - 1]? = some g' → o = ph g'.k) ∧ (∀ x ∈ l, x.length ≤ k) ∧ secL o l (gs.drop k) = R ∧ OwnSS cellsG wr w.heap.size 47 38 4 (.slice A0 q c0) l ∧ Below w.heap.size w wr)
  case atStart => exact ⟨0, false, [], _, 0, 0, by omega, rfl, rfl, rfl, by omega, (fun h => absurd h (by omega)), (fun h => by cases h), (fun h => absurd h (by omega)), (fun x hx => by simp at hx), HR.out, OwnSS.lit0 w (Nat.le_refl _) _ _ _ _, (Below.refl _ _).alloc (Nat.le_refl _) _⟩
  case round =>
    clear HR
    obtain ⟨k, o, l, A0, q, c0, hk, rfl, rfl, hl, hqk, hq0, ho0, hop, hrow, hq, ow, hb⟩ := hrel
    have HL := Lib.hid hl
    have HO0 := Lib.hid ho0
    have HOP := Lib.hid hop
    have HROW := Lib.hid hrow
    have HQ := Lib.hid hq
    have OW := Lib.hid ow
    have HQ0 := Lib.hid hq0
    clear hl ho0 hop hrow hq ow hq0
    have hs0 := hb.size
    by_cases hlt : k < n
    · obtain ⟨bg, fg, g, hA, hBg, hd, q0, q1, q2, q3⟩ := (H.out.below hb).at_ hlt
      subst hA
      have HD := Lib.hid hd
      clear hd
      have HGK : Hid (gs[k]? = some g) := Lib.hid (by have := congrArg (fun r => r[0]?) HD.out; simpa using this)
      have B0 := Lib.hid (show Below w.heap.size w (wr.alloc (.cells #[.int .i64 g.k, .int .i64 g.a, .int .i64 g.b, .int .i64 g.c] 38)) from hb.alloc hs0 _)
      have X0 := Lib.hid (Bx.new wr 38 #[.int .i64 g.k, .int .i64 g.a, .int .i64 g.b, .int .i64 g.c])
      have O0 := Lib.hid (OW.out.alloc (.cells #[.int .i64 g.k, .int .i64 g.a, .int .i64 g.b, .int .i64 g.c] 38))
      have hkI : (k : Int) < (n : Int) := by omega
      have NEW : Hid (∀ (wx w5 : World) (A5 : Option Addr) (c5 : Nat) (vs0 : List Value), OwnSS cellsG wx w.heap.size 47 38 4 (.slice A0 q c0) l → wx.ownsRow w.heap.size 47 1 (.slice A0 q c0) q vs0 → Below w.heap.size w wx → w5.ownsRow w.heap.size 47 1 (.slice A5 (q + 1) c5) (q + 1) (vs0 ++ [.slice (some ⟨wx.heap.size, 0, none⟩) 1 1]) → ((wx.alloc (.cells #[.int .i64 g.k, .int .i64 g.a, .int .i64 g.b, .int .i64 g.c] 38)).alloc (.cells #[.slice (some ⟨wx.heap.size, 0, none⟩) 1 1] 47)).grownBy w5 (Value.slice A0 q c0).ownBlock → (o = false ∨ ph g.k = false) → (∃ (k' : Nat) (o' : Bool) (l' : List (List Gt)) (A0' : Option Addr) (q' c0' : Nat), k' = k + 1 ∧ o' = ph g.k ∧ q' = q + 1 ∧ A0' = A5 ∧ c0' = c5 ∧ l'.length = q' ∧ q' ≤ k' ∧ (0 < k' → 0 < q') ∧ (o' = true → 0 < k') ∧ (0 < k' → ∀ g', gs[k' - 1]? = some g' → o' = ph g'.k) ∧ (∀ x ∈ l', x.length ≤ k') ∧ secL o' l' (gs.drop k') = R ∧ OwnSS cellsG w5 w.heap.size 47 38 4 (.slice A0' q' c0') l' ∧ Below w.heap.size w w5)) := Lib.hid (by
        intro wx w5 A5 c5 vs0 hO hD hB h5 g5 hcnd
        have hsx := hB.size
        have hne : (47 : Nat) ≠ 38 := by decide
        have b1 : Below wx.heap.size wx ((wx.alloc (.cells #[.int .i64 g.k, .int .i64 g.a, .int .i64 g.b, .int .i64 g.c] 38)).alloc (.cells #[.slice (some ⟨wx.heap.size, 0, none⟩) 1 1] 47)) := ((Below.refl _ _).alloc (Nat.le_refl _) _).alloc (by simp) _
        refine ⟨k + 1, ph g.k, l ++ [[g]], A5, q + 1, c5, rfl, rfl, rfl, rfl, rfl, by rw [List.length_append, HL.out]; rfl, by omega, fun _ => by omega, fun _ => by omega, fun _ g' hg' => ?_, fun x hx => ?_, ?_, ?_, ?_⟩
        · rw [show k + 1 - 1 = k from by omega, HGK.out] at hg'
          injection hg' with hg'
          rw [hg']
        · rcases List.mem_append.1 hx with hx | hx
          · have := HROW.out x hx; omega
          · simp at hx; subst hx; simp
        · rw [← HQ.out, HD.out, secL_new hcnd]
        · have hap := OwnSS.app (cs := cellsG) (B := wx.heap.size) (w0 := wx) (w1 := (wx.alloc (.cells #[.int .i64 g.k, .int .i64 g.a, .int .i64 g.b, .int .i64 g.c] 38)).alloc (.cells #[.slice (some ⟨wx.heap.size, 0, none⟩) 1 1] 47)) (w2 := w5) (l := l) (l' := [[g]]) (vs' := [.slice (some ⟨wx.heap.size, 0, none⟩) 1 1]) (v'' := .slice A5 (q + 1) c5) hne hO (Nat.le_refl _) hsx b1
            (fun j x hj => by
              have h0 : j = 0 := by have := (List.getElem?_eq_some_iff.1 hj).1; simp at this; omega
              subst h0
              simp at hj
              subst hj
              exact ⟨_, 1, rfl, (World.ownsRow_lit (e := 38) (size := 4) wx #[.int .i64 g.k, .int .i64 g.a, .int .i64 g.b, .int .i64 g.c] 1 (Nat.le_refl _) (by simp [maxLen]) rfl).alloc _⟩)
            (fun i j u u' hij hu hu' => by
              have h1 := (List.getElem?_eq_some_iff.1 hu).1
              have h2 := (List.getElem?_eq_some_iff.1 hu').1
              simp at h1 h2
              omega)
            rfl g5 (fun vs hv => by rw [HL.out] at hv ⊢; rw [own_uniqG hv ((hD.alloc _).alloc _)]; exact h5)
          exact hap
        · exact below_grown ((hB.alloc hsx _).alloc (by simp <;> omega) _) (by simp <;> omega) ((hD.alloc _).alloc _) (Nat.le_refl _) g5)
      have EXT : Hid (∀ (wx w5 : World) (go : Nat) (x : List Gt) (D D' : Option Addr) (c c' : Nat), A0 = some ⟨go, 0, none⟩ → OwnSS cellsG wx w.heap.size 47 38 4 (.slice A0 q c0) l → l[q - 1]? = some x → wx.cell? ⟨go, q - 1, none⟩ = some (.slice D x.length c) → wx.ownsRow w.heap.size 38 4 (.slice D x.length c) x.length (cellsG x) → Below w.heap.size w wx → w5.ownsRow w.heap.size 38 4 (.slice D' (x.length + 1) c') (x.length + 1) (cellsG x ++ g.cells) → wx.grownBy w5 (Value.slice D x.length c).ownBlock → ((Value.slice D' (x.length + 1) c').ownBlock = (Value.slice D x.length c).ownBlock ∨ ∀ b, (Value.slice D' (x.length + 1) c').ownBlock = some b → wx.heap.size ≤ b) → o = true → ph g.k = true → (∃ (k' : Nat) (o' : Bool) (l' : List (List Gt)), k' = k + 1 ∧ o' = true ∧ l'.length = q ∧ q ≤ k' ∧ (0 < k' → 0 < q) ∧ (o' = true → 0 < k') ∧ (0 < k' → ∀ g', gs[k' - 1]? = some g' → o' = ph g'.k) ∧ (∀ x ∈ l', x.length ≤ k') ∧ secL o' l' (gs.drop k') = R ∧ OwnSS cellsG (w5.setCell ⟨go, q - 1, none⟩ (.slice D' (x.length + 1) c')) w.heap.size 47 38 4 (.slice A0 q c0) l' ∧ Below w.heap.size w (w5.setCell ⟨go, q - 1, none⟩ (.slice D' (x.length + 1) c')))) := Lib.hid (by
        intro wx w5 go x D D' c c' hA0 hO hx hcell hown hB h5 g5 hbb ho hph
        subst hA0
        have hq0 : 0 < q := HQ0.out (HO0.out ho)
        have hadd : addLast l g = l.set (q - 1) (x ++ [g]) := by unfold addLast; rw [HL.out, List.getD_eq_getElem?_getD, hx, Option.getD_some]
        obtain ⟨t1, t2⟩ := totG_add (acc := l) g (by rw [HL.out]; exact hq0)
        have hxl : (x ++ [g]).length = x.length + 1 := by simp
        have hext := OwnSS.ext (cs := cellsG) (w1 := w5) (c' := c') (D' := D') (y := x ++ [g]) (by decide) hO hx hcell g5 (by rw [hxl, cellsG_append]; exact h5) (by rw [hxl]; exact hbb)
        rw [hxl, ← hadd] at hext
        obtain ⟨vs, a1, _⟩ := hO
        refine ⟨k + 1, true, addLast l g, rfl, rfl, by rw [t1, HL.out], by omega, fun _ => hq0, fun _ => by omega, fun _ g' hg' => ?_, fun y hy => ?_, ?_, hext, ?_⟩
        · rw [show k + 1 - 1 = k from by omega, HGK.out] at hg'
          injection hg' with hg'
          rw [← hg', hph]
        · have := t2 k HROW.out y hy
          omega
        · rw [← HQ.out, HD.out, secL_add ho hph]
        · exact (below_grown hB hB.size hown (Nat.le_refl _) g5).setCell (a1.lt go rfl).1 _)
      by_cases hk0 : k = 0
      · have ho : o = false := by cases o with | false => rfl | true => exact absurd (HO0.out rfl) (by omega)
        have hkf : ¬ (0 < k) := by omega
        have hkg : ¬ ((0 : Int) < (k : Int)) := by omega
        clear hk0
        obtain ⟨x0, x1, x2, x3, _, _, _, _⟩ := X0.out.four
        obtain ⟨vs0, d1, d2, d3⟩ := O0.out
        rw [HL.out] at d1
        have D1 := Lib.hid d1
        clear d1 d2 d3
        have hsx := B0.out.size
        have DA := Lib.hid ((D1.out.alloc (.cells #[.int .i64 g.k, .int .i64 g.a, .int .i64 g.b, .int .i64 g.c] 38)).alloc (.cells #[.slice (some ⟨wr.heap.size + 1, 0, none⟩) 1 1] 47))
        have RA := Lib.hid (show Rd (((wr.alloc (.cells #[.int .i64 g.k, .int .i64 g.a, .int .i64 g.b, .int .i64 g.c] 38)).alloc (.cells #[.int .i64 g.k, .int .i64 g.a, .int .i64 g.b, .int .i64 g.c] 38)).alloc (.cells #[.slice (some ⟨wr.heap.size + 1, 0, none⟩) 1 1] 47)) 1 (some ⟨wr.heap.size + 1 + 1, 0, none⟩) 1 [.slice (some ⟨wr.heap.size + 1, 0, none⟩) 1 1] from by have := Rd.lit ((wr.alloc (.cells #[.int .i64 g.k, .int .i64 g.a, .int .i64 g.b, .int .i64 g.c] 38)).alloc (.cells #[.int .i64 g.k, .int .i64 g.a, .int .i64 g.b, .int .i64 g.c] 38)) 47 #[.slice (some ⟨wr.heap.size + 1, 0, none⟩) 1 1] 1 1 rfl; rw [World.size_alloc, World.size_alloc] at this; exact this)
        go_wp2_with (at_builtin; refine wpList_app rfl (.tmp 42) (.tmp 45) 62 rfl Try.underlying62 infoGateS rfl (by decide) rfl DA.out rfl RA.out (by simp [Value.oneCell']) (by omega) (by decide) (by simp <;> omega) ?_; intro A5 c5 w5 o5 g5)
        have NW := NEW.out (wr.alloc (.cells #[.int .i64 g.k, .int .i64 g.a, .int .i64 g.b, .int .i64 g.c] 38)) w5 A5 c5 vs0 O0.out D1.out B0.out
        simp only [World.size_alloc] at NW
        obtain ⟨k', o', l', A0', q', c0', rfl, rfl, rfl, rfl, rfl, f1, f2, f3, f4, f5, f6, f7, f8, f9⟩ := NW o5 g5 (.inl ho)
        go_roundg (gk - 1)
        case measure => omega
        case rel => exact ⟨k + 1, ph g.k, l', A0', q + 1, c0', by omega, by go_num, rfl, f1, f2, f3, f4, f5, f6, f7, f8, f9⟩
      · have hk1 : (0 : Int) < (k : Int) := by omega
        have hk2 : 0 < k := by omega
        go_wp2_with fail
        refine (i_isPhased _ _ _ _ _).mono ?_
        rintro e w1 ⟨rfl, b1⟩
        have X1 := Lib.hid (X0.out.below b1)
        have O1 := Lib.hid (O0.out.below b1)
        have B1 := Lib.hid (below_trans B0.out b1)
        clear b1 q0 q1 q2 q3
        cases hph : ph g.k
        · have HPH := Lib.hid hph
          clear hph
          obtain ⟨x0, x1, x2, x3, _, _, _, _⟩ := X1.out.four
          obtain ⟨vs0, d1, d2, d3⟩ := O1.out
          rw [HL.out] at d1
          have D1 := Lib.hid d1
          clear d1 d2 d3
          have hsx := B1.out.size
          have DA := Lib.hid ((D1.out.alloc (.cells #[.int .i64 g.k, .int .i64 g.a, .int .i64 g.b, .int .i64 g.c] 38)).alloc (.cells #[.slice (some ⟨w1.heap.size, 0, none⟩) 1 1] 47))
          have RA := Lib.hid (show Rd (((w1).alloc (.cells #[.int .i64 g.k, .int .i64 g.a, .int .i64 g.b, .int .i64 g.c] 38)).alloc (.cells #[.slice (some ⟨w1.heap.size, 0, none⟩) 1 1] 47)) 1 (some ⟨w1.heap.size + 1, 0, none⟩) 1 [.slice (some ⟨w1.heap.size, 0, none⟩) 1 1] from by have := Rd.lit ((w1).alloc (.cells #[.int .i64 g.k, .int .i64 g.a, .int .i64 g.b, .int .i64 g.c] 38)) 47 #[.slice (some ⟨w1.heap.size, 0, none⟩) 1 1] 1 1 rfl; rw [World.size_alloc] at this; exact this)
          go_wp2_with (at_builtin; refine wpList_app rfl (.tmp 42) (.tmp 45) 62 rfl Try.underlying62 infoGateS rfl (by decide) rfl DA.out rfl RA.out (by simp [Value.oneCell']) (by omega) (by decide) (by simp <;> omega) ?_; intro A5 c5 w5 o5 g5)
          have NW := NEW.out (w1) w5 A5 c5 vs0 O1.out D1.out B1.out
          obtain ⟨k', o', l', A0', q', c0', rfl, rfl, rfl, rfl, rfl, f1, f2, f3, f4, f5, f6, f7, f8, f9⟩ := NW o5 g5 (.inr HPH.out)
          go_roundg (gk - 1)
          case measure => omega
          case rel => exact ⟨k + 1, ph g.k, l', A0', q + 1, c0', by omega, by go_num, rfl, f1, f2, f3, f4, f5, f6, f7, f8, f9⟩
        · have HPH := Lib.hid hph
          clear hph
          obtain ⟨kp, hkp⟩ : ∃ kp, k = kp + 1 := ⟨k - 1, by omega⟩
          obtain ⟨bp, fp, g', hA', hBp, hd', r0, r1, r2, r3⟩ := (H.out.below B1.out).at_ (show kp < n by omega)
          injection hA' with hA'
          injection hA' with e1 e2 _
          subst e1 e2
          have hoo := HOP.out hk2 g' (by rw [hkp]; have := congrArg (fun r => r[0]?) hd'; simpa using this)
          have HOO := Lib.hid hoo
          have hkk : (k : Int) - 1 = (kp : Int) := by omega
          have hkpn : (kp : Int) < (n : Int) := by omega
          have HKP := Lib.hid hkp
          clear hoo hd' hkp
          go_wp2_with fail
          refine (i_isPhased _ _ _ _ _).mono ?_
          rintro e w2 ⟨rfl, b2⟩
          have X2 := Lib.hid (X1.out.below b2)
          have O2 := Lib.hid (O1.out.below b2)
          have B2 := Lib.hid (below_trans B1.out b2)
          clear b2 r0 r1 r2 r3 X1 O1 B1 hkk
          cases hph2 : ph g'.k
          · have HO := Lib.hid (HOO.out.trans hph2)
            clear hph2
            obtain ⟨x0, x1, x2, x3, _, _, _, _⟩ := X2.out.four
            obtain ⟨vs0, d1, d2, d3⟩ := O2.out
            rw [HL.out] at d1
            have D1 := Lib.hid d1
            clear d1 d2 d3
            have hsx := B2.out.size
            have DA := Lib.hid ((D1.out.alloc (.cells #[.int .i64 g.k, .int .i64 g.a, .int .i64 g.b, .int .i64 g.c] 38)).alloc (.cells #[.slice (some ⟨w2.heap.size, 0, none⟩) 1 1] 47))
            have RA := Lib.hid (show Rd (((w2).alloc (.cells #[.int .i64 g.k, .int .i64 g.a, .int .i64 g.b, .int .i64 g.c] 38)).alloc (.cells #[.slice (some ⟨w2.heap.size, 0, none⟩) 1 1] 47)) 1 (some ⟨w2.heap.size + 1, 0, none⟩) 1 [.slice (some ⟨w2.heap.size, 0, none⟩) 1 1] from by have := Rd.lit ((w2).alloc (.cells #[.int .i64 g.k, .int .i64 g.a, .int .i64 g.b, .int .i64 g.c] 38)) 47 #[.slice (some ⟨w2.heap.size, 0, none⟩) 1 1] 1 1 rfl; rw [World.size_alloc] at this; exact this)
            go_wp2_with (at_builtin; refine wpList_app rfl (.tmp 42) (.tmp 45) 62 rfl Try.underlying62 infoGateS rfl (by decide) rfl DA.out rfl RA.out (by simp [Value.oneCell']) (by omega) (by decide) (by simp <;> omega) ?_; intro A5 c5 w5 o5 g5)
            have NW := NEW.out (w2) w5 A5 c5 vs0 O2.out D1.out B2.out
            obtain ⟨k', o', l', A0', q', c0', rfl, rfl, rfl, rfl, rfl, f1, f2, f3, f4, f5, f6, f7, f8, f9⟩ := NW o5 g5 (.inl HO.out)
            go_roundg (gk - 1)
            case measure => omega
            case rel => exact ⟨k + 1, ph g.k, l', A0', q + 1, c0', by omega, by go_num, rfl, f1, f2, f3, f4, f5, f6, f7, f8, f9⟩
          · have HO := Lib.hid (HOO.out.trans hph2)
            clear hph2
            have hq0 : 0 < q := HQ0.out (HO0.out HO.out)
            obtain ⟨L, hL⟩ : ∃ L, q = L + 1 := ⟨q - 1, by omega⟩
            obtain ⟨go, cap1, x, D, dc, hv, hdx, cc, ff, ox, _⟩ := OwnSS.at_ (by decide) O2.out (k := L) (by rw [HL.out]; omega)
            rw [HL.out] at hv
            injection hv with hv1 _ hv3
            subst hv1 hv3
            have hxk := HROW.out x (List.mem_of_mem_drop (i := L) (by rw [hdx]; simp))
            have HXL : Hid (l[L]? = some x) := Lib.hid (by have := congrArg (fun r => r[0]?) hdx; simpa using this)
            have hqL : q - 1 = L := by omega
            obtain ⟨vs0, d1, d2, d3⟩ := O2.out
            rw [HL.out] at d1
            have HVL : Hid (vs0[L]? = some (.slice D x.length dc)) := Lib.hid (by rw [← d1.cellAt L (by omega)]; exact cc)
            have EX0 := EXT.out ((w2).alloc (.cells #[.int .i64 g.k, .int .i64 g.a, .int .i64 g.b, .int .i64 g.c] 38)).drew
            rw [hqL] at EX0
            have EX := Lib.hid EX0
            have CA := Lib.hid (show ((w2).alloc (.cells #[.int .i64 g.k, .int .i64 g.a, .int .i64 g.b, .int .i64 g.c] 38)).drew.cell? ⟨go, L, none⟩ = some (.slice D x.length dc) from (((Below.refl (w2).heap.size (w2)).alloc (Nat.le_refl _) (.cells #[.int .i64 g.k, .int .i64 g.a, .int .i64 g.b, .int .i64 g.c] 38)).cell (p := ⟨go, L, none⟩) (World.block_lt_of_cell? _ _ cc)).trans cc)
            have OSA := Lib.hid (show OwnSS cellsG ((w2).alloc (.cells #[.int .i64 g.k, .int .i64 g.a, .int .i64 g.b, .int .i64 g.c] 38)).drew w.heap.size 47 38 4 (.slice (some ⟨go, 0, none⟩) q c0) l from O2.out.alloc _)
            have BA := Lib.hid (show Below w.heap.size w ((w2).alloc (.cells #[.int .i64 g.k, .int .i64 g.a, .int .i64 g.b, .int .i64 g.c] 38)).drew from (B2.out.alloc B2.out.size _).drew)
            have OXA := Lib.hid (show ((w2).alloc (.cells #[.int .i64 g.k, .int .i64 g.a, .int .i64 g.b, .int .i64 g.c] 38)).drew.ownsRow w.heap.size 38 4 (.slice D x.length dc) x.length (cellsG x) from ox.alloc _)
            have DA1 := Lib.hid (show ((w2).alloc (.cells #[.int .i64 g.k, .int .i64 g.a, .int .i64 g.b, .int .i64 g.c] 38)).drew.ownsRow w.heap.size 47 1 (.slice (some ⟨go, 0, none⟩) q c0) q vs0 from d1.alloc _)
            have RA := Lib.hid (show Rd ((w2).alloc (.cells #[.int .i64 g.k, .int .i64 g.a, .int .i64 g.b, .int .i64 g.c] 38)).drew 4 (some ⟨(w2).heap.size, 0, none⟩) 1 g.cells from Rd.lit (w2) 38 #[.int .i64 g.k, .int .i64 g.a, .int .i64 g.b, .int .i64 g.c] 1 4 rfl)
            have hz4 : (Value.agg #[.int .i64 0, .int .i64 0, .int .i64 0, .int .i64 0]).cells.size = 4 := rfl
            obtain ⟨nx, hnx⟩ : ∃ nx, x.length = nx := ⟨_, rfl⟩
            have HNX := Lib.hid hnx
            rw [hnx] at cc hxk HVL CA OXA
            have CA' := CA.out
            have hsx := B2.out.size
            have one4 : ∀ u ∈ g.cells, u.oneCell' = true := by simp [Gt.cells, Value.oneCell']
            have ONE4 := Lib.hid one4
            have hLq : L < q * 1 := by omega
            have hLi : (L : Int) < (q : Int) := by omega
            have hLj : L < q := by omega
            have hLz : (0 : Int) ≤ (L : Int) := by omega
            have HLE := Lib.hid hL
            have hgo := World.block_lt_of_cell? _ _ cc
            obtain ⟨x0, x1, x2, x3, _, _, _, _⟩ := X2.out.four
            have nn := World.new_ne (w2) _ cc
            have hw1 : IntKind.i64.wrap ((q : Int) - 1) = (L : Int) := by rw [IntKind.wrap_i64]; omega
            have hw3 : IntKind.i64.wrap (L : Int) = (L : Int) := by rw [IntKind.wrap_i64]; omega
            have hw2 : (q : Int) - 1 = (L : Int) := by omega
            clear d1 d2 d3 hdx ox hL hnx hqL EX0 one4
            go_wp2_with fail
            go_region_law
              (first | (refine step_app2 (by rfl) (.tmp 37) (.tmp 39) 47 (by rfl) Try.underlying47 infoGate hz4 (by decide) (by simp [Act.eval] <;> rfl) OXA.out (by simp [Act.eval] <;> rfl) RA.out ONE4.out (by omega) (by decide) (by simp <;> omega) ?_; intro A5 c5 w5 o5 g5 hb5; have D5 := DA1.out.kept g5 (own_types DA1.out OXA.out (by decide)); have cl5 := (D5.cellAt L hLq).trans HVL.out; have fl5 := D5.frozenAt L) | fail)
            all_goals clear hw1 hw2 hw3
            all_goals go_wp2_with fail
            all_goals have h5 := EX.out w5 go x D A5 dc c5 rfl OSA.out HXL.out (by rw [HNX.out]; exact CA.out) (by rw [HNX.out]; exact OXA.out) BA.out (by rw [HNX.out]; exact o5) (by rw [HNX.out]; exact g5) (by rw [HNX.out]; exact hb5) HO.out HPH.out
            all_goals rw [HNX.out] at h5
            all_goals obtain ⟨k', o', l', rfl, rfl, f1, f2, f3, f4, f5, f6, f7, f8, f9⟩ := h5
            all_goals go_roundg (gk - 1)
            all_goals first
              | omega
              | exact ⟨k + 1, true, l', some ⟨go, 0, none⟩, q, c0, by omega, by go_num, rfl, f1, f2, f3, f4, f5, f6, f7, f8, f9⟩
    · go_wp2_with fail
      go_ret
      have hend : l = R := by rw [← HQ.out, List.drop_eq_nil_of_le (by have := H.out.1; omega), secL]
      have e1 := HL.out
      subst hend
      subst e1
      exact ⟨A0, c0, rfl, OW.out, hb⟩
end Go.Proofs.Ythfacfnknpomcaa
