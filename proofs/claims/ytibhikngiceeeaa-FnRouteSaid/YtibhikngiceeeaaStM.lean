/- Contract of apart (laws) at three and at four qubits, where both lists do the same on every basis state. -/
import Derived.Test.YtibhikngiceeeaaStK
import Derived.Test.YtibhikngiceeeaaDomF
namespace Go.Proofs.Ytibhikngiceeeaa
open Go.RowKit
set_option linter.unusedVariables false

section
variable {P : Program} {w : World}
theorem wpList_appOne {ops : Array Oper} {rest : List Oper} {o : Oper} {a : Act} {Q : Exit → Act → World → Prop} (hgd : o.guard = none) (s x : Operand) (t : TypeId)
    (ho : o.op = .call { callee := .builtin .append, args := #[s, x], argTypes := #[t, t] })
    {base e : Nat} {z : Value} {bytes : Nat} (ht : P.underlying t = some (.slice e)) (hinfo : (P.info? e).map (fun i => (i.zero, i.size, i.bytes)) = some (some z, 1, bytes))
    (hzs : z.cells.size = 1) {A : Option Addr} {n c : Nat} {xs : List Value} (hs : a.eval s = .slice A n c) (hown : w.ownsRow base e 1 (.slice A n c) n xs)
    {B : Nat} {u : Value} (hx : a.eval x = .slice (some ⟨B, 0, none⟩) 1 1) (hB : Bx w B e #[u]) (h1 : u.oneCell' = true) (hn : n ≤ 1000) (hbytes : bytes ≤ 1000) (hbase : base ≤ w.heap.size)
    (h : ∀ g cap w', w'.ownsRow base e 1 (.slice (some ⟨g, 0, none⟩) (n + 1) cap) (n + 1) (xs ++ [u]) → w.grownBy w' (Value.slice A n c).ownBlock → ((Value.slice A n c).ownBlock = some g ∨ g = w.heap.size) → wpList P ops Q rest (a.put o.dst (.slice (some ⟨g, 0, none⟩) (n + 1) cap)) w') : wpList P ops Q (o :: rest) a w := by
  obtain ⟨i, hi, hz, hs', hby⟩ := info_parts hinfo
  have hm : (n + 1) * bytes ≤ 1001 * 1000 := Nat.mul_le_mul (by omega) hbytes
  exact wpList_append_lies w hgd s x t ho base e i z 1 bytes ht hi hz hs' hby hzs (by omega) _ n xs hs hown ⟨B, 0, none⟩ 1 1 [u] hx rfl (World.news_of_block hB) (by simpa using h1) (by omega) (by unfold maxLen; omega) (by omega) hbase _ rfl (fun g cap w' q1 q2 q3 _ => h g cap w' q1 q2 q3)
end
theorem own_own_ne' {w : World} {b b' : Nat} {e e' : TypeId} {sz sz' n n' : Nat} {v v' : Value} {xs xs' : List Value} (h : w.ownsRow b e sz v n xs) (h' : w.ownsRow b' e' sz' v' n' xs') (hne : e ≠ e') : v.ownBlock = none ∨ v.ownBlock ≠ v'.ownBlock := by
  rcases h.2 with ⟨rfl, _⟩ | ⟨g, cap, cur, rfl, _, hh, _⟩
  · exact .inl rfl
  · right
    intro he
    rcases h'.2 with ⟨rfl, _⟩ | ⟨g', cap', cur', rfl, _, hh', _⟩
    · cases he
    · simp only [Value.ownBlock, Option.some.injEq] at he
      subst he
      rw [hh] at hh'
      injection hh' with hh'
      injection hh' with _ h2
      exact hne h2
/-- A row of rows of numbers, all of the call's own. -/
def RowsD (w : World) (base g n c : Nat) (l : List (List Dw)) : Prop :=
  l.length = n ∧ ∃ vs : List Value, w.ownsRow base 79 1 (.slice (some ⟨g, 0, none⟩) n c) n vs ∧ ∀ (j : Nat) (x : List Dw), l[j]? = some x → ∃ B c', vs[j]? = some (Value.slice B x.length c') ∧ w.ownsRow base 83 5 (.slice B x.length c') x.length (cellsD x)
section
variable {w w' : World} {base g n c : Nat} {l : List (List Dw)}
theorem RowsD.below (h : RowsD w base g n c l) (hb : Below w.heap.size w w') : RowsD w' base g n c l := by
  obtain ⟨hl, vs, h1, h2⟩ := h
  exact ⟨hl, vs, ownsRow_below h1 hb, fun j x hx => (h2 j x hx).imp fun B h => h.imp fun c' h => ⟨h.1, ownsRow_below h.2 hb⟩⟩
theorem RowsD.rd (h : RowsD w base g n c l) : RdSS cellsD w 5 (some ⟨g, 0, none⟩) n l := by
  obtain ⟨hl, vs, h1, h2⟩ := h
  exact ⟨hl, vs, Rd.own h1, fun j x hx => (h2 j x hx).imp fun B h => h.imp fun c' h => ⟨h.1, ownsRow_cap h.2, Rd.own h.2⟩⟩
theorem RowsD.lt (h : RowsD w base g n c l) : g < w.heap.size := by
  obtain ⟨hl, vs, h1, h2⟩ := h
  exact (h1.lt g rfl).2
theorem RowsD.other {k : Nat} (h : RowsD w base g n c l) (hg : w.grownBy w' (some k)) (hne : g ≠ k) (ht : ∀ B m cc x, w.ownsRow base 83 5 (.slice B m cc) m x → (Value.slice B m cc).ownBlock = none ∨ (Value.slice B m cc).ownBlock ≠ some k) : RowsD w' base g n c l := by
  obtain ⟨hl, vs, h1, h2⟩ := h
  exact ⟨hl, vs, h1.kept hg (.inr fun e => hne (by injection e)), fun j x hx => (h2 j x hx).imp fun B h => h.imp fun c' h => ⟨h.1, h.2.kept hg (ht _ _ _ _ h.2)⟩⟩
theorem RowsD.app {g' c' n0 : Nat} {B : Option Addr} {cx : Nat} {x : List Dw} {vs : List Value} (hl : l.length = n) (h1 : w.ownsRow base 79 1 (.slice (some ⟨g, 0, none⟩) n c) n vs) (h2 : ∀ (j : Nat) (x : List Dw), l[j]? = some x → ∃ B c', vs[j]? = some (Value.slice B x.length c') ∧ w.ownsRow base 83 5 (.slice B x.length c') x.length (cellsD x))
    (hx0 : x.length = n0) (hx : w.ownsRow base 83 5 (.slice B n0 cx) n0 (cellsD x)) (ho : w'.ownsRow base 79 1 (.slice (some ⟨g', 0, none⟩) (n + 1) c') (n + 1) (vs ++ [.slice B n0 cx])) (hg : w.grownBy w' (Value.slice (some ⟨g, 0, none⟩) n c).ownBlock) : RowsD w' base g' (n + 1) c' (l ++ [x]) := by
  subst hx0
  have hvl : vs.length = n := by have := h1.1; omega
  refine ⟨by simp [hl], vs ++ [.slice B x.length cx], ho, fun j y hy => ?_⟩
  rcases Nat.lt_or_ge j n with hj | hj
  · rw [List.getElem?_append_left (by omega)] at hy
    obtain ⟨B', c2, a1, a2⟩ := h2 j y hy
    exact ⟨B', c2, by rw [List.getElem?_append_left (by omega)]; exact a1, a2.kept hg (own_own_ne' a2 h1 (by decide))⟩
  · rw [List.getElem?_append_right (by omega)] at hy
    have hj0 : j = n := by
      have := (List.getElem?_eq_some_iff.1 hy).1
      simp at this
      omega
    subst hj0
    rw [hl, Nat.sub_self] at hy
    obtain rfl : x = y := by simpa using hy
    exact ⟨B, cx, by rw [List.getElem?_append_right (by omega), hvl, Nat.sub_self]; rfl, hx.kept hg (own_own_ne' hx h1 (by decide))⟩
theorem RowsD.alloc (h : RowsD w base g n c l) (o : Obj) : RowsD (w.alloc o) base g n c l := h.below ((Below.refl _ _).alloc (Nat.le_refl _) _)
end
theorem ap_ne {gx gy g1 k cx : Nat} {w : World} {o : Obj} (hne : gx ≠ gy) (ly : gy < w.heap.size) (e : (Value.slice (some ⟨gx, 0, none⟩) k cx).ownBlock = some g1 ∨ g1 = (w.alloc o).heap.size) : g1 ≠ gy := by
  rcases e with e | e
  · have e' : some gx = some g1 := e
    injection e' with e'
    omega
  · have : (w.alloc o).heap.size = w.heap.size + 1 := by simp
    omega
theorem appGL_len : ∀ (gs : List Gt) (v o : List Dw), appGL gs v = some o → o.length = v.length
  | [], v, o, h => by rw [appGL] at h; injection h with h; rw [h]
  | g :: r, v, o, h => by
    rw [appGL] at h
    cases hq : appG g v with
    | none => rw [hq] at h; cases h
    | some o2 => rw [hq] at h; rw [appGL_len r _ _ h, appG_len hq]
theorem appGs_len {gs : List Gt} {v o : List Dw} (h : appGs gs v = some o) : o.length = v.length := by
  unfold appGs at h
  split at h
  · exact appGL_len _ _ _ h
  · cases h
/-- What both lists do, state by state. -/
def outU (gs : List Gt) (q i : Nat) : List Dw := (appGs gs (basis q i)).getD []
theorem outU_law {a b : List Gt} {q : Nat} (h : sameAll a b q = true) {i : Nat} (hi : i < 2 ^ q) : appGs a (basis q i) = some (outU a q i) ∧ appGs b (basis q i) = some (outU a q i) ∧ (outU a q i).length = 2 ^ q ∧ ∀ v ∈ outU a q i, okD v = true := by
  obtain ⟨u, h1, h2, h3⟩ := sameAll_at h hi
  have e : outU a q i = u := by unfold outU; rw [h1]; rfl
  rw [e]
  refine ⟨h1, h2, ?_, ?_⟩
  · rw [appGs_len h1]; simp [basis]
  · simp only [okS, Bool.and_eq_true, List.all_eq_true] at h3
    exact h3.1
theorem rows_succ (f : Nat → List Dw) (k : Nat) : (List.range (k + 1)).map f = (List.range k).map f ++ [f k] := by rw [List.range_succ, List.map_append]; rfl

set_option maxRecDepth 100000 in
set_option maxHeartbeats 6400000 in
theorem l_apart3 (A : Option Addr) (n ca : Nat) (a : List Gt) (B : Option Addr) (m cb : Nat) (b : List Gt) (w : World) (ha : RdG w A n a) (hb : RdG w B m b) (hn : n ≤ 1048576) (hm : m ≤ 1048576) (hs : sameAll a b 3 = true) : Calls Try.prog 31 #[.slice A n ca, .slice B m cb, .int .i64 3] w fun e w' => e = .returned (.tuple #[.int .i64 0, .bool true]) ∧ Below w.heap.size w w' := by
  have HA := Lib.hid ha
  have HB := Lib.hid hb
  have HS := Lib.hid (fun i (hi : i < 8) => outU_law (i := i) hs (by simpa using hi))
  obtain ⟨U, hU⟩ : ∃ U : Nat → List Dw, outU a 3 = U := ⟨_, rfl⟩
  rw [hU] at HS
  have X0 := Lib.hid (show RowsD ((w.alloc (.cells #[] 79)).alloc (.cells #[] 79)) w.heap.size w.heap.size 0 0 ((List.range 0).map U) from ⟨rfl, [], (World.ownsRow_lit w #[] 0 (Nat.le_refl _) (by simp [maxLen]) rfl).alloc _, fun j x hx => by simp at hx⟩)
  have Y0 := Lib.hid (show RowsD ((w.alloc (.cells #[] 79)).alloc (.cells #[] 79)) w.heap.size (w.heap.size + 1) 0 0 ((List.range 0).map U) from ⟨rfl, [], ownsRow_lit' _ #[] 0 (by simp) (by simp) (by simp [maxLen]) rfl rfl, fun j x hx => by simp at hx⟩)
  have B0 := Lib.hid (show Below w.heap.size w ((w.alloc (.cells #[] 79)).alloc (.cells #[] 79)) from ((Below.refl _ _).alloc (Nat.le_refl _) _).alloc (by simp) _)
  clear ha hb hs hU
  go_enter Try.func31, Try.ntmps31
  go_wp2_with fail
  go_loopg [8, 9, 10] 8 (fun r xs ys i wr => ∃ (k gx cx gy cy : Nat), k + r = 8 ∧ i = .int .i64 k ∧ xs = .slice (some ⟨gx, 0, none⟩) k cx ∧ ys = .slice (some ⟨gy, 0, none⟩) k cy ∧ gx ≠ gy ∧ RowsD wr w.heap.size gx k cx ((List.range k).map U) ∧ RowsD wr w.heap.size gy k cy ((List.range k).map U) ∧ Below w.heap.size w wr)
  case atStart => exact ⟨0, w.heap.size, 0, w.heap.size + 1, 0, by omega, rfl, rfl, rfl, by omega, X0.out, Y0.out, B0.out⟩
  case round =>
    obtain ⟨k, gx, cx, gy, cy, hk, rfl, rfl, rfl, hne, hx, hy, hbb⟩ := hrel
    have RX := Lib.hid hx
    have RY := Lib.hid hy
    have BB := Lib.hid hbb
    clear hx hy hbb X0 Y0 B0
    by_cases hlt : k < 8
    · obtain ⟨u1, u2, u3, u4⟩ := HS.out k hlt
      obtain ⟨u, hu⟩ : ∃ u, U k = u := ⟨_, rfl⟩
      rw [hu] at u1 u2 u3 u4
      have U1 := Lib.hid u1
      have U2 := Lib.hid u2
      have U3 := Lib.hid (show u.length = 8 from u3)
      have HU := Lib.hid hu
      clear u1 u2 u3 u4 hu
      go_wp2_with fail
      refine (s_Basis 3 k _ (by omega) (by omega) hlt).mono ?_
      rintro e w3 ⟨A3, c3, rfl, o3, b3⟩
      have R3 := Lib.hid (show RdD w3 A3 8 (basis 3 k) from RdD.own o3)
      clear o3
      go_wp2_with fail
      refine (s_ApplyGs _ n _ a _ 8 _ 3 _ u _ ((HA.out.below BB.out).below b3) hn R3.out (by omega) (by omega) (by decide) U1.out).mono ?_
      rintro e w4 ⟨A4, c4, rfl, o4, b4⟩
      have V4 := below_trans b3 b4
      have O4 := Lib.hid (ownsRow_base o4 (show w.heap.size ≤ w3.heap.size from Nat.le_trans BB.out.size b3.size))
      have RX4 := Lib.hid (RX.out.below V4)
      have RY4 := Lib.hid (RY.out.below V4)
      have B4 := Lib.hid (BB.out.trans (V4.mono BB.out.size))
      clear o4 b3 b4 V4 R3 RX RY BB
      go_wp2_with fail
      refine (s_Basis 3 k _ (by omega) (by omega) hlt).mono ?_
      rintro e w5 ⟨A5, c5, rfl, o5, b5⟩
      have R5 := Lib.hid (show RdD w5 A5 8 (basis 3 k) from RdD.own o5)
      clear o5
      go_wp2_with fail
      refine (s_ApplyGs _ m _ b _ 8 _ 3 _ u _ ((HB.out.below B4.out).below b5) hm R5.out (by omega) (by omega) (by decide) U2.out).mono ?_
      rintro e w6 ⟨A6, c6, rfl, o6, b6⟩
      have V6 := below_trans b5 b6
      have O6 := Lib.hid (ownsRow_base o6 (show w.heap.size ≤ w5.heap.size from Nat.le_trans B4.out.size b5.size))
      have P4 := Lib.hid (ownsRow_below O4.out V6)
      have RX6 := Lib.hid (RX4.out.below V6)
      have RY6 := Lib.hid (RY4.out.below V6)
      have B6 := Lib.hid (B4.out.trans (V6.mono B4.out.size))
      clear o6 b5 b6 V6 R5 O4 RX4 RY4 B4
      have lx := RX6.out.lt
      have ly := RY6.out.lt
      have bs := B6.out.size
      obtain ⟨hlx, vx, rx1, rx2⟩ := RX6.out
      obtain ⟨hly, vy, ry1, ry2⟩ := RY6.out
      have AX1 := Lib.hid (rx1.alloc (.cells #[.slice A4 8 c4] 79))
      have RY6a := Lib.hid (RY6.out.alloc (.cells #[.slice A4 8 c4] 79))
      have IX := Lib.hid (show ∀ (j : Nat) (x : List Dw), ((List.range k).map U)[j]? = some x → ∃ B c', vx[j]? = some (Value.slice B x.length c') ∧ (w6.alloc (.cells #[.slice A4 8 c4] 79)).ownsRow w.heap.size 83 5 (.slice B x.length c') x.length (cellsD x) from fun j x hx => (rx2 j x hx).imp fun B h => h.imp fun c' h => ⟨h.1, h.2.alloc _⟩)
      have PA := Lib.hid (P4.out.alloc (.cells #[.slice A4 8 c4] 79))
      have OA := Lib.hid (O6.out.alloc (.cells #[.slice A4 8 c4] 79))
      have BA := Lib.hid (B6.out.alloc bs (.cells #[.slice A4 8 c4] 79))
      clear rx1 rx2 ry1 ry2 hly vy
      go_wp2_with (first
        | (at_builtin; refine wpList_appOne rfl (.tmp 46) (.tmp 48) 27 rfl Try.underlying27 infoDOmegaS rfl rfl AX1.out rfl (Bx.new w6 _ _) rfl (by omega) (by decide) (by simp; omega) ?_; intro g1 cap1 w7 p7 g7 e7; have RX7 := RowsD.app hlx AX1.out IX.out U3.out PA.out p7 g7; have RY7 := RY6a.out.other g7 (fun e => hne e.symm) (fun B m cc x hx => own_own_ne' hx AX1.out (by decide)); have O7 := OA.out.kept g7 (own_own_ne' OA.out AX1.out (by decide)); have B7 := below_grown BA.out (by simp; omega) AX1.out (Nat.le_refl _) g7; have ne7 := ap_ne hne ly e7; have ⟨hly, vy, ry1, ry2⟩ := RY7; have bs7 := B7.size)
        | (at_builtin; refine wpList_appOne rfl (.tmp 50) (.tmp 52) 27 rfl Try.underlying27 infoDOmegaS rfl rfl (ry1.alloc _) rfl (Bx.new w7 _ _) rfl (by omega) (by decide) (by simp; omega) ?_; intro g2 cap2 w8 p8 g8 e8)
        | fail)
      go_roundg (gk - 1)
      case measure => omega
      case rel =>
        refine ⟨k + 1, g1, cap1, g2, cap2, by omega, by go_num, rfl, rfl, ?_, ?_, ?_, below_grown (B7.alloc bs7 _) (by simp; omega) (ry1.alloc _) (Nat.le_refl _) g8⟩
        · exact (ap_ne (fun e => ne7 e.symm) RX7.lt e8).symm
        · rw [rows_succ, HU.out]
          exact (RX7.alloc _).other g8 ne7 (fun B m cc x hx => own_own_ne' hx (ry1.alloc _) (by decide))
        · rw [rows_succ, HU.out]
          exact RowsD.app hly (ry1.alloc _) (fun j x hx => (ry2 j x hx).imp fun B h => h.imp fun c' h => ⟨h.1, h.2.alloc _⟩) U3.out (O7.alloc _) p8 g8
    · obtain rfl : k = 8 := by omega
      have HLL := Lib.hid (show ∀ x ∈ (List.range 8).map U, x.length = 8 ∧ ∀ v ∈ x, okD v = true from fun x hx => by
        obtain ⟨j, hj, rfl⟩ := List.mem_map.1 hx
        obtain ⟨_, _, h3, h4⟩ := HS.out j (List.mem_range.1 hj)
        exact ⟨h3, h4⟩)
      go_wp2_with fail
      refine (s_GPhase _ 8 _ 3 _ _ ((List.range 8).map U) _ RX.out.rd RY.out.rd (by omega) (by omega) (by decide) HLL.out).mono ?_
      rintro e w9 ⟨rfl, b9⟩
      go_wp2_with fail
      exact bodyPost_ret (v := .tuple #[.int .i64 0, .bool true]) (by simp [results, Try.results31, go_sem]) rfl ⟨rfl, BB.out.trans (b9.mono BB.out.size)⟩

set_option maxRecDepth 100000 in
set_option maxHeartbeats 6400000 in
theorem l_apart4 (A : Option Addr) (n ca : Nat) (a : List Gt) (B : Option Addr) (m cb : Nat) (b : List Gt) (w : World) (ha : RdG w A n a) (hb : RdG w B m b) (hn : n ≤ 1048576) (hm : m ≤ 1048576) (hs : sameAll a b 4 = true) : Calls Try.prog 31 #[.slice A n ca, .slice B m cb, .int .i64 4] w fun e w' => e = .returned (.tuple #[.int .i64 0, .bool true]) ∧ Below w.heap.size w w' := by
  have HA := Lib.hid ha
  have HB := Lib.hid hb
  have HS := Lib.hid (fun i (hi : i < 16) => outU_law (i := i) hs (by simpa using hi))
  obtain ⟨U, hU⟩ : ∃ U : Nat → List Dw, outU a 4 = U := ⟨_, rfl⟩
  rw [hU] at HS
  have X0 := Lib.hid (show RowsD ((w.alloc (.cells #[] 79)).alloc (.cells #[] 79)) w.heap.size w.heap.size 0 0 ((List.range 0).map U) from ⟨rfl, [], (World.ownsRow_lit w #[] 0 (Nat.le_refl _) (by simp [maxLen]) rfl).alloc _, fun j x hx => by simp at hx⟩)
  have Y0 := Lib.hid (show RowsD ((w.alloc (.cells #[] 79)).alloc (.cells #[] 79)) w.heap.size (w.heap.size + 1) 0 0 ((List.range 0).map U) from ⟨rfl, [], ownsRow_lit' _ #[] 0 (by simp) (by simp) (by simp [maxLen]) rfl rfl, fun j x hx => by simp at hx⟩)
  have B0 := Lib.hid (show Below w.heap.size w ((w.alloc (.cells #[] 79)).alloc (.cells #[] 79)) from ((Below.refl _ _).alloc (Nat.le_refl _) _).alloc (by simp) _)
  clear ha hb hs hU
  go_enter Try.func31, Try.ntmps31
  go_wp2_with fail
  go_loopg [8, 9, 10] 16 (fun r xs ys i wr => ∃ (k gx cx gy cy : Nat), k + r = 16 ∧ i = .int .i64 k ∧ xs = .slice (some ⟨gx, 0, none⟩) k cx ∧ ys = .slice (some ⟨gy, 0, none⟩) k cy ∧ gx ≠ gy ∧ RowsD wr w.heap.size gx k cx ((List.range k).map U) ∧ RowsD wr w.heap.size gy k cy ((List.range k).map U) ∧ Below w.heap.size w wr)
  case atStart => exact ⟨0, w.heap.size, 0, w.heap.size + 1, 0, by omega, rfl, rfl, rfl, by omega, X0.out, Y0.out, B0.out⟩
  case round =>
    obtain ⟨k, gx, cx, gy, cy, hk, rfl, rfl, rfl, hne, hx, hy, hbb⟩ := hrel
    have RX := Lib.hid hx
    have RY := Lib.hid hy
    have BB := Lib.hid hbb
    clear hx hy hbb X0 Y0 B0
    by_cases hlt : k < 16
    · obtain ⟨u1, u2, u3, u4⟩ := HS.out k hlt
      obtain ⟨u, hu⟩ : ∃ u, U k = u := ⟨_, rfl⟩
      rw [hu] at u1 u2 u3 u4
      have U1 := Lib.hid u1
      have U2 := Lib.hid u2
      have U3 := Lib.hid (show u.length = 16 from u3)
      have HU := Lib.hid hu
      clear u1 u2 u3 u4 hu
      go_wp2_with fail
      refine (s_Basis 4 k _ (by omega) (by omega) hlt).mono ?_
      rintro e w3 ⟨A3, c3, rfl, o3, b3⟩
      have R3 := Lib.hid (show RdD w3 A3 16 (basis 4 k) from RdD.own o3)
      clear o3
      go_wp2_with fail
      refine (s_ApplyGs _ n _ a _ 16 _ 4 _ u _ ((HA.out.below BB.out).below b3) hn R3.out (by omega) (by omega) (by decide) U1.out).mono ?_
      rintro e w4 ⟨A4, c4, rfl, o4, b4⟩
      have V4 := below_trans b3 b4
      have O4 := Lib.hid (ownsRow_base o4 (show w.heap.size ≤ w3.heap.size from Nat.le_trans BB.out.size b3.size))
      have RX4 := Lib.hid (RX.out.below V4)
      have RY4 := Lib.hid (RY.out.below V4)
      have B4 := Lib.hid (BB.out.trans (V4.mono BB.out.size))
      clear o4 b3 b4 V4 R3 RX RY BB
      go_wp2_with fail
      refine (s_Basis 4 k _ (by omega) (by omega) hlt).mono ?_
      rintro e w5 ⟨A5, c5, rfl, o5, b5⟩
      have R5 := Lib.hid (show RdD w5 A5 16 (basis 4 k) from RdD.own o5)
      clear o5
      go_wp2_with fail
      refine (s_ApplyGs _ m _ b _ 16 _ 4 _ u _ ((HB.out.below B4.out).below b5) hm R5.out (by omega) (by omega) (by decide) U2.out).mono ?_
      rintro e w6 ⟨A6, c6, rfl, o6, b6⟩
      have V6 := below_trans b5 b6
      have O6 := Lib.hid (ownsRow_base o6 (show w.heap.size ≤ w5.heap.size from Nat.le_trans B4.out.size b5.size))
      have P4 := Lib.hid (ownsRow_below O4.out V6)
      have RX6 := Lib.hid (RX4.out.below V6)
      have RY6 := Lib.hid (RY4.out.below V6)
      have B6 := Lib.hid (B4.out.trans (V6.mono B4.out.size))
      clear o6 b5 b6 V6 R5 O4 RX4 RY4 B4
      have lx := RX6.out.lt
      have ly := RY6.out.lt
      have bs := B6.out.size
      obtain ⟨hlx, vx, rx1, rx2⟩ := RX6.out
      obtain ⟨hly, vy, ry1, ry2⟩ := RY6.out
      have AX1 := Lib.hid (rx1.alloc (.cells #[.slice A4 16 c4] 79))
      have RY6a := Lib.hid (RY6.out.alloc (.cells #[.slice A4 16 c4] 79))
      have IX := Lib.hid (show ∀ (j : Nat) (x : List Dw), ((List.range k).map U)[j]? = some x → ∃ B c', vx[j]? = some (Value.slice B x.length c') ∧ (w6.alloc (.cells #[.slice A4 16 c4] 79)).ownsRow w.heap.size 83 5 (.slice B x.length c') x.length (cellsD x) from fun j x hx => (rx2 j x hx).imp fun B h => h.imp fun c' h => ⟨h.1, h.2.alloc _⟩)
      have PA := Lib.hid (P4.out.alloc (.cells #[.slice A4 16 c4] 79))
      have OA := Lib.hid (O6.out.alloc (.cells #[.slice A4 16 c4] 79))
      have BA := Lib.hid (B6.out.alloc bs (.cells #[.slice A4 16 c4] 79))
      clear rx1 rx2 ry1 ry2 hly vy
      go_wp2_with (first
        | (at_builtin; refine wpList_appOne rfl (.tmp 46) (.tmp 48) 27 rfl Try.underlying27 infoDOmegaS rfl rfl AX1.out rfl (Bx.new w6 _ _) rfl (by omega) (by decide) (by simp; omega) ?_; intro g1 cap1 w7 p7 g7 e7; have RX7 := RowsD.app hlx AX1.out IX.out U3.out PA.out p7 g7; have RY7 := RY6a.out.other g7 (fun e => hne e.symm) (fun B m cc x hx => own_own_ne' hx AX1.out (by decide)); have O7 := OA.out.kept g7 (own_own_ne' OA.out AX1.out (by decide)); have B7 := below_grown BA.out (by simp; omega) AX1.out (Nat.le_refl _) g7; have ne7 := ap_ne hne ly e7; have ⟨hly, vy, ry1, ry2⟩ := RY7; have bs7 := B7.size)
        | (at_builtin; refine wpList_appOne rfl (.tmp 50) (.tmp 52) 27 rfl Try.underlying27 infoDOmegaS rfl rfl (ry1.alloc _) rfl (Bx.new w7 _ _) rfl (by omega) (by decide) (by simp; omega) ?_; intro g2 cap2 w8 p8 g8 e8)
        | fail)
      go_roundg (gk - 1)
      case measure => omega
      case rel =>
        refine ⟨k + 1, g1, cap1, g2, cap2, by omega, by go_num, rfl, rfl, ?_, ?_, ?_, below_grown (B7.alloc bs7 _) (by simp; omega) (ry1.alloc _) (Nat.le_refl _) g8⟩
        · exact (ap_ne (fun e => ne7 e.symm) RX7.lt e8).symm
        · rw [rows_succ, HU.out]
          exact (RX7.alloc _).other g8 ne7 (fun B m cc x hx => own_own_ne' hx (ry1.alloc _) (by decide))
        · rw [rows_succ, HU.out]
          exact RowsD.app hly (ry1.alloc _) (fun j x hx => (ry2 j x hx).imp fun B h => h.imp fun c' h => ⟨h.1, h.2.alloc _⟩) U3.out (O7.alloc _) p8 g8
    · obtain rfl : k = 16 := by omega
      have HLL := Lib.hid (show ∀ x ∈ (List.range 16).map U, x.length = 16 ∧ ∀ v ∈ x, okD v = true from fun x hx => by
        obtain ⟨j, hj, rfl⟩ := List.mem_map.1 hx
        obtain ⟨_, _, h3, h4⟩ := HS.out j (List.mem_range.1 hj)
        exact ⟨h3, h4⟩)
      go_wp2_with fail
      refine (s_GPhase _ 16 _ 4 _ _ ((List.range 16).map U) _ RX.out.rd RY.out.rd (by omega) (by omega) (by decide) HLL.out).mono ?_
      rintro e w9 ⟨rfl, b9⟩
      go_wp2_with fail
      exact bodyPost_ret (v := .tuple #[.int .i64 0, .bool true]) (by simp [results, Try.results31, go_sem]) rfl ⟨rfl, BB.out.trans (b9.mono BB.out.size)⟩
end Go.Proofs.Ytibhikngiceeeaa
