/- Contract of apart (laws) at three and at four qubits, where both lists do the same on every basis state. Contracts of flipped (impl), l7Column, l7Columns (spec): square matrices of at most 16 rows. Plain: the matrix of a phase polynomial, and what it says of a row of gates. No program in sight; nothing is asked. -/
import Derived.Test.YtibhikngiceeeaaStK
import Derived.Test.YtibhikngiceeeaaDomF
import Derived.Test.YtibhikngiceeeaaPairs
import Derived.Test.YtibhikngiceeeaaPolyV
namespace Go.Proofs.Ytibhikngiceeeaa
open Go.RowKit
set_option linter.unusedVariables false

section
variable {P : Program} {w : World}
theorem wpList_appOne {ops : Array Oper} {rest : List Oper} {o : Oper} {a : Act} {Q : Exit → Act → World → Prop} (hgd : o.guard = none) (s x : Operand) (t : TypeId)
    (ho : o.op = .call { callee := .builtin .append, args := #[s, x], argTypes := #[t, t] })
    {base e : Nat} {z : Value} {bytes : Nat} (ht : P.underlying t = some (.slice e)) (hinfo : (P.info? e).map (fun i => (i.zero, i.size, i.bytes)) = some (some z, 1, bytes))
    (hzs : z.cells.size = 1) {A : Option Addr} {n c : Nat} {xs : List Value} (hs : a.eval s = .slice A n c) (hown : w.ownsRow base e 1 (.slice A n c) n xs)
    {B : Nat} {u : Value} (hx : a.eval x = .slice (some ⟨B, 0, none⟩) 1 1) (hB : Bx w B e #[u]) (h1 : u.oneCell' = true) (hn : n ≤ 1000) (hbytes : bytes ≤ 1000) (hbase : base ≤ w.heap.size)
    (h : ∀ g cap w', w'.ownsRow base e 1 (.slice (some ⟨g, 0, none⟩) (n + 1) cap) (n + 1) (xs ++ [u]) → w.grownBy w' (Value.slice A n c).ownBlock → ((Value.slice A n c).ownBlock = some g ∨ g = w.heap.size) → wpList P ops Q rest (a.put o.dst (.slice (some ⟨g, 0, none⟩) (n + 1) cap)) w') : wpList P ops Q (o :: rest) a w := by
  obtain ⟨i, hi, hz, hs', hby⟩ := info_parts hinfo
  have hm : (n + 1) * bytes ≤ 1001 * 1000 := Nat.mul_le_mul (by omega) hbytes
  exact wpList_append_lies w hgd s x t ho base e i z 1 bytes ht hi hz hs' hby hzs (by omega) _ n xs hs hown ⟨B, 0, none⟩ 1 1 [u] hx rfl (World.news_of_block hB) (by simpa using h1) (by omega) (by unfold maxLen; omega) (by omega) hbase _ rfl (fun g cap w' q1 q2 q3 _ => h g cap w' q1 q2 q3)
end
theorem own_own_ne' {w : World} {b b' : Nat} {e e' : TypeId} {sz sz' n n' : Nat} {v v' : Value} {xs xs' : List Value} (h : w.ownsRow b e sz v n xs) (h' : w.ownsRow b' e' sz' v' n' xs') (hne : e ≠ e') : v.ownBlock = none ∨ v.ownBlock ≠ v'.ownBlock := by
  rcases h.2 with ⟨rfl, _⟩ | ⟨g, cap, cur, rfl, _, hh, _⟩
  · exact .inl rfl
  · right
    intro he
    rcases h'.2 with ⟨rfl, _⟩ | ⟨g', cap', cur', rfl, _, hh', _⟩
    · cases he
    · simp only [Value.ownBlock, Option.some.injEq] at he
      subst he
      rw [hh] at hh'
      injection hh' with hh'
      injection hh' with _ h2
      exact hne h2
/-- A row of rows of numbers, all of the call's own. -/
def RowsD (w : World) (base g n c : Nat) (l : List (List Dw)) : Prop :=
  l.length = n ∧ ∃ vs : List Value, w.ownsRow base 79 1 (.slice (some ⟨g, 0, none⟩) n c) n vs ∧ ∀ (j : Nat) (x : List Dw), l[j]? = some x → ∃ B c', vs[j]? = some (Value.slice B x.length c') ∧ w.ownsRow base 83 5 (.slice B x.length c') x.length (cellsD x)
section
variable {w w' : World} {base g n c : Nat} {l : List (List Dw)}
theorem RowsD.below (h : RowsD w base g n c l) (hb : Below w.heap.size w w') : RowsD w' base g n c l := by
  obtain ⟨hl, vs, h1, h2⟩ := h
  exact ⟨hl, vs, ownsRow_below h1 hb, fun j x hx => (h2 j x hx).imp fun B h => h.imp fun c' h => ⟨h.1, ownsRow_below h.2 hb⟩⟩
theorem RowsD.rd (h : RowsD w base g n c l) : RdSS cellsD w 5 (some ⟨g, 0, none⟩) n l := by
  obtain ⟨hl, vs, h1, h2⟩ := h
  exact ⟨hl, vs, Rd.own h1, fun j x hx => (h2 j x hx).imp fun B h => h.imp fun c' h => ⟨h.1, ownsRow_cap h.2, Rd.own h.2⟩⟩
theorem RowsD.lt (h : RowsD w base g n c l) : g < w.heap.size := by
  obtain ⟨hl, vs, h1, h2⟩ := h
  exact (h1.lt g rfl).2
theorem RowsD.other {k : Nat} (h : RowsD w base g n c l) (hg : w.grownBy w' (some k)) (hne : g ≠ k) (ht : ∀ B m cc x, w.ownsRow base 83 5 (.slice B m cc) m x → (Value.slice B m cc).ownBlock = none ∨ (Value.slice B m cc).ownBlock ≠ some k) : RowsD w' base g n c l := by
  obtain ⟨hl, vs, h1, h2⟩ := h
  exact ⟨hl, vs, h1.kept hg (.inr fun e => hne (by injection e)), fun j x hx => (h2 j x hx).imp fun B h => h.imp fun c' h => ⟨h.1, h.2.kept hg (ht _ _ _ _ h.2)⟩⟩
theorem RowsD.app {g' c' n0 : Nat} {B : Option Addr} {cx : Nat} {x : List Dw} {vs : List Value} (hl : l.length = n) (h1 : w.ownsRow base 79 1 (.slice (some ⟨g, 0, none⟩) n c) n vs) (h2 : ∀ (j : Nat) (x : List Dw), l[j]? = some x → ∃ B c', vs[j]? = some (Value.slice B x.length c') ∧ w.ownsRow base 83 5 (.slice B x.length c') x.length (cellsD x))
    (hx0 : x.length = n0) (hx : w.ownsRow base 83 5 (.slice B n0 cx) n0 (cellsD x)) (ho : w'.ownsRow base 79 1 (.slice (some ⟨g', 0, none⟩) (n + 1) c') (n + 1) (vs ++ [.slice B n0 cx])) (hg : w.grownBy w' (Value.slice (some ⟨g, 0, none⟩) n c).ownBlock) : RowsD w' base g' (n + 1) c' (l ++ [x]) := by
  subst hx0
  have hvl : vs.length = n := by have := h1.1; omega
  refine ⟨by simp [hl], vs ++ [.slice B x.length cx], ho, fun j y hy => ?_⟩
  rcases Nat.lt_or_ge j n with hj | hj
  · rw [List.getElem?_append_left (by omega)] at hy
    obtain ⟨B', c2, a1, a2⟩ := h2 j y hy
    exact ⟨B', c2, by rw [List.getElem?_append_left (by omega)]; exact a1, a2.kept hg (own_own_ne' a2 h1 (by decide))⟩
  · rw [List.getElem?_append_right (by omega)] at hy
    have hj0 : j = n := by
      have := (List.getElem?_eq_some_iff.1 hy).1
      simp at this
      omega
    subst hj0
    rw [hl, Nat.sub_self] at hy
    obtain rfl : x = y := by simpa using hy
    exact ⟨B, cx, by rw [List.getElem?_append_right (by omega), hvl, Nat.sub_self]; rfl, hx.kept hg (own_own_ne' hx h1 (by decide))⟩
theorem RowsD.alloc (h : RowsD w base g n c l) (o : Obj) : RowsD (w.alloc o) base g n c l := h.below ((Below.refl _ _).alloc (Nat.le_refl _) _)
end
theorem ap_ne {gx gy g1 k cx : Nat} {w : World} {o : Obj} (hne : gx ≠ gy) (ly : gy < w.heap.size) (e : (Value.slice (some ⟨gx, 0, none⟩) k cx).ownBlock = some g1 ∨ g1 = (w.alloc o).heap.size) : g1 ≠ gy := by
  rcases e with e | e
  · have e' : some gx = some g1 := e
    injection e' with e'
    omega
  · have : (w.alloc o).heap.size = w.heap.size + 1 := by simp
    omega
theorem appGL_len : ∀ (gs : List Gt) (v o : List Dw), appGL gs v = some o → o.length = v.length
  | [], v, o, h => by rw [appGL] at h; injection h with h; rw [h]
  | g :: r, v, o, h => by
    rw [appGL] at h
    cases hq : appG g v with
    | none => rw [hq] at h; cases h
    | some o2 => rw [hq] at h; rw [appGL_len r _ _ h, appG_len hq]
theorem appGs_len {gs : List Gt} {v o : List Dw} (h : appGs gs v = some o) : o.length = v.length := by
  unfold appGs at h
  split at h
  · exact appGL_len _ _ _ h
  · cases h
/-- What both lists do, state by state. -/
def outU (gs : List Gt) (q i : Nat) : List Dw := (appGs gs (basis q i)).getD []
theorem outU_law {a b : List Gt} {q : Nat} (h : sameAll a b q = true) {i : Nat} (hi : i < 2 ^ q) : appGs a (basis q i) = some (outU a q i) ∧ appGs b (basis q i) = some (outU a q i) ∧ (outU a q i).length = 2 ^ q ∧ ∀ v ∈ outU a q i, okD v = true := by
  obtain ⟨u, h1, h2, h3⟩ := sameAll_at h hi
  have e : outU a q i = u := by unfold outU; rw [h1]; rfl
  rw [e]
  refine ⟨h1, h2, ?_, ?_⟩
  · rw [appGs_len h1]; simp [basis]
  · simp only [okS, Bool.and_eq_true, List.all_eq_true] at h3
    exact h3.1
theorem rows_succ (f : Nat → List Dw) (k : Nat) : (List.range (k + 1)).map f = (List.range k).map f ++ [f k] := by rw [List.range_succ, List.map_append]; rfl

set_option maxRecDepth 100000 in
set_option maxHeartbeats 6400000 in
theorem l_apart3 (A : Option Addr) (n ca : Nat) (a : List Gt) (B : Option Addr) (m cb : Nat) (b : List Gt) (w : World) (ha : RdG w A n a) (hb : RdG w B m b) (hn : n ≤ 1048576) (hm : m ≤ 1048576) (hs : sameAll a b 3 = true) : Calls Try.prog 31 #[.slice A n ca, .slice B m cb, .int .i64 3] w fun e w' => e = .returned (.tuple #[.int .i64 0, .bool true]) ∧ Below w.heap.size w w' := by
  have HA := Lib.hid ha
  have HB := Lib.hid hb
  have HS := Lib.hid (fun i (hi : i < 8) => outU_law (i := i) hs (by simpa using hi))
  obtain ⟨U, hU⟩ : ∃ U : Nat → List Dw, outU a 3 = U := ⟨_, rfl⟩
  rw [hU] at HS
  have X0 := Lib.hid (show RowsD ((w.alloc (.cells #[] 79)).alloc (.cells #[] 79)) w.heap.size w.heap.size 0 0 ((List.range 0).map U) from ⟨rfl, [], (World.ownsRow_lit w #[] 0 (Nat.le_refl _) (by simp [maxLen]) rfl).alloc _, fun j x hx => by simp at hx⟩)
  have Y0 := Lib.hid (show RowsD ((w.alloc (.cells #[] 79)).alloc (.cells #[] 79)) w.heap.size (w.heap.size + 1) 0 0 ((List.range 0).map U) from ⟨rfl, [], ownsRow_lit' _ #[] 0 (by simp) (by simp) (by simp [maxLen]) rfl rfl, fun j x hx => by simp at hx⟩)
  have B0 := Lib.hid (show Below w.heap.size w ((w.alloc (.cells #[] 79)).alloc (.cells #[] 79)) from ((Below.refl _ _).alloc (Nat.le_refl _) _).alloc (by simp) _)
  clear ha hb hs hU
  go_enter Try.func31, Try.ntmps31
  go_wp2_with fail
  go_loopg [8, 9, 10] 8 (fun r xs ys i wr => ∃ (k gx cx gy cy : Nat), k + r = 8 ∧ i = .int .i64 k ∧ xs = .slice (some ⟨gx, 0, none⟩) k cx ∧ ys = .slice (some ⟨gy, 0, none⟩) k cy ∧ gx ≠ gy ∧ RowsD wr w.heap.size gx k cx ((List.range k).map U) ∧ RowsD wr w.heap.size gy k cy ((List.range k).map U) ∧ Below w.heap.size w wr)
  case atStart => exact ⟨0, w.heap.size, 0, w.heap.size + 1, 0, by omega, rfl, rfl, rfl, by omega, X0.out, Y0.out, B0.out⟩
  case round =>
    obtain ⟨k, gx, cx, gy, cy, hk, rfl, rfl, rfl, hne, hx, hy, hbb⟩ := hrel
    have RX := Lib.hid hx
    have RY := Lib.hid hy
    have BB := Lib.hid hbb
    clear hx hy hbb X0 Y0 B0
    by_cases hlt : k < 8
    · obtain ⟨u1, u2, u3, u4⟩ := HS.out k hlt
      obtain ⟨u, hu⟩ : ∃ u, U k = u := ⟨_, rfl⟩
      rw [hu] at u1 u2 u3 u4
      have U1 := Lib.hid u1
      have U2 := Lib.hid u2
      have U3 := Lib.hid (show u.length = 8 from u3)
      have HU := Lib.hid hu
      clear u1 u2 u3 u4 hu
      go_wp2_with fail
      refine (s_Basis 3 k _ (by omega) (by omega) hlt).mono ?_
      rintro e w3 ⟨A3, c3, rfl, o3, b3⟩
      have R3 := Lib.hid (show RdD w3 A3 8 (basis 3 k) from RdD.own o3)
      clear o3
      go_wp2_with fail
      refine (s_ApplyGs _ n _ a _ 8 _ 3 _ u _ ((HA.out.below BB.out).below b3) hn R3.out (by omega) (by omega) (by decide) U1.out).mono ?_
      rintro e w4 ⟨A4, c4, rfl, o4, b4⟩
      have V4 := below_trans b3 b4
      have O4 := Lib.hid (ownsRow_base o4 (show w.heap.size ≤ w3.heap.size from Nat.le_trans BB.out.size b3.size))
      have RX4 := Lib.hid (RX.out.below V4)
      have RY4 := Lib.hid (RY.out.below V4)
      have B4 := Lib.hid (BB.out.trans (V4.mono BB.out.size))
      clear o4 b3 b4 V4 R3 RX RY BB
      go_wp2_with fail
      refine (s_Basis 3 k _ (by omega) (by omega) hlt).mono ?_
      rintro e w5 ⟨A5, c5, rfl, o5, b5⟩
      have R5 := Lib.hid (show RdD w5 A5 8 (basis 3 k) from RdD.own o5)
      clear o5
      go_wp2_with fail
      refine (s_ApplyGs _ m _ b _ 8 _ 3 _ u _ ((HB.out.below B4.out).below b5) hm R5.out (by omega) (by omega) (by decide) U2.out).mono ?_
      rintro e w6 ⟨A6, c6, rfl, o6, b6⟩
      have V6 := below_trans b5 b6
      have O6 := Lib.hid (ownsRow_base o6 (show w.heap.size ≤ w5.heap.size from Nat.le_trans B4.out.size b5.size))
      have P4 := Lib.hid (ownsRow_below O4.out V6)
      have RX6 := Lib.hid (RX4.out.below V6)
      have RY6 := Lib.hid (RY4.out.below V6)
      have B6 := Lib.hid (B4.out.trans (V6.mono B4.out.size))
      clear o6 b5 b6 V6 R5 O4 RX4 RY4 B4
      have lx := RX6.out.lt
      have ly := RY6.out.lt
      have bs := B6.out.size
      obtain ⟨hlx, vx, rx1, rx2⟩ := RX6.out
      obtain ⟨hly, vy, ry1, ry2⟩ := RY6.out
      have AX1 := Lib.hid (rx1.alloc (.cells #[.slice A4 8 c4] 79))
      have RY6a := Lib.hid (RY6.out.alloc (.cells #[.slice A4 8 c4] 79))
      have IX := Lib.hid (show ∀ (j : Nat) (x : List Dw), ((List.range k).map U)[j]? = some x → ∃ B c', vx[j]? = some (Value.slice B x.length c') ∧ (w6.alloc (.cells #[.slice A4 8 c4] 79)).ownsRow w.heap.size 83 5 (.slice B x.length c') x.length (cellsD x) from fun j x hx => (rx2 j x hx).imp fun B h => h.imp fun c' h => ⟨h.1, h.2.alloc _⟩)
      have PA := Lib.hid (P4.out.alloc (.cells #[.slice A4 8 c4] 79))
      have OA := Lib.hid (O6.out.alloc (.cells #[.slice A4 8 c4] 79))
      have BA := Lib.hid (B6.out.alloc bs (.cells #[.slice A4 8 c4] 79))
      clear rx1 rx2 ry1 ry2 hly vy
      go_wp2_with (first
        | (at_builtin; refine wpList_appOne rfl (.tmp 46) (.tmp 48) 27 rfl Try.underlying27 infoDOmegaS rfl rfl AX1.out rfl (Bx.new w6 _ _) rfl (by omega) (by decide) (by simp; omega) ?_; intro g1 cap1 w7 p7 g7 e7; have RX7 := RowsD.app hlx AX1.out IX.out U3.out PA.out p7 g7; have RY7 := RY6a.out.other g7 (fun e => hne e.symm) (fun B m cc x hx => own_own_ne' hx AX1.out (by decide)); have O7 := OA.out.kept g7 (own_own_ne' OA.out AX1.out (by decide)); have B7 := below_grown BA.out (by simp; omega) AX1.out (Nat.le_refl _) g7; have ne7 := ap_ne hne ly e7; have ⟨hly, vy, ry1, ry2⟩ := RY7; have bs7 := B7.size)
        | (at_builtin; refine wpList_appOne rfl (.tmp 50) (.tmp 52) 27 rfl Try.underlying27 infoDOmegaS rfl rfl (ry1.alloc _) rfl (Bx.new w7 _ _) rfl (by omega) (by decide) (by simp; omega) ?_; intro g2 cap2 w8 p8 g8 e8)
        | fail)
      go_roundg (gk - 1)
      case measure => omega
      case rel =>
        refine ⟨k + 1, g1, cap1, g2, cap2, by omega, by go_num, rfl, rfl, ?_, ?_, ?_, below_grown (B7.alloc bs7 _) (by simp; omega) (ry1.alloc _) (Nat.le_refl _) g8⟩
        · exact (ap_ne (fun e => ne7 e.symm) RX7.lt e8).symm
        · rw [rows_succ, HU.out]
          exact (RX7.alloc _).other g8 ne7 (fun B m cc x hx => own_own_ne' hx (ry1.alloc _) (by decide))
        · rw [rows_succ, HU.out]
          exact RowsD.app hly (ry1.alloc _) (fun j x hx => (ry2 j x hx).imp fun B h => h.imp fun c' h => ⟨h.1, h.2.alloc _⟩) U3.out (O7.alloc _) p8 g8
    · obtain rfl : k = 8 := by omega
      have HLL := Lib.hid (show ∀ x ∈ (List.range 8).map U, x.length = 8 ∧ ∀ v ∈ x, okD v = true from fun x hx => by
        obtain ⟨j, hj, rfl⟩ := List.mem_map.1 hx
        obtain ⟨_, _, h3, h4⟩ := HS.out j (List.mem_range.1 hj)
        exact ⟨h3, h4⟩)
      go_wp2_with fail
      refine (s_GPhase _ 8 _ 3 _ _ ((List.range 8).map U) _ RX.out.rd RY.out.rd (by omega) (by omega) (by decide) HLL.out).mono ?_
      rintro e w9 ⟨rfl, b9⟩
      go_wp2_with fail
      exact bodyPost_ret (v := .tuple #[.int .i64 0, .bool true]) (by simp [results, Try.results31, go_sem]) rfl ⟨rfl, BB.out.trans (b9.mono BB.out.size)⟩

set_option maxRecDepth 100000 in
set_option maxHeartbeats 6400000 in
theorem l_apart4 (A : Option Addr) (n ca : Nat) (a : List Gt) (B : Option Addr) (m cb : Nat) (b : List Gt) (w : World) (ha : RdG w A n a) (hb : RdG w B m b) (hn : n ≤ 1048576) (hm : m ≤ 1048576) (hs : sameAll a b 4 = true) : Calls Try.prog 31 #[.slice A n ca, .slice B m cb, .int .i64 4] w fun e w' => e = .returned (.tuple #[.int .i64 0, .bool true]) ∧ Below w.heap.size w w' := by
  have HA := Lib.hid ha
  have HB := Lib.hid hb
  have HS := Lib.hid (fun i (hi : i < 16) => outU_law (i := i) hs (by simpa using hi))
  obtain ⟨U, hU⟩ : ∃ U : Nat → List Dw, outU a 4 = U := ⟨_, rfl⟩
  rw [hU] at HS
  have X0 := Lib.hid (show RowsD ((w.alloc (.cells #[] 79)).alloc (.cells #[] 79)) w.heap.size w.heap.size 0 0 ((List.range 0).map U) from ⟨rfl, [], (World.ownsRow_lit w #[] 0 (Nat.le_refl _) (by simp [maxLen]) rfl).alloc _, fun j x hx => by simp at hx⟩)
  have Y0 := Lib.hid (show RowsD ((w.alloc (.cells #[] 79)).alloc (.cells #[] 79)) w.heap.size (w.heap.size + 1) 0 0 ((List.range 0).map U) from ⟨rfl, [], ownsRow_lit' _ #[] 0 (by simp) (by simp) (by simp [maxLen]) rfl rfl, fun j x hx => by simp at hx⟩)
  have B0 := Lib.hid (show Below w.heap.size w ((w.alloc (.cells #[] 79)).alloc (.cells #[] 79)) from ((Below.refl _ _).alloc (Nat.le_refl _) _).alloc (by simp) _)
  clear ha hb hs hU
  go_enter Try.func31, Try.ntmps31
  go_wp2_with fail
  go_loopg [8, 9, 10] 16 (fun r xs ys i wr => ∃ (k gx cx gy cy : Nat), k + r = 16 ∧ i = .int .i64 k ∧ xs = .slice (some ⟨gx, 0, none⟩) k cx ∧ ys = .slice (some ⟨gy, 0, none⟩) k cy ∧ gx ≠ gy ∧ RowsD wr w.heap.size gx k cx ((List.range k).map U) ∧ RowsD wr w.heap.size gy k cy ((List.range k).map U) ∧ Below w.heap.size w wr)
  case atStart => exact ⟨0, w.heap.size, 0, w.heap.size + 1, 0, by omega, rfl, rfl, rfl, by omega, X0.out, Y0.out, B0.out⟩
  case round =>
    obtain ⟨k, gx, cx, gy, cy, hk, rfl, rfl, rfl, hne, hx, hy, hbb⟩ := hrel
    have RX := Lib.hid hx
    have RY := Lib.hid hy
    have BB := Lib.hid hbb
    clear hx hy hbb X0 Y0 B0
    by_cases hlt : k < 16
    · obtain ⟨u1, u2, u3, u4⟩ := HS.out k hlt
      obtain ⟨u, hu⟩ : ∃ u, U k = u := ⟨_, rfl⟩
      rw [hu] at u1 u2 u3 u4
      have U1 := Lib.hid u1
      have U2 := Lib.hid u2
      have U3 := Lib.hid (show u.length = 16 from u3)
      have HU := Lib.hid hu
      clear u1 u2 u3 u4 hu
      go_wp2_with fail
      refine (s_Basis 4 k _ (by omega) (by omega) hlt).mono ?_
      rintro e w3 ⟨A3, c3, rfl, o3, b3⟩
      have R3 := Lib.hid (show RdD w3 A3 16 (basis 4 k) from RdD.own o3)
      clear o3
      go_wp2_with fail
      refine (s_ApplyGs _ n _ a _ 16 _ 4 _ u _ ((HA.out.below BB.out).below b3) hn R3.out (by omega) (by omega) (by decide) U1.out).mono ?_
      rintro e w4 ⟨A4, c4, rfl, o4, b4⟩
      have V4 := below_trans b3 b4
      have O4 := Lib.hid (ownsRow_base o4 (show w.heap.size ≤ w3.heap.size from Nat.le_trans BB.out.size b3.size))
      have RX4 := Lib.hid (RX.out.below V4)
      have RY4 := Lib.hid (RY.out.below V4)
      have B4 := Lib.hid (BB.out.trans (V4.mono BB.out.size))
      clear o4 b3 b4 V4 R3 RX RY BB
      go_wp2_with fail
      refine (s_Basis 4 k _ (by omega) (by omega) hlt).mono ?_
      rintro e w5 ⟨A5, c5, rfl, o5, b5⟩
      have R5 := Lib.hid (show RdD w5 A5 16 (basis 4 k) from RdD.own o5)
      clear o5
      go_wp2_with fail
      refine (s_ApplyGs _ m _ b _ 16 _ 4 _ u _ ((HB.out.below B4.out).below b5) hm R5.out (by omega) (by omega) (by decide) U2.out).mono ?_
      rintro e w6 ⟨A6, c6, rfl, o6, b6⟩
      have V6 := below_trans b5 b6
      have O6 := Lib.hid (ownsRow_base o6 (show w.heap.size ≤ w5.heap.size from Nat.le_trans B4.out.size b5.size))
      have P4 := Lib.hid (ownsRow_below O4.out V6)
      have RX6 := Lib.hid (RX4.out.below V6)
      have RY6 := Lib.hid (RY4.out.below V6)
      have B6 := Lib.hid (B4.out.trans (V6.mono B4.out.size))
      clear o6 b5 b6 V6 R5 O4 RX4 RY4 B4
      have lx := RX6.out.lt
      have ly := RY6.out.lt
      have bs := B6.out.size
      obtain ⟨hlx, vx, rx1, rx2⟩ := RX6.out
      obtain ⟨hly, vy, ry1, ry2⟩ := RY6.out
      have AX1 := Lib.hid (rx1.alloc (.cells #[.slice A4 16 c4] 79))
      have RY6a := Lib.hid (RY6.out.alloc (.cells #[.slice A4 16 c4] 79))
      have IX := Lib.hid (show ∀ (j : Nat) (x : List Dw), ((List.range k).map U)[j]? = some x → ∃ B c', vx[j]? = some (Value.slice B x.length c') ∧ (w6.alloc (.cells #[.slice A4 16 c4] 79)).ownsRow w.heap.size 83 5 (.slice B x.length c') x.length (cellsD x) from fun j x hx => (rx2 j x hx).imp fun B h => h.imp fun c' h => ⟨h.1, h.2.alloc _⟩)
      have PA := Lib.hid (P4.out.alloc (.cells #[.slice A4 16 c4] 79))
      have OA := Lib.hid (O6.out.alloc (.cells #[.slice A4 16 c4] 79))
      have BA := Lib.hid (B6.out.alloc bs (.cells #[.slice A4 16 c4] 79))
      clear rx1 rx2 ry1 ry2 hly vy
      go_wp2_with (first
        | (at_builtin; refine wpList_appOne rfl (.tmp 46) (.tmp 48) 27 rfl Try.underlying27 infoDOmegaS rfl rfl AX1.out rfl (Bx.new w6 _ _) rfl (by omega) (by decide) (by simp; omega) ?_; intro g1 cap1 w7 p7 g7 e7; have RX7 := RowsD.app hlx AX1.out IX.out U3.out PA.out p7 g7; have RY7 := RY6a.out.other g7 (fun e => hne e.symm) (fun B m cc x hx => own_own_ne' hx AX1.out (by decide)); have O7 := OA.out.kept g7 (own_own_ne' OA.out AX1.out (by decide)); have B7 := below_grown BA.out (by simp; omega) AX1.out (Nat.le_refl _) g7; have ne7 := ap_ne hne ly e7; have ⟨hly, vy, ry1, ry2⟩ := RY7; have bs7 := B7.size)
        | (at_builtin; refine wpList_appOne rfl (.tmp 50) (.tmp 52) 27 rfl Try.underlying27 infoDOmegaS rfl rfl (ry1.alloc _) rfl (Bx.new w7 _ _) rfl (by omega) (by decide) (by simp; omega) ?_; intro g2 cap2 w8 p8 g8 e8)
        | fail)
      go_roundg (gk - 1)
      case measure => omega
      case rel =>
        refine ⟨k + 1, g1, cap1, g2, cap2, by omega, by go_num, rfl, rfl, ?_, ?_, ?_, below_grown (B7.alloc bs7 _) (by simp; omega) (ry1.alloc _) (Nat.le_refl _) g8⟩
        · exact (ap_ne (fun e => ne7 e.symm) RX7.lt e8).symm
        · rw [rows_succ, HU.out]
          exact (RX7.alloc _).other g8 ne7 (fun B m cc x hx => own_own_ne' hx (ry1.alloc _) (by decide))
        · rw [rows_succ, HU.out]
          exact RowsD.app hly (ry1.alloc _) (fun j x hx => (ry2 j x hx).imp fun B h => h.imp fun c' h => ⟨h.1, h.2.alloc _⟩) U3.out (O7.alloc _) p8 g8
    · obtain rfl : k = 16 := by omega
      have HLL := Lib.hid (show ∀ x ∈ (List.range 16).map U, x.length = 16 ∧ ∀ v ∈ x, okD v = true from fun x hx => by
        obtain ⟨j, hj, rfl⟩ := List.mem_map.1 hx
        obtain ⟨_, _, h3, h4⟩ := HS.out j (List.mem_range.1 hj)
        exact ⟨h3, h4⟩)
      go_wp2_with fail
      refine (s_GPhase _ 16 _ 4 _ _ ((List.range 16).map U) _ RX.out.rd RY.out.rd (by omega) (by omega) (by decide) HLL.out).mono ?_
      rintro e w9 ⟨rfl, b9⟩
      go_wp2_with fail
      exact bodyPost_ret (v := .tuple #[.int .i64 0, .bool true]) (by simp [results, Try.results31, go_sem]) rfl ⟨rfl, BB.out.trans (b9.mono BB.out.size)⟩
end Go.Proofs.Ytibhikngiceeeaa
namespace Go.Proofs.Ytibhikngiceeeaa
open Go.RowKit
set_option linter.unusedVariables false

def flipL (l : List (List Dw)) : List (List Dw) := (List.range l.length).map fun i => l.map fun r => r.getD i Dw.zero
theorem flipL_len (l : List (List Dw)) : (flipL l).length = l.length := by unfold flipL; rw [List.length_map, List.length_range]
theorem flipL_drop {l : List (List Dw)} {i : Nat} (h : i < l.length) : (flipL l).drop i = (l.map fun r => r.getD i Dw.zero) :: (flipL l).drop (i + 1) := by
  rw [drop_cons (l := flipL l) (k := i) (by rw [flipL_len]; exact h)]
  congr 1
  simp [flipL]
theorem own_uniqD {w : World} {b1 b2 : Nat} {e : TypeId} {sz n : Nat} {v : Value} {xs ys : List Value} (h1 : w.ownsRow b1 e sz v n xs) (h2 : w.ownsRow b2 e sz v n ys) : xs = ys := by
  have l1 := h1.1
  have l2 := h2.1
  rcases h1.2 with ⟨rfl, rfl⟩ | ⟨g, cap, cur, rfl, _, hh, _, _, _, ht⟩
  · rw [List.eq_nil_of_length_eq_zero (by omega : xs.length = 0), List.eq_nil_of_length_eq_zero (by omega : ys.length = 0)]
  · rcases h2.2 with ⟨h3, _⟩ | ⟨g', cap', cur', h3, _, hh', _, _, _, ht'⟩
    · simp at h3
    · simp only [Value.slice.injEq, Option.some.injEq, Addr.mk.injEq, and_true, true_and] at h3
      obtain ⟨rfl, rfl⟩ := h3
      rw [hh] at hh'
      injection hh' with hh'
      injection hh' with hc _
      subst hc
      rw [← ht, ← ht']
section
variable {α : Type} {cs : List α → List Value} {sz : Nat}
/-- One more row, made later than all others. -/
theorem OwnSS.app1 {base B eo ei n m c : Nat} {v v'' : Value} {l : List (List α)} {x : List α} {D : Option Addr} {w0 w1 w2 : World} {vs : List Value} (hne : eo ≠ ei) (h : OwnSS cs w0 base eo ei sz v l) (hB : w0.heap.size ≤ B) (hb : base ≤ B) (h01 : Below w0.heap.size w0 w1)
    (hm : x.length = m) (hx : w1.ownsRow B ei sz (.slice D m c) m (cs x)) (hn : l.length = n) (hvs : w1.ownsRow base eo 1 v n vs) (hg : w1.grownBy w2 v.ownBlock) (ho : w2.ownsRow base eo 1 v'' (n + 1) (vs ++ [.slice D m c])) : OwnSS cs w2 base eo ei sz v'' (l ++ [x]) := by
  subst hm hn
  refine h.app (l' := [x]) (vs' := [.slice D x.length c]) hne hB hb h01 (fun j y hy => ?_) (fun i j u u' hij hu hu' => ?_) rfl hg (fun vs' h1 => ?_)
  · have h0 : j = 0 := by have := (List.getElem?_eq_some_iff.1 hy).1; simp at this; omega
    subst h0
    simp at hy
    subst hy
    exact ⟨D, c, rfl, hx⟩
  · have h1 := (List.getElem?_eq_some_iff.1 hu).1
    have h2 := (List.getElem?_eq_some_iff.1 hu').1
    simp at h1 h2
    omega
  · rw [own_uniqD h1 hvs]
    exact ho
end
/-- A slice of slices of numbers of the call's own. -/
def RetSD (l : List (List Dw)) (w : World) (e : Ending) (w' : World) : Prop :=
  ∃ A c, e = .returned (.slice A l.length c) ∧ OwnSS cellsD w' w.heap.size 79 83 5 (.slice A l.length c) l ∧ Below w.heap.size w w'

set_option maxRecDepth 100000 in
set_option maxHeartbeats 3200000 in
theorem i_flipped (A : Option Addr) (n cap : Nat) (l : List (List Dw)) (w : World) (h : RdSS cellsD w 5 A n l) (hn : n ≤ 16) (hl : ∀ x ∈ l, x.length = n) : Calls Try.prog 53 #[.slice A n cap] w (RetSD (flipL l) w) := by
  have HL := Lib.hid hl
  have HLL := Lib.hid h.1
  have H := Lib.hid h
  clear h hl
  go_enter Try.func53, Try.ntmps53
  go_wp2_with fail
  go_loopg [3, 11] n (fun r v j wr => ∃ (i : Nat) (A : Option Addr) (c : Nat), i + r = n ∧ j = .int .i64 i ∧ v = .slice A i c ∧ OwnSS cellsD wr w.heap.size 79 83 5 (.slice A i c) ((flipL l).take i) ∧ Below w.heap.size w wr)
  case atStart => exact ⟨0, _, 0, by omega, rfl, rfl, OwnSS.lit0 w (Nat.le_refl _) _ _ _ _, (Below.refl _ _).alloc (Nat.le_refl _) _⟩
  case round =>
    obtain ⟨i, A3, c3, hi, rfl, rfl, ho, hb⟩ := hrel
    have HO := Lib.hid ho
    have HB := Lib.hid hb
    have hs0 := hb.size
    clear ho hb
    by_cases hlt : i < n
    · obtain ⟨w0, rfl⟩ : ∃ w0, w0 = wr := ⟨_, rfl⟩
      obtain ⟨go, rfl⟩ : ∃ go, go = gk := ⟨_, rfl⟩
      have O0 := Lib.hid (show (w0.alloc (.cells #[] 83)).ownsRow w0.heap.size 83 5 (.slice (some ⟨w0.heap.size, 0, none⟩) 0 0) 0 (cellsD []) from World.ownsRow_lit w0 #[] 0 (Nat.le_refl _) (by simp [maxLen]) rfl)
      go_wp2_with fail
      go_loopg [5, 17] n (fun r v j wx => ∃ (k : Nat) (D : Option Addr) (c : Nat), k + r = n ∧ j = .int .i64 k ∧ v = .slice D k c ∧ wx.ownsRow w0.heap.size 83 5 (.slice D k c) k (cellsD ((l.take k).map fun r => r.getD i Dw.zero)) ∧ Below w0.heap.size w0 wx)
      case atStart => exact ⟨0, _, 0, by omega, rfl, rfl, O0.out, (Below.refl _ _).alloc (Nat.le_refl _) _⟩
      case round =>
        obtain ⟨k, D, c, hk, rfl, rfl, hrow, hbx⟩ := hrel
        have HR := Lib.hid hrow
        have HX := Lib.hid hbx
        have hsx := hbx.size
        clear hrow hbx O0
        by_cases hkl : k < n
        · obtain ⟨b, off, x, B, cb, rfl, hBb, hd, c0, hxc, hxr⟩ := ((H.out.below HB.out).below HX.out).at_ hkl
          have hxl := HL.out x (List.mem_of_mem_drop (i := k) (by rw [hd]; simp))
          rw [hxl] at c0 hxc hxr
          have RX : RdD wr B n x := ⟨hxl, hxr⟩
          obtain ⟨b2, off2, y, rfl, hB2, hd2, y0, y1, y2, y3, y4⟩ := RX.at_ hlt
          have HY := Lib.hid (show (l.take (k + 1)).map (fun r => r.getD i Dw.zero) = (l.take k).map (fun r => r.getD i Dw.zero) ++ [y] by
            rw [take_snoc hd, List.map_append]
            have : x.getD i Dw.zero = y := by
              have := congrArg (fun r => r.getD 0 Dw.zero) hd2
              simp only [List.getD_eq_getElem?_getD, List.getElem?_drop, Nat.add_zero, List.getElem?_cons_zero, Option.getD_some] at this
              rw [List.getD_eq_getElem?_getD]
              exact this
            rw [← this]
            rfl)
          clear hd hxl hxc hxr RX hd2
          have hi0 : (0 : Int) ≤ (i : Int) := by omega
          have hi1 : (i : Int) < (n : Int) := by omega
          have hk0 : (0 : Int) ≤ (k : Int) := by omega
          have hk1 : (k : Int) < (n : Int) := by omega
          go_wp2_with (at_builtin; refine wpList_app rfl (.tmp 21) (.tmp 26) 79 rfl Try.underlying79 infoDOmega rfl (by decide) rfl (HR.out.alloc _) rfl (Rd.lit wr 83 #[.int .i64 y.n.a, .int .i64 y.n.b, .int .i64 y.n.c, .int .i64 y.n.d, .int .i64 y.e] 1 5 rfl) (by simp [Value.oneCell']) (by omega) (by decide) (by simp <;> omega) ?_; intro A9 c9 w9 o9 g9)
          go_roundg (gk - 1)
          case measure => omega
          case rel =>
            refine ⟨k + 1, A9, c9, by omega, by go_num, rfl, ?_, below_grown (HX.out.alloc hsx _) (by simp <;> omega) (HR.out.alloc _) (Nat.le_refl _) g9⟩
            rw [HY.out, cellsD_append]
            exact o9
        · obtain rfl : k = n := by omega
          have e : l.take k = l := List.take_of_length_le (by rw [HLL.out]; omega)
          rw [e] at HR
          have hrl : (l.map fun r => r.getD i Dw.zero).length = k := by rw [List.length_map]; exact HLL.out
          have HW := Lib.hid (HO.out.below HX.out)
          obtain ⟨vs, a1, a2, a3⟩ := HW.out
          have htl : ((flipL l).take i).length = i := by rw [List.length_take, flipL_len, HLL.out]; omega
          rw [htl] at a1
          have A1 := Lib.hid a1
          clear a1 a2 a3 e
          go_wp2_with (at_builtin; refine wpList_app rfl (.tmp 29) (.tmp 31) 27 rfl Try.underlying27 infoDOmegaS rfl (by decide) rfl (A1.out.alloc _) rfl (Rd.lit wr 79 #[.slice D k c] 1 1 rfl) (by simp [Value.oneCell']) (by omega) (by decide) (by simp <;> omega) ?_; intro A9 c9 w9 o9 g9)
          go_roundg (go - 1)
          case measure => omega
          case rel =>
            refine ⟨i + 1, A9, c9, by omega, by go_num, rfl, ?_, below_grown ((HB.out.trans (HX.out.mono hs0)).alloc (by omega) _) (by simp <;> omega) (A1.out.alloc _) (Nat.le_refl _) g9⟩
            rw [take_snoc (flipL_drop (l := l) (i := i) (by rw [HLL.out]; exact hlt))]
            exact OwnSS.app1 (by decide) HO.out (Nat.le_refl _) hs0 (HX.out.alloc hsx _) hrl (HR.out.alloc _) htl (A1.out.alloc _) g9 o9
    · obtain rfl : i = n := by omega
      have e : (flipL l).take i = flipL l := List.take_of_length_le (by rw [flipL_len, HLL.out]; omega)
      rw [e] at HO
      have hfl : (flipL l).length = i := by rw [flipL_len]; exact HLL.out
      go_wp2_with fail
      go_ret
      exact ⟨A3, c3, by rw [hfl]; rfl, by rw [hfl]; exact HO.out, HB.out⟩
set_option maxRecDepth 100000 in
set_option maxHeartbeats 3200000 in
theorem s_l7Col (A : Option Addr) (n cap i : Nat) (l : List (List Dw)) (w : World) (h : RdSS cellsD w 5 A n l) (hn : n ≤ 16) (hl : ∀ x ∈ l, x.length = n) (hlt : i < n) : Calls Try.prog 101 #[.slice A n cap, .int .i64 i] w fun e w' => ∃ D c, e = .returned (.slice D n c) ∧ w'.ownsRow w.heap.size 83 5 (.slice D n c) n (cellsD (l.map fun r => r.getD i Dw.zero)) ∧ Below w.heap.size w w' := by
  have HL := Lib.hid hl
  have HLL := Lib.hid h.1
  have H := Lib.hid h
  clear h hl
  have O0 := Lib.hid (show (w.alloc (.cells #[] 83)).ownsRow w.heap.size 83 5 (.slice (some ⟨w.heap.size, 0, none⟩) 0 0) 0 (cellsD []) from World.ownsRow_lit w #[] 0 (Nat.le_refl _) (by simp [maxLen]) rfl)
  go_enter Try.func101, Try.ntmps101
  go_wp2_with fail
  go_loopg [5, 6] n (fun r v j wx => ∃ (k : Nat) (D : Option Addr) (c : Nat), k + r = n ∧ j = .int .i64 k ∧ v = .slice D k c ∧ wx.ownsRow w.heap.size 83 5 (.slice D k c) k (cellsD ((l.take k).map fun r => r.getD i Dw.zero)) ∧ Below w.heap.size w wx)
  case atStart => exact ⟨0, _, 0, by omega, rfl, rfl, O0.out, (Below.refl _ _).alloc (Nat.le_refl _) _⟩
  case round =>
    obtain ⟨k, D, c, hk, rfl, rfl, hrow, hbx⟩ := hrel
    have HR := Lib.hid hrow
    have HX := Lib.hid hbx
    have hsx := hbx.size
    clear hrow hbx O0
    by_cases hkl : k < n
    · obtain ⟨b, off, x, B, cb, rfl, hBb, hd, c0, hxc, hxr⟩ := (H.out.below HX.out).at_ hkl
      have hxl := HL.out x (List.mem_of_mem_drop (i := k) (by rw [hd]; simp))
      rw [hxl] at c0 hxc hxr
      have RX : RdD wr B n x := ⟨hxl, hxr⟩
      obtain ⟨b2, off2, y, rfl, hB2, hd2, y0, y1, y2, y3, y4⟩ := RX.at_ hlt
      have HY := Lib.hid (show (l.take (k + 1)).map (fun r => r.getD i Dw.zero) = (l.take k).map (fun r => r.getD i Dw.zero) ++ [y] by
        rw [take_snoc hd, List.map_append]
        have : x.getD i Dw.zero = y := by
          have := congrArg (fun r => r.getD 0 Dw.zero) hd2
          simp only [List.getD_eq_getElem?_getD, List.getElem?_drop, Nat.add_zero, List.getElem?_cons_zero, Option.getD_some] at this
          rw [List.getD_eq_getElem?_getD]
          exact this
        rw [← this]
        rfl)
      clear hd hxl hxc hxr RX hd2
      have hi0 : (0 : Int) ≤ (i : Int) := by omega
      have hi1 : (i : Int) < (n : Int) := by omega
      have hk0 : (0 : Int) ≤ (k : Int) := by omega
      have hk1 : (k : Int) < (n : Int) := by omega
      go_wp2_with (at_builtin; refine wpList_app rfl (.tmp 14) (.tmp 22) 79 rfl Try.underlying79 infoDOmega rfl (by decide) rfl (HR.out.alloc _) rfl (Rd.lit wr 83 #[.int .i64 y.n.a, .int .i64 y.n.b, .int .i64 y.n.c, .int .i64 y.n.d, .int .i64 y.e] 1 5 rfl) (by simp [Value.oneCell']) (by omega) (by decide) (by simp <;> omega) ?_; intro A9 c9 w9 o9 g9)
      go_roundg (gk - 1)
      case measure => omega
      case rel =>
        refine ⟨k + 1, A9, c9, by omega, by go_num, rfl, ?_, below_grown (HX.out.alloc hsx _) (by simp <;> omega) (HR.out.alloc _) (Nat.le_refl _) g9⟩
        rw [HY.out, cellsD_append]
        exact o9
    · obtain rfl : k = n := by omega
      have e : l.take k = l := List.take_of_length_le (by rw [HLL.out]; omega)
      rw [e] at HR
      go_wp2_with fail
      go_ret
      exact ⟨D, c, rfl, HR.out, HX.out⟩
set_option maxRecDepth 100000 in
set_option maxHeartbeats 3200000 in
theorem s_l7Cols (A : Option Addr) (n cap : Nat) (l : List (List Dw)) (w : World) (h : RdSS cellsD w 5 A n l) (hn : n ≤ 16) (hl : ∀ x ∈ l, x.length = n) : Calls Try.prog 47 #[.slice A n cap] w (RetSD (flipL l) w) := by
  have HL := Lib.hid hl
  have HLL := Lib.hid h.1
  have H := Lib.hid h
  clear h hl
  go_enter Try.func47, Try.ntmps47
  go_wp2_with fail
  go_loopg [3, 4] n (fun r v j wr => ∃ (i : Nat) (A : Option Addr) (c : Nat), i + r = n ∧ j = .int .i64 i ∧ v = .slice A i c ∧ OwnSS cellsD wr w.heap.size 79 83 5 (.slice A i c) ((flipL l).take i) ∧ Below w.heap.size w wr)
  case atStart => exact ⟨0, _, 0, by omega, rfl, rfl, OwnSS.lit0 w (Nat.le_refl _) _ _ _ _, (Below.refl _ _).alloc (Nat.le_refl _) _⟩
  case round =>
    obtain ⟨i, A3, c3, hi, rfl, rfl, ho, hb⟩ := hrel
    have HO := Lib.hid ho
    have HB := Lib.hid hb
    have hs0 := hb.size
    clear ho hb
    by_cases hlt : i < n
    · have hrl : (l.map fun r => r.getD i Dw.zero).length = n := by rw [List.length_map]; exact HLL.out
      have htl : ((flipL l).take i).length = i := by rw [List.length_take, flipL_len, HLL.out]; omega
      go_wp2_with fail
      refine (s_l7Col _ _ _ i l _ (H.out.below HB.out) hn HL.out hlt).mono ?_
      rintro e wx ⟨D, c, rfl, od, hbx⟩
      have HR := Lib.hid od
      have HX := Lib.hid hbx
      have hsx := hbx.size
      have HW := Lib.hid (HO.out.below HX.out)
      obtain ⟨vs, a1, a2, a3⟩ := HW.out
      rw [htl] at a1
      have A1 := Lib.hid a1
      clear a1 a2 a3 od hbx
      go_wp2_with (at_builtin; refine wpList_app rfl (.tmp 12) (.tmp 16) 27 rfl Try.underlying27 infoDOmegaS rfl (by decide) rfl (A1.out.alloc _) rfl (Rd.lit wx 79 #[.slice D n c] 1 1 rfl) (by simp [Value.oneCell']) (by omega) (by decide) (by simp <;> omega) ?_; intro A9 c9 w9 o9 g9)
      go_roundg (gk - 1)
      case measure => omega
      case rel =>
        refine ⟨i + 1, A9, c9, by omega, by go_num, rfl, ?_, below_grown ((HB.out.trans (HX.out.mono hs0)).alloc (by omega) _) (by simp <;> omega) (A1.out.alloc _) (Nat.le_refl _) g9⟩
        rw [take_snoc (flipL_drop (l := l) (i := i) (by rw [HLL.out]; exact hlt))]
        exact OwnSS.app1 (by decide) HO.out (Nat.le_refl _) hs0 (HX.out.alloc hsx _) hrl (HR.out.alloc _) htl (A1.out.alloc _) g9 o9
    · obtain rfl : i = n := by omega
      have e : (flipL l).take i = flipL l := List.take_of_length_le (by rw [flipL_len, HLL.out]; omega)
      rw [e] at HO
      have hfl : (flipL l).length = i := by rw [flipL_len]; exact HLL.out
      go_wp2_with fail
      go_ret
      exact ⟨A3, c3, by rw [hfl]; rfl, by rw [hfl]; exact HO.out, HB.out⟩
end Go.Proofs.Ytibhikngiceeeaa
namespace Go.Proofs.Ytibhikngiceeeaa
open Go.RowKit
set_option linter.unusedVariables false

theorem valN_lt : ∀ (m : Nat) (xs : List Nat), xs.length = m → (∀ x ∈ xs, x ≤ 1) → valN xs < 2 ^ m
  | 0, xs, h, _ => by rw [List.eq_nil_of_length_eq_zero h]; decide
  | m + 1, [], h, _ => by simp at h
  | m + 1, x :: r, h, h1 => by
    have h2 := valN_lt m r (by simpa using h) (fun y hy => h1 y (by simp [hy]))
    have h3 := h1 x (by simp)
    show x + 2 * valN r < 2 ^ (m + 1)
    rw [Nat.pow_succ]
    omega
def toN (p : Po) (i : Nat) : Nat := valN (bitsP i p)
def phN (p : Po) (i : Nat) : Nat := (phP i p).toNat
theorem toN_lt (p : Po) (i : Nat) : toN p i < 2 ^ p.o.length := valN_lt _ _ (bitsP_len i p) (bitsP_01 i p)
theorem phN_lt (p : Po) (i : Nat) : phN p i < 8 := by unfold phN phP; omega
theorem phN_int (p : Po) (i : Nat) : evT (i : Int) p.t p.H % 8 = (phN p i : Nat) := by rw [evT_ph]; unfold phN phP; omega
theorem toN_int {p : Po} (h : p.o.length ≤ 4) (i : Nat) : evO (i : Int) 0 p.o 0 = (toN p i : Nat) := evO_to h
def colP (p : Po) (n i : Nat) : List Dw := (List.replicate (2 ^ n) Dw.zero).set (toN p i) (phD (phN p i))
def tosP (p : Po) (i : Nat) : List Int := (List.range i).map fun j => ((toN p j : Nat) : Int)
def dupP (p : Po) (i : Nat) : Bool := (tosP p i).any (· == ((toN p i : Nat) : Int))
def colsP (p : Po) (n i : Nat) : List (List Dw) := (List.range i).map (colP p n)
/-- The matrix of a polynomial on n qubits, with as many outputs. -/
def ppmN (p : Po) (n : Nat) : List (List Dw) := if (List.range (2 ^ n)).any (dupP p) = true then [] else flipL (colsP p n (2 ^ n))
def ppm (p : Po) : List (List Dw) := if inB p.N 1 4 = true ∧ (p.o.length : Int) = p.N then ppmN p p.N.toNat else []
theorem tosP_succ (p : Po) (i : Nat) : tosP p (i + 1) = tosP p i ++ [((toN p i : Nat) : Int)] := by unfold tosP; rw [List.range_succ, List.map_append]; rfl
theorem colsP_succ (p : Po) (n i : Nat) : colsP p n (i + 1) = colsP p n i ++ [colP p n i] := by unfold colsP; rw [List.range_succ, List.map_append]; rfl
theorem colsP_len (p : Po) (n i : Nat) : (colsP p n i).length = i := by unfold colsP; rw [List.length_map, List.length_range]
theorem tosP_len (p : Po) (i : Nat) : (tosP p i).length = i := by unfold tosP; rw [List.length_map, List.length_range]
theorem colP_len (p : Po) (n i : Nat) : (colP p n i).length = 2 ^ n := by unfold colP; rw [List.length_set, List.length_replicate]
theorem colsP_all (p : Po) (n i : Nat) : ∀ x ∈ colsP p n i, x.length = 2 ^ n := by
  intro x hx
  obtain ⟨j, _, rfl⟩ := List.mem_map.1 hx
  exact colP_len p n j
theorem ppm_no {p : Po} (h : ¬ (inB p.N 1 4 = true ∧ (p.o.length : Int) = p.N)) : ppm p = [] := by unfold ppm; rw [if_neg h]
theorem ppm_n {p : Po} {n : Nat} (hn : 1 ≤ n ∧ n ≤ 4) (h : p.N = (n : Int)) (hl : p.o.length = n) : ppm p = ppmN p n := by
  unfold ppm
  rw [if_pos ⟨by rw [h]; exact inB_t (by omega) (by omega), by rw [h, hl]⟩, h]
  rfl
theorem ppmN_dup {p : Po} {n i : Nat} (hi : i < 2 ^ n) (h : dupP p i = true) : ppmN p n = [] := by
  unfold ppmN
  rw [if_pos (List.any_eq_true.2 ⟨i, List.mem_range.2 hi, h⟩)]
theorem ppmN_ok {p : Po} {n : Nat} (h : ∀ i, i < 2 ^ n → dupP p i = false) : ppmN p n = flipL (colsP p n (2 ^ n)) := by
  unfold ppmN
  rw [if_neg]
  intro hc
  obtain ⟨i, hi, hd⟩ := List.any_eq_true.1 hc
  rw [h i (List.mem_range.1 hi)] at hd
  cases hd
theorem ppmN_len {p : Po} {n : Nat} (h : n ≤ 4) : (ppmN p n).length ≤ 16 := by
  unfold ppmN
  split
  · simp
  · rw [flipL_len, colsP_len]; exact pow_le16 h
/-- The columns of a polynomial's matrix are what the gates do. -/
theorem colP_acts {gs : List Gt} {n : Nat} {M : Po} (h : compP gs (n : Int) = (M, true)) {b : Nat} (hb : b < 2 ^ n) : colP M n b = NV (actG gs (eN (2 ^ n) b)) 0 := by
  obtain ⟨_, _, _, _, m4, _⟩ := poly_acts h
  obtain ⟨e, _⟩ := m4 b hb
  rw [e]
  have e2 : scl (phZ (phP b M).toNat) (eN (2 ^ n) (valN (bitsP b M))) = (List.replicate (2 ^ n) Zw.zero).set (toN M b) (phZ (phN M b)) := by
    unfold scl eN
    rw [List.map_set, List.map_replicate, times_zero, one_times]
    rfl
  have e3 : phD (phN M b) = nf (phZ (phN M b)) 0 := rfl
  rw [e2, ← NV_set, NV_zero]
  rfl
theorem dupP_no {gs : List Gt} {n : Nat} {M : Po} (h : compP gs (n : Int) = (M, true)) {i : Nat} (hi : i < 2 ^ n) : dupP M i = false := by
  obtain ⟨_, _, _, _, _, m5⟩ := poly_acts h
  cases hd : dupP M i
  · rfl
  · obtain ⟨x, hx, he⟩ := List.any_eq_true.1 hd
    obtain ⟨j, hj, rfl⟩ := List.mem_map.1 hx
    have hj' := List.mem_range.1 hj
    have e : toN M j = toN M i := by
      have := eq_of_beq he
      omega
    have := m5 j i (by omega) hi e
    omega
def matG (gs : List Gt) (n : Nat) : List (List Dw) := flipL ((List.range (2 ^ n)).map fun b => NV (actG gs (eN (2 ^ n) b)) 0)
theorem ppm_comp {gs : List Gt} {n : Nat} {M : Po} (h : compP gs (n : Int) = (M, true)) : ppm M = matG gs n := by
  obtain ⟨hn, _, m2, m3, _, _⟩ := poly_acts h
  rw [ppm_n hn m2 m3, ppmN_ok (fun i hi => dupP_no h hi)]
  unfold matG colsP
  congr 1
  exact List.map_congr_left fun b hb => colP_acts h (List.mem_range.1 hb)
theorem eqP_eq {P Q : Po} (h : eqP P.N P.H Q.N Q.H P.t P.o Q.t Q.o = true) : P = Q := by
  unfold eqP sameP at h
  simp only [Bool.and_eq_true, decide_eq_true_eq, beq_iff_eq] at h
  obtain ⟨h1, h2, h3, h4⟩ := h
  cases P
  cases Q
  simp_all
/-- Rows of gates with equal polynomials have equal matrices. -/
theorem matG_same {a b : List Gt} {n : Nat} {P Q : Po} (ha : compP a (n : Int) = (P, true)) (hb : compP b (n : Int) = (Q, true)) (h : eqP P.N P.H Q.N Q.H P.t P.o Q.t Q.o = true) : matG a n = matG b n := by
  rw [← ppm_comp ha, ← ppm_comp hb, eqP_eq h]
theorem compL_bad : ∀ (gs : List Gt) (p M : Po), compL p gs = (M, false) → M = Po.zero
  | [], p, M, h => by injection h with _ h; cases h
  | g :: r, p, M, h => by
    rw [compL] at h
    split at h
    · exact compL_bad r _ _ h
    · injection h with h _
      exact h.symm
theorem compP_no {gs : List Gt} {n : Int} {M : Po} (h : compP gs n = (M, false)) : M = Po.zero := by
  unfold compP at h
  split at h
  · exact compL_bad _ _ _ h
  · injection h with h _
    exact h.symm
theorem flipL_rows (l : List (List Dw)) : ∀ x ∈ flipL l, x.length = l.length := by
  intro x hx
  unfold flipL at hx
  obtain ⟨j, _, rfl⟩ := List.mem_map.1 hx
  rw [List.length_map]
theorem matG_len (gs : List Gt) (n : Nat) : (matG gs n).length = 2 ^ n := by unfold matG; rw [flipL_len, List.length_map, List.length_range]
theorem matG_rows (gs : List Gt) (n : Nat) : ∀ x ∈ matG gs n, x.length = (matG gs n).length := by
  intro x hx
  rw [matG_len]
  have := flipL_rows _ x hx
  rwa [List.length_map, List.length_range] at this
/-- What the walk asks of a row of gates that has a polynomial. -/
theorem comp_outs {gs : List Gt} {n : Nat} {M : Po} (h : compP gs (n : Int) = (M, true)) : (1 ≤ n ∧ n ≤ 4) ∧ (∀ g ∈ gs, okN n g = true) ∧ ∀ i, i < 2 ^ n → appGs gs (basis n i) = some (NV (actG gs (eN (2 ^ n) i)) 0) ∧ (NV (actG gs (eN (2 ^ n) i)) 0).length = 2 ^ n := by
  obtain ⟨hn, m1, _⟩ := poly_acts h
  have hg : ∀ g ∈ gs, okN n g = true := fun g hg => (m1 g hg).1
  have h0 : hcs gs = 0 := mono_hcs fun g hg => (m1 g hg).2
  refine ⟨hn, hg, fun i _ => ?_⟩
  obtain ⟨a1, _, a3, _⟩ := appGs_nfN hn hg (by omega) i
  rw [h0] at a1
  exact ⟨a1, by rw [NV_len, a3]⟩
end Go.Proofs.Ytibhikngiceeeaa
