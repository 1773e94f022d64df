/- Contracts of LongRangeCX (spec and impl). The slice's capacity is at least its length. -/
import Derived.Test.YtgnallcfahpjmaaRSmall
import Derived.Test.YtgnallcfahpjmaaRBase4
import Derived.Deep.RegionHeld3
import Derived.Deep.DeepCutAuto
namespace Go.Proofs.YtgnallcfahpjmaaR
open Go.RowKit

def lrc : List Int → List Gt
  | x :: y :: z :: r => (⟨9, x, y, 0⟩ :: lrc (y :: z :: r)) ++ (⟨9, x, y, 0⟩ :: lrc (y :: z :: r))
  | [x, y] => [⟨9, x, y, 0⟩]
  | _ => []
def longCX (zs : List Int) : List Gt := if 2 ≤ zs.length ∧ zs.length ≤ 4 then lrc zs else []
theorem longCX_out {zs : List Int} (h : zs.length < 2 ∨ 4 < zs.length) : longCX zs = [] := by unfold longCX; rw [if_neg (by omega)]
theorem longCX_len (zs : List Int) : (longCX zs).length ≤ 10 := by
  unfold longCX
  split
  · rename_i h
    match zs, h with
    | [x, y], _ => simp [lrc]
    | [x, y, z], _ => simp [lrc]
    | [x, y, z, u], _ => simp [lrc]
    | _ :: _ :: _ :: _ :: _ :: _, h => simp at h
  · simp

theorem s_lrOut (A : Option Addr) (n cap : Nat) (zs : List Int) (w : World) (h : RdI w A n zs) (hn : n < 2 ∨ 4 < n) : Calls Try.prog 58 #[.slice A n cap] w (Ret 63 4 (cellsG (longCX zs)) (longCX zs).length w) := by
  have HZ := Lib.hid (longCX_out (zs := zs) (by rw [h.1]; exact hn))
  clear h
  go_enter Try.func58, Try.ntmps58
  go_wp2_with fail
  refine (s_in _ _ _ _).mono ?_
  rintro e w' ⟨rfl, rfl⟩
  rw [inB_f (by omega)]
  go_wp2_with fail
  go_ret
  rw [HZ.out]
  exact ⟨_, _, rfl, World.ownsRow_lit w #[] 0 (Nat.le_refl _) (by simp [maxLen]) rfl, (Below.refl _ _).alloc (Nat.le_refl _) _⟩

set_option maxRecDepth 100000 in
set_option maxHeartbeats 1600000 in
theorem s_lr2 (A : Option Addr) (cap : Nat) (x y : Int) (w : World) (h : RdI w A 2 [x, y]) : Calls Try.prog 58 #[.slice A 2 cap] w (Ret 63 4 (cellsG [⟨9, x, y, 0⟩]) 1 w) := by
  obtain ⟨b, off, x', rfl, hB, hd, c0⟩ := h.at_ (k := 0) (by omega)
  obtain ⟨b1, off1, y', he, _, hd1, c1⟩ := h.at_ (k := 1) (by omega)
  simp at hd hd1 he
  rw [Nat.add_zero] at c0
  obtain ⟨rfl, rfl⟩ := he
  subst hd hd1
  clear h
  go_enter Try.func58, Try.ntmps58
  go_wp2_with fail
  refine (s_in _ _ _ _).mono ?_
  rintro e w' ⟨rfl, rfl⟩
  rw [inB_t (by omega) (by omega)]
  go_upto_region 3 with fail
  go_cut [3] (fun s3 wx => ∃ g : Nat, s3 = .pointer (some ⟨g, 0, none⟩) ∧ Bx wx g 63 #[.int .i64 9, .int .i64 x, .int .i64 y, .int .i64 0] ∧ Below w.heap.size w wx)
  case first =>
    have hne : w.heap.size ≠ b := by omega
    go_region_held3 (fun w' => w'.cell? ⟨b, off, none⟩ = some (.int .i64 x) ∧ w'.cell? ⟨b, off + 1, none⟩ = some (.int .i64 y))
      (first | go_keep | (trace_state; fail))
      (first | (go_at_call 126; refine (s_cx _ _ _).mono ?_; rintro e w1 ⟨rfl, b1⟩; have k0 := b1.cell (p := ⟨b, off, none⟩) (by simp <;> omega); have k1 := b1.cell (p := ⟨b, off + 1, none⟩) (by simp <;> omega); obtain ⟨hc1, hf1⟩ := bcell b1; have hs1 := b1.size; have hne1 : w1.heap.size ≠ b := (by simp at hs1; omega)))
    all_goals go_wp2_with fail
    all_goals go_meet
    · exact ⟨w1.heap.size, rfl, Bx.new w1 63 #[.int .i64 9, .int .i64 x, .int .i64 y, .int .i64 0], (below_drew b1).alloc (by simpa using hs1) _⟩
    · exact ⟨w.heap.size, rfl, (((((Bx.new w 63 #[.int .i64 0, .int .i64 0, .int .i64 0, .int .i64 0]).drew.below b1).set_ 0 _).set_ 1 _).set_ 2 _).set_ 3 _, ((((below_alloc (below_drew b1)).setCell (Nat.le_refl _) _).setCell (Nat.le_refl _) _).setCell (Nat.le_refl _) _).setCell (Nat.le_refl _) _⟩
  case rest =>
    obtain ⟨g, rfl, hbx, hb⟩ := hcut
    obtain ⟨q0, q1, q2, q3, _, _, _, _⟩ := hbx.four
    have hsz := hb.size
    go_wp2_with fail
    go_ret
    refine ⟨_, _, rfl, ?_, hb.alloc hsz _⟩
    exact World.ownsRow_lit wc #[.int .i64 9, .int .i64 x, .int .i64 y, .int .i64 0] 1 hsz (by simp [maxLen]) rfl

set_option maxRecDepth 100000 in
set_option maxHeartbeats 3200000 in
theorem s_lr3 (A : Option Addr) (cap : Nat) (x y z : Int) (w : World) (h : RdI w A 3 [x, y, z]) (hcap : 3 ≤ cap) : Calls Try.prog 58 #[.slice A 3 cap] w (Ret 63 4 (cellsG (lrc [x, y, z])) 4 w) := by
  have HZ : Hid (cellsG (lrc [x, y, z]) = cellsG (⟨9, x, y, 0⟩ :: lrc [y, z]) ++ cellsG (⟨9, x, y, 0⟩ :: lrc [y, z])) := cellsG_append (⟨9, x, y, 0⟩ :: lrc [y, z]) (⟨9, x, y, 0⟩ :: lrc [y, z])
  have hncap : ¬ cap = 1 := by omega
  obtain ⟨b, off, x', rfl, hB, hd, c0⟩ := h.at_ (k := 0) (by omega)
  obtain ⟨b1, off1, y', he, _, hd1, c1⟩ := h.at_ (k := 1) (by omega)
  simp at hd hd1 he
  rw [Nat.add_zero] at c0
  obtain ⟨rfl, rfl⟩ := he
  obtain ⟨rfl, _⟩ := hd
  obtain ⟨rfl, _⟩ := hd1
  have HT := Lib.hid h.tail
  clear h
  go_enter Try.func58, Try.ntmps58
  go_wp2_with fail
  refine (s_in _ _ _ _).mono ?_
  rintro e w' ⟨rfl, rfl⟩
  rw [inB_t (by omega) (by omega)]
  go_upto_region 3 with fail
  go_cut [3] (fun s3 wx => ∃ g : Nat, s3 = .pointer (some ⟨g, 0, none⟩) ∧ Bx wx g 63 #[.int .i64 9, .int .i64 x, .int .i64 y, .int .i64 0] ∧ Below w.heap.size w wx)
  case first =>
    have hne : w.heap.size ≠ b := by omega
    go_region_held3 (fun w' => w'.cell? ⟨b, off, none⟩ = some (.int .i64 x) ∧ w'.cell? ⟨b, off + 1, none⟩ = some (.int .i64 y))
      (first | go_keep | (trace_state; fail))
      (first | (go_at_call 126; refine (s_cx _ _ _).mono ?_; rintro e w1 ⟨rfl, b1⟩; have k0 := b1.cell (p := ⟨b, off, none⟩) (by simp <;> omega); have k1 := b1.cell (p := ⟨b, off + 1, none⟩) (by simp <;> omega); obtain ⟨hc1, hf1⟩ := bcell b1; have hs1 := b1.size; have hne1 : w1.heap.size ≠ b := (by simp at hs1; omega)))
    all_goals go_wp2_with fail
    all_goals go_meet
    · exact ⟨w1.heap.size, rfl, Bx.new w1 63 #[.int .i64 9, .int .i64 x, .int .i64 y, .int .i64 0], (below_drew b1).alloc (by simpa using hs1) _⟩
    · exact ⟨w.heap.size, rfl, (((((Bx.new w 63 #[.int .i64 0, .int .i64 0, .int .i64 0, .int .i64 0]).drew.below b1).set_ 0 _).set_ 1 _).set_ 2 _).set_ 3 _, ((((below_alloc (below_drew b1)).setCell (Nat.le_refl _) _).setCell (Nat.le_refl _) _).setCell (Nat.le_refl _) _).setCell (Nat.le_refl _) _⟩
  case rest =>
    obtain ⟨g, rfl, hbx, hb⟩ := hcut
    obtain ⟨wd, rfl⟩ : ∃ wd, wd = wc := ⟨_, rfl⟩
    obtain ⟨q0, q1, q2, q3, _, _, _, _⟩ := hbx.four
    have hg := hbx.lt
    have hsz := hb.size
    have HT2 := Lib.hid (HT.out.below hb)
    clear c0 c1 hbx
    go_upto_region 6 with fail
    go_cut [4] (fun s4 wx => ∃ (A4 : Option Addr) (c4 : Nat), s4 = .slice A4 2 c4 ∧ wx.ownsRow w.heap.size 63 4 (.slice A4 2 c4) 2 (cellsG (⟨9, x, y, 0⟩ :: lrc [y, z])) ∧ Below w.heap.size w wx)
    case first =>
      have hne : wd.heap.size ≠ g := by omega
      have HTA : RdI (wd.alloc (.cells #[.int .i64 9, .int .i64 x, .int .i64 y, .int .i64 0] 63)).drew (some ⟨b, off + 1, none⟩) 2 [y, z] := (HT2.out.alloc _).drew
      have HTB : RdI wd.drew (some ⟨b, off + 1, none⟩) 2 [y, z] := HT2.out.drew
      have hz4 : (Value.agg #[.int .i64 0, .int .i64 0, .int .i64 0, .int .i64 0]).cells.size = 4 := rfl
      go_region_held3 (fun w' => w'.cell? ⟨g, 0, none⟩ = some (.int .i64 9) ∧ w'.cell? ⟨g, 1, none⟩ = some (.int .i64 x) ∧ w'.cell? ⟨g, 2, none⟩ = some (.int .i64 y) ∧ w'.cell? ⟨g, 3, none⟩ = some (.int .i64 0))
        (first | go_keep | (trace_state; fail))
        (first
          | (go_at_call 58; (with_reducible refine (s_lr2 _ _ y z _ HTA).mono ?_); rintro e w2 ⟨A2, c2, rfl, o2, b2⟩; have OWN := ownsRow_below (ownsRow_drew (World.ownsRow_lit wd #[.int .i64 9, .int .i64 x, .int .i64 y, .int .i64 0] 1 hsz (size := 4) (e := 63) (by simp [maxLen]) rfl)) b2; have SRC := Rd.own o2; have BW : Below w.heap.size w w2 := hb.trans ((below_alloc (below_drew b2)).mono hsz); have hs2 := b2.size; have hbs : w.heap.size ≤ w2.heap.size := (by simp at hs2; omega); have k0 := b2.cell (p := ⟨g, 0, none⟩) (by simp <;> omega); have k1 := b2.cell (p := ⟨g, 1, none⟩) (by simp <;> omega); have k2 := b2.cell (p := ⟨g, 2, none⟩) (by simp <;> omega); have k3 := b2.cell (p := ⟨g, 3, none⟩) (by simp <;> omega); have hne2 : w2.heap.size ≠ g := (by simp at hs2; omega); have J0 : w2.cell? ⟨g, 0, none⟩ = some (.int .i64 9) := (by rw [k0]; simp [*]); have J1 : w2.cell? ⟨g, 1, none⟩ = some (.int .i64 x) := (by rw [k1]; simp [*]); have J2 : w2.cell? ⟨g, 2, none⟩ = some (.int .i64 y) := (by rw [k2]; simp [*]); have J3 : w2.cell? ⟨g, 3, none⟩ = some (.int .i64 0) := (by rw [k3]; simp [*]))
          | (go_at_call 58; (with_reducible refine (s_lr2 _ _ y z _ HTB).mono ?_); rintro e w2 ⟨A2, c2, rfl, o2, b2⟩; have OWN := World.ownsRow_lit w2 #[.int .i64 9, .int .i64 x, .int .i64 y, .int .i64 0] 1 (size := 4) (e := 63) (base := w.heap.size) (Nat.le_trans hsz b2.size) (by simp [maxLen]) rfl; have SRC := (Rd.own o2).alloc (.cells #[.int .i64 9, .int .i64 x, .int .i64 y, .int .i64 0] 63); have BW : Below w.heap.size w (w2.alloc (.cells #[.int .i64 9, .int .i64 x, .int .i64 y, .int .i64 0] 63)) := (hb.trans ((below_drew b2).mono hsz)).alloc (Nat.le_trans hsz b2.size) _; have hs2 := b2.size; have hbs : w.heap.size ≤ (w2.alloc (.cells #[.int .i64 9, .int .i64 x, .int .i64 y, .int .i64 0] 63)).heap.size := (by simp at hs2 ⊢; omega); have k0 := b2.cell (p := ⟨g, 0, none⟩) (by simp <;> omega); have k1 := b2.cell (p := ⟨g, 1, none⟩) (by simp <;> omega); have k2 := b2.cell (p := ⟨g, 2, none⟩) (by simp <;> omega); have k3 := b2.cell (p := ⟨g, 3, none⟩) (by simp <;> omega); have hne2 : w2.heap.size ≠ g := (by simp at hs2; omega); have J0 : (w2.alloc (.cells #[.int .i64 9, .int .i64 x, .int .i64 y, .int .i64 0] 63)).cell? ⟨g, 0, none⟩ = some (.int .i64 9) := (by rw [World.cell?_alloc_lt _ _ _ (by simp at hs2 ⊢; omega), k0]; simp [*]); have J1 : (w2.alloc (.cells #[.int .i64 9, .int .i64 x, .int .i64 y, .int .i64 0] 63)).cell? ⟨g, 1, none⟩ = some (.int .i64 x) := (by rw [World.cell?_alloc_lt _ _ _ (by simp at hs2 ⊢; omega), k1]; simp [*]); have J2 : (w2.alloc (.cells #[.int .i64 9, .int .i64 x, .int .i64 y, .int .i64 0] 63)).cell? ⟨g, 2, none⟩ = some (.int .i64 y) := (by rw [World.cell?_alloc_lt _ _ _ (by simp at hs2 ⊢; omega), k2]; simp [*]); have J3 : (w2.alloc (.cells #[.int .i64 9, .int .i64 x, .int .i64 y, .int .i64 0] 63)).cell? ⟨g, 3, none⟩ = some (.int .i64 0) := (by rw [World.cell?_alloc_lt _ _ _ (by simp at hs2 ⊢; omega), k3]; simp [*]))
          | (refine step_app (by rfl) (.tmp 23) (.tmp 26) 24 (by rfl) Try.underlying24 infoGate hz4 (by decide) (by simp [Act.eval] <;> rfl) OWN (by simp [Act.eval] <;> rfl) SRC one_cellsG (by omega) (by decide) hbs ?_; intro A3 c3 w3 o3 g3; have m0 := g3.cell J0 (by simp [Value.ownBlock]; omega); have m1 := g3.cell J1 (by simp [Value.ownBlock]; omega); have m2 := g3.cell J2 (by simp [Value.ownBlock]; omega); have m3 := g3.cell J3 (by simp [Value.ownBlock]; omega)))
      all_goals go_wp2_with fail
      all_goals go_meet
      all_goals exact ⟨A3, c3, rfl, o3, below_grown BW hbs OWN (Nat.le_refl _) g3⟩
    case rest =>
      obtain ⟨A4, c4, rfl, o4, hb4⟩ := hcut
      have hs4 := hb4.size
      clear q0 q1 q2 q3 hg hsz hb
      have E0 := Lib.hid (World.ownsRow_lit wc #[] 0 (size := 4) (e := 63) (base := wc.heap.size) (Nat.le_refl _) (by simp [maxLen]) rfl)
      go_wp2_with (first | (at_builtin; refine wpList_app rfl (.tmp 28) (.tmp 29) 24 rfl Try.underlying24 infoGate rfl (by decide) rfl E0.out rfl (Rd.own (o4.alloc _)) one_cellsG (by omega) (by decide) (by first | omega | (simp <;> omega)) ?_; intro A5 c5 w5 o5 g5; have bz : Below wc.heap.size wc w5 := below_grown ((Below.refl _ _).alloc (Nat.le_refl _) _) (by simp) E0.out (Nat.le_refl _) g5; have O4 := ownsRow_below o4 bz; have hs5 := bz.size; simp only [Nat.zero_add, List.nil_append] at o5) | (at_builtin; refine wpList_app rfl (.tmp 30) (.tmp 31) 24 rfl Try.underlying24 infoGate rfl (by decide) rfl o5 rfl (Rd.own O4) one_cellsG (by omega) (by decide) (by first | omega | (simp <;> omega)) ?_; intro A6 c6 w6 o6 g6))
      go_ret
      rw [HZ.out]
      exact ⟨A6, c6, rfl, ownsRow_base (by simpa using o6) hs4, below_grown (hb4.trans (bz.mono hs4)) (by omega) o5 hs4 g6⟩

set_option maxRecDepth 100000 in
set_option maxHeartbeats 3200000 in
theorem s_lr4 (A : Option Addr) (cap : Nat) (x y z u : Int) (w : World) (h : RdI w A 4 [x, y, z, u]) (hcap : 4 ≤ cap) : Calls Try.prog 58 #[.slice A 4 cap] w (Ret 63 4 (cellsG (lrc [x, y, z, u])) 10 w) := by
  have HZ : Hid (cellsG (lrc [x, y, z, u]) = cellsG (⟨9, x, y, 0⟩ :: lrc [y, z, u]) ++ cellsG (⟨9, x, y, 0⟩ :: lrc [y, z, u])) := cellsG_append (⟨9, x, y, 0⟩ :: lrc [y, z, u]) (⟨9, x, y, 0⟩ :: lrc [y, z, u])
  have hncap : ¬ cap = 1 := by omega
  obtain ⟨b, off, x', rfl, hB, hd, c0⟩ := h.at_ (k := 0) (by omega)
  obtain ⟨b1, off1, y', he, _, hd1, c1⟩ := h.at_ (k := 1) (by omega)
  simp at hd hd1 he
  rw [Nat.add_zero] at c0
  obtain ⟨rfl, rfl⟩ := he
  obtain ⟨rfl, _⟩ := hd
  obtain ⟨rfl, _⟩ := hd1
  have HT := Lib.hid h.tail
  clear h
  go_enter Try.func58, Try.ntmps58
  go_wp2_with fail
  refine (s_in _ _ _ _).mono ?_
  rintro e w' ⟨rfl, rfl⟩
  rw [inB_t (by omega) (by omega)]
  go_upto_region 3 with fail
  go_cut [3] (fun s3 wx => ∃ g : Nat, s3 = .pointer (some ⟨g, 0, none⟩) ∧ Bx wx g 63 #[.int .i64 9, .int .i64 x, .int .i64 y, .int .i64 0] ∧ Below w.heap.size w wx)
  case first =>
    have hne : w.heap.size ≠ b := by omega
    go_region_held3 (fun w' => w'.cell? ⟨b, off, none⟩ = some (.int .i64 x) ∧ w'.cell? ⟨b, off + 1, none⟩ = some (.int .i64 y))
      (first | go_keep | (trace_state; fail))
      (first | (go_at_call 126; refine (s_cx _ _ _).mono ?_; rintro e w1 ⟨rfl, b1⟩; have k0 := b1.cell (p := ⟨b, off, none⟩) (by simp <;> omega); have k1 := b1.cell (p := ⟨b, off + 1, none⟩) (by simp <;> omega); obtain ⟨hc1, hf1⟩ := bcell b1; have hs1 := b1.size; have hne1 : w1.heap.size ≠ b := (by simp at hs1; omega)))
    all_goals go_wp2_with fail
    all_goals go_meet
    · exact ⟨w1.heap.size, rfl, Bx.new w1 63 #[.int .i64 9, .int .i64 x, .int .i64 y, .int .i64 0], (below_drew b1).alloc (by simpa using hs1) _⟩
    · exact ⟨w.heap.size, rfl, (((((Bx.new w 63 #[.int .i64 0, .int .i64 0, .int .i64 0, .int .i64 0]).drew.below b1).set_ 0 _).set_ 1 _).set_ 2 _).set_ 3 _, ((((below_alloc (below_drew b1)).setCell (Nat.le_refl _) _).setCell (Nat.le_refl _) _).setCell (Nat.le_refl _) _).setCell (Nat.le_refl _) _⟩
  case rest =>
    obtain ⟨g, rfl, hbx, hb⟩ := hcut
    obtain ⟨wd, rfl⟩ : ∃ wd, wd = wc := ⟨_, rfl⟩
    obtain ⟨q0, q1, q2, q3, _, _, _, _⟩ := hbx.four
    have hg := hbx.lt
    have hsz := hb.size
    have HT2 := Lib.hid (HT.out.below hb)
    clear c0 c1 hbx
    go_upto_region 6 with fail
    go_cut [4] (fun s4 wx => ∃ (A4 : Option Addr) (c4 : Nat), s4 = .slice A4 5 c4 ∧ wx.ownsRow w.heap.size 63 4 (.slice A4 5 c4) 5 (cellsG (⟨9, x, y, 0⟩ :: lrc [y, z, u])) ∧ Below w.heap.size w wx)
    case first =>
      have hne : wd.heap.size ≠ g := by omega
      have HTA : RdI (wd.alloc (.cells #[.int .i64 9, .int .i64 x, .int .i64 y, .int .i64 0] 63)).drew (some ⟨b, off + 1, none⟩) 3 [y, z, u] := (HT2.out.alloc _).drew
      have HTB : RdI wd.drew (some ⟨b, off + 1, none⟩) 3 [y, z, u] := HT2.out.drew
      have hz4 : (Value.agg #[.int .i64 0, .int .i64 0, .int .i64 0, .int .i64 0]).cells.size = 4 := rfl
      go_region_held3 (fun w' => w'.cell? ⟨g, 0, none⟩ = some (.int .i64 9) ∧ w'.cell? ⟨g, 1, none⟩ = some (.int .i64 x) ∧ w'.cell? ⟨g, 2, none⟩ = some (.int .i64 y) ∧ w'.cell? ⟨g, 3, none⟩ = some (.int .i64 0))
        (first | go_keep | (trace_state; fail))
        (first
          | (go_at_call 58; (with_reducible refine (s_lr3 _ _ y z u _ HTA (by omega)).mono ?_); rintro e w2 ⟨A2, c2, rfl, o2, b2⟩; have OWN := ownsRow_below (ownsRow_drew (World.ownsRow_lit wd #[.int .i64 9, .int .i64 x, .int .i64 y, .int .i64 0] 1 hsz (size := 4) (e := 63) (by simp [maxLen]) rfl)) b2; have SRC := Rd.own o2; have BW : Below w.heap.size w w2 := hb.trans ((below_alloc (below_drew b2)).mono hsz); have hs2 := b2.size; have hbs : w.heap.size ≤ w2.heap.size := (by simp at hs2; omega); have k0 := b2.cell (p := ⟨g, 0, none⟩) (by simp <;> omega); have k1 := b2.cell (p := ⟨g, 1, none⟩) (by simp <;> omega); have k2 := b2.cell (p := ⟨g, 2, none⟩) (by simp <;> omega); have k3 := b2.cell (p := ⟨g, 3, none⟩) (by simp <;> omega); have hne2 : w2.heap.size ≠ g := (by simp at hs2; omega); have J0 : w2.cell? ⟨g, 0, none⟩ = some (.int .i64 9) := (by rw [k0]; simp [*]); have J1 : w2.cell? ⟨g, 1, none⟩ = some (.int .i64 x) := (by rw [k1]; simp [*]); have J2 : w2.cell? ⟨g, 2, none⟩ = some (.int .i64 y) := (by rw [k2]; simp [*]); have J3 : w2.cell? ⟨g, 3, none⟩ = some (.int .i64 0) := (by rw [k3]; simp [*]))
          | (go_at_call 58; (with_reducible refine (s_lr3 _ _ y z u _ HTB (by omega)).mono ?_); rintro e w2 ⟨A2, c2, rfl, o2, b2⟩; have OWN := World.ownsRow_lit w2 #[.int .i64 9, .int .i64 x, .int .i64 y, .int .i64 0] 1 (size := 4) (e := 63) (base := w.heap.size) (Nat.le_trans hsz b2.size) (by simp [maxLen]) rfl; have SRC := (Rd.own o2).alloc (.cells #[.int .i64 9, .int .i64 x, .int .i64 y, .int .i64 0] 63); have BW : Below w.heap.size w (w2.alloc (.cells #[.int .i64 9, .int .i64 x, .int .i64 y, .int .i64 0] 63)) := (hb.trans ((below_drew b2).mono hsz)).alloc (Nat.le_trans hsz b2.size) _; have hs2 := b2.size; have hbs : w.heap.size ≤ (w2.alloc (.cells #[.int .i64 9, .int .i64 x, .int .i64 y, .int .i64 0] 63)).heap.size := (by simp at hs2 ⊢; omega); have k0 := b2.cell (p := ⟨g, 0, none⟩) (by simp <;> omega); have k1 := b2.cell (p := ⟨g, 1, none⟩) (by simp <;> omega); have k2 := b2.cell (p := ⟨g, 2, none⟩) (by simp <;> omega); have k3 := b2.cell (p := ⟨g, 3, none⟩) (by simp <;> omega); have hne2 : w2.heap.size ≠ g := (by simp at hs2; omega); have J0 : (w2.alloc (.cells #[.int .i64 9, .int .i64 x, .int .i64 y, .int .i64 0] 63)).cell? ⟨g, 0, none⟩ = some (.int .i64 9) := (by rw [World.cell?_alloc_lt _ _ _ (by simp at hs2 ⊢; omega), k0]; simp [*]); have J1 : (w2.alloc (.cells #[.int .i64 9, .int .i64 x, .int .i64 y, .int .i64 0] 63)).cell? ⟨g, 1, none⟩ = some (.int .i64 x) := (by rw [World.cell?_alloc_lt _ _ _ (by simp at hs2 ⊢; omega), k1]; simp [*]); have J2 : (w2.alloc (.cells #[.int .i64 9, .int .i64 x, .int .i64 y, .int .i64 0] 63)).cell? ⟨g, 2, none⟩ = some (.int .i64 y) := (by rw [World.cell?_alloc_lt _ _ _ (by simp at hs2 ⊢; omega), k2]; simp [*]); have J3 : (w2.alloc (.cells #[.int .i64 9, .int .i64 x, .int .i64 y, .int .i64 0] 63)).cell? ⟨g, 3, none⟩ = some (.int .i64 0) := (by rw [World.cell?_alloc_lt _ _ _ (by simp at hs2 ⊢; omega), k3]; simp [*]))
          | (refine step_app (by rfl) (.tmp 23) (.tmp 26) 24 (by rfl) Try.underlying24 infoGate hz4 (by decide) (by simp [Act.eval] <;> rfl) OWN (by simp [Act.eval] <;> rfl) SRC one_cellsG (by omega) (by decide) hbs ?_; intro A3 c3 w3 o3 g3; have m0 := g3.cell J0 (by simp [Value.ownBlock]; omega); have m1 := g3.cell J1 (by simp [Value.ownBlock]; omega); have m2 := g3.cell J2 (by simp [Value.ownBlock]; omega); have m3 := g3.cell J3 (by simp [Value.ownBlock]; omega)))
      all_goals go_wp2_with fail
      all_goals go_meet
      all_goals exact ⟨A3, c3, rfl, o3, below_grown BW hbs OWN (Nat.le_refl _) g3⟩
    case rest =>
      obtain ⟨A4, c4, rfl, o4, hb4⟩ := hcut
      have hs4 := hb4.size
      clear q0 q1 q2 q3 hg hsz hb
      have E0 := Lib.hid (World.ownsRow_lit wc #[] 0 (size := 4) (e := 63) (base := wc.heap.size) (Nat.le_refl _) (by simp [maxLen]) rfl)
      go_wp2_with (first | (at_builtin; refine wpList_app rfl (.tmp 28) (.tmp 29) 24 rfl Try.underlying24 infoGate rfl (by decide) rfl E0.out rfl (Rd.own (o4.alloc _)) one_cellsG (by omega) (by decide) (by first | omega | (simp <;> omega)) ?_; intro A5 c5 w5 o5 g5; have bz : Below wc.heap.size wc w5 := below_grown ((Below.refl _ _).alloc (Nat.le_refl _) _) (by simp) E0.out (Nat.le_refl _) g5; have O4 := ownsRow_below o4 bz; have hs5 := bz.size; simp only [Nat.zero_add, List.nil_append] at o5) | (at_builtin; refine wpList_app rfl (.tmp 30) (.tmp 31) 24 rfl Try.underlying24 infoGate rfl (by decide) rfl o5 rfl (Rd.own O4) one_cellsG (by omega) (by decide) (by first | omega | (simp <;> omega)) ?_; intro A6 c6 w6 o6 g6))
      go_ret
      rw [HZ.out]
      exact ⟨A6, c6, rfl, ownsRow_base (by simpa using o6) hs4, below_grown (hb4.trans (bz.mono hs4)) (by omega) o5 hs4 g6⟩

theorem i_lrOut (A : Option Addr) (n cap : Nat) (zs : List Int) (w : World) (h : RdI w A n zs) (hn : n < 2 ∨ 4 < n) : Calls Try.prog 57 #[.slice A n cap] w (Ret 63 4 (cellsG (longCX zs)) (longCX zs).length w) := by
  have HZ := Lib.hid (longCX_out (zs := zs) (by rw [h.1]; exact hn))
  clear h
  go_enter Try.func57, Try.ntmps57
  go_wp2_with fail
  refine (i_in _ _ _ _).mono ?_
  rintro e w' ⟨rfl, rfl⟩
  rw [inB_f (by omega)]
  go_wp2_with fail
  go_ret
  rw [HZ.out]
  exact ⟨_, _, rfl, World.ownsRow_nil _ _ _ _, Below.refl _ _⟩

set_option maxRecDepth 100000 in
set_option maxHeartbeats 1600000 in
theorem i_lr2 (A : Option Addr) (cap : Nat) (x y : Int) (w : World) (h : RdI w A 2 [x, y]) : Calls Try.prog 57 #[.slice A 2 cap] w (Ret 63 4 (cellsG [⟨9, x, y, 0⟩]) 1 w) := by
  obtain ⟨b, off, x', rfl, hB, hd, c0⟩ := h.at_ (k := 0) (by omega)
  obtain ⟨b1, off1, y', he, _, hd1, c1⟩ := h.at_ (k := 1) (by omega)
  simp at hd hd1 he
  rw [Nat.add_zero] at c0
  obtain ⟨rfl, rfl⟩ := he
  subst hd hd1
  clear h
  go_enter Try.func57, Try.ntmps57
  go_wp2_with fail
  refine (i_in _ _ _ _).mono ?_
  rintro e w' ⟨rfl, rfl⟩
  rw [inB_t (by omega) (by omega)]
  go_upto_region 3 with fail
  go_cut [3] (fun s3 wx => ∃ g : Nat, s3 = .pointer (some ⟨g, 0, none⟩) ∧ Bx wx g 63 #[.int .i64 9, .int .i64 x, .int .i64 y, .int .i64 0] ∧ Below w.heap.size w wx)
  case first =>
    have hne : w.heap.size ≠ b := by omega
    go_region_held3 (fun w' => w'.cell? ⟨b, off, none⟩ = some (.int .i64 x) ∧ w'.cell? ⟨b, off + 1, none⟩ = some (.int .i64 y))
      (first | go_keep | (trace_state; fail))
      (first | (go_at_call 125; refine (i_cx _ _ _).mono ?_; rintro e w1 ⟨rfl, b1⟩; have k0 := b1.cell (p := ⟨b, off, none⟩) (by simp <;> omega); have k1 := b1.cell (p := ⟨b, off + 1, none⟩) (by simp <;> omega); obtain ⟨hc1, hf1⟩ := bcell b1; have hs1 := b1.size; have hne1 : w1.heap.size ≠ b := (by simp at hs1; omega)))
    all_goals go_wp2_with fail
    all_goals go_meet
    · exact ⟨w1.heap.size, rfl, Bx.new w1 63 #[.int .i64 9, .int .i64 x, .int .i64 y, .int .i64 0], (below_drew b1).alloc (by simpa using hs1) _⟩
    · exact ⟨w.heap.size, rfl, (((((Bx.new w 63 #[.int .i64 0, .int .i64 0, .int .i64 0, .int .i64 0]).drew.below b1).set_ 0 _).set_ 1 _).set_ 2 _).set_ 3 _, ((((below_alloc (below_drew b1)).setCell (Nat.le_refl _) _).setCell (Nat.le_refl _) _).setCell (Nat.le_refl _) _).setCell (Nat.le_refl _) _⟩
  case rest =>
    obtain ⟨g, rfl, hbx, hb⟩ := hcut
    obtain ⟨q0, q1, q2, q3, _, _, _, _⟩ := hbx.four
    have hsz := hb.size
    go_wp2_with fail
    go_ret
    refine ⟨_, _, rfl, ?_, hb.alloc hsz _⟩
    exact World.ownsRow_lit wc #[.int .i64 9, .int .i64 x, .int .i64 y, .int .i64 0] 1 hsz (by simp [maxLen]) rfl

set_option maxRecDepth 100000 in
set_option maxHeartbeats 3200000 in
theorem i_lr3 (A : Option Addr) (cap : Nat) (x y z : Int) (w : World) (h : RdI w A 3 [x, y, z]) (hcap : 3 ≤ cap) : Calls Try.prog 57 #[.slice A 3 cap] w (Ret 63 4 (cellsG (lrc [x, y, z])) 4 w) := by
  have HZ : Hid (cellsG (lrc [x, y, z]) = cellsG (⟨9, x, y, 0⟩ :: lrc [y, z]) ++ cellsG (⟨9, x, y, 0⟩ :: lrc [y, z])) := cellsG_append (⟨9, x, y, 0⟩ :: lrc [y, z]) (⟨9, x, y, 0⟩ :: lrc [y, z])
  have hncap : ¬ cap = 1 := by omega
  obtain ⟨b, off, x', rfl, hB, hd, c0⟩ := h.at_ (k := 0) (by omega)
  obtain ⟨b1, off1, y', he, _, hd1, c1⟩ := h.at_ (k := 1) (by omega)
  simp at hd hd1 he
  rw [Nat.add_zero] at c0
  obtain ⟨rfl, rfl⟩ := he
  obtain ⟨rfl, _⟩ := hd
  obtain ⟨rfl, _⟩ := hd1
  have HT := Lib.hid h.tail
  clear h
  go_enter Try.func57, Try.ntmps57
  go_wp2_with fail
  refine (i_in _ _ _ _).mono ?_
  rintro e w' ⟨rfl, rfl⟩
  rw [inB_t (by omega) (by omega)]
  go_upto_region 3 with fail
  go_cut [3] (fun s3 wx => ∃ g : Nat, s3 = .pointer (some ⟨g, 0, none⟩) ∧ Bx wx g 63 #[.int .i64 9, .int .i64 x, .int .i64 y, .int .i64 0] ∧ Below w.heap.size w wx)
  case first =>
    have hne : w.heap.size ≠ b := by omega
    go_region_held3 (fun w' => w'.cell? ⟨b, off, none⟩ = some (.int .i64 x) ∧ w'.cell? ⟨b, off + 1, none⟩ = some (.int .i64 y))
      (first | go_keep | (trace_state; fail))
      (first | (go_at_call 125; refine (i_cx _ _ _).mono ?_; rintro e w1 ⟨rfl, b1⟩; have k0 := b1.cell (p := ⟨b, off, none⟩) (by simp <;> omega); have k1 := b1.cell (p := ⟨b, off + 1, none⟩) (by simp <;> omega); obtain ⟨hc1, hf1⟩ := bcell b1; have hs1 := b1.size; have hne1 : w1.heap.size ≠ b := (by simp at hs1; omega)))
    all_goals go_wp2_with fail
    all_goals go_meet
    · exact ⟨w1.heap.size, rfl, Bx.new w1 63 #[.int .i64 9, .int .i64 x, .int .i64 y, .int .i64 0], (below_drew b1).alloc (by simpa using hs1) _⟩
    · exact ⟨w.heap.size, rfl, (((((Bx.new w 63 #[.int .i64 0, .int .i64 0, .int .i64 0, .int .i64 0]).drew.below b1).set_ 0 _).set_ 1 _).set_ 2 _).set_ 3 _, ((((below_alloc (below_drew b1)).setCell (Nat.le_refl _) _).setCell (Nat.le_refl _) _).setCell (Nat.le_refl _) _).setCell (Nat.le_refl _) _⟩
  case rest =>
    obtain ⟨g, rfl, hbx, hb⟩ := hcut
    obtain ⟨wd, rfl⟩ : ∃ wd, wd = wc := ⟨_, rfl⟩
    obtain ⟨q0, q1, q2, q3, _, _, _, _⟩ := hbx.four
    have hg := hbx.lt
    have hsz := hb.size
    have HT2 := Lib.hid (HT.out.below hb)
    clear c0 c1 hbx
    go_upto_region 6 with fail
    go_cut [4] (fun s4 wx => ∃ (A4 : Option Addr) (c4 : Nat), s4 = .slice A4 2 c4 ∧ wx.ownsRow w.heap.size 63 4 (.slice A4 2 c4) 2 (cellsG (⟨9, x, y, 0⟩ :: lrc [y, z])) ∧ Below w.heap.size w wx)
    case first =>
      have hne : wd.heap.size ≠ g := by omega
      have HTA : RdI (wd.alloc (.cells #[.int .i64 9, .int .i64 x, .int .i64 y, .int .i64 0] 63)).drew (some ⟨b, off + 1, none⟩) 2 [y, z] := (HT2.out.alloc _).drew
      have HTB : RdI wd.drew (some ⟨b, off + 1, none⟩) 2 [y, z] := HT2.out.drew
      have hz4 : (Value.agg #[.int .i64 0, .int .i64 0, .int .i64 0, .int .i64 0]).cells.size = 4 := rfl
      go_region_held3 (fun w' => w'.cell? ⟨g, 0, none⟩ = some (.int .i64 9) ∧ w'.cell? ⟨g, 1, none⟩ = some (.int .i64 x) ∧ w'.cell? ⟨g, 2, none⟩ = some (.int .i64 y) ∧ w'.cell? ⟨g, 3, none⟩ = some (.int .i64 0))
        (first | go_keep | (trace_state; fail))
        (first
          | (go_at_call 57; (with_reducible refine (i_lr2 _ _ y z _ HTA).mono ?_); rintro e w2 ⟨A2, c2, rfl, o2, b2⟩; have OWN := ownsRow_below (ownsRow_drew (World.ownsRow_lit wd #[.int .i64 9, .int .i64 x, .int .i64 y, .int .i64 0] 1 hsz (size := 4) (e := 63) (by simp [maxLen]) rfl)) b2; have SRC := Rd.own o2; have BW : Below w.heap.size w w2 := hb.trans ((below_alloc (below_drew b2)).mono hsz); have hs2 := b2.size; have hbs : w.heap.size ≤ w2.heap.size := (by simp at hs2; omega); have k0 := b2.cell (p := ⟨g, 0, none⟩) (by simp <;> omega); have k1 := b2.cell (p := ⟨g, 1, none⟩) (by simp <;> omega); have k2 := b2.cell (p := ⟨g, 2, none⟩) (by simp <;> omega); have k3 := b2.cell (p := ⟨g, 3, none⟩) (by simp <;> omega); have hne2 : w2.heap.size ≠ g := (by simp at hs2; omega); have J0 : w2.cell? ⟨g, 0, none⟩ = some (.int .i64 9) := (by rw [k0]; simp [*]); have J1 : w2.cell? ⟨g, 1, none⟩ = some (.int .i64 x) := (by rw [k1]; simp [*]); have J2 : w2.cell? ⟨g, 2, none⟩ = some (.int .i64 y) := (by rw [k2]; simp [*]); have J3 : w2.cell? ⟨g, 3, none⟩ = some (.int .i64 0) := (by rw [k3]; simp [*]))
          | (go_at_call 57; (with_reducible refine (i_lr2 _ _ y z _ HTB).mono ?_); rintro e w2 ⟨A2, c2, rfl, o2, b2⟩; have OWN := World.ownsRow_lit w2 #[.int .i64 9, .int .i64 x, .int .i64 y, .int .i64 0] 1 (size := 4) (e := 63) (base := w.heap.size) (Nat.le_trans hsz b2.size) (by simp [maxLen]) rfl; have SRC := (Rd.own o2).alloc (.cells #[.int .i64 9, .int .i64 x, .int .i64 y, .int .i64 0] 63); have BW : Below w.heap.size w (w2.alloc (.cells #[.int .i64 9, .int .i64 x, .int .i64 y, .int .i64 0] 63)) := (hb.trans ((below_drew b2).mono hsz)).alloc (Nat.le_trans hsz b2.size) _; have hs2 := b2.size; have hbs : w.heap.size ≤ (w2.alloc (.cells #[.int .i64 9, .int .i64 x, .int .i64 y, .int .i64 0] 63)).heap.size := (by simp at hs2 ⊢; omega); have k0 := b2.cell (p := ⟨g, 0, none⟩) (by simp <;> omega); have k1 := b2.cell (p := ⟨g, 1, none⟩) (by simp <;> omega); have k2 := b2.cell (p := ⟨g, 2, none⟩) (by simp <;> omega); have k3 := b2.cell (p := ⟨g, 3, none⟩) (by simp <;> omega); have hne2 : w2.heap.size ≠ g := (by simp at hs2; omega); have J0 : (w2.alloc (.cells #[.int .i64 9, .int .i64 x, .int .i64 y, .int .i64 0] 63)).cell? ⟨g, 0, none⟩ = some (.int .i64 9) := (by rw [World.cell?_alloc_lt _ _ _ (by simp at hs2 ⊢; omega), k0]; simp [*]); have J1 : (w2.alloc (.cells #[.int .i64 9, .int .i64 x, .int .i64 y, .int .i64 0] 63)).cell? ⟨g, 1, none⟩ = some (.int .i64 x) := (by rw [World.cell?_alloc_lt _ _ _ (by simp at hs2 ⊢; omega), k1]; simp [*]); have J2 : (w2.alloc (.cells #[.int .i64 9, .int .i64 x, .int .i64 y, .int .i64 0] 63)).cell? ⟨g, 2, none⟩ = some (.int .i64 y) := (by rw [World.cell?_alloc_lt _ _ _ (by simp at hs2 ⊢; omega), k2]; simp [*]); have J3 : (w2.alloc (.cells #[.int .i64 9, .int .i64 x, .int .i64 y, .int .i64 0] 63)).cell? ⟨g, 3, none⟩ = some (.int .i64 0) := (by rw [World.cell?_alloc_lt _ _ _ (by simp at hs2 ⊢; omega), k3]; simp [*]))
          | (refine step_app (by rfl) (.tmp 22) (.tmp 25) 24 (by rfl) Try.underlying24 infoGate hz4 (by decide) (by simp [Act.eval] <;> rfl) OWN (by simp [Act.eval] <;> rfl) SRC one_cellsG (by omega) (by decide) hbs ?_; intro A3 c3 w3 o3 g3; have m0 := g3.cell J0 (by simp [Value.ownBlock]; omega); have m1 := g3.cell J1 (by simp [Value.ownBlock]; omega); have m2 := g3.cell J2 (by simp [Value.ownBlock]; omega); have m3 := g3.cell J3 (by simp [Value.ownBlock]; omega)))
      all_goals go_wp2_with fail
      all_goals go_meet
      all_goals exact ⟨A3, c3, rfl, o3, below_grown BW hbs OWN (Nat.le_refl _) g3⟩
    case rest =>
      obtain ⟨A4, c4, rfl, o4, hb4⟩ := hcut
      have hs4 := hb4.size
      clear q0 q1 q2 q3 hg hsz hb
      go_wp2_with fail
      refine (i_copyGates _ _ _ _ _ (RdG.own o4) (by omega)).mono ?_
      rintro e w5 ⟨A5, c5, rfl, o5, bz⟩
      have O4 := ownsRow_below o4 bz
      have hs5 := bz.size
      go_wp2_with (at_builtin; refine wpList_app rfl (.tmp 28) (.tmp 29) 24 rfl Try.underlying24 infoGate rfl (by decide) rfl o5 rfl (Rd.own O4) one_cellsG (by omega) (by decide) (by first | omega | (simp <;> omega)) ?_; intro A6 c6 w6 o6 g6)
      go_ret
      rw [HZ.out]
      exact ⟨A6, c6, rfl, ownsRow_base (by simpa using o6) hs4, below_grown (hb4.trans (bz.mono hs4)) (by omega) o5 hs4 g6⟩

set_option maxRecDepth 100000 in
set_option maxHeartbeats 3200000 in
theorem i_lr4 (A : Option Addr) (cap : Nat) (x y z u : Int) (w : World) (h : RdI w A 4 [x, y, z, u]) (hcap : 4 ≤ cap) : Calls Try.prog 57 #[.slice A 4 cap] w (Ret 63 4 (cellsG (lrc [x, y, z, u])) 10 w) := by
  have HZ : Hid (cellsG (lrc [x, y, z, u]) = cellsG (⟨9, x, y, 0⟩ :: lrc [y, z, u]) ++ cellsG (⟨9, x, y, 0⟩ :: lrc [y, z, u])) := cellsG_append (⟨9, x, y, 0⟩ :: lrc [y, z, u]) (⟨9, x, y, 0⟩ :: lrc [y, z, u])
  have hncap : ¬ cap = 1 := by omega
  obtain ⟨b, off, x', rfl, hB, hd, c0⟩ := h.at_ (k := 0) (by omega)
  obtain ⟨b1, off1, y', he, _, hd1, c1⟩ := h.at_ (k := 1) (by omega)
  simp at hd hd1 he
  rw [Nat.add_zero] at c0
  obtain ⟨rfl, rfl⟩ := he
  obtain ⟨rfl, _⟩ := hd
  obtain ⟨rfl, _⟩ := hd1
  have HT := Lib.hid h.tail
  clear h
  go_enter Try.func57, Try.ntmps57
  go_wp2_with fail
  refine (i_in _ _ _ _).mono ?_
  rintro e w' ⟨rfl, rfl⟩
  rw [inB_t (by omega) (by omega)]
  go_upto_region 3 with fail
  go_cut [3] (fun s3 wx => ∃ g : Nat, s3 = .pointer (some ⟨g, 0, none⟩) ∧ Bx wx g 63 #[.int .i64 9, .int .i64 x, .int .i64 y, .int .i64 0] ∧ Below w.heap.size w wx)
  case first =>
    have hne : w.heap.size ≠ b := by omega
    go_region_held3 (fun w' => w'.cell? ⟨b, off, none⟩ = some (.int .i64 x) ∧ w'.cell? ⟨b, off + 1, none⟩ = some (.int .i64 y))
      (first | go_keep | (trace_state; fail))
      (first | (go_at_call 125; refine (i_cx _ _ _).mono ?_; rintro e w1 ⟨rfl, b1⟩; have k0 := b1.cell (p := ⟨b, off, none⟩) (by simp <;> omega); have k1 := b1.cell (p := ⟨b, off + 1, none⟩) (by simp <;> omega); obtain ⟨hc1, hf1⟩ := bcell b1; have hs1 := b1.size; have hne1 : w1.heap.size ≠ b := (by simp at hs1; omega)))
    all_goals go_wp2_with fail
    all_goals go_meet
    · exact ⟨w1.heap.size, rfl, Bx.new w1 63 #[.int .i64 9, .int .i64 x, .int .i64 y, .int .i64 0], (below_drew b1).alloc (by simpa using hs1) _⟩
    · exact ⟨w.heap.size, rfl, (((((Bx.new w 63 #[.int .i64 0, .int .i64 0, .int .i64 0, .int .i64 0]).drew.below b1).set_ 0 _).set_ 1 _).set_ 2 _).set_ 3 _, ((((below_alloc (below_drew b1)).setCell (Nat.le_refl _) _).setCell (Nat.le_refl _) _).setCell (Nat.le_refl _) _).setCell (Nat.le_refl _) _⟩
  case rest =>
    obtain ⟨g, rfl, hbx, hb⟩ := hcut
    obtain ⟨wd, rfl⟩ : ∃ wd, wd = wc := ⟨_, rfl⟩
    obtain ⟨q0, q1, q2, q3, _, _, _, _⟩ := hbx.four
    have hg := hbx.lt
    have hsz := hb.size
    have HT2 := Lib.hid (HT.out.below hb)
    clear c0 c1 hbx
    go_upto_region 6 with fail
    go_cut [4] (fun s4 wx => ∃ (A4 : Option Addr) (c4 : Nat), s4 = .slice A4 5 c4 ∧ wx.ownsRow w.heap.size 63 4 (.slice A4 5 c4) 5 (cellsG (⟨9, x, y, 0⟩ :: lrc [y, z, u])) ∧ Below w.heap.size w wx)
    case first =>
      have hne : wd.heap.size ≠ g := by omega
      have HTA : RdI (wd.alloc (.cells #[.int .i64 9, .int .i64 x, .int .i64 y, .int .i64 0] 63)).drew (some ⟨b, off + 1, none⟩) 3 [y, z, u] := (HT2.out.alloc _).drew
      have HTB : RdI wd.drew (some ⟨b, off + 1, none⟩) 3 [y, z, u] := HT2.out.drew
      have hz4 : (Value.agg #[.int .i64 0, .int .i64 0, .int .i64 0, .int .i64 0]).cells.size = 4 := rfl
      go_region_held3 (fun w' => w'.cell? ⟨g, 0, none⟩ = some (.int .i64 9) ∧ w'.cell? ⟨g, 1, none⟩ = some (.int .i64 x) ∧ w'.cell? ⟨g, 2, none⟩ = some (.int .i64 y) ∧ w'.cell? ⟨g, 3, none⟩ = some (.int .i64 0))
        (first | go_keep | (trace_state; fail))
        (first
          | (go_at_call 57; (with_reducible refine (i_lr3 _ _ y z u _ HTA (by omega)).mono ?_); rintro e w2 ⟨A2, c2, rfl, o2, b2⟩; have OWN := ownsRow_below (ownsRow_drew (World.ownsRow_lit wd #[.int .i64 9, .int .i64 x, .int .i64 y, .int .i64 0] 1 hsz (size := 4) (e := 63) (by simp [maxLen]) rfl)) b2; have SRC := Rd.own o2; have BW : Below w.heap.size w w2 := hb.trans ((below_alloc (below_drew b2)).mono hsz); have hs2 := b2.size; have hbs : w.heap.size ≤ w2.heap.size := (by simp at hs2; omega); have k0 := b2.cell (p := ⟨g, 0, none⟩) (by simp <;> omega); have k1 := b2.cell (p := ⟨g, 1, none⟩) (by simp <;> omega); have k2 := b2.cell (p := ⟨g, 2, none⟩) (by simp <;> omega); have k3 := b2.cell (p := ⟨g, 3, none⟩) (by simp <;> omega); have hne2 : w2.heap.size ≠ g := (by simp at hs2; omega); have J0 : w2.cell? ⟨g, 0, none⟩ = some (.int .i64 9) := (by rw [k0]; simp [*]); have J1 : w2.cell? ⟨g, 1, none⟩ = some (.int .i64 x) := (by rw [k1]; simp [*]); have J2 : w2.cell? ⟨g, 2, none⟩ = some (.int .i64 y) := (by rw [k2]; simp [*]); have J3 : w2.cell? ⟨g, 3, none⟩ = some (.int .i64 0) := (by rw [k3]; simp [*]))
          | (go_at_call 57; (with_reducible refine (i_lr3 _ _ y z u _ HTB (by omega)).mono ?_); rintro e w2 ⟨A2, c2, rfl, o2, b2⟩; have OWN := World.ownsRow_lit w2 #[.int .i64 9, .int .i64 x, .int .i64 y, .int .i64 0] 1 (size := 4) (e := 63) (base := w.heap.size) (Nat.le_trans hsz b2.size) (by simp [maxLen]) rfl; have SRC := (Rd.own o2).alloc (.cells #[.int .i64 9, .int .i64 x, .int .i64 y, .int .i64 0] 63); have BW : Below w.heap.size w (w2.alloc (.cells #[.int .i64 9, .int .i64 x, .int .i64 y, .int .i64 0] 63)) := (hb.trans ((below_drew b2).mono hsz)).alloc (Nat.le_trans hsz b2.size) _; have hs2 := b2.size; have hbs : w.heap.size ≤ (w2.alloc (.cells #[.int .i64 9, .int .i64 x, .int .i64 y, .int .i64 0] 63)).heap.size := (by simp at hs2 ⊢; omega); have k0 := b2.cell (p := ⟨g, 0, none⟩) (by simp <;> omega); have k1 := b2.cell (p := ⟨g, 1, none⟩) (by simp <;> omega); have k2 := b2.cell (p := ⟨g, 2, none⟩) (by simp <;> omega); have k3 := b2.cell (p := ⟨g, 3, none⟩) (by simp <;> omega); have hne2 : w2.heap.size ≠ g := (by simp at hs2; omega); have J0 : (w2.alloc (.cells #[.int .i64 9, .int .i64 x, .int .i64 y, .int .i64 0] 63)).cell? ⟨g, 0, none⟩ = some (.int .i64 9) := (by rw [World.cell?_alloc_lt _ _ _ (by simp at hs2 ⊢; omega), k0]; simp [*]); have J1 : (w2.alloc (.cells #[.int .i64 9, .int .i64 x, .int .i64 y, .int .i64 0] 63)).cell? ⟨g, 1, none⟩ = some (.int .i64 x) := (by rw [World.cell?_alloc_lt _ _ _ (by simp at hs2 ⊢; omega), k1]; simp [*]); have J2 : (w2.alloc (.cells #[.int .i64 9, .int .i64 x, .int .i64 y, .int .i64 0] 63)).cell? ⟨g, 2, none⟩ = some (.int .i64 y) := (by rw [World.cell?_alloc_lt _ _ _ (by simp at hs2 ⊢; omega), k2]; simp [*]); have J3 : (w2.alloc (.cells #[.int .i64 9, .int .i64 x, .int .i64 y, .int .i64 0] 63)).cell? ⟨g, 3, none⟩ = some (.int .i64 0) := (by rw [World.cell?_alloc_lt _ _ _ (by simp at hs2 ⊢; omega), k3]; simp [*]))
          | (refine step_app (by rfl) (.tmp 22) (.tmp 25) 24 (by rfl) Try.underlying24 infoGate hz4 (by decide) (by simp [Act.eval] <;> rfl) OWN (by simp [Act.eval] <;> rfl) SRC one_cellsG (by omega) (by decide) hbs ?_; intro A3 c3 w3 o3 g3; have m0 := g3.cell J0 (by simp [Value.ownBlock]; omega); have m1 := g3.cell J1 (by simp [Value.ownBlock]; omega); have m2 := g3.cell J2 (by simp [Value.ownBlock]; omega); have m3 := g3.cell J3 (by simp [Value.ownBlock]; omega)))
      all_goals go_wp2_with fail
      all_goals go_meet
      all_goals exact ⟨A3, c3, rfl, o3, below_grown BW hbs OWN (Nat.le_refl _) g3⟩
    case rest =>
      obtain ⟨A4, c4, rfl, o4, hb4⟩ := hcut
      have hs4 := hb4.size
      clear q0 q1 q2 q3 hg hsz hb
      go_wp2_with fail
      refine (i_copyGates _ _ _ _ _ (RdG.own o4) (by omega)).mono ?_
      rintro e w5 ⟨A5, c5, rfl, o5, bz⟩
      have O4 := ownsRow_below o4 bz
      have hs5 := bz.size
      go_wp2_with (at_builtin; refine wpList_app rfl (.tmp 28) (.tmp 29) 24 rfl Try.underlying24 infoGate rfl (by decide) rfl o5 rfl (Rd.own O4) one_cellsG (by omega) (by decide) (by first | omega | (simp <;> omega)) ?_; intro A6 c6 w6 o6 g6)
      go_ret
      rw [HZ.out]
      exact ⟨A6, c6, rfl, ownsRow_base (by simpa using o6) hs4, below_grown (hb4.trans (bz.mono hs4)) (by omega) o5 hs4 g6⟩

theorem s_LongRangeCX (A : Option Addr) (n cap : Nat) (zs : List Int) (w : World) (h : RdI w A n zs) (hnc : n ≤ cap) : Calls Try.prog 58 #[.slice A n cap] w (Ret 63 4 (cellsG (longCX zs)) (longCX zs).length w) := by
  by_cases hn : n < 2 ∨ 4 < n
  · exact s_lrOut A n cap zs w h hn
  · have hl := h.1
    match zs, hl with
    | [], hl => simp at hl; omega
    | [x], hl => simp at hl; omega
    | [x, y], hl => subst hl; exact s_lr2 A cap x y w h
    | [x, y, z], hl => subst hl; exact s_lr3 A cap x y z w h hnc
    | [x, y, z, u], hl => subst hl; exact s_lr4 A cap x y z u w h hnc
    | _ :: _ :: _ :: _ :: _ :: _, hl => simp at hl; omega

theorem i_LongRangeCX (A : Option Addr) (n cap : Nat) (zs : List Int) (w : World) (h : RdI w A n zs) (hnc : n ≤ cap) : Calls Try.prog 57 #[.slice A n cap] w (Ret 63 4 (cellsG (longCX zs)) (longCX zs).length w) := by
  by_cases hn : n < 2 ∨ 4 < n
  · exact i_lrOut A n cap zs w h hn
  · have hl := h.1
    match zs, hl with
    | [], hl => simp at hl; omega
    | [x], hl => simp at hl; omega
    | [x, y], hl => subst hl; exact i_lr2 A cap x y w h
    | [x, y, z], hl => subst hl; exact i_lr3 A cap x y z w h hnc
    | [x, y, z, u], hl => subst hl; exact i_lr4 A cap x y z u w h hnc
    | _ :: _ :: _ :: _ :: _ :: _, hl => simp at hl; omega

end Go.Proofs.YtgnallcfahpjmaaR
