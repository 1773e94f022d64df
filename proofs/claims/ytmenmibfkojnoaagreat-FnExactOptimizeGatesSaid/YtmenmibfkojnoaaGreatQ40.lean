/- Contract of MergeGates (spec). -/
import Derived.Test.YtmenmibfkojnoaaGreatQ01
import Derived.Test.YtmenmibfkojnoaaGreatQ11
import Derived.StillTailTactics
import Derived.Deep.RegionWith
import Derived.Deep.RegionHeld3
import Derived.Deep.DeepCutAuto
import Derived.Deep.QuietTactic
import Derived.BigQuiet
set_option maxHeartbeats 16000000
namespace Go.Proofs.YtmenmibfkojnoaaGreat
open Go.RowKit
def MgSt (w0 : World) (s : Nat) (g h : Gt) (wx : World) : Prop := Bx wx s 39 #[.int .i64 g.k, .int .i64 g.a, .int .i64 g.b, .int .i64 g.c] /\ Bx wx (s + 1) 39 #[.int .i64 h.k, .int .i64 h.a, .int .i64 h.b, .int .i64 h.c] /\ Below w0.heap.size w0 wx
theorem MgSt.below {w0 wx w' : World} {s : Nat} {g h : Gt} (t : MgSt w0 s g h wx) (hb : Below wx.heap.size wx w') : MgSt w0 s g h w' := ⟨t.1.below hb, t.2.1.below hb, t.2.2.trans (hb.mono t.2.2.size)⟩
theorem MgSt.drew {w0 wx : World} {s : Nat} {g h : Gt} (t : MgSt w0 s g h wx) : MgSt w0 s g h wx.drew := ⟨t.1, t.2.1, t.2.2.drew⟩
theorem MgSt.drewN {w0 wx : World} {s : Nat} {g h : Gt} (t : MgSt w0 s g h wx) (n : Nat) : MgSt w0 s g h (wx.drewN n) := ⟨t.1, t.2.1, below_drewN t.2.2 n⟩
def MgCells (s : Nat) (g h : Gt) (wx : World) : Prop := wx.cell? ⟨s, 0, none⟩ = some (.int .i64 g.k) /\ wx.cell? ⟨s, 1, none⟩ = some (.int .i64 g.a) /\ wx.cell? ⟨s, 2, none⟩ = some (.int .i64 g.b) /\ wx.cell? ⟨s, 3, none⟩ = some (.int .i64 g.c) /\ wx.cell? ⟨s + 1, 0, none⟩ = some (.int .i64 h.k) /\ wx.cell? ⟨s + 1, 1, none⟩ = some (.int .i64 h.a) /\ wx.cell? ⟨s + 1, 2, none⟩ = some (.int .i64 h.b) /\ wx.cell? ⟨s + 1, 3, none⟩ = some (.int .i64 h.c)
theorem MgSt.cells {w0 wx : World} {s : Nat} {g h : Gt} (t : MgSt w0 s g h wx) : MgCells s g h wx := by
 obtain ⟨p0, p1, p2, p3, _⟩ := t.1.four
 obtain ⟨q0, q1, q2, q3, _⟩ := t.2.1.four
 exact ⟨p0, p1, p2, p3, q0, q1, q2, q3⟩
def MgRot (w : World) (g h : Gt) (v : Value) (wx : World) : Prop := ∃ A c, v = .slice A (rotK (sumU g h)).length c /\ wx.ownsRow w.heap.size 39 4 (.slice A (rotK (sumU g h)).length c) (rotK (sumU g h)).length (cellsG (rotG (sumU g h) g.a)) /\ MgSt w w.heap.size g h wx
theorem mg_start (w : World) (g h : Gt) : MgSt w w.heap.size g h ((w.alloc (.cells #[.int .i64 g.k, .int .i64 g.a, .int .i64 g.b, .int .i64 g.c] 39)).alloc (.cells #[.int .i64 h.k, .int .i64 h.a, .int .i64 h.b, .int .i64 h.c] 39)) :=
 ⟨(Bx.new w _ _).alloc _, Bx.new' (by simp), ((zW).alloc zR _).alloc (by simp) _⟩
set_option maxRecDepth 100000 in
theorem s_MergeGates (g h : Gt) (w : World) : Calls Tryz.prog 141 #[.agg #[.int .i64 g.k, .int .i64 g.a, .int .i64 g.b, .int .i64 g.c], .agg #[.int .i64 h.k, .int .i64 h.a, .int .i64 h.b, .int .i64 h.c]] w (RetGB (mergeL g h) (mergeOk g h) w) := by
 have ST := zH (mg_start w g h)
 have hM : Tryz.prog.eqGuardType Tryz.prog.depth 39 = false := by kernel_rfl
 go_enter Tryz.func141, Tryz.ntmps141
 go_upto_region 1 with fail
 obtain ⟨w0, hw0⟩ : ∃ w0, w0 = (w.alloc (.cells #[.int .i64 g.k, .int .i64 g.a, .int .i64 g.b, .int .i64 g.c] 39)).alloc (.cells #[.int .i64 h.k, .int .i64 h.a, .int .i64 h.b, .int .i64 h.c] 39) := ⟨_, rfl⟩
 rw [<- hw0] at ST ⊢
 clear hw0
 obtain ⟨p0, p1, p2, p3, q0, q1, q2, q3⟩ := ST.out.cells
 go_cut [21] (fun v wx => v = .bool (mergeB g h) /\ MgSt w w.heap.size g h wx)
 case first =>
  by_cases h0 : 0 < arity g.k
  ·have d0 : decide (0 < arity g.k) = true := by simpa using h0
   cases hi : isInv g h
   ·have HB : Hid (mergeB g h = alikeG g h) := by unfold Hid; simp [mergeB, h0, hi]
    have hE : ∀ w, (Op.equalIn 10000 39 (.agg #[.int .i64 h.k, .int .i64 h.a, .int .i64 h.b, .int .i64 h.c]) (.agg #[.int .i64 (invK g.k), .int .i64 g.a, .int .i64 g.b, .int .i64 g.c])).run Tryz.prog w = .ok false w := fun w => by rw [eqGV]; exact congrArg (fun b => Result.ok b w) hi
    clear hi h0
    have U0 := ST.out.drew
    have HA : Hid (alike g.k g.a g.b h.k h.a h.b = alikeG g h) := rfl
    go_region_with (first
      |(go_at_call 60; (with_reducible refine (s_Arity _ _).mono ?_); rintro e w' ⟨rfl, rfl⟩)
      |(go_at_call 176; (with_reducible refine (s_alike _ _ _ _ _ _ _ _ _).mono ?_); rintro e w2 ⟨rfl, b2⟩; have U2 := U1.below b2)
      |(go_at_call 154; (with_reducible refine (s_InverseGate _ _ _ _ _).mono ?_); rintro e w1 ⟨rfl, b1⟩; have U1 := U0.below b1; obtain ⟨u0, u1, u2, u3, v0, v1, v2, v3⟩ := U1.cells))
    all_goals go_wp2_with fail
    all_goals go_meet
    all_goals exact ⟨by rw [HB.out, <- HA.out], U2⟩
   ·have HB : Hid (mergeB g h = true) := by unfold Hid; simp [mergeB, h0, hi]
    have hE : ∀ w, (Op.equalIn 10000 39 (.agg #[.int .i64 h.k, .int .i64 h.a, .int .i64 h.b, .int .i64 h.c]) (.agg #[.int .i64 (invK g.k), .int .i64 g.a, .int .i64 g.b, .int .i64 g.c])).run Tryz.prog w = .ok true w := fun w => by rw [eqGV]; exact congrArg (fun b => Result.ok b w) hi
    clear hi h0
    have U0 := ST.out.drew
    go_region_with (first
      |(go_at_call 60; (with_reducible refine (s_Arity _ _).mono ?_); rintro e w' ⟨rfl, rfl⟩)
      |(go_at_call 154; (with_reducible refine (s_InverseGate _ _ _ _ _).mono ?_); rintro e w1 ⟨rfl, b1⟩; have U1 := U0.below b1; obtain ⟨u0, u1, u2, u3, v0, v1, v2, v3⟩ := U1.cells))
    all_goals go_wp2_with fail
    all_goals go_meet
    all_goals exact ⟨by rw [HB.out], U1⟩
  ·have d0 : decide (0 < arity g.k) = false := by simpa using h0
   have HB : Hid (mergeB g h = false) := by unfold Hid; simp [mergeB, h0]
   clear h0
   go_quiet ((go_at_call 60; exact quiet_left (s_Arity _ _)))
   go_wp2_with fail
   go_meet
   exact ⟨by rw [HB.out], MgSt.drewN ST.out _⟩
 case rest =>
  obtain ⟨rfl, T1⟩ := hcut
  obtain ⟨wd, rfl⟩ : ∃ wd, wd = wc := ⟨_, rfl⟩
  have XT := zH T1
  clear T1 ST p0 p1 p2 p3 q0 q1 q2 q3
  obtain ⟨p0, p1, p2, p3, q0, q1, q2, q3⟩ := XT.out.cells
  have hg0 := units_bd g.k
  have hh0 := units_bd h.k
  cases hb : mergeB g h
  ·have HB := zH hb
   clear hb
   have none_ : ∀ {wx : World}, mergeL g h = [] /\ mergeOk g h = false -> Below w.heap.size w wx -> RetGB (mergeL g h) (mergeOk g h) w (.returned (.tuple #[.slice (some ⟨wx.heap.size, 0, none⟩) 0 0, .bool false])) (wx.alloc (.cells #[] 39)) := fun {wx} h1 h2 => by
    rw [h1.1, h1.2]
    exact ⟨_, _, rfl, World.ownsRow_lit wx #[] 0 h2.size (by simp [maxLen]) rfl |> fun o => ownsRow_base o zR, h2.alloc h2.size _⟩
   cases hr : rotB g h
   ·have FIN := zH (none_ (wx := wd) (merge_no HB.out hr) XT.out.2.2)
    clear none_
    by_cases h1 : 0 < units g.k
    ·have d1 : decide (0 < units g.k) = true := by simpa using h1
     by_cases h2 : 0 < units h.k
     ·have d2 : decide (0 < units h.k) = true := by simpa using h2
      have e3 : (g.a == h.a) = false := by simpa [rotB, h1, h2] using hr
      clear hr
      go_wp2_with (go_at_call 102; (with_reducible refine (s_RotationUnits _ _).mono ?_); rintro e w' ⟨rfl, rfl⟩)
      go_ret2
      exact FIN.out
     ·have d2 : decide (0 < units h.k) = false := by simpa using h2
      clear hr
      go_wp2_with (go_at_call 102; (with_reducible refine (s_RotationUnits _ _).mono ?_); rintro e w' ⟨rfl, rfl⟩)
      go_ret2
      exact FIN.out
    ·have d1 : decide (0 < units g.k) = false := by simpa using h1
     clear hr
     go_wp2_with (go_at_call 102; (with_reducible refine (s_RotationUnits _ _).mono ?_); rintro e w' ⟨rfl, rfl⟩)
     go_ret2
     exact FIN.out
   ·have hr' : 0 < units g.k /\ 0 < units h.k /\ g.a = h.a := by simpa [rotB, and_assoc] using hr
    obtain ⟨h1, h2, h3⟩ := hr'
    have d1 : decide (0 < units g.k) = true := by simpa using h1
    have d2 : decide (0 < units h.k) = true := by simpa using h2
    have e3 : (g.a == h.a) = true := by simpa using h3
    have HR := zH hr
    have hwr : IntKind.i64.wrap (units g.k + units h.k) = units g.k + units h.k := by rw [IntKind.wrap_i64]; omega
    have HS : Hid ((units g.k + units h.k) % 8 = sumU g h) := rfl
    clear hr h3
    go_upto_region 4 with (go_at_call 102; (with_reducible refine (s_RotationUnits _ _).mono ?_); rintro e w' ⟨rfl, rfl⟩)
    go_cut [6] (fun v wx => MgRot w g h v wx)
    case first =>
     have U0 := XT.out.drew
     have hs0 := XT.out.2.2.size
     go_region_held3 (fun w' => w'.cell? ⟨w.heap.size, 0, none⟩ = some (.int .i64 g.k) /\ w'.cell? ⟨w.heap.size, 1, none⟩ = some (.int .i64 g.a) /\ w'.cell? ⟨w.heap.size + 1, 0, none⟩ = some (.int .i64 h.k))
      (first | go_keep | exact ⟨U1.cells.1, U1.cells.2.1, U1.cells.2.2.2.2.1⟩)
      (first
       |(go_at_call 102; (with_reducible refine (s_RotationUnits _ _).mono ?_); rintro e w' ⟨rfl, rfl⟩)
       |(go_at_call 58; (with_reducible refine (s_l32Rest _ _).mono ?_); rintro e w' ⟨rfl, rfl⟩; rw [HS.out])
       |(go_at_call 104; (with_reducible refine (s_RotationGates _ _ _).mono ?_); rintro e w1 ⟨A1, c1, rfl, o1, b1⟩; have U1 := U0.below b1))
     all_goals go_wp2_with fail
     all_goals go_meet
     all_goals exact ⟨A1, c1, rfl, ownsRow_base o1 hs0, U1⟩
    case rest =>
     obtain ⟨A, c, rfl, own, T2⟩ := hcut
     have hl := rotK_len (sumU g h)
     have hlG := rotG_len (sumU g h) g.a
     obtain ⟨m, hm⟩ : ∃ m, (rotK (sumU g h)).length = m := ⟨_, rfl⟩
     have HM := zH hm
     rw [hm] at hl own hlG
     rw [HM.out]
     have HL := zH hlG
     have OWN := zH own
     have TT := zH T2
     clear hm own T2 hlG
     by_cases hm1 : m <= 1
     ·have hlt : (m : Int) < 2 := by omega
      have FIN := zH (show RetGB (mergeL g h) (mergeOk g h) w (.returned (.tuple #[.slice A m c, .bool true])) wc from by
       obtain ⟨e1, e2⟩ := merge_rot HB.out HR.out (by rw [HM.out]; exact hm1)
       rw [e1, e2]
       refine ⟨A, c, ?_, ?_, TT.out.2.2⟩
       ·rw [HL.out]
       ·rw [HL.out]; exact OWN.out)
      go_wp2_with fail
      go_ret2
      exact FIN.out
     ·have hlt : ¬ (m : Int) < 2 := by omega
      have FIN := zH (none_ (wx := wc) (merge_two HB.out (by rw [HM.out]; exact hm1)) TT.out.2.2)
      clear none_
      go_wp2_with fail
      go_ret2
      exact FIN.out
  ·have FIN := zH (show RetGB (mergeL g h) (mergeOk g h) w (.returned (.tuple #[.slice (some ⟨wd.heap.size, 0, none⟩) 0 0, .bool true])) (wd.alloc (.cells #[] 39)) from by
    rw [(merge_yes hb).1, (merge_yes hb).2]
    exact ⟨_, _, rfl, World.ownsRow_lit wd #[] 0 XT.out.2.2.size (by simp [maxLen]) rfl |> fun o => ownsRow_base o zR, XT.out.2.2.alloc XT.out.2.2.size _⟩)
   clear hb
   go_wp2_with fail
   go_ret2
   exact FIN.out
end Go.Proofs.YtmenmibfkojnoaaGreat
