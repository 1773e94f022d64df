/- Contract of l34At (spec). Contract of PeepholeStep (spec). Contract of MergeGates (impl). Contract of PeepholeStep (impl). Contracts of Peephole (spec and impl). -/
import Derived.Test.YtmenmibfkojnoaaGreatQ04
import Derived.Test.YtmenmibfkojnoaaGreatQ08
import Derived.Test.YtmenmibfkojnoaaGreatQ39
import Derived.Test.YtmenmibfkojnoaaGreatQ40
import Derived.StillTailTactics
import Derived.Deep.RegionHeld3
import Derived.Deep.RegionLaw
import Derived.Deep.DeepCutAuto
set_option maxHeartbeats 16000000
namespace Go.Proofs.YtmenmibfkojnoaaGreat
open Go.RowKit
def RetAtS (g : Gt) (l : List Gt) (o : Option Nat) (w : World) (e : Ending) (w' : World) : Prop :=
 match o with
 |none => e = .returned (.tuple #[.int .i64 (-1), .slice none 0 0]) /\ Below w.heap.size w w'
 |some k => ∃ (A : Option Addr) (c : Nat) (h : Gt), l.drop k = h :: l.drop (k + 1) /\ e = .returned (.tuple #[.int .i64 k, .slice A (mergeL g h).length c]) /\ w'.ownsRow w.heap.size 39 4 (.slice A (mergeL g h).length c) (mergeL g h).length (cellsG (mergeL g h)) /\ Below w.heap.size w w'
set_option maxRecDepth 100000 in
theorem s_l34At (A : Option Addr) (n c i : Nat) (l : List Gt) (g : Gt) (w : World) (h : RdG w A n l) (hi : i < n) (hn : n <= 1099511627776) (hd : l.drop i = g :: l.drop (i + 1)) :
  Calls Tryz.prog 105 #[.slice A n c, .int .i64 i] w (RetAtS g l (scanB g (l.drop (i + 1)) (i + 1)) w) := by
 have HD := zH hd
 obtain ⟨b, off, rfl⟩ := h.first (by omega)
 have H := zH h
 clear h hd
 go_enter Tryz.func105, Tryz.ntmps105
 go_wp2_with fail
 go_loopg [6] (n - (i + 1)) (fun m j wr => ∃ k : Nat, k + m = n /\ i + 1 <= k /\ j = .int .i64 k /\ scanB g (l.drop k) k = scanB g (l.drop (i + 1)) (i + 1) /\ Below w.heap.size w wr)
 case atStart => exact ⟨i + 1, by omega, by omega, by go_num, rfl, zW⟩
 case round =>
  obtain ⟨k, hk, hik, rfl, hs, hb⟩ := hrel
  have HS := zH hs
  clear hs
  by_cases hlt : k < n
  ·obtain ⟨_, p0, p1, p2, p3⟩ := (H.out.below hb).cellsAt HD.out
   have hd2 := drop_cons (l := l) (k := k) (by have := H.out.1; omega)
   obtain ⟨h, hh⟩ : ∃ h, l[k]'(by have := H.out.1; omega) = h := ⟨_, rfl⟩
   rw [hh] at hd2
   have HD2 := zH hd2
   clear hd2 hh
   obtain ⟨_, q0, q1, q2, q3⟩ := (H.out.below hb).cellsAt HD2.out
   have hi1 : (i : Int) < (n : Int) := by omega
   have hk1 : (k : Int) < (n : Int) := by omega
   go_wp2_with fail
   go_region_held3 (fun w' => w'.cell? ⟨b, off + i * 4, none⟩ = some (.int .i64 g.k) /\ w'.cell? ⟨b, off + i * 4 + 1, none⟩ = some (.int .i64 g.a) /\ w'.cell? ⟨b, off + i * 4 + 2, none⟩ = some (.int .i64 g.b) /\ w'.cell? ⟨b, off + i * 4 + 3, none⟩ = some (.int .i64 g.c) /\ w'.cell? ⟨b, off + k * 4, none⟩ = some (.int .i64 h.k) /\ w'.cell? ⟨b, off + k * 4 + 1, none⟩ = some (.int .i64 h.a) /\ w'.cell? ⟨b, off + k * 4 + 2, none⟩ = some (.int .i64 h.b) /\ w'.cell? ⟨b, off + k * 4 + 3, none⟩ = some (.int .i64 h.c))
    (first | go_keep | exact ⟨x0, x1, x2, x3, y0, y1, y2, y3⟩)
    (first | (go_at_call 141; (with_reducible refine (s_MergeGates g h _).mono ?_); rintro e w1 ⟨A1, c1, rfl, o1, b1⟩; have b01 := hb.drew.trans (b1.mono hb.size); have ⟨_, x0, x1, x2, x3⟩ := (H.out.below b01).cellsAt HD.out; have ⟨_, y0, y1, y2, y3⟩ := (H.out.below b01).cellsAt HD2.out))
   clear p0 p1 p2 p3 q0 q1 q2 q3
   cases hm : mergeOk g h
   ·have HM := zH hm
    clear hm
    go_wp2_with fail
    go_still_tail 8, (by kernel_rfl)
    go_wp2_with fail
    refine (s_GatesCommute g h _).mono ?_
    rintro e w2 ⟨rfl, b2⟩
    have b02 := b01.drew.trans (b2.mono b01.size)
    cases hc : comm g h
    ·have FIN := zH (show RetAtS g l (scanB g (l.drop (i + 1)) (i + 1)) w (.returned (.tuple #[.int .i64 (-1), .slice none 0 0])) w2 by
      rw [<- HS.out, HD2.out, scanB_no HM.out hc]; exact ⟨rfl, b02⟩)
     clear hc
     go_wp2_with fail
     go_ret2
     exact FIN.out
    ·have FIN := zH (show scanB g (l.drop (k + 1)) (k + 1) = scanB g (l.drop (i + 1)) (i + 1) by
      rw [<- HS.out, HD2.out, scanB_on HM.out hc])
     clear hc
     go_wp2_with fail
     go_roundg (gk - 1)
     case measure => omega
     case rel => exact ⟨k + 1, by omega, by omega, by go_num, FIN.out, b02⟩
   ·have FIN := zH (show RetAtS g l (scanB g (l.drop (i + 1)) (i + 1)) w (.returned (.tuple #[.int .i64 k, .slice A1 (mergeL g h).length c1])) w1 by
     rw [<- HS.out, HD2.out, scanB_yes hm]; exact ⟨A1, c1, h, HD2.out, rfl, ownsRow_base o1 hb.size, b01⟩)
    clear hm
    go_wp2_with fail
    go_ret2
    exact FIN.out
  ·have FIN := zH (show RetAtS g l (scanB g (l.drop (i + 1)) (i + 1)) w (.returned (.tuple #[.int .i64 (-1), .slice none 0 0])) wr by
    rw [<- HS.out, List.drop_eq_nil_of_le (by have := H.out.1; omega)]; exact ⟨rfl, hb⟩)
   go_wp2_with fail
   go_ret2
   exact FIN.out
def Own7 (gs : List Gt) (m : Nat) (wd : World) (v : Value) (wx : World) : Prop := ∃ A c, v = .slice A m c /\ wx.ownsRow wd.heap.size 39 4 (.slice A m c) m (cellsG gs) /\ Below wd.heap.size wd wx
set_option maxRecDepth 100000 in
theorem s_PeepholeStep (A : Option Addr) (n c : Nat) (l : List Gt) (w : World) (h : RdG w A n l) (hnc : n <= c) (hn : n <= 1099511627776) :
  Calls Tryz.prog 59 #[.slice A n c] w (RetGB (stepL l) (stepOk l) w) := by
 have H := zH h
 clear h
 go_enter Tryz.func59, Tryz.ntmps59
 go_wp2_with fail
 go_loopg [4] n (fun m j wr => ∃ i : Nat, i + m = n /\ j = .int .i64 i /\ findStep (l.drop i) i = findStep l 0 /\ Below w.heap.size w wr)
 case atStart => exact ⟨0, by omega, rfl, rfl, zW⟩
 case round =>
  obtain ⟨i, hi, rfl, hs, hb⟩ := hrel
  have HS := zH hs
  clear hs
  by_cases hlt : i < n
  ·have hd := drop_cons (l := l) (k := i) (by have := H.out.1; omega)
   obtain ⟨g, hg⟩ : ∃ g, l[i]'(by have := H.out.1; omega) = g := ⟨_, rfl⟩
   rw [hg] at hd
   have HD := zH hd
   clear hd hg
   go_wp2_with fail
   refine (s_l34At _ _ _ i l g _ (H.out.below hb) hlt hn HD.out).mono ?_
   intro e w1 hret
   cases hsc : scanB g (l.drop (i + 1)) (i + 1) with
   |none =>
    rw [hsc] at hret
    obtain ⟨rfl, b1⟩ := hret
    have b01 := hb.trans (b1.mono hb.size)
    have FIN := zH (show findStep (l.drop (i + 1)) (i + 1) = findStep l 0 by
     rw [<- HS.out, HD.out, findStep, hsc])
    clear hsc
    go_wp2_with fail
    go_roundg (gk - 1)
    case measure => omega
    case rel => exact ⟨i + 1, by omega, by go_num, FIN.out, b01⟩
   |some k =>
    rw [hsc] at hret
    obtain ⟨A1, c1, h, hdk, rfl, o1, b1⟩ := hret
    have b01 := hb.trans (b1.mono hb.size)
    have hk := scanB_range hsc
    rw [List.length_drop, H.out.1] at hk
    obtain ⟨hk1, hk2⟩ := hk
    have hk3 : k < n := by omega
    have hik : i + 1 <= k := hk1
    have FIN := zH (show stepL l = outOf l i k /\ stepOk l = true by
     have e : findStep l 0 = some (i, k) := by rw [<- HS.out, HD.out, findStep, hsc]
     simp [stepL, stepOk, e])
    have HDK := zH hdk
    have hml := mergeL_short g h
    have HG := zH (show outOf l i k = l.take i ++ ((l.drop (i + 1)).take (k - (i + 1)) ++ (mergeL g h ++ l.drop (k + 1))) by
     unfold outOf; rw [getD_drop HD.out, getD_drop hdk])
    clear hsc hk1 hk2 hdk
    have hkp : (0 : Int) < (k : Int) := by omega
    have hi0 : (0 : Int) <= (i : Int) := by omega
    have hic : (i : Int) <= (c : Int) := by omega
    have hik0 : (i : Int) + 1 <= (k : Int) := by omega
    have hkc : (k : Int) <= (c : Int) := by omega
    have hwi : IntKind.i64.wrap ((i : Int) + 1) = (i : Int) + 1 := by rw [IntKind.wrap_i64]; omega
    have hsl1 := sl_h A n c i (by omega)
    have hsl2 := sl_lh A n c (i + 1) k (by omega) (by omega)
    rw [Int.natCast_succ] at hsl2
    obtain ⟨A2, hA2⟩ : ∃ A2, (if c = i + 1 then A else A.map (·.add ((i + 1) * 4))) = A2 := ⟨_, rfl⟩
    rw [hA2] at hsl2
    have R1 := zH ((H.out.below b01).pre (k := i) (by omega))
    have R2 := (H.out.below b01).mid (lo := i + 1) (hi := k) (cap := c) (by omega) (by omega) hnc
    rw [hA2] at R2
    have R2 := zH R2
    obtain ⟨m2, hm2⟩ : ∃ m2, k - (i + 1) = m2 := ⟨_, rfl⟩
    rw [hm2] at hsl2
    clear hA2
    go_upto_region 6 with fail
    go_cut [7] (fun v wx => Own7 (l.take i ++ (l.drop (i + 1)).take (k - (i + 1))) (i + m2) w1 v wx)
    case first =>
     have hz4 : (Value.agg #[.int .i64 0, .int .i64 0, .int .i64 0, .int .i64 0]).cells.size = 4 := rfl
     have OWN0 : (w1.alloc (.cells #[] 39)).drew.ownsRow w1.heap.size 39 4 (.slice (some ⟨w1.heap.size, 0, none⟩) 0 0) 0 [] := ownsRow_drew (World.ownsRow_lit w1 #[] 0 (size := 4) (e := 39) zR (by simp [maxLen]) rfl)
     have SRC0 : Rd (w1.alloc (.cells #[] 39)).drew 4 A i (cellsG (l.take i)) := (R1.out.2.alloc _).drew
     have BW0 : Below w1.heap.size w1 (w1.alloc (.cells #[] 39)).drew := ((zW).alloc zR _).drew
     have R2' : Hid (Rd w1 4 A2 m2 (cellsG ((l.drop (i + 1)).take (k - (i + 1))))) := by
      have h2 := R2.out.2; rw [hm2] at h2; rw [hm2]; exact h2
     have GLUE := zH (cellsG_append (l.take i) ((l.drop (i + 1)).take (k - (i + 1))))
     have hm2b : i + m2 <= n := by omega
     clear hm2 HG FIN R2
     go_region_held3 (fun w' => True) (first | trivial | skip)
      (first
       |(refine step_app0 (by rfl) (.tmp 22) (.tmp 25) 24 (by rfl) Tryz.underlying24 infoGate hz4 (by decide) (by simp [Act.eval] <;> rfl) OWN0 (by simp [Act.eval] <;> rfl) SRC0 one_cellsG (by omega) (by decide) BW0.size ?_; intro A3 c3 w3 o3 g3; have BW3 : Below w1.heap.size w1 w3 := below_grown BW0 BW0.size OWN0 zR g3; have SRC1 := R2'.out.below BW3)
       |(refine step_app (by rfl) (.tmp 26) (.tmp 31) 24 (by rfl) Tryz.underlying24 infoGate hz4 (by decide) (by simp [Act.eval] <;> rfl) o3 (by simp [Act.eval] <;> rfl) SRC1 one_cellsG (by omega) (by decide) BW3.size ?_; intro A4 c4 w4 o4 g4))
     all_goals go_wp2_with fail
     all_goals go_meet
     all_goals exact ⟨A4, c4, rfl, by rw [GLUE.out]; exact o4, below_grown BW3 BW3.size o3 zR g4⟩
    case rest =>
     obtain ⟨A3, c3, rfl, o3, b3⟩ := hcut
     obtain ⟨wd, rfl⟩ : ∃ wd, wd = wc := ⟨_, rfl⟩
     have b03 := b01.trans (b3.mono b01.size)
     have O1 := ownsRow_below o1 b3
     have AP := own_apart o1 o3 zR
     have hsl3 := sl_l A n c (k + 1) (by omega)
     rw [Int.natCast_succ] at hsl3
     obtain ⟨A4, hA4⟩ : ∃ A4, (if c = k + 1 then A else A.map (·.add ((k + 1) * 4))) = A4 := ⟨_, rfl⟩
     rw [hA4] at hsl3
     obtain ⟨m4, hm4⟩ : ∃ m4, n - (k + 1) = m4 := ⟨_, rfl⟩
     have R4 := zH (show ∀ wx, Below w.heap.size w wx -> Rd wx 4 A4 m4 (cellsG (l.drop (k + 1))) from fun wx bx => by
      have h4 := (H.out.below bx).cut (k := k + 1) (cap := c) (by omega) hnc
      rw [hA4, hm4] at h4
      exact h4.2)
     rw [hm4] at hsl3
     have hwk : IntKind.i64.wrap ((k : Int) + 1) = (k : Int) + 1 := by rw [IntKind.wrap_i64]; omega
     have hkn : (k : Int) + 1 <= (n : Int) := by omega
     obtain ⟨m1, hm1⟩ : ∃ m1, (mergeL g h).length = m1 := ⟨_, rfl⟩
     have HM1 := zH hm1
     rw [hm1] at hml
     have LEN := zH (show (stepL l).length = i + m2 + m1 + m4 by
      rw [FIN.out.1, HG.out]
      have := H.out.1
      simp only [List.length_append, List.length_take, List.length_drop, hm1]; omega)
     have hbd : i + m2 + m1 + m4 <= 1099511627777 := by omega
     have GLUE := zH (show cellsG (stepL l) = (cellsG (l.take i ++ (l.drop (i + 1)).take (k - (i + 1))) ++ cellsG (mergeL g h)) ++ cellsG (l.drop (k + 1)) by
      rw [FIN.out.1, HG.out]; simp [cellsG_append])
     have SB := zH FIN.out.2
     rw [hm1] at O1 AP
     have O1 := zH O1
     have AP := zH AP
     have O3 := zH o3
     rw [hm1]
     clear hm1 hm2 hm4 hA4 FIN HG o1 o3 hsl1 hsl2 R1 R2
     have hz4 : (Value.agg #[.int .i64 0, .int .i64 0, .int .i64 0, .int .i64 0]).cells.size = 4 := rfl
     have SRC1 : Rd wd.drew 4 A1 m1 (cellsG (mergeL g h)) := (Rd.own O1.out).drew
     have OWN1 : wd.drew.ownsRow w1.heap.size 39 4 (.slice A3 (i + m2) c3) (i + m2) (cellsG (l.take i ++ (l.drop (i + 1)).take (k - (i + 1)))) := ownsRow_drew O3.out
     have hbs1 : w1.heap.size <= wd.drew.heap.size := b3.size
     have B3 : Below w1.heap.size w1 wd.drew := b3.drew
     go_wp2_with fail
     go_region_held3 (fun w' => True) (first | trivial | skip)
      (first
       |(refine step_app (by rfl) (.tmp 33) (.tmp 34) 24 (by rfl) Tryz.underlying24 infoGate hz4 (by decide) (by simp [Act.eval] <;> rfl) OWN1 (by simp [Act.eval] <;> rfl) SRC1 one_cellsG (by omega) (by decide) hbs1 ?_; intro A5 c5 w5 o5 g5; have BW5 : Below w1.heap.size w1 w5 := below_grown B3 hbs1 OWN1 zR g5; have SRC2 := R4.out w5 (b01.trans (BW5.mono b01.size)))
       |(refine step_app (by rfl) (.tmp 35) (.tmp 39) 24 (by rfl) Tryz.underlying24 infoGate hz4 (by decide) (by simp [Act.eval] <;> rfl) o5 (by simp [Act.eval] <;> rfl) SRC2 one_cellsG (by omega) (by decide) BW5.size ?_; intro A6 c6 w6 o6 g6))
     all_goals go_wp2_with fail
     all_goals go_ret2
     all_goals
      rw [SB.out]
      exact ⟨A6, c6, by rw [LEN.out]; rfl, by rw [LEN.out, GLUE.out]; exact ownsRow_base o6 b01.size, b01.trans ((below_grown BW5 BW5.size o5 zR g6).mono b01.size)⟩
  ·have HO := zH (show stepL l = l /\ stepOk l = false by
    have e : findStep l 0 = none := by rw [<- HS.out, List.drop_eq_nil_of_le (by have := H.out.1; omega)]; rfl
    simp [stepL, stepOk, e])
   have OWN0 := zH (World.ownsRow_lit wr #[] 0 (size := 4) (e := 39) zR (by simp [maxLen]) rfl)
   have hbs := hb.size
   go_wp2_with (at_builtin; refine wpList_app0 rfl (.tmp 41) (.tmp 42) 24 rfl Tryz.underlying24 infoGate rfl (by decide) rfl OWN0.out rfl ((H.out.below hb).2.alloc _) one_cellsG (by omega) (by decide) (by simp) ?_; intro A2 c2 w2 o2 g2)
   go_ret2
   have hl := H.out.1
   have b2 : Below wr.heap.size wr w2 := below_grown ((zW).alloc zR _) (by simp) OWN0.out zR g2
   rw [HO.out.1, HO.out.2]
   exact ⟨A2, c2, by rw [hl]; rfl, by rw [hl]; exact ownsRow_base o2 hb.size, hb.trans (b2.mono hb.size)⟩
set_option maxRecDepth 100000 in
theorem i_MergeGates (g h : Gt) (w : World) : Calls Tryz.prog 83 #[.agg #[.int .i64 g.k, .int .i64 g.a, .int .i64 g.b, .int .i64 g.c], .agg #[.int .i64 h.k, .int .i64 h.a, .int .i64 h.b, .int .i64 h.c]] w (RetGB (mergeL g h) (mergeOk g h) w) := by
 have ST := zH (mg_start w g h)
 have hM : Tryz.prog.eqGuardType Tryz.prog.depth 39 = false := by kernel_rfl
 have none_ : ∀ wx : World, mergeL g h = [] /\ mergeOk g h = false -> Below w.heap.size w wx -> RetGB (mergeL g h) (mergeOk g h) w (.returned (.tuple #[.slice none 0 0, .bool false])) wx := fun wx h1 h2 => by
  rw [h1.1, h1.2]
  exact ⟨_, _, rfl, World.ownsRow_nil _ _ _ _, h2⟩
 have some_ : ∀ wx : World, mergeB g h = true -> Below w.heap.size w wx -> RetGB (mergeL g h) (mergeOk g h) w (.returned (.tuple #[.slice (some ⟨wx.heap.size, 0, none⟩) 0 0, .bool true])) (wx.alloc (.cells #[] 39)) := fun wx h1 h2 => by
  rw [(merge_yes h1).1, (merge_yes h1).2]
  exact ⟨_, _, rfl, World.ownsRow_lit wx #[] 0 h2.size (by simp [maxLen]) rfl |> fun o => ownsRow_base o zR, h2.alloc h2.size _⟩
 have NO := zH none_
 have YES := zH some_
 clear none_ some_
 have hbd := arity_bd g.k
 by_cases h0 : arity g.k = 0
 ·have e0 : (arity g.k == 0) = true := by simpa using h0
  have FIN := zH (NO.out _ (merge_no (mergeB_0 (h := h) h0) (rotB_0 h0)) ST.out.2.2)
  clear h0 hbd
  go_enter Tryz.func83, Tryz.ntmps83
  go_wp2_with (go_at_call 44; (with_reducible refine (i_Arity _ _).mono ?_); rintro e w' ⟨rfl, rfl⟩)
  go_ret2
  exact FIN.out
 have e0 : (arity g.k == 0) = false := by simpa using h0
 have hpos : 0 < arity g.k := by omega
 have HP := zH (show mergeB g h = (isInv g h || alikeG g h) by simp [mergeB, hpos])
 clear h0 hbd hpos
 go_enter Tryz.func83, Tryz.ntmps83
 go_upto_region 3 with (go_at_call 44; (with_reducible refine (i_Arity _ _).mono ?_); rintro e w' ⟨rfl, rfl⟩)
 obtain ⟨w0, hw0⟩ : ∃ w0, w0 = (w.alloc (.cells #[.int .i64 g.k, .int .i64 g.a, .int .i64 g.b, .int .i64 g.c] 39)).alloc (.cells #[.int .i64 h.k, .int .i64 h.a, .int .i64 h.b, .int .i64 h.c] 39) := ⟨_, rfl⟩
 rw [<- hw0] at ST ⊢
 clear hw0
 obtain ⟨p0, p1, p2, p3, q0, q1, q2, q3⟩ := ST.out.cells
 go_cut [14] (fun v wx => v = .bool (isInv g h) /\ MgSt w w.heap.size g h wx)
 case first =>
  have hE : ∀ w, (Op.equalIn 10000 39 (.agg #[.int .i64 h.k, .int .i64 h.a, .int .i64 h.b, .int .i64 h.c]) (.agg #[.int .i64 (invK g.k), .int .i64 g.a, .int .i64 g.b, .int .i64 g.c])).run Tryz.prog w = .ok (isInv g h) w := fun w => eqGV _ _ _ _ _ _ _ _ w
  have U0 := ST.out.drew
  go_region_with (first
    |(go_at_call 126; (with_reducible refine (i_InverseGate _ _ _ _ _).mono ?_); rintro e w1 ⟨rfl, b1⟩; have U1 := U0.below b1; obtain ⟨u0, u1, u2, u3, v0, v1, v2, v3⟩ := U1.cells))
  all_goals go_wp2_with fail
  all_goals go_meet
  all_goals exact ⟨rfl, U1⟩
 case rest =>
  obtain ⟨rfl, T1⟩ := hcut
  obtain ⟨wd, rfl⟩ : ∃ wd, wd = wc := ⟨_, rfl⟩
  have XT := zH T1
  clear T1 ST p0 p1 p2 p3 q0 q1 q2 q3
  obtain ⟨p0, p1, p2, p3, q0, q1, q2, q3⟩ := XT.out.cells
  cases hi : isInv g h
  ·have HI := zH hi
   clear hi
   go_upto_region 5 with fail
   go_cut [58] (fun v wx => v = .bool (alikeG g h) /\ wd = wx)
   case first =>
    go_wp2_with fail
    all_goals go_meet
    all_goals exact ⟨by unfold alikeG alike; simp [*] <;> (intros; omega), rfl⟩
   case rest =>
    obtain ⟨rfl, rfl⟩ := hcut
    have hg0 := units_bd g.k
    have hh0 := units_bd h.k
    cases hb : alikeG g h
    ·have HB := zH (show mergeB g h = false by rw [HP.out, HI.out, hb]; rfl)
     clear hb
     cases hr : rotB g h
     ·have FIN := zH (NO.out wd (merge_no HB.out hr) XT.out.2.2)
      by_cases h1 : 0 < units g.k
      ·have d1 : (units g.k != 0) = true := by simp; omega
       by_cases h2 : 0 < units h.k
       ·have d2 : (units h.k != 0) = true := by simp; omega
        have e3 : (g.a == h.a) = false := by simpa [rotB, h1, h2] using hr
        clear hr
        go_wp2_with (go_at_call 79; (with_reducible refine (i_RotationUnits _ _).mono ?_); rintro e w' ⟨rfl, rfl⟩)
        go_ret2
        exact FIN.out
       ·have d2 : (units h.k != 0) = false := by simp; omega
        clear hr
        go_wp2_with (go_at_call 79; (with_reducible refine (i_RotationUnits _ _).mono ?_); rintro e w' ⟨rfl, rfl⟩)
        go_ret2
        exact FIN.out
      ·have d1 : (units g.k != 0) = false := by simp; omega
       clear hr
       go_wp2_with (go_at_call 79; (with_reducible refine (i_RotationUnits _ _).mono ?_); rintro e w' ⟨rfl, rfl⟩)
       go_ret2
       exact FIN.out
     ·have hr' : 0 < units g.k /\ 0 < units h.k /\ g.a = h.a := by simpa [rotB, and_assoc] using hr
      obtain ⟨h1, h2, h3⟩ := hr'
      have d1 : (units g.k != 0) = true := by simp; omega
      have d2 : (units h.k != 0) = true := by simp; omega
      have e3 : (g.a == h.a) = true := by simpa using h3
      have HR := zH hr
      have hwr : IntKind.i64.wrap (units g.k + units h.k) = units g.k + units h.k := by rw [IntKind.wrap_i64]; omega
      have HS : Hid ((units g.k + units h.k) % 8 = sumU g h) := rfl
      clear hr h3
      go_upto_region 8 with (go_at_call 79; (with_reducible refine (i_RotationUnits _ _).mono ?_); rintro e w' ⟨rfl, rfl⟩)
      go_cut [6] (fun v wx => MgRot w g h v wx)
      case first =>
       have U0 := XT.out.drew
       have hs0 := XT.out.2.2.size
       go_region_held3 (fun w' => w'.cell? ⟨w.heap.size, 0, none⟩ = some (.int .i64 g.k) /\ w'.cell? ⟨w.heap.size, 1, none⟩ = some (.int .i64 g.a) /\ w'.cell? ⟨w.heap.size + 1, 0, none⟩ = some (.int .i64 h.k))
        (first | go_keep | exact ⟨U1.cells.1, U1.cells.2.1, U1.cells.2.2.2.2.1⟩)
        (first
         |(go_at_call 79; (with_reducible refine (i_RotationUnits _ _).mono ?_); rintro e w' ⟨rfl, rfl⟩)
         |(go_at_call 43; (with_reducible refine (i_mod8 _ _).mono ?_); rintro e w' ⟨rfl, rfl⟩; rw [HS.out])
         |(go_at_call 81; (with_reducible refine (i_RotationGates _ _ _).mono ?_); rintro e w1 ⟨A1, c1, rfl, o1, b1⟩; have U1 := U0.below b1))
       all_goals go_wp2_with fail
       all_goals go_meet
       all_goals exact ⟨A1, c1, rfl, ownsRow_base o1 hs0, U1⟩
      case rest =>
       obtain ⟨A, c, rfl, own, T2⟩ := hcut
       have hl := rotK_len (sumU g h)
       have hlG := rotG_len (sumU g h) g.a
       obtain ⟨m, hm⟩ : ∃ m, (rotK (sumU g h)).length = m := ⟨_, rfl⟩
       have HM := zH hm
       rw [hm] at hl own hlG
       rw [HM.out]
       have HL := zH hlG
       have OWN := zH own
       have TT := zH T2
       clear hm own T2 hlG
       by_cases hm1 : m <= 1
       ·have hlt : (m : Int) <= 1 := by omega
        have FIN := zH (show RetGB (mergeL g h) (mergeOk g h) w (.returned (.tuple #[.slice A m c, .bool true])) wc from by
         obtain ⟨e1, e2⟩ := merge_rot HB.out HR.out (by rw [HM.out]; exact hm1)
         rw [e1, e2]
         refine ⟨A, c, ?_, ?_, TT.out.2.2⟩
         ·rw [HL.out]
         ·rw [HL.out]; exact OWN.out)
        go_wp2_with fail
        go_ret2
        exact FIN.out
       ·have hlt : ¬ (m : Int) <= 1 := by omega
        have FIN := zH (NO.out wc (merge_two HB.out (by rw [HM.out]; exact hm1)) TT.out.2.2)
        go_wp2_with fail
        go_ret2
        exact FIN.out
    ·have FIN := zH (YES.out wd (by rw [HP.out, hb]; simp) XT.out.2.2)
     clear hb
     go_wp2_with fail
     go_ret2
     exact FIN.out
  ·have FIN := zH (YES.out wd (by rw [HP.out, hi]; rfl) XT.out.2.2)
   clear hi
   go_wp2_with fail
   go_ret2
   exact FIN.out
theorem step_out {l r s : List Gt} {g h : Gt} {i k : Nat} (hd : l.drop i = g :: r) (hdk : l.drop k = h :: s) (hik : i < k) (hk : k < l.length) (hf : findStep l 0 = some (i, k)) :
  cellsG (stepL l) = ((cellsG (l.take i) ++ cellsG ((l.drop (i + 1)).take (k - (i + 1)))) ++ cellsG (mergeL g h)) ++ cellsG (l.drop (k + 1)) ∧
  (stepL l).length = i + (k - (i + 1)) + (mergeL g h).length + (l.length - (k + 1)) /\ stepOk l = true := by
 have e : stepL l = l.take i ++ ((l.drop (i + 1)).take (k - (i + 1)) ++ (mergeL g h ++ l.drop (k + 1))) := by
  simp only [stepL, hf]; unfold outOf; rw [getD_drop hd, getD_drop hdk]
 refine ⟨by rw [e]; simp [cellsG_append], ?_, by simp [stepOk, hf]⟩
 rw [e]
 simp only [List.length_append, List.length_take, List.length_drop]
 omega
set_option maxRecDepth 100000 in
theorem i_PeepholeStep (A : Option Addr) (n c : Nat) (l : List Gt) (w : World) (h : RdG w A n l) (hnc : n <= c) (hn : n <= 1099511627776) :
  Calls Tryz.prog 45 #[.slice A n c] w (RetGB (stepL l) (stepOk l) w) := by
 have H := zH h
 clear h
 go_enter Tryz.func45, Tryz.ntmps45
 go_wp2_with fail
 go_loopg [12] n (fun m j wr => ∃ i : Nat, i + m = n /\ j = .int .i64 i /\ findStep (l.drop i) i = findStep l 0 /\ Below w.heap.size w wr)
 case atStart => exact ⟨0, by omega, rfl, rfl, zW⟩
 case round =>
  obtain ⟨i, hi, rfl, hs, hb⟩ := hrel
  have HS := zH hs
  clear hs
  by_cases hlt : i < n
  ·obtain ⟨b, off, g, rfl, hB, hd, c0, c1, c2, c3⟩ := (H.out.below hb).at_ hlt
   have HD := zH hd
   clear hd
   have BX := zH (Bx.new wr 39 #[.int .i64 g.k, .int .i64 g.a, .int .i64 g.b, .int .i64 g.c])
   have HB0 := hb.alloc hb.size (.cells #[.int .i64 g.k, .int .i64 g.a, .int .i64 g.b, .int .i64 g.c] 39)
   go_wp2_with fail
   clear c0 c1 c2 c3
   obtain ⟨wo, rfl⟩ : ∃ wo, wo = wr := ⟨_, rfl⟩
   obtain ⟨go, rfl⟩ : ∃ go, go = gk := ⟨_, rfl⟩
   go_loopg [6] (n - (i + 1)) (fun m j wr => ∃ k : Nat, k + m = n /\ i + 1 <= k /\ j = .int .i64 k /\ scanB g (l.drop k) k = scanB g (l.drop (i + 1)) (i + 1) /\ Bx wr wo.heap.size 39 #[.int .i64 g.k, .int .i64 g.a, .int .i64 g.b, .int .i64 g.c] /\ Below w.heap.size w wr)
   case atStart => exact ⟨i + 1, by omega, by omega, by go_num, rfl, BX.out, HB0⟩
   case round =>
    obtain ⟨k, hk, hik, rfl, hs, bx, hb⟩ := hrel
    have HSC := zH hs
    have BXX := zH bx
    clear hs bx
    have NXT : Hid (scanB g (l.drop (i + 1)) (i + 1) = none -> findStep (l.drop (i + 1)) (i + 1) = findStep l 0) := zH fun hsc => by
     rw [<- HS.out, HD.out, findStep, hsc]
    by_cases hlk : k < n
    ·obtain ⟨p0, p1, p2, p3, _, _, _, _⟩ := BXX.out.four
     have hd2 := drop_cons (l := l) (k := k) (by have := H.out.1; omega)
     obtain ⟨h, hh⟩ : ∃ h, l[k]'(by have := H.out.1; omega) = h := ⟨_, rfl⟩
     rw [hh] at hd2
     have HD2 := zH hd2
     clear hd2 hh
     obtain ⟨_, q0, q1, q2, q3⟩ := (H.out.below hb).cellsAt HD2.out
     have hk1 : (k : Int) < (n : Int) := by omega
     have hml := mergeL_short g h
     go_wp2_with fail
     go_region_held3 (fun w' => w'.cell? ⟨wo.heap.size, 0, none⟩ = some (.int .i64 g.k) /\ w'.cell? ⟨wo.heap.size, 1, none⟩ = some (.int .i64 g.a) /\ w'.cell? ⟨wo.heap.size, 2, none⟩ = some (.int .i64 g.b) /\ w'.cell? ⟨wo.heap.size, 3, none⟩ = some (.int .i64 g.c) /\ w'.cell? ⟨b, off + k * 4, none⟩ = some (.int .i64 h.k) /\ w'.cell? ⟨b, off + k * 4 + 1, none⟩ = some (.int .i64 h.a) /\ w'.cell? ⟨b, off + k * 4 + 2, none⟩ = some (.int .i64 h.b) /\ w'.cell? ⟨b, off + k * 4 + 3, none⟩ = some (.int .i64 h.c))
      (first | go_keep | exact ⟨x0, x1, x2, x3, y0, y1, y2, y3⟩)
      (first | (go_at_call 83; (with_reducible refine (i_MergeGates g h _).mono ?_); rintro e w1 ⟨A1, c1, rfl, o1, b1⟩; have b01 := hb.drew.trans (b1.mono hb.size); have bx1 := BXX.out.drew.below b1; have ⟨x0, x1, x2, x3, _⟩ := bx1.four; have ⟨_, y0, y1, y2, y3⟩ := (H.out.below b01).cellsAt HD2.out))
     clear p0 p1 p2 p3 q0 q1 q2 q3
     cases hm : mergeOk g h
     ·have HM := zH hm
      clear hm
      go_wp2_with fail
      go_still_tail 5, (by kernel_rfl)
      go_wp2_with fail
      refine (i_GatesCommute g h _).mono ?_
      rintro e w2 ⟨rfl, b2⟩
      have b02 := b01.drew.trans (b2.mono b01.size)
      have BX2 := zH (bx1.drew.below b2)
      clear x0 x1 x2 x3 y0 y1 y2 y3
      cases hc : comm g h
      ·have FIN := zH (NXT.out (by rw [<- HSC.out, HD2.out, scanB_no HM.out hc]))
       clear hc
       go_wp2_with fail
       go_roundg (go - 1)
       case measure => omega
       case rel => exact ⟨i + 1, by omega, by go_num, FIN.out, b02⟩
      ·have FIN := zH (show scanB g (l.drop (k + 1)) (k + 1) = scanB g (l.drop (i + 1)) (i + 1) by
        rw [<- HSC.out, HD2.out, scanB_on HM.out hc])
       clear hc
       go_wp2_with fail
       go_roundg (gk - 1)
       case measure => omega
       case rel => exact ⟨k + 1, by omega, by omega, by go_num, FIN.out, BX2.out, b02⟩
     ·have hl := H.out.1
      have FIN := zH (step_out HD.out HD2.out (by omega) (by omega) (show findStep l 0 = some (i, k) by rw [<- HS.out, HD.out, findStep, <- HSC.out, HD2.out, scanB_yes hm]))
      clear hm x0 x1 x2 x3 y0 y1 y2 y3
      have hi0 : (0 : Int) <= (i : Int) := by omega
      have hic : (i : Int) <= (c : Int) := by omega
      have hik0 : (i : Int) + 1 <= (k : Int) := by omega
      have hkc : (k : Int) <= (c : Int) := by omega
      have hkn : (k : Int) + 1 <= (n : Int) := by omega
      have hwi : IntKind.i64.wrap ((i : Int) + 1) = (i : Int) + 1 := by rw [IntKind.wrap_i64]; omega
      obtain ⟨AA, hAA⟩ : ∃ AA, (some ⟨b, off, none⟩ : Option Addr) = AA := ⟨_, rfl⟩
      rw [hAA] at H ⊢
      have hsl1 := sl_h AA n c i (by omega)
      have hsl2 := sl_lh AA n c (i + 1) k (by omega) (by omega)
      rw [Int.natCast_succ] at hsl2
      obtain ⟨A2, hA2⟩ : ∃ A2, (if c = i + 1 then AA else AA.map (·.add ((i + 1) * 4))) = A2 := ⟨_, rfl⟩
      obtain ⟨m2, hm2⟩ : ∃ m2, k - (i + 1) = m2 := ⟨_, rfl⟩
      rw [hA2, hm2] at hsl2
      have R1 := zH ((H.out.below b01).pre (k := i) (by omega))
      have R2 := zH (show ∀ wx, Below w.heap.size w wx -> Rd wx 4 A2 m2 (cellsG ((l.drop (i + 1)).take (k - (i + 1)))) from fun wx bx => by
       have h2 := (H.out.below bx).mid (lo := i + 1) (hi := k) (cap := c) (by omega) (by omega) hnc
       rw [hA2] at h2
       have h3 := h2.2
       rw [hm2] at h3 ⊢
       exact h3)
      have hsl3 := sl_l AA n c (k + 1) (by omega)
      rw [Int.natCast_succ] at hsl3
      obtain ⟨A4, hA4⟩ : ∃ A4, (if c = k + 1 then AA else AA.map (·.add ((k + 1) * 4))) = A4 := ⟨_, rfl⟩
      obtain ⟨m4, hm4⟩ : ∃ m4, n - (k + 1) = m4 := ⟨_, rfl⟩
      rw [hA4, hm4] at hsl3
      have R4 := zH (show ∀ wx, Below w.heap.size w wx -> Rd wx 4 A4 m4 (cellsG (l.drop (k + 1))) from fun wx bx => by
       have h4 := (H.out.below bx).cut (k := k + 1) (cap := c) (by omega) hnc
       rw [hA4, hm4] at h4
       exact h4.2)
      obtain ⟨m1, hm1⟩ : ∃ m1, (mergeL g h).length = m1 := ⟨_, rfl⟩
      have LEN := zH (show (stepL l).length = i + m2 + m1 + m4 by rw [FIN.out.2.1, hm2, hm1, hl, hm4])
      have GLUE := zH FIN.out.1
      have SB := zH FIN.out.2.2
      have hbd : i + m2 + m1 + m4 <= n := by omega
      rw [hm1] at o1 hml ⊢
      have O1 := zH o1
      clear hm1 hm2 hm4 hA4 hA2 hAA FIN o1 hl
      have hz4 : (Value.agg #[.int .i64 0, .int .i64 0, .int .i64 0, .int .i64 0]).cells.size = 4 := rfl
      have RC : RdG w1.drew AA i (l.take i) := R1.out.drew
      go_wp2_with fail
      go_region_held3 (fun w' => True) (first | trivial | skip)
       (first
        |(go_at_call 35; (with_reducible refine (i_copyGates _ _ _ _ _ RC (by omega)).mono ?_); rintro e w2 ⟨A3, c3, rfl, o2, b2⟩; have B2 : Below w1.heap.size w1 w2 := below_drew b2; have SRC1 := R2.out w2 (b01.trans (B2.mono b01.size)))
        |(refine step_app (by rfl) (.tmp 38) (.tmp 43) 24 (by rfl) Tryz.underlying24 infoGate hz4 (by decide) (by simp [Act.eval] <;> rfl) o2 (by simp [Act.eval] <;> rfl) SRC1 one_cellsG (by omega) (by decide) B2.size ?_; intro A5 c5 w3 o3 g3; have B3 : Below w1.heap.size w1 w3 := below_grown B2 B2.size o2 zR g3; have P1 := ownsRow_below O1.out B3))
      go_wp2_with (first
       |(at_builtin; refine wpList_app rfl (.tmp 45) (.tmp 46) 24 rfl Tryz.underlying24 infoGate rfl (by decide) rfl o3 rfl (Rd.own P1) one_cellsG (by omega) (by decide) B3.size ?_; intro A6 c6 w4 o4 g4; have B4 : Below w1.heap.size w1 w4 := below_grown B3 B3.size o3 zR g4; have SRC2 := R4.out w4 (b01.trans (B4.mono b01.size)))
       |(at_builtin; refine wpList_app rfl (.tmp 48) (.tmp 52) 24 rfl Tryz.underlying24 infoGate rfl (by decide) rfl o4 rfl SRC2 one_cellsG (by omega) (by decide) B4.size ?_; intro A7 c7 w5 o5 g5))
      go_ret2
      rw [SB.out]
      exact ⟨A7, c7, by rw [LEN.out]; rfl, by rw [LEN.out, GLUE.out]; exact ownsRow_base o5 b01.size, b01.trans ((below_grown B4 B4.size o4 zR g5).mono b01.size)⟩
    ·have FIN := zH (NXT.out (by rw [<- HSC.out, List.drop_eq_nil_of_le (by have := H.out.1; omega)]; rfl))
     go_wp2_with fail
     go_roundg (go - 1)
     case measure => omega
     case rel => exact ⟨i + 1, by omega, by go_num, FIN.out, hb⟩
  ·have HO := zH (show stepL l = l /\ stepOk l = false by
    have e : findStep l 0 = none := by rw [<- HS.out, List.drop_eq_nil_of_le (by have := H.out.1; omega)]; rfl
    simp [stepL, stepOk, e])
   go_wp2_with fail
   refine (i_copyGates _ _ _ _ _ (H.out.below hb) hn).mono ?_
   rintro e w2 ⟨A2, c2, rfl, o2, b2⟩
   go_wp2_with fail
   go_ret2
   have hl := H.out.1
   rw [HO.out.1, HO.out.2]
   exact ⟨A2, c2, by rw [hl]; rfl, by rw [hl]; exact ownsRow_base o2 hb.size, hb.trans (b2.mono hb.size)⟩
def peepN : Nat -> List Gt -> List Gt
 |0, l => l
 |f + 1, l => if stepOk l then peepN f (stepL l) else l
def peepL (l : List Gt) : List Gt := peepN l.length l
theorem stepOk_nil {l : List Gt} (h : stepOk l = true) : 1 <= l.length := by have := step_len h; omega
theorem peepN_no {l : List Gt} (m : Nat) (h : stepOk l = false) : peepN m l = l := by cases m <;> simp [peepN, h]
theorem peepN_len : ∀ (m : Nat) (l : List Gt), (peepN m l).length <= l.length
 |0, l => by simp [peepN]
 |m + 1, l => by
  unfold peepN
  split
  ·rename_i h; have := peepN_len m (stepL l); have := step_len h; omega
  ·exact zR
theorem s_Peephole (A : Option Addr) (n c : Nat) (l : List Gt) (w : World) (h : RdG w A n l) (hn : n <= 1099511627776) :
  Calls Tryz.prog 29 #[.slice A n c] w (Ret 39 4 (cellsG (peepL l)) (peepL l).length w) := by
 have H := zH h
 have hl := h.1
 have HR : Hid (peepN n l = peepL l) := zH (by rw [<- hl]; rfl)
 have HL := zH hl
 clear h hl
 have OWN0 := zH (World.ownsRow_lit w #[] 0 (size := 4) (e := 39) zR (by simp [maxLen]) rfl)
 go_enter Tryz.func29, Tryz.ntmps29
 go_wp2_with (at_builtin; refine wpList_app0 rfl (.tmp 6) (.tmp 7) 24 rfl Tryz.underlying24 infoGate rfl (by decide) rfl OWN0.out rfl (H.out.2.alloc _) one_cellsG (by omega) (by decide) (by simp) ?_; intro A2 c2 w2 o2 g2)
 have b2 : Below w.heap.size w w2 := below_grown ((zW).alloc zR _) (by simp) OWN0.out zR g2
 go_loopg [3] n (fun m v wr => ∃ (k : Nat) (x : List Gt) (A : Option Addr) (ca : Nat), x.length = k /\ k <= m /\ k <= n /\ peepN m x = peepL l /\ v = .slice A k ca /\ wr.ownsRow w.heap.size 39 4 (.slice A k ca) k (cellsG x) /\ Below w.heap.size w wr)
 case atStart => exact ⟨n, l, A2, c2, HL.out, zR, zR, HR.out, rfl, o2, b2⟩
 case round =>
  obtain ⟨k, x, A3, c3, hk, hkm, hkn, hp, rfl, o3, b3⟩ := hrel
  have HK := zH hk
  have HP := zH hp
  have O3 := zH o3
  clear hk hp o3 o2 b2 g2
  go_wp2_with fail
  refine (s_PeepholeStep _ _ _ x _ (RdG.own O3.out) (ownsRow_cap O3.out) (by omega)).mono ?_
  rintro e w4 ⟨A4, c4, rfl, o4, b4⟩
  have b04 := b3.trans (b4.mono b3.size)
  cases hs : stepOk x
  ·have HS := zH (show x = peepL l by rw [<- HP.out, peepN_no _ hs])
   have FIN := zH (show Ret 39 4 (cellsG (peepL l)) (peepL l).length w (.returned (.slice A3 k c3)) w4 from by
    rw [<- HS.out, HK.out]; exact ⟨A3, c3, rfl, ownsRow_below O3.out b4, b04⟩)
   clear hs
   go_wp2_with fail
   go_ret
   exact FIN.out
  ·have h1 := stepOk_nil hs
   have h2 := step_len hs
   have h3 := HK.out
   obtain ⟨m', rfl⟩ : ∃ m', gk = m' + 1 := ⟨gk - 1, by omega⟩
   have FIN := zH (show peepN m' (stepL x) = peepL l by rw [<- HP.out, peepN, if_pos hs])
   have hle : (stepL x).length <= m' /\ (stepL x).length <= n := by omega
   obtain ⟨j, hj⟩ : ∃ j, (stepL x).length = j := ⟨_, rfl⟩
   have HJ := zH hj
   rw [hj] at o4 hle
   rw [hj]
   clear hs h1 h2 h3 hj
   go_wp2_with fail
   go_roundg m'
   case measure => omega
   case rel => exact ⟨j, stepL x, A4, c4, HJ.out, hle.1, hle.2, FIN.out, rfl, ownsRow_base o4 b3.size, b04⟩
theorem i_Peephole (A : Option Addr) (n c : Nat) (l : List Gt) (w : World) (h : RdG w A n l) (hn : n <= 1099511627776) :
  Calls Tryz.prog 22 #[.slice A n c] w (Ret 39 4 (cellsG (peepL l)) (peepL l).length w) := by
 have H := zH h
 have hl := h.1
 have HR : Hid (peepN n l = peepL l) := zH (by rw [<- hl]; rfl)
 have HL := zH hl
 clear h hl
 go_enter Tryz.func22, Tryz.ntmps22
 go_wp2_with fail
 refine (i_copyGates _ _ _ _ _ H.out hn).mono ?_
 rintro e w2 ⟨A2, c2, rfl, o2, b2⟩
 go_wp2_with fail
 go_loopg [3] n (fun m v wr => ∃ (k : Nat) (x : List Gt) (A : Option Addr) (ca : Nat), x.length = k /\ k <= m /\ k <= n /\ peepN m x = peepL l /\ v = .slice A k ca /\ wr.ownsRow w.heap.size 39 4 (.slice A k ca) k (cellsG x) /\ Below w.heap.size w wr)
 case atStart => exact ⟨n, l, A2, c2, HL.out, zR, zR, HR.out, rfl, o2, b2⟩
 case round =>
  obtain ⟨k, x, A3, c3, hk, hkm, hkn, hp, rfl, o3, b3⟩ := hrel
  have HK := zH hk
  have HP := zH hp
  have O3 := zH o3
  clear hk hp o3 o2 b2
  go_wp2_with fail
  refine (i_PeepholeStep _ _ _ x _ (RdG.own O3.out) (ownsRow_cap O3.out) (by omega)).mono ?_
  rintro e w4 ⟨A4, c4, rfl, o4, b4⟩
  have b04 := b3.trans (b4.mono b3.size)
  cases hs : stepOk x
  ·have HS := zH (show x = peepL l by rw [<- HP.out, peepN_no _ hs])
   have FIN := zH (show Ret 39 4 (cellsG (peepL l)) (peepL l).length w (.returned (.slice A3 k c3)) w4 from by
    rw [<- HS.out, HK.out]; exact ⟨A3, c3, rfl, ownsRow_below O3.out b4, b04⟩)
   clear hs
   go_wp2_with fail
   go_ret
   exact FIN.out
  ·have h1 := stepOk_nil hs
   have h2 := step_len hs
   have h3 := HK.out
   obtain ⟨m', rfl⟩ : ∃ m', gk = m' + 1 := ⟨gk - 1, by omega⟩
   have FIN := zH (show peepN m' (stepL x) = peepL l by rw [<- HP.out, peepN, if_pos hs])
   have hle : (stepL x).length <= m' /\ (stepL x).length <= n := by omega
   obtain ⟨j, hj⟩ : ∃ j, (stepL x).length = j := ⟨_, rfl⟩
   have HJ := zH hj
   rw [hj] at o4 hle
   rw [hj]
   clear hs h1 h2 h3 hj
   go_wp2_with fail
   go_roundg m'
   case measure => omega
   case rel => exact ⟨j, stepL x, A4, c4, HJ.out, hle.1, hle.2, FIN.out, rfl, ownsRow_base o4 b3.size, b04⟩
end Go.Proofs.YtmenmibfkojnoaaGreat
