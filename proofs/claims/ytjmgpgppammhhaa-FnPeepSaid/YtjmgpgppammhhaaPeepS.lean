/- Contract of l34At (spec). -/
import Derived.Test.YtjmgpgppammhhaaPeepP
import Derived.Test.YtjmgpgppammhhaaReads
import Derived.Test.YtjmgpgppammhhaaMergeS
import Derived.Test.YtjmgpgppammhhaaCommute
import Derived.StillTailTactics
import Derived.Deep.RegionHeld3
namespace Go.Proofs.Ytjmgpgppammhhaa
open Go.RowKit

def RetAt (g : Gt) (l : List Gt) (o : Option Nat) (w : World) (e : Ending) (w' : World) : Prop :=
  match o with
  | none => e = .returned (.tuple #[.int .i64 (-1), .slice none 0 0]) ∧ Below w.heap.size w w'
  | some k => ∃ (A : Option Addr) (c : Nat) (h : Gt), l.drop k = h :: l.drop (k + 1) ∧ e = .returned (.tuple #[.int .i64 k, .slice A (mergeL g h).length c]) ∧ w'.ownsRow w.heap.size 33 4 (.slice A (mergeL g h).length c) (mergeL g h).length (cellsG (mergeL g h)) ∧ Below w.heap.size w w'

set_option maxRecDepth 100000 in
set_option maxHeartbeats 1600000 in
theorem s_l34At (A : Option Addr) (n c i : Nat) (l : List Gt) (g : Gt) (w : World) (h : RdG w A n l) (hi : i < n) (hn : n ≤ 1099511627776) (hd : l.drop i = g :: l.drop (i + 1)) :
    Calls Try.prog 114 #[.slice A n c, .int .i64 i] w (RetAt g l (scanB g (l.drop (i + 1)) (i + 1)) w) := by
  have HD := Lib.hid hd
  obtain ⟨b, off, rfl⟩ := h.first (by omega)
  have H := Lib.hid h
  clear h hd
  go_enter Try.func114, Try.ntmps114
  go_wp2_with fail
  go_loopg [6] (n - (i + 1)) (fun m j wr => ∃ k : Nat, k + m = n ∧ i + 1 ≤ k ∧ j = .int .i64 k ∧ scanB g (l.drop k) k = scanB g (l.drop (i + 1)) (i + 1) ∧ Below w.heap.size w wr)
  case atStart => exact ⟨i + 1, by omega, by omega, by go_num, rfl, Below.refl _ _⟩
  case round =>
    obtain ⟨k, hk, hik, rfl, hs, hb⟩ := hrel
    have HS := Lib.hid hs
    clear hs
    by_cases hlt : k < n
    · obtain ⟨_, p0, p1, p2, p3⟩ := (H.out.below hb).cellsAt HD.out
      have hd2 := drop_cons (l := l) (k := k) (by have := H.out.1; omega)
      obtain ⟨h, hh⟩ : ∃ h, l[k]'(by have := H.out.1; omega) = h := ⟨_, rfl⟩
      rw [hh] at hd2
      have HD2 := Lib.hid hd2
      clear hd2 hh
      obtain ⟨_, q0, q1, q2, q3⟩ := (H.out.below hb).cellsAt HD2.out
      have hi1 : (i : Int) < (n : Int) := by omega
      have hk1 : (k : Int) < (n : Int) := by omega
      go_wp2_with fail
      go_region_held3 (fun w' => w'.cell? ⟨b, off + i * 4, none⟩ = some (.int .i64 g.k) ∧ w'.cell? ⟨b, off + i * 4 + 1, none⟩ = some (.int .i64 g.a) ∧ w'.cell? ⟨b, off + i * 4 + 2, none⟩ = some (.int .i64 g.b) ∧ w'.cell? ⟨b, off + i * 4 + 3, none⟩ = some (.int .i64 g.c) ∧ w'.cell? ⟨b, off + k * 4, none⟩ = some (.int .i64 h.k) ∧ w'.cell? ⟨b, off + k * 4 + 1, none⟩ = some (.int .i64 h.a) ∧ w'.cell? ⟨b, off + k * 4 + 2, none⟩ = some (.int .i64 h.b) ∧ w'.cell? ⟨b, off + k * 4 + 3, none⟩ = some (.int .i64 h.c))
        (first | go_keep | exact ⟨x0, x1, x2, x3, y0, y1, y2, y3⟩)
        (first | (go_at_call 167; (with_reducible refine (s_MergeGates g h _).mono ?_); rintro e w1 ⟨A1, c1, rfl, o1, b1⟩; have b01 := hb.drew.trans (b1.mono hb.size); have ⟨_, x0, x1, x2, x3⟩ := (H.out.below b01).cellsAt HD.out; have ⟨_, y0, y1, y2, y3⟩ := (H.out.below b01).cellsAt HD2.out))
      clear p0 p1 p2 p3 q0 q1 q2 q3
      cases hm : mergeOk g h
      · have HM := Lib.hid hm
        clear hm
        go_wp2_with fail
        go_still_tail 8, (by kernel_rfl)
        go_wp2_with fail
        refine (s_GatesCommute g h _).mono ?_
        rintro e w2 ⟨rfl, b2⟩
        have b02 := b01.drew.trans (b2.mono b01.size)
        cases hc : comm g h
        · have FIN := Lib.hid (show RetAt g l (scanB g (l.drop (i + 1)) (i + 1)) w (.returned (.tuple #[.int .i64 (-1), .slice none 0 0])) w2 by
            rw [← HS.out, HD2.out, scanB_no HM.out hc]; exact ⟨rfl, b02⟩)
          clear hc
          go_wp2_with fail
          go_ret2
          exact FIN.out
        · have FIN := Lib.hid (show scanB g (l.drop (k + 1)) (k + 1) = scanB g (l.drop (i + 1)) (i + 1) by
            rw [← HS.out, HD2.out, scanB_on HM.out hc])
          clear hc
          go_wp2_with fail
          go_roundg (gk - 1)
          case measure => omega
          case rel => exact ⟨k + 1, by omega, by omega, by go_num, FIN.out, b02⟩
      · have FIN := Lib.hid (show RetAt g l (scanB g (l.drop (i + 1)) (i + 1)) w (.returned (.tuple #[.int .i64 k, .slice A1 (mergeL g h).length c1])) w1 by
          rw [← HS.out, HD2.out, scanB_yes hm]; exact ⟨A1, c1, h, HD2.out, rfl, ownsRow_base o1 hb.size, b01⟩)
        clear hm
        go_wp2_with fail
        go_ret2
        exact FIN.out
    · have FIN := Lib.hid (show RetAt g l (scanB g (l.drop (i + 1)) (i + 1)) w (.returned (.tuple #[.int .i64 (-1), .slice none 0 0])) wr by
        rw [← HS.out, List.drop_eq_nil_of_le (by have := H.out.1; omega)]; exact ⟨rfl, hb⟩)
      go_wp2_with fail
      go_ret2
      exact FIN.out
end Go.Proofs.Ytjmgpgppammhhaa
