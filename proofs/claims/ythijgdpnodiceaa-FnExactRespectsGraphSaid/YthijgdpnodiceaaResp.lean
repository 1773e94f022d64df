/- Contracts of RespectsGraph (impl and spec). At most 2^40 gates and edges. -/
import Derived.Test.YthijgdpnodiceaaOkGate
import Derived.Test.YthijgdpnodiceaaHasEdge
namespace Go.Proofs.Ythijgdpnodiceaa
open Go.RowKit

def badR (ps : List (Int × Int)) (N : Int) (g : Gt) : Bool := !okG g.k g.a g.b g.c N || (arity g.k == 3 || (arity g.k == 2 && !coup ps g.a g.b))
def resp (ps : List (Int × Int)) (N : Int) (gs : List Gt) : Bool := gs.all fun g => !badR ps N g
theorem resp_step {ps : List (Int × Int)} {N : Int} {gs r : List Gt} {k : Nat} {g : Gt} (hd : gs.drop k = g :: r) : resp ps N (gs.drop k) = (!badR ps N g && resp ps N r) := by rw [hd]; rfl

set_option maxRecDepth 100000 in
set_option maxHeartbeats 3200000 in
theorem i_RespectsGraph (A : Option Addr) (n cap : Nat) (gs : List Gt) (N : Int) (B : Option Addr) (m d : Nat) (ps : List (Int × Int)) (w : World) (h : RdG w A n gs) (hn : n ≤ 1099511627776) (hp : RdP w B m ps) (hm : m ≤ 1099511627776) :
    Calls Try.prog 45 #[.slice A n cap, .agg #[.int .i64 N, .slice B m d]] w fun e w' => e = .returned (.bool (resp ps N gs)) ∧ Below w.heap.size w w' := by
  have H := Lib.hid h
  have HP := Lib.hid hp
  have hlen := h.1
  clear h hp
  obtain ⟨R, hR⟩ : ∃ R, resp ps N gs = R := ⟨_, rfl⟩
  rw [hR]
  have HR := Lib.hid hR
  clear hR
  go_enter Try.func45, Try.ntmps45
  go_wp2_with fail
  go_loopg [9] n (fun q i wr => ∃ (k : Nat), k + q = n ∧ i = .int .i64 k ∧ resp ps N (gs.drop k) = R ∧ Bx wr w.heap.size 38 #[.int .i64 N, .slice B m d] ∧ Below w.heap.size w wr)
  case atStart => exact ⟨0, by omega, rfl, by simpa using HR.out, Bx.new w _ _, (Below.refl _ _).alloc (Nat.le_refl _) _⟩
  case round =>
    obtain ⟨k, hk, rfl, hx, hg, hb⟩ := hrel
    have HX := Lib.hid hx
    have HG := Lib.hid hg
    have hs0 := hb.size
    clear hx hg
    obtain ⟨p0, p1, _, _⟩ := HG.out.two
    have hsl : w.heap.size < wr.heap.size := HG.out.lt
    by_cases hlt : k < n
    · obtain ⟨bb, off, ⟨ky, ga, gb, gc⟩, hA, hB, hd, c0, c1, c2, c3⟩ := (H.out.below hb).at_ hlt
      subst hA
      dsimp only at c0 c1 c2 c3
      have HS := Lib.hid (resp_step (ps := ps) (N := N) hd)
      clear hd
      have XE := Lib.hid (Bx.new wr 72 #[.int .i64 ky, .int .i64 ga, .int .i64 gb, .int .i64 gc])
      have XG := Lib.hid (HG.out.alloc (.cells #[.int .i64 ky, .int .i64 ga, .int .i64 gb, .int .i64 gc] 72))
      have bA := hb.alloc hs0 (.cells #[.int .i64 ky, .int .i64 ga, .int .i64 gb, .int .i64 gc] 72)
      cases h1 : okG ky ga gb gc N
      · have H1 := Lib.hid h1
        clear h1
        go_wp2_with fail
        refine (i_IsValidGate _ _ _ _ _ _).mono ?_
        rintro e w1 ⟨rfl, b1⟩
        rw [H1.out]
        go_wp2_with fail
        go_ret
        refine ⟨ret_bool ?_, below_trans bA b1⟩
        rw [← HX.out, HS.out, badR, H1.out]; rfl
      · have H1 := Lib.hid h1
        clear h1
        go_wp2_with fail
        refine (i_IsValidGate _ _ _ _ _ _).mono ?_
        rintro e w1 ⟨rfl, b1⟩
        rw [H1.out]
        clear c0 c1 c2 c3 p0 p1
        have b01 := below_trans bA b1
        have HP1 := Lib.hid (HP.out.below b01)
        have X1 := Lib.hid (XG.out.below b1)
        obtain ⟨q0, q1, q2, q3, _⟩ := (XE.out.below b1).four
        obtain ⟨p0, p1, _, _⟩ := X1.out.two
        clear b1 bA XE XG
        generalize wr.heap.size = ge at q0 q1 q2 q3 ⊢
        cases h3 : (arity ky == 3)
        · have H3 := Lib.hid h3
          go_wp2_with fail
          refine (i_Arity _ _).mono ?_
          rintro e w' ⟨rfl, rfl⟩
          cases h2 : (arity ky == 2)
          · have H2 := Lib.hid h2
            go_wp2_with fail
            refine (i_Arity _ _).mono ?_
            rintro e w' ⟨rfl, rfl⟩
            go_wp2_with fail
            go_roundg (gk - 1)
            case measure => omega
            case rel => exact ⟨k + 1, by omega, by go_num, by rw [← HX.out, HS.out, badR, H1.out, H3.out, H2.out]; rfl, X1.out, b01⟩
          · have H2 := Lib.hid h2
            go_wp2_with fail
            refine (i_Arity _ _).mono ?_
            rintro e w' ⟨rfl, rfl⟩
            go_wp2_with fail
            refine (i_AreCoupled _ _ _ _ _ _ _ _ HP1.out hm).mono ?_
            rintro e w2 ⟨rfl, b2⟩
            have X2 := Lib.hid (X1.out.below b2)
            have b02 := below_trans b01 b2
            cases h4 : coup ps ga gb
            · have H4 := Lib.hid h4
              go_wp2_with fail
              go_ret
              refine ⟨ret_bool ?_, b02⟩
              rw [← HX.out, HS.out, badR, H1.out, H3.out, H2.out, H4.out]; rfl
            · have H4 := Lib.hid h4
              go_wp2_with fail
              go_roundg (gk - 1)
              case measure => omega
              case rel => exact ⟨k + 1, by omega, by go_num, by rw [← HX.out, HS.out, badR, H1.out, H3.out, H2.out, H4.out]; rfl, X2.out, b02⟩
        · have H3 := Lib.hid h3
          go_wp2_with fail
          refine (i_Arity _ _).mono ?_
          rintro e w' ⟨rfl, rfl⟩
          go_wp2_with fail
          go_ret
          refine ⟨ret_bool ?_, b01⟩
          rw [← HX.out, HS.out, badR, H1.out, H3.out]; rfl
    · go_wp2_with fail
      go_ret
      refine ⟨ret_bool ?_, hb⟩
      rw [← HX.out, List.drop_eq_nil_of_le (by omega)]; rfl

set_option maxRecDepth 100000 in
set_option maxHeartbeats 3200000 in
theorem s_RespectsGraph (A : Option Addr) (n cap : Nat) (gs : List Gt) (N : Int) (B : Option Addr) (m d : Nat) (ps : List (Int × Int)) (w : World) (h : RdG w A n gs) (hn : n ≤ 1099511627776) (hp : RdP w B m ps) (hm : m ≤ 1099511627776) :
    Calls Try.prog 42 #[.slice A n cap, .agg #[.int .i64 N, .slice B m d]] w fun e w' => e = .returned (.bool (resp ps N gs)) ∧ Below w.heap.size w w' := by
  have H := Lib.hid h
  have HP := Lib.hid hp
  have hlen := h.1
  clear h hp
  obtain ⟨R, hR⟩ : ∃ R, resp ps N gs = R := ⟨_, rfl⟩
  rw [hR]
  have HR := Lib.hid hR
  clear hR
  go_enter Try.func42, Try.ntmps42
  go_wp2_with fail
  go_loopg [5] n (fun q i wr => ∃ (k : Nat), k + q = n ∧ i = .int .i64 k ∧ resp ps N (gs.drop k) = R ∧ Bx wr w.heap.size 38 #[.int .i64 N, .slice B m d] ∧ Below w.heap.size w wr)
  case atStart => exact ⟨0, by omega, rfl, by simpa using HR.out, Bx.new w _ _, (Below.refl _ _).alloc (Nat.le_refl _) _⟩
  case round =>
    obtain ⟨k, hk, rfl, hx, hg, hb⟩ := hrel
    have HX := Lib.hid hx
    have HG := Lib.hid hg
    have hs0 := hb.size
    clear hx hg
    obtain ⟨p0, p1, _, _⟩ := HG.out.two
    have hsl : w.heap.size < wr.heap.size := HG.out.lt
    by_cases hlt : k < n
    · obtain ⟨bb, off, ⟨ky, ga, gb, gc⟩, hA, hB, hd, c0, c1, c2, c3⟩ := (H.out.below hb).at_ hlt
      subst hA
      dsimp only at c0 c1 c2 c3
      have HS := Lib.hid (resp_step (ps := ps) (N := N) hd)
      clear hd
      have XE := Lib.hid (Bx.new wr 72 #[.int .i64 ky, .int .i64 ga, .int .i64 gb, .int .i64 gc])
      have XG := Lib.hid (HG.out.alloc (.cells #[.int .i64 ky, .int .i64 ga, .int .i64 gb, .int .i64 gc] 72))
      have bA := hb.alloc hs0 (.cells #[.int .i64 ky, .int .i64 ga, .int .i64 gb, .int .i64 gc] 72)
      cases h1 : okG ky ga gb gc N
      · have H1 := Lib.hid h1
        clear h1
        go_wp2_with fail
        refine (s_IsValidGate _ _ _ _ _ _).mono ?_
        rintro e w1 ⟨rfl, b1⟩
        rw [H1.out]
        go_wp2_with fail
        go_ret
        refine ⟨ret_bool ?_, below_trans bA b1⟩
        rw [← HX.out, HS.out, badR, H1.out]; rfl
      · have H1 := Lib.hid h1
        clear h1
        go_wp2_with fail
        refine (s_IsValidGate _ _ _ _ _ _).mono ?_
        rintro e w1 ⟨rfl, b1⟩
        rw [H1.out]
        clear c0 c1 c2 c3 p0 p1
        have b01 := below_trans bA b1
        have HP1 := Lib.hid (HP.out.below b01)
        have X1 := Lib.hid (XG.out.below b1)
        obtain ⟨q0, q1, q2, q3, _⟩ := (XE.out.below b1).four
        obtain ⟨p0, p1, _, _⟩ := X1.out.two
        clear b1 bA XE XG
        generalize wr.heap.size = ge at q0 q1 q2 q3 ⊢
        cases h3 : (arity ky == 3)
        · have H3 := Lib.hid h3
          have h3' : arity ky ≤ 2 := by
            have := arity_bd ky
            have : arity ky ≠ 3 := by simpa using h3
            omega
          go_wp2_with fail
          refine (s_Arity _ _).mono ?_
          rintro e w' ⟨rfl, rfl⟩
          cases h2 : (arity ky == 2)
          · have H2 := Lib.hid h2
            go_wp2_with fail
            refine (s_Arity _ _).mono ?_
            rintro e w' ⟨rfl, rfl⟩
            go_wp2_with fail
            go_roundg (gk - 1)
            case measure => omega
            case rel => exact ⟨k + 1, by omega, by go_num, by rw [← HX.out, HS.out, badR, H1.out, H3.out, H2.out]; rfl, X1.out, b01⟩
          · have H2 := Lib.hid h2
            go_wp2_with fail
            refine (s_Arity _ _).mono ?_
            rintro e w' ⟨rfl, rfl⟩
            go_wp2_with fail
            refine (s_AreCoupled _ _ _ _ _ _ _ _ HP1.out hm).mono ?_
            rintro e w2 ⟨rfl, b2⟩
            have X2 := Lib.hid (X1.out.below b2)
            have b02 := below_trans b01 b2
            cases h4 : coup ps ga gb
            · have H4 := Lib.hid h4
              go_wp2_with fail
              go_ret
              refine ⟨ret_bool ?_, b02⟩
              rw [← HX.out, HS.out, badR, H1.out, H3.out, H2.out, H4.out]; rfl
            · have H4 := Lib.hid h4
              go_wp2_with fail
              go_roundg (gk - 1)
              case measure => omega
              case rel => exact ⟨k + 1, by omega, by go_num, by rw [← HX.out, HS.out, badR, H1.out, H3.out, H2.out, H4.out]; rfl, X2.out, b02⟩
        · have H3 := Lib.hid h3
          have h3' : 2 < arity ky := by
            have : arity ky = 3 := by simpa using h3
            omega
          go_wp2_with fail
          refine (s_Arity _ _).mono ?_
          rintro e w' ⟨rfl, rfl⟩
          go_wp2_with fail
          go_ret
          refine ⟨ret_bool ?_, b01⟩
          rw [← HX.out, HS.out, badR, H1.out, H3.out]; rfl
    · go_wp2_with fail
      go_ret
      refine ⟨ret_bool ?_, hb⟩
      rw [← HX.out, List.drop_eq_nil_of_le (by omega)]; rfl
end Go.Proofs.Ythijgdpnodiceaa
