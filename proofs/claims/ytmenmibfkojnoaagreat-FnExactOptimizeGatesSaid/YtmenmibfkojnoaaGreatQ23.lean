/- Contracts of l11Inverse (spec) and inverted (impl): the inverse gates, last first. Plain lemmas on rows of pairs that are filled place by place. Nothing is asked. Plain: the marks on a row of pairs; rows of two types lie apart. Nothing is asked. Contracts of the laws' helpers on slices of pairs (PhaseTerm): szPhaseTermS, toPhaseTerm, toPhaseTermS, eqPhaseTerm, eqPhaseTermS. The slices have at ... -/
import Derived.Test.YtmenmibfkojnoaaGreatQ19
import Derived.Test.YtmenmibfkojnoaaGreatQ20
import Derived.Test.YtmenmibfkojnoaaGreatQ01
import Derived.Test.YtmenmibfkojnoaaGreatQ03
import Derived.Test.YtmenmibfkojnoaaGreatQ04
import Derived.Test.YtmenmibfkojnoaaGreatProg
import Derived.StillTailTactics
import Derived.Deep.RegionHeld3
set_option maxHeartbeats 16000000
namespace Go.Proofs.YtmenmibfkojnoaaGreat
open Go.RowKit
set_option linter.unusedVariables false
def GrB (w : World) (A0 : Option Addr) (c0 : Nat) (l : List Gt) (wx : World) : Prop :=
 wx.ownsRow w.heap.size 39 4 (.slice A0 l.length c0) l.length (cellsG l) /\ Below w.heap.size w wx
section
variable {w wx w' : World} {A0 : Option Addr} {c0 : Nat} {l : List Gt}
theorem GrB.below (h : GrB w A0 c0 l wx) (hb : Below wx.heap.size wx w') : GrB w A0 c0 l w' := ⟨ownsRow_below h.1 hb, below_trans h.2 hb⟩
theorem GrB.alloc (h : GrB w A0 c0 l wx) (o : Obj) : GrB w A0 c0 l (wx.alloc o) := h.below ((zW).alloc zR _)
theorem GrB.drew (h : GrB w A0 c0 l wx) : GrB w A0 c0 l wx.drew := h.below (zW).drew
theorem GrB.new (w : World) : GrB w (some ⟨w.heap.size, 0, none⟩) 0 [] (w.alloc (.cells #[] 39)) := ⟨World.ownsRow_lit w #[] 0 zR (by simp [maxLen]) rfl, (zW).alloc zR _⟩
theorem GrB.new' (h : Below w.heap.size w wx) : GrB w (some ⟨wx.heap.size, 0, none⟩) 0 [] (wx.alloc (.cells #[] 39)) := ⟨World.ownsRow_lit wx #[] 0 h.size (by simp [maxLen]) rfl, h.alloc h.size _⟩
theorem GrB.push {A5 : Option Addr} {c5 m : Nat} {ms : List Gt} {w5 : World} (h : GrB w A0 c0 l wx) (hg : wx.grownBy w5 (Value.slice A0 l.length c0).ownBlock) (hm : ms.length = m) (ho : w5.ownsRow w.heap.size 39 4 (.slice A5 (l.length + m) c5) (l.length + m) (cellsG l ++ cellsG ms)) : GrB w A5 c5 (l ++ ms) w5 := by
 subst hm
 refine ⟨by rw [cellsG_append, List.length_append]; exact ho, below_grown h.2 h.2.size h.1 zR hg⟩
end
theorem invL_len (l : List Gt) : (invL l).length = l.length := by unfold invL; simp
theorem invL_step {l : List Gt} {k j : Nat} {g : Gt} (hk : k + (j + 1) = l.length) (hg : l[j]? = some g) : (invL l).take (k + 1) = (invL l).take k ++ [⟨invK g.k, g.a, g.b, g.c⟩] := by
 refine take_snocT ?_
 unfold invL
 rw [List.getElem?_map, List.getElem?_reverse (by omega), show l.length - 1 - k = j by omega, hg]
 rfl
set_option maxRecDepth 100000 in
theorem s_Inv (m c : Nat) (A : Option Addr) (l : List Gt) (w : World) (hr : RdG w A m l) (hm : m <= 1000) :
  Calls Tryz.prog 113 #[.slice A m c] w (Ret 39 4 (cellsG (invL l)) m w) := by
 have HW := zH hr
 have HL := zH hr.1
 have G0 := zH (GrB.new w)
 have m0 : (0 : Int) <= (m : Int) := by omega
 clear hr
 go_enter Tryz.func113, Tryz.ntmps113
 go_wp2_with fail
 go_loopg [3, 4] m (fun q v i wr => ∃ (k : Nat) (A0 : Option Addr) (c0 : Nat), k + q = m /\ v = .slice A0 k c0 /\ i = .int .i64 ((q : Int) - 1) /\ GrB w A0 c0 ((invL l).take k) wr)
 case atStart => exact ⟨0, _, _, by omega, rfl, rfl, G0.out⟩
 case round =>
  clear G0
  obtain ⟨k, A0, c0, hk, rfl, rfl, hG⟩ := hrel
  have HG := zH hG
  have HK := zH (show ((invL l).take k).length = k by rw [List.length_take, invL_len, HL.out]; omega)
  clear hG
  by_cases hlt : gk = 0
  ·subst hlt
   obtain rfl : m = k := by omega
   have hd : ((0 : Nat) : Int) - 1 = -1 := by omega
   rw [hd]
   go_wp2_with fail
   go_ret
   have hf : (invL l).take m = invL l := List.take_of_length_le (by rw [invL_len, HL.out]; exact zR)
   have H := HG.out
   unfold GrB at H
   rw [HK.out, hf] at H
   exact ⟨_, _, rfl, H.1, H.2⟩
  ·obtain ⟨j, rfl⟩ : ∃ j, gk = j + 1 := ⟨gk - 1, by omega⟩
   have hd : ((j + 1 : Nat) : Int) - 1 = (j : Int) := by omega
   rw [hd]
   obtain ⟨b, off, g, rfl, hB, hdr, y0, y1, y2, y3⟩ := (HW.out.below HG.out.2).at_ (k := j) (by omega)
   have hgj : l[j]? = some g := by have := congrArg List.head? hdr; rw [List.head?_drop] at this; exact this
   have HS := zH (invL_step (k := k) (by rw [HL.out]; exact hk) hgj)
   have hj0 : (0 : Int) <= (j : Int) := by omega
   have hj1 : (j : Int) < (m : Int) := by omega
   have hjm : (j : Int) <= 1000 := by omega
   clear hdr hgj
   go_wp2_with (first
    |(go_at_call 154; refine (s_InverseGate _ _ _ _ _).mono ?_; rintro e w5 ⟨rfl, b5⟩; have G5 := zH ((HG.out.below b5).alloc (.cells #[.int .i64 (invK g.k), .int .i64 g.a, .int .i64 g.b, .int .i64 g.c] 39)); have O5 := G5.out.1; rw [HK.out] at O5; have O5 := zH O5)
    |(at_builtin; refine wpList_app rfl (.tmp 13) (.tmp 19) 24 rfl Tryz.underlying24 infoGate rfl (by decide) rfl O5.out rfl (Rd.lit w5 39 #[.int .i64 (invK g.k), .int .i64 g.a, .int .i64 g.b, .int .i64 g.c] 1 4 rfl) (by simp [Value.oneCell']) (by omega) (by decide) (by have := b5.size; have := HG.out.2.size; simp <;> omega) ?_; intro A7 c7 w7 o7 g7; have G7 := zH (show GrB w A7 c7 ((invL l).take (k + 1)) w7 from by rw [HS.out]; exact G5.out.push (ms := [⟨invK g.k, g.a, g.b, g.c⟩]) (m := 1) (by rw [HK.out]; exact g7) rfl (by rw [HK.out]; exact o7))))
   go_roundg j
   all_goals first
    |omega
    |exact ⟨k + 1, A7, c7, by omega, rfl, by first | rfl | (congr 1; omega), G7.out⟩
set_option maxRecDepth 100000 in
theorem i_Inv (m c : Nat) (A : Option Addr) (l : List Gt) (w : World) (hr : RdG w A m l) (hm : m <= 1000) :
  Calls Tryz.prog 117 #[.slice A m c] w (Ret 39 4 (cellsG (invL l)) m w) := by
 have HW := zH hr
 have HL := zH hr.1
 have G0 := zH (GrB.new w)
 have m0 : (0 : Int) <= (m : Int) := by omega
 clear hr
 go_enter Tryz.func117, Tryz.ntmps117
 go_wp2_with fail
 go_loopg [3, 4] m (fun q v i wr => ∃ (k : Nat) (A0 : Option Addr) (c0 : Nat), k + q = m /\ v = .slice A0 k c0 /\ i = .int .i64 ((q : Int) - 1) /\ GrB w A0 c0 ((invL l).take k) wr)
 case atStart => exact ⟨0, _, _, by omega, rfl, rfl, G0.out⟩
 case round =>
  clear G0
  obtain ⟨k, A0, c0, hk, rfl, rfl, hG⟩ := hrel
  have HG := zH hG
  have HK := zH (show ((invL l).take k).length = k by rw [List.length_take, invL_len, HL.out]; omega)
  clear hG
  by_cases hlt : gk = 0
  ·subst hlt
   obtain rfl : m = k := by omega
   have hd : ((0 : Nat) : Int) - 1 = -1 := by omega
   rw [hd]
   go_wp2_with fail
   go_ret
   have hf : (invL l).take m = invL l := List.take_of_length_le (by rw [invL_len, HL.out]; exact zR)
   have H := HG.out
   unfold GrB at H
   rw [HK.out, hf] at H
   exact ⟨_, _, rfl, H.1, H.2⟩
  ·obtain ⟨j, rfl⟩ : ∃ j, gk = j + 1 := ⟨gk - 1, by omega⟩
   have hd : ((j + 1 : Nat) : Int) - 1 = (j : Int) := by omega
   rw [hd]
   obtain ⟨b, off, g, rfl, hB, hdr, y0, y1, y2, y3⟩ := (HW.out.below HG.out.2).at_ (k := j) (by omega)
   have hgj : l[j]? = some g := by have := congrArg List.head? hdr; rw [List.head?_drop] at this; exact this
   have HS := zH (invL_step (k := k) (by rw [HL.out]; exact hk) hgj)
   have hj0 : (0 : Int) <= (j : Int) := by omega
   have hj1 : (j : Int) < (m : Int) := by omega
   have hjm : (j : Int) <= 1000 := by omega
   clear hdr hgj
   go_wp2_with (first
    |(go_at_call 126; refine (i_InverseGate _ _ _ _ _).mono ?_; rintro e w5 ⟨rfl, b5⟩; have G5 := zH ((HG.out.below b5).alloc (.cells #[.int .i64 (invK g.k), .int .i64 g.a, .int .i64 g.b, .int .i64 g.c] 39)); have O5 := G5.out.1; rw [HK.out] at O5; have O5 := zH O5)
    |(at_builtin; refine wpList_app rfl (.tmp 13) (.tmp 19) 24 rfl Tryz.underlying24 infoGate rfl (by decide) rfl O5.out rfl (Rd.lit w5 39 #[.int .i64 (invK g.k), .int .i64 g.a, .int .i64 g.b, .int .i64 g.c] 1 4 rfl) (by simp [Value.oneCell']) (by omega) (by decide) (by have := b5.size; have := HG.out.2.size; simp <;> omega) ?_; intro A7 c7 w7 o7 g7; have G7 := zH (show GrB w A7 c7 ((invL l).take (k + 1)) w7 from by rw [HS.out]; exact G5.out.push (ms := [⟨invK g.k, g.a, g.b, g.c⟩]) (m := 1) (by rw [HK.out]; exact g7) rfl (by rw [HK.out]; exact o7))))
   go_roundg j
   all_goals first
    |omega
    |exact ⟨k + 1, A7, c7, by omega, rfl, by first | rfl | (congr 1; omega), G7.out⟩
end Go.Proofs.YtmenmibfkojnoaaGreat
namespace Go.Proofs.YtmenmibfkojnoaaGreat
open Go.RowKit
theorem own_types {w : World} {b1 b2 : Nat} {e1 e2 : TypeId} {s1 s2 n1 n2 : Nat} {v1 v2 : Value} {x1 x2 : List Value} (h1 : w.ownsRow b1 e1 s1 v1 n1 x1) (h2 : w.ownsRow b2 e2 s2 v2 n2 x2) (hne : e1 ≠ e2) :
  v1.ownBlock = none ∨ v1.ownBlock ≠ v2.ownBlock := by
 rcases h1.2 with ⟨rfl, _⟩ | ⟨g, cap, cur, rfl, _, hh, _⟩
 ·exact .inl rfl
 ·rcases h2.2 with ⟨rfl, _⟩ | ⟨g', cap', cur', rfl, _, hh', _⟩
  ·exact .inr (by simp [Value.ownBlock])
  ·refine .inr fun he => ?_
   have : g = g' := by simpa [Value.ownBlock] using he
   subst this
   rw [hh] at hh'
   injection hh' with hh'
   injection hh' with _ ht
   exact hne ht
theorem infoPhaseTerm : (Tryz.prog.info? 128).map (fun i => (i.zero, i.size, i.bytes)) = some (some (.agg #[.int .i64 0, .int .i64 0]), 2, 16) := by kernel_rfl
theorem infoAffineForm : (Tryz.prog.info? 93).map (fun i => (i.zero, i.size, i.bytes)) = some (some (.agg #[.int .i64 0, .int .i64 0]), 2, 16) := by kernel_rfl
theorem own_set {w : World} {base : Nat} {e : TypeId} {sz n : Nat} {v : Value} {xs : List Value} (h : w.ownsRow base e sz v n xs) {p : Addr} (hp : p.block < base) (u : Value) : (w.setCell p u).ownsRow base e sz v n xs := by
 have hg : w.grownBy (w.setCell p u) (some p.block) := ⟨rfl, rfl, rfl, by simp [World.setCell], fun k hk hne => Below.heap_setCell w _ _ k (fun e => hne (by rw [e]))⟩
 refine h.kept hg ?_
 cases hv : v.ownBlock with
 |none => exact .inl rfl
 |some k =>
  refine .inr fun e => ?_
  injection e with e
  have := (h.lt k hv).1
  omega
def OwnPoly (wx : World) (base : Nat) (N H : Int) (t o : List (Int × Int)) (v : Value) : Prop :=
 ∃ (AT : Option Addr) (cT : Nat) (AO : Option Addr) (cO : Nat), v = .agg #[.int .i64 N, .int .i64 H, .slice AT t.length cT, .slice AO o.length cO] /\ wx.ownsRow base 128 2 (.slice AT t.length cT) t.length (cellsP t) /\ wx.ownsRow base 93 2 (.slice AO o.length cO) o.length (cellsP o)
def RetPoly (N H : Int) (t o : List (Int × Int)) (w : World) (e : Ending) (w' : World) : Prop := ∃ v, e = .returned v /\ OwnPoly w' w.heap.size N H t o v /\ Below w.heap.size w w'
structure Po where
 N : Int
 H : Int
 t : List (Int × Int)
 o : List (Int × Int)
 deriving DecidableEq
def Po.zero : Po := ⟨0, 0, [], []⟩
def atL (m : Int) : Nat -> List (Int × Int) -> Option Nat
 |_, [] => none
 |i, p :: r => if (p.1 == m) = true then some i else atL m (i + 1) r
def plL (m : Int) : Nat -> List (Int × Int) -> Nat
 |i, [] => i
 |i, p :: r => if decide (p.1 <= m) = true then plL m (i + 1) r else i
def withT (t : List (Int × Int)) (m : Int) : List (Int × Int) :=
 match atL m 0 t with
 |some _ => t
 |none => t.take (plL m 0 t) ++ (m, 0) :: t.drop (plL m 0 t)
def atT (t : List (Int × Int)) (m : Int) : Nat :=
 match atL m 0 t with
 |some k => k
 |none => plL m 0 t
def nz (l : List (Int × Int)) : List (Int × Int) := l.filter fun p => !(p.2 == 0)
def bump (l : List (Int × Int)) (k : Nat) (c : Int) : List (Int × Int) := l.set k ((l.getD k (0, 0)).1, ((l.getD k (0, 0)).2 + c) % 8)
def addT (t : List (Int × Int)) (m c : Int) : List (Int × Int) := nz (bump (withT t m) (atT t m) c)
theorem plL_ge (m : Int) : ∀ (i : Nat) (t : List (Int × Int)), i <= plL m i t /\ plL m i t <= i + t.length
 |i, [] => ⟨zR, by simp [plL]⟩
 |i, p :: r => by
  rw [plL]
  have := plL_ge m (i + 1) r
  split
  ·exact ⟨by omega, by simp; omega⟩
  ·exact ⟨zR, by simp⟩
theorem atL_lt (m : Int) : ∀ (i : Nat) (t : List (Int × Int)) (k : Nat), atL m i t = some k -> i <= k /\ k < i + t.length
 |i, [], k, h => by cases h
 |i, p :: r, k, h => by
  rw [atL] at h
  split at h
  ·injection h with h; subst h; exact ⟨zR, by simp⟩
  ·have := atL_lt m (i + 1) r k h
   exact ⟨by omega, by simp; omega⟩
theorem withT_len (t : List (Int × Int)) (m : Int) : t.length <= (withT t m).length /\ (withT t m).length <= t.length + 1 := by
 unfold withT
 split
 ·exact ⟨zR, by omega⟩
 ·have := plL_ge m 0 t
  simp only [List.length_append, List.length_take, List.length_cons, List.length_drop]
  exact ⟨by omega, by omega⟩
theorem atT_lt (t : List (Int × Int)) (m : Int) : atT t m < (withT t m).length := by
 unfold atT withT
 split
 ·have := atL_lt m 0 t _ (by assumption); omega
 ·have := plL_ge m 0 t
  simp only [List.length_append, List.length_take, List.length_cons, List.length_drop]
  omega
theorem bump_len (l : List (Int × Int)) (k : Nat) (c : Int) : (bump l k c).length = l.length := by simp [bump]
theorem nz_le (l : List (Int × Int)) : (nz l).length <= l.length := List.length_filter_le _ _
theorem addT_len (t : List (Int × Int)) (m c : Int) : (addT t m c).length <= t.length + 1 := by
 have h1 := nz_le (bump (withT t m) (atT t m) c)
 have h2 := (withT_len t m).2
 rw [bump_len] at h1
 unfold addT
 omega
theorem bump_mod (l : List (Int × Int)) (k : Nat) (c c' : Int) (h : c % 8 = c' % 8) : bump l k c = bump l k c' := by
 unfold bump
 rw [Int.add_emod, h, <- Int.add_emod]
theorem addT_mod (t : List (Int × Int)) (m c c' : Int) (h : c % 8 = c' % 8) : addT t m c = addT t m c' := by
 unfold addT
 rw [bump_mod _ _ c c' h]
theorem withT_has {t : List (Int × Int)} {m : Int} {k : Nat} (h : atL m 0 t = some k) : withT t m = t /\ atT t m = k := by
 unfold withT atT; rw [h]; exact ⟨rfl, rfl⟩
theorem withT_new {t : List (Int × Int)} {m : Int} (h : atL m 0 t = none) : withT t m = t.take (plL m 0 t) ++ (m, 0) :: t.drop (plL m 0 t) /\ atT t m = plL m 0 t := by
 unfold withT atT; rw [h]; exact ⟨rfl, rfl⟩
theorem nz_snoc (l : List (Int × Int)) (p : Int × Int) : nz (l ++ [p]) = nz l ++ (if (p.2 == 0) = true then [] else [p]) := by
 unfold nz
 rw [List.filter_append]
 congr 1
 by_cases h : p.2 = 0 <;> simp [h]
theorem wrap_mod8 (n : Int) : wrap64 n % 8 = n % 8 := by unfold wrap64; omega
def idO (n : Nat) : List (Int × Int) := (List.range n).map fun i => ((2 : Int) ^ i, 0)
theorem idO_snoc (k : Nat) : idO (k + 1) = idO k ++ [((2 : Int) ^ k, 0)] := by simp [idO, List.range_succ]
theorem idO_len (k : Nat) : (idO k).length = k := by simp [idO]
def idP (n : Int) : Po := if inB n 1 4 = true then ⟨n, 0, [], idO n.toNat⟩ else Po.zero
def at2 (o : List (Int × Int)) (a : Int) : Int × Int := o.getD a.toNat (0, 0)
def actP (p : Po) (g : Gt) : Po × Bool :=
 if (g.k == 1) = true then (⟨p.N, p.H, p.t, p.o.set g.a.toNat ((at2 p.o g.a).1, wrap64 (1 - (at2 p.o g.a).2))⟩, true)
 else if (g.k == 9) = true then (⟨p.N, p.H, p.t, p.o.set g.b.toNat (bits .xor .i64 (at2 p.o g.a).1 (at2 p.o g.b).1, bits .xor .i64 (at2 p.o g.a).2 (at2 p.o g.b).2)⟩, true)
 else if (g.k == 11) = true then (⟨p.N, p.H, p.t, (p.o.set g.a.toNat (at2 p.o g.b)).set g.b.toNat (at2 p.o g.a)⟩, true)
 else if (units g.k == 0) = true then (Po.zero, false)
 else if ((at2 p.o g.a).2 == 0) = true then (⟨p.N, p.H, addT p.t (at2 p.o g.a).1 (units g.k), p.o⟩, true)
 else (⟨p.N, (p.H + units g.k) % 8, addT p.t (at2 p.o g.a).1 (- units g.k), p.o⟩, true)
def okP (p : Po) (g : Gt) : Bool := okG g.k g.a g.b g.c p.N && decide ((p.o.length : Int) = p.N)
def applyP (p : Po) (g : Gt) : Po × Bool := if okP p g = true then actP p g else (Po.zero, false)
def compL : Po -> List Gt -> Po × Bool
 |p, [] => (p, true)
 |p, g :: r => if (applyP p g).2 = true then compL (applyP p g).1 r else (Po.zero, false)
def compP (gs : List Gt) (n : Int) : Po × Bool := if inB n 1 4 = true then compL (idP n) gs else (Po.zero, false)
theorem applyP_no {p : Po} {g : Gt} (h : okP p g = false) : applyP p g = (Po.zero, false) := by unfold applyP; rw [h]; rfl
theorem applyP_yes {p : Po} {g : Gt} (h : okP p g = true) : applyP p g = actP p g := by unfold applyP; rw [h]; rfl
theorem own0_bx {W : World} {g base : Nat} {e : TypeId} {sz : Nat} (hb : base <= g) (h : Bx W g e #[]) : W.ownsRow base e sz (.slice (some ⟨g, 0, none⟩) 0 0) 0 [] :=
 ⟨by simp, .inr ⟨g, 0, #[], rfl, hb, h, zR, by simp, by simp, by simp⟩⟩
section
variable {P : Program} {w : World}
theorem run_mk0 (base : Nat) (t ty e : TypeId) {z : Value} {size bytes : Nat} (ht : P.underlying t = some (.slice e)) (hinfo : (P.info? e).map (fun i => (i.zero, i.size, i.bytes)) = some (some z, size, bytes))
  (hzs : z.cells.size = size) (g : Nat) (hbx : Bx w g e #[]) (hbase : base <= g)
  (A' : Option Addr) (m c' : Nat) (news : List Value) (hr : Rd w size A' m news) (hbytes : m * bytes <= 140737488355328) (hby : 0 < bytes) :
  ∃ A'' c'' w', (Builtin.append_ #[t, t] ty #[.slice (some ⟨g, 0, none⟩) 0 0, .slice A' m c']).run P w = .ok (.slice A'' m c'') w' /\ w'.ownsRow base e size (.slice A'' m c'') m news /\ Below w.heap.size w w' := by
 obtain ⟨i, hi, hz, hs, hb⟩ := info_parts hinfo
 subst hs hb
 have hm63 : m <= 140737488355328 := Nat.le_trans (Nat.le_mul_of_pos_right m hby) hbytes
 have hlt := hbx.lt
 by_cases hm : m = 0
 ·subst hm
  have hn : news = [] := List.eq_nil_of_length_eq_zero (by simpa using hr.1)
  subst hn
  refine ⟨some ⟨g, 0, none⟩, 0, w, ?_, own0_bx hbase hbx, zW⟩
  cases A' with
  |none => simp [Builtin.append_, run_underlying ht, sizeOf, typeInfo, hi, Builtin.lenOf, Builtin.firstCells, storeCells]
  |some ad => simp [Builtin.append_, run_underlying ht, sizeOf, typeInfo, hi, Builtin.lenOf, Builtin.firstCells, storeCells, loadCells, loadCellsFrom]
 ·obtain ⟨b, off, hA, hbl, hc⟩ := hr.2 (by omega)
  subst hA
  have hnews : ∀ j u, news[j]? = some u -> w.cell? ((⟨b, off, none⟩ : Addr).add j) = some u := by
   intro j u hu
   have := hc j u hu
   unfold Addr.add
   split
   ·subst j; simpa using this
   ·exact this
  have hfit := growslice_fits (need := 0 + m) (old := 0) (bytes := i.bytes) (by omega) (by simpa using hbytes)
  have hrun := run_append_grow (P := P) w t ty e i z ht hi hz ⟨g, 0, none⟩ 0 0 [] (by simp) (fun j u h => by simp at h) ⟨b, off, none⟩ m c' news hr.1 hnews (by omega) (by omega) hfit
  have hge := grownCap_ge w (0 + m) 0 e
  have hcm : grownCap w (0 + m) 0 e <= maxLen := grownCap_le_maxLen w (0 + m) 0 e (by simp only [maxLen]; omega)
  rw [Nat.zero_add] at hrun hge hcm
  refine ⟨_, _, _, hrun, ⟨hr.1, .inr ⟨w.heap.size, _, _, rfl, by omega, heap_alloc_new w.drew _, hge, hcm, ?_, ?_⟩⟩, ((zW).drew.alloc zR _)⟩
  ·simp only [Array.size_append, List.size_toArray, size_zeroCells, hzs, List.length_nil, Nat.zero_add, hr.1, <- Nat.add_mul]
   congr 1
   omega
  ·simp only [Array.toList_append, List.nil_append]
   rw [<- hr.1]
   exact List.take_left
theorem step_mk0 {ops : Array Oper} {o : Oper} {a : Act} {K : Act -> World -> Prop} {Q : Exit -> Act -> World -> Prop} {E : Prop} (hgd : o.guard = none) (s x : Operand) (t : TypeId)
  (ho : o.op = .call { callee := .builtin .append, args := #[s, x], argTypes := #[t, t] })
  {base e : Nat} {z : Value} {size bytes : Nat} (ht : P.underlying t = some (.slice e)) (hinfo : (P.info? e).map (fun i => (i.zero, i.size, i.bytes)) = some (some z, size, bytes))
  (hzs : z.cells.size = size) {g : Nat} (hs : a.eval s = .slice (some ⟨g, 0, none⟩) 0 0) (hbx : Bx w g e #[]) (hbase : base <= g)
  {A' : Option Addr} {m c' : Nat} {news : List Value} (hx : a.eval x = .slice A' m c') (hr : Rd w size A' m news)
  (hbytes : m * bytes <= 140737488355328) (hby : 0 < bytes)
  (h : ∀ A'' c'' w', w'.ownsRow base e size (.slice A'' m c'') m news -> Below w.heap.size w w' -> K (a.put o.dst (.slice A'' m c'')) w') :
  if Region.wanted o (yielded ops a.tmps) = true then Oper.wp P o a w K Q else E := by
 have hw : Region.wanted o (yielded ops a.tmps) = true := by simp [Region.wanted, hgd]
 rw [if_pos hw]
 obtain ⟨A'', c'', w', hrun, h2, h3⟩ := run_mk0 (P := P) base t o.type e ht hinfo hzs g hbx hbase A' m c' news hr hbytes hby
 unfold Oper.wp execOp
 simp only [ho, resolve, invoke, builtin, Sem.run_bind, Sem.run_pure, Result.andThen_ok, List.map_toArray, List.map_cons, List.map_nil, hs, hx, hrun]
 exact h A'' c'' w' h2 h3
end
theorem keepA {a W : World} {o : Obj} (h : Below a.heap.size a W) : Below a.heap.size a (W.alloc o).drew := (h.alloc h.size o).drew
theorem bx_n {W : World} {i : Nat} {t : TypeId} {cs : Array Value} (h : i = W.heap.size) : Bx (W.alloc (.cells cs t)).drew i t cs := (Bx.new' h).drew
theorem bx_o {W : World} {o : Obj} {i : Nat} {t : TypeId} {cs : Array Value} (h : Bx W i t cs) : Bx (W.alloc o).drew i t cs := (h.alloc o).drew
theorem keepC {a W : World} {o : Obj} (h : Below a.heap.size a W) : Below a.heap.size a (W.alloc o) := h.alloc h.size o
theorem k4K {w' : World} {g t : Nat} {a b c d : Value} (h : Bx w' g t #[a, b, c, d]) :
  w'.cell? ⟨g, 0, none⟩ = some a /\ w'.cell? ⟨g, 1, none⟩ = some b /\ w'.cell? ⟨g, 2, none⟩ = some c /\ w'.cell? ⟨g, 3, none⟩ = some d /\ True := by
 obtain ⟨p0, p1, p2, p3, _⟩ := h.four
 exact ⟨p0, p1, p2, p3, trivial⟩
theorem set4K {w' : World} {g t g1 : Nat} {cs : Array Value} {a b c d : Value} (h : Bx w' g t cs) (hne : g ≠ g1) : Bx ((((w'.setCell ⟨g1, 0, none⟩ a).setCell ⟨g1, 1, none⟩ b).setCell ⟨g1, 2, none⟩ c).setCell ⟨g1, 3, none⟩ d) g t cs :=
 (((h.far hne _).far hne _).far hne _).far hne _
theorem Bx.s0 {w : World} {g t : Nat} {a b c d : Value} (h : Bx w g t #[a, b, c, d]) (x : Value) : Bx (w.setCell ⟨g, 0, none⟩ x) g t #[x, b, c, d] := by simpa using h.set_ 0 x
theorem Bx.s1 {w : World} {g t : Nat} {a b c d : Value} (h : Bx w g t #[a, b, c, d]) (x : Value) : Bx (w.setCell ⟨g, 1, none⟩ x) g t #[a, x, c, d] := by simpa using h.set_ 1 x
theorem Bx.s2 {w : World} {g t : Nat} {a b c d : Value} (h : Bx w g t #[a, b, c, d]) (x : Value) : Bx (w.setCell ⟨g, 2, none⟩ x) g t #[a, b, x, d] := by simpa using h.set_ 2 x
theorem Bx.s3 {w : World} {g t : Nat} {a b c d : Value} (h : Bx w g t #[a, b, c, d]) (x : Value) : Bx (w.setCell ⟨g, 3, none⟩ x) g t #[a, b, c, x] := by simpa using h.set_ 3 x
theorem below_sa {B : Nat} {w w' : World} {p : Addr} {u : Value} {o : Obj} (h : Below B w w') (hp : B <= p.block) (hB : B <= w'.heap.size) : Below B w ((w'.setCell p u).alloc o) :=
 (h.setCell hp _).alloc (by simpa [World.setCell] using hB) _
theorem own_set4 {w' : World} {base g1 : Nat} {e : TypeId} {sz n : Nat} {v : Value} {xs : List Value} {a b c d : Value} (h : w'.ownsRow base e sz v n xs) (hg : g1 < base) : ((((w'.setCell ⟨g1, 0, none⟩ a).setCell ⟨g1, 1, none⟩ b).setCell ⟨g1, 2, none⟩ c).setCell ⟨g1, 3, none⟩ d).ownsRow base e sz v n xs :=
 own_set (own_set (own_set (own_set h (p := ⟨g1, 0, none⟩) hg a) (p := ⟨g1, 1, none⟩) hg b) (p := ⟨g1, 2, none⟩) hg c) (p := ⟨g1, 3, none⟩) hg d
theorem below_set4 {w w' : World} {B g1 : Nat} {a b c d : Value} (h : Below B w w') (hg : B <= g1) : Below B w ((((w'.setCell ⟨g1, 0, none⟩ a).setCell ⟨g1, 1, none⟩ b).setCell ⟨g1, 2, none⟩ c).setCell ⟨g1, 3, none⟩ d) :=
 (((h.setCell hg _).setCell hg _).setCell hg _).setCell hg _
theorem wpList_mk0 {P : Program} {w : World} {ops : Array Oper} {rest : List Oper} {o : Oper} {a : Act} {Q : Exit -> Act -> World -> Prop} (hgd : o.guard = none) (s x : Operand) (t : TypeId)
  (ho : o.op = .call { callee := .builtin .append, args := #[s, x], argTypes := #[t, t] })
  {base e : Nat} {z : Value} {size bytes : Nat} (ht : P.underlying t = some (.slice e)) (hinfo : (P.info? e).map (fun i => (i.zero, i.size, i.bytes)) = some (some z, size, bytes))
  (hzs : z.cells.size = size) {g : Nat} (hs : a.eval s = .slice (some ⟨g, 0, none⟩) 0 0) (hbx : Bx w g e #[]) (hbase : base <= g)
  {A' : Option Addr} {m c' : Nat} {news : List Value} (hx : a.eval x = .slice A' m c') (hr : Rd w size A' m news)
  (hbytes : m * bytes <= 140737488355328) (hby : 0 < bytes)
  (h : ∀ A'' c'' w', w'.ownsRow base e size (.slice A'' m c'') m news -> Below w.heap.size w w' -> wpList P ops Q rest (a.put o.dst (.slice A'' m c'')) w') : wpList P ops Q (o :: rest) a w :=
 wpList_plain hgd fun K hK => by
  obtain ⟨A'', c'', w', hrun, h2, h3⟩ := run_mk0 (P := P) base t o.type e ht hinfo hzs g hbx hbase A' m c' news hr hbytes hby
  unfold Oper.wp execOp
  simp only [ho, resolve, invoke, builtin, Sem.run_bind, Sem.run_pure, Result.andThen_ok, List.map_toArray, List.map_cons, List.map_nil, hs, hx, hrun]
  exact hK _ _ (h A'' c'' w' h2 h3)
theorem OwnPoly.below {wx w' : World} {base : Nat} {N H : Int} {t o : List (Int × Int)} {v : Value} (h : OwnPoly wx base N H t o v) (hb : Below wx.heap.size wx w') : OwnPoly w' base N H t o v := by
 obtain ⟨AT, cT, AO, cO, e, h1, h2⟩ := h
 exact ⟨AT, cT, AO, cO, e, ownsRow_below h1 hb, ownsRow_below h2 hb⟩
set_option maxRecDepth 100000 in
theorem i_copyPoly (N H : Int) (AT : Option Addr) (nT cT : Nat) (t : List (Int × Int)) (AO : Option Addr) (nO cO : Nat) (o : List (Int × Int)) (w : World) (hT : RdP w AT nT t) (hO : RdP w AO nO o) (hnT : nT <= 1099511627776) (hnO : nO <= 1099511627776) :
  Calls Tryz.prog 124 #[.agg #[.int .i64 N, .int .i64 H, .slice AT nT cT, .slice AO nO cO]] w (RetPoly N H t o w) := by
 have HT := zH hT
 have HO := zH hO
 have hz2 : (Value.agg #[.int .i64 0, .int .i64 0]).cells.size = 2 := rfl
 clear hT hO
 go_enter Tryz.func124, Tryz.ntmps124
 go_wp2_with fail
 have X0 := zH (show Bx ((w.alloc (.cells #[.int .i64 N, .int .i64 H, .slice AT nT cT, .slice AO nO cO] 88)).alloc (.cells #[.int .i64 0, .int .i64 0, .slice none 0 0, .slice none 0 0] 88)) w.heap.size 88 _ from (Bx.new w _ _).alloc _)
 have X1 := zH (show Bx ((w.alloc (.cells #[.int .i64 N, .int .i64 H, .slice AT nT cT, .slice AO nO cO] 88)).alloc (.cells #[.int .i64 0, .int .i64 0, .slice none 0 0, .slice none 0 0] 88)) (w.heap.size + 1) 88 _ from Bx.new' (by simp))
 have RT := zH ((HT.out.2.alloc (.cells #[.int .i64 N, .int .i64 H, .slice AT nT cT, .slice AO nO cO] 88)).alloc (.cells #[.int .i64 0, .int .i64 0, .slice none 0 0, .slice none 0 0] 88))
 have RO := zH ((HO.out.2.alloc (.cells #[.int .i64 N, .int .i64 H, .slice AT nT cT, .slice AO nO cO] 88)).alloc (.cells #[.int .i64 0, .int .i64 0, .slice none 0 0, .slice none 0 0] 88))
 have BZ : Hid (Below w.heap.size w ((w.alloc (.cells #[.int .i64 N, .int .i64 H, .slice AT nT cT, .slice AO nO cO] 88)).alloc (.cells #[.int .i64 0, .int .i64 0, .slice none 0 0, .slice none 0 0] 88))) := zH (((zW).alloc zR _).alloc (by simp) _)
 generalize (w.alloc (.cells #[.int .i64 N, .int .i64 H, .slice AT nT cT, .slice AO nO cO] 88)).alloc (.cells #[.int .i64 0, .int .i64 0, .slice none 0 0, .slice none 0 0] 88) = wz at X0 X1 RT RO BZ ⊢
 generalize hg1 : w.heap.size + 1 = g1 at X1 ⊢
 generalize hg0 : w.heap.size = g0 at X0 hg1 ⊢
 have hne : g0 ≠ g1 := by omega
 have hg1w : g1 < wz.heap.size := X1.out.lt
 have hbw : w.heap.size <= wz.heap.size := BZ.out.size
 have hgg : w.heap.size <= g1 := by omega
 go_region_held3 (fun w' => w'.cell? ⟨g0, 0, none⟩ = some (.int .i64 N) /\ w'.cell? ⟨g0, 1, none⟩ = some (.int .i64 H) /\ w'.cell? ⟨g0, 2, none⟩ = some (.slice AT nT cT) /\ w'.cell? ⟨g0, 3, none⟩ = some (.slice AO nO cO) /\ True)
  (first
   |with_reducible exact k4K ((X0.out.below z3).alloc _)
   |with_reducible exact k4K ((X0.out.below z4).alloc _)
   |with_reducible exact k4K (X0.out.below z3)
   |with_reducible exact k4K (X0.out.below z4)
   |with_reducible exact k4K X0.out.drew
   |with_reducible exact k4K (X0.out.alloc _).drew
   |with_reducible exact k4K ((X0.out.alloc _).alloc _).drew
   |with_reducible exact k4K (set4K (X0.out.below z3) hne)
   |with_reducible exact k4K (set4K (X0.out.below z4) hne))
  (first
   |(refine step_mk0 (by rfl) (.tmp 7) (.tmp 9) 85 (by rfl) Tryz.underlying85 infoPhaseTerm hz2 (base := wz.heap.size) (news := cellsP t) rfl ?_ ?_ rfl ?_ (by omega) (by decide) ?_; (first | with_reducible exact bx_n (by simp) | with_reducible exact Bx.new' (by simp) | with_reducible exact bx_o (Bx.new' (by simp)) | with_reducible exact Bx.below (bx_n (by simp)) b4 | with_reducible exact Bx.below (bx_o (Bx.new' (by simp))) b4); (first | exact zR | exact Nat.le_succ _ | exact z4.size); (first | with_reducible exact RT.out.below z4 | with_reducible exact RT.out.below (keepC z4) | with_reducible exact Rd.drew (RT.out.alloc _) | with_reducible exact Rd.drew ((RT.out.alloc _).alloc _)); intro A3 c3 w3 o3 b3; (first | (with_reducible have z3 := below_trans (keepA (Below.refl _ wz)) b3) | (with_reducible have z3 := below_trans (keepA (keepC (Below.refl _ wz))) b3) | (with_reducible have z3 := below_trans (keepC z4) b3) | (with_reducible have z3 := below_trans z4 b3)); (first | (with_reducible have p4 := ownsRow_below o4 b3) | (with_reducible have p4 := ownsRow_below (World.ownsRow.alloc o4 _) b3) | skip); have ⟨q0, q1, q2, q3, f0, f1, f2, f3⟩ := (X1.out.below z3).four)
   |(refine step_mk0 (by rfl) (.tmp 11) (.tmp 13) 86 (by rfl) Tryz.underlying86 infoAffineForm hz2 (base := wz.heap.size) (news := cellsP o) rfl ?_ ?_ rfl ?_ (by omega) (by decide) ?_; (first | with_reducible exact bx_n (by simp) | with_reducible exact Bx.new' (by simp) | with_reducible exact bx_o (Bx.new' (by simp)) | with_reducible exact Bx.below (bx_n (by simp)) b3 | with_reducible exact Bx.below (bx_o (Bx.new' (by simp))) b3); (first | exact zR | exact Nat.le_succ _ | exact z3.size); (first | with_reducible exact RO.out.below z3 | with_reducible exact RO.out.below (keepC z3) | with_reducible exact Rd.drew (RO.out.alloc _) | with_reducible exact Rd.drew ((RO.out.alloc _).alloc _)); intro A4 c4 w4 o4 b4; (first | (with_reducible have z4 := below_trans (keepA (Below.refl _ wz)) b4) | (with_reducible have z4 := below_trans (keepA (keepC (Below.refl _ wz))) b4) | (with_reducible have z4 := below_trans (keepC z3) b4) | (with_reducible have z4 := below_trans z3 b4)); (first | (with_reducible have p3 := ownsRow_below o3 b4) | (with_reducible have p3 := ownsRow_below (World.ownsRow.alloc o3 _) b4) | skip); have ⟨q0, q1, q2, q3, f0, f1, f2, f3⟩ := (X1.out.below z4).four)
   |fail)
 all_goals
  go_wp2_with fail
  refine bodyPost_ret (v := .agg #[.int .i64 N, .int .i64 H, .slice A3 nT c3, .slice A4 nO c4]) (by simp [results, Tryz.results124, go_sem, q0, q1, q2, q3]) rfl ⟨_, rfl, ⟨A3, c3, A4, c4, by rw [HT.out.1, HO.out.1], ?_, ?_⟩, ?_⟩
  ·rw [HT.out.1]
   first | exact ownsRow_base (own_set4 o3 hg1w) hbw | exact ownsRow_base (own_set4 p3 hg1w) hbw
  ·rw [HO.out.1]
   first | exact ownsRow_base (own_set4 o4 hg1w) hbw | exact ownsRow_base (own_set4 p4 hg1w) hbw
  ·first | exact below_set4 (below_trans BZ.out z3) hgg | exact below_set4 (below_trans BZ.out z4) hgg
set_option maxRecDepth 100000 in
theorem s_l32Copy (N H : Int) (AT : Option Addr) (nT cT : Nat) (t : List (Int × Int)) (AO : Option Addr) (nO cO : Nat) (o : List (Int × Int)) (w : World) (hT : RdP w AT nT t) (hO : RdP w AO nO o) (hnT : nT <= 1099511627776) (hnO : nO <= 1099511627776) :
  Calls Tryz.prog 139 #[.agg #[.int .i64 N, .int .i64 H, .slice AT nT cT, .slice AO nO cO]] w (RetPoly N H t o w) := by
 have HT := zH hT
 have HO := zH hO
 have hz2 : (Value.agg #[.int .i64 0, .int .i64 0]).cells.size = 2 := rfl
 clear hT hO
 have X0 := zH (show Bx ((w.alloc (.cells #[.int .i64 N, .int .i64 H, .slice AT nT cT, .slice AO nO cO] 88)).alloc (.cells #[.int .i64 0, .int .i64 0, .slice none 0 0, .slice none 0 0] 88)) w.heap.size 88 _ from (Bx.new w _ _).alloc _)
 have X1 := zH (show Bx ((w.alloc (.cells #[.int .i64 N, .int .i64 H, .slice AT nT cT, .slice AO nO cO] 88)).alloc (.cells #[.int .i64 0, .int .i64 0, .slice none 0 0, .slice none 0 0] 88)) (w.heap.size + 1) 88 _ from Bx.new' (by simp))
 have RT := zH ((HT.out.2.alloc (.cells #[.int .i64 N, .int .i64 H, .slice AT nT cT, .slice AO nO cO] 88)).alloc (.cells #[.int .i64 0, .int .i64 0, .slice none 0 0, .slice none 0 0] 88))
 have RO := zH ((HO.out.2.alloc (.cells #[.int .i64 N, .int .i64 H, .slice AT nT cT, .slice AO nO cO] 88)).alloc (.cells #[.int .i64 0, .int .i64 0, .slice none 0 0, .slice none 0 0] 88))
 have BZ : Hid (Below w.heap.size w ((w.alloc (.cells #[.int .i64 N, .int .i64 H, .slice AT nT cT, .slice AO nO cO] 88)).alloc (.cells #[.int .i64 0, .int .i64 0, .slice none 0 0, .slice none 0 0] 88))) := zH (((zW).alloc zR _).alloc (by simp) _)
 go_enter Tryz.func139, Tryz.ntmps139
 go_wp2_with (first
  |(at_builtin; refine wpList_mk0 rfl (.tmp 3) (.tmp 5) 85 rfl Tryz.underlying85 infoPhaseTerm hz2 (base := w.heap.size + 1 + 1) rfl (Bx.new' (by simp)) zR rfl (RT.out.alloc _) (by omega) (by decide) ?_; intro A3 c3 w3 o3 b3; have Y0 := zH ((X0.out.alloc _).below b3); have Y1 := zH ((X1.out.alloc _).below b3); have BY := zH (below_trans (BZ.out.alloc BZ.out.size _) b3); have ⟨p0, p1, p2, p3, f0, f1, f2, f3⟩ := Y0.out.four; have hs3 := Y1.out.lt; have hs0 := Y0.out.lt)
  |(at_builtin; refine wpList_mk0 rfl (.tmp 8) (.tmp 10) 86 rfl Tryz.underlying86 infoAffineForm hz2 (base := w.heap.size + 1 + 1) rfl (Bx.new' (by simp)) ?_ rfl (HO.out.2.below (below_sa BY.out (p := ⟨w.heap.size, 2, none⟩) zR BY.out.size)) (by omega) (by decide) ?_; omega; intro A4 c4 w4 o4 b4; have V0 := zH (((Y0.out.s2 (.slice A3 nT c3)).alloc _).below b4); have V1 := zH (((Y1.out.far (p := ⟨w.heap.size, 2, none⟩) (by simp) (.slice A3 nT c3)).alloc _).below b4); clear p0 p1 p2 p3 f0 f1 f2 f3; have ⟨p0, p1, p2, p3, f0, f1, f2, f3⟩ := V0.out.four; have ⟨q0, q1, q2, q3, y0, y1, y2, y3⟩ := V1.out.four))
 have P3 := ownsRow_below (World.ownsRow.alloc (own_set o3 (p := ⟨w.heap.size, 2, none⟩) (by show w.heap.size < w.heap.size + 1 + 1; omega) (.slice A3 nT c3)) (.cells #[] 93)) b4
 refine bodyPost_ret (v := .agg #[.int .i64 N, .int .i64 H, .slice A3 nT c3, .slice A4 nO c4]) (by simp [results, Tryz.results139, go_sem, q0, q1, q2, q3]) rfl ⟨_, rfl, ⟨A3, c3, A4, c4, by rw [HT.out.1, HO.out.1], ?_, ?_⟩, ?_⟩
 ·rw [HT.out.1]
  exact ownsRow_base (own_set4 (own_set P3 (p := ⟨w.heap.size, 3, none⟩) (by show w.heap.size < w.heap.size + 1 + 1; omega) _) (by omega)) (by omega)
 ·rw [HO.out.1]
  exact ownsRow_base (own_set4 (own_set o4 (p := ⟨w.heap.size, 3, none⟩) (by show w.heap.size < w.heap.size + 1 + 1; omega) _) (by omega)) (by omega)
 ·exact below_set4 ((below_trans (below_sa BY.out (p := ⟨w.heap.size, 2, none⟩) zR BY.out.size) b4).setCell zR _) (by omega)
end Go.Proofs.YtmenmibfkojnoaaGreat
