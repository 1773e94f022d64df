/- Contracts of CommutationAxis (spec and impl). Nothing is asked. Contracts of GatesCommute (spec and impl). Nothing is asked. Contracts of InverseGate, mod8 and l32Rest. Contracts of IsClifford, AllClifford, GateCost (spec and impl). The lists have at most 2^40 gates. -/
import Derived.Test.YtmenmibfkojnoaaGreatV03
import Derived.Test.YtmenmibfkojnoaaGreatV01
import Derived.Test.YtmenmibfkojnoaaGreatV02
import Derived.StillTailTactics
set_option maxHeartbeats 16000000
namespace Go.Proofs.YtmenmibfkojnoaaGreat
open Go.RowKit
def axis (k a b c q:Int):Int :=
 if acts k a b c q=false then 0 else if units k ≠ 0 ∨ k=10 ∨ k=9/\q=a ∨ k=12/\q ≠ c then 3 else if k=1 ∨ k=9 ∨ k=12 then 1 else 2
theorem axis_no {k a b c q:Int} (h:acts k a b c q=false):axis k a b c q=0:=by unfold axis;rw [if_pos h]
theorem axis_3 {k a b c q:Int} (h:acts k a b c q=true) (h2:units k ≠ 0 ∨ k=10 ∨ k=9/\q=a ∨ k=12/\q ≠ c):axis k a b c q=3:=by unfold axis;rw [if_neg (by simp [h]),if_pos h2]
theorem axis_1 {k a b c q:Int} (h:acts k a b c q=true) (h2:¬ (units k ≠ 0 ∨ k=10 ∨ k=9/\q=a ∨ k=12/\q ≠ c)) (h3:k=1 ∨ k=9 ∨ k=12):axis k a b c q=1:=by
 unfold axis;rw [if_neg (by simp [h]),if_neg h2,if_pos h3]
theorem axis_2 {k a b c q:Int} (h:acts k a b c q=true) (h2:¬ (units k ≠ 0 ∨ k=10 ∨ k=9/\q=a ∨ k=12/\q ≠ c)) (h3:¬ (k=1 ∨ k=9 ∨ k=12)):axis k a b c q=2:=by
 unfold axis;rw [if_neg (by simp [h]),if_neg h2,if_neg h3]
theorem axis_bd (k a b c q:Int):0<=axis k a b c q/\axis k a b c q<=3:=by
 unfold axis
 split
 ·omega
 ·split
  ·omega
  ·split<;>omega
theorem s_CommutationAxis (k a b c q:Int) (w:World):Calls Tryz.prog 177 #[.agg #[.int .i64 k,.int .i64 a,.int .i64 b,.int .i64 c],.int .i64 q] w fun e w'=>e=.returned (.int .i64 (axis k a b c q))/\Below w.heap.size w w':=by
 cases hA:acts k a b c q
 ·have HA:=zH hA
  have HF:=zH (axis_no hA)
  clear hA
  go_enter Tryz.func177,Tryz.ntmps177
  go_wp2_with fail
  refine (s_ActsOn _ _ _ _ _ _).mono ?_
  rintro e w1 ⟨rfl,b1⟩
  rw [HA.out]
  obtain ⟨q0,q1,q2,q3,_,_,_,_⟩:=((Bx.new w 39 #[.int .i64 k,.int .i64 a,.int .i64 b,.int .i64 c]).below b1).four
  go_wp2_with fail
  go_ret
  exact ⟨ret_int HF.out.symm,below_alloc b1⟩
 ·have HA:=zH hA
  by_cases hu:units k=0
  ·have HU:=zH hu
   by_cases h10:k=10
   ·subst h10
    have HF:=zH (axis_3 hA (.inr (.inl rfl)))
    clear hA hu
    go_enter Tryz.func177,Tryz.ntmps177
    go_wp2_with fail
    refine (s_ActsOn _ _ _ _ _ _).mono ?_
    rintro e w1 ⟨rfl,b1⟩
    rw [HA.out]
    obtain ⟨q0,q1,q2,q3,_,_,_,_⟩:=((Bx.new w 39 #[.int .i64 10,.int .i64 a,.int .i64 b,.int .i64 c]).below b1).four
    go_wp2_with fail
    refine (s_RotationUnits _ _).mono ?_
    rintro e w2 ⟨rfl,rfl⟩
    rw [HU.out]
    go_wp2_with fail
    go_ret
    exact ⟨ret_int HF.out.symm,below_alloc b1⟩
   by_cases h9:k=9
   ·subst h9
    by_cases hq:q=a
    ·subst hq
     have HF:=zH (axis_3 hA (.inr (.inr (.inl ⟨rfl,rfl⟩))))
     clear hA hu h10
     go_enter Tryz.func177,Tryz.ntmps177
     go_wp2_with fail
     refine (s_ActsOn _ _ _ _ _ _).mono ?_
     rintro e w1 ⟨rfl,b1⟩
     rw [HA.out]
     obtain ⟨q0,q1,q2,q3,_,_,_,_⟩:=((Bx.new w 39 #[.int .i64 9,.int .i64 q,.int .i64 b,.int .i64 c]).below b1).four
     go_wp2_with fail
     refine (s_RotationUnits _ _).mono ?_
     rintro e w2 ⟨rfl,rfl⟩
     rw [HU.out]
     go_wp2_with fail
     go_ret
     exact ⟨ret_int HF.out.symm,below_alloc b1⟩
    ·have HF:=zH (axis_1 hA (by omega) (.inr (.inl rfl)))
     have e1:(q == a)=false:=by simpa using hq
     clear hA hu h10 hq
     go_enter Tryz.func177,Tryz.ntmps177
     go_wp2_with fail
     refine (s_ActsOn _ _ _ _ _ _).mono ?_
     rintro e w1 ⟨rfl,b1⟩
     rw [HA.out]
     obtain ⟨q0,q1,q2,q3,_,_,_,_⟩:=((Bx.new w 39 #[.int .i64 9,.int .i64 a,.int .i64 b,.int .i64 c]).below b1).four
     go_wp2_with fail
     refine (s_RotationUnits _ _).mono ?_
     rintro e w2 ⟨rfl,rfl⟩
     rw [HU.out]
     go_wp2_with fail
     go_ret
     exact ⟨ret_int HF.out.symm,below_alloc b1⟩
   by_cases h12:k=12
   ·subst h12
    by_cases hq:q=c
    ·subst hq
     have HF:=zH (axis_1 hA (by omega) (.inr (.inr rfl)))
     clear hA hu h10 h9
     go_enter Tryz.func177,Tryz.ntmps177
     go_wp2_with fail
     refine (s_ActsOn _ _ _ _ _ _).mono ?_
     rintro e w1 ⟨rfl,b1⟩
     rw [HA.out]
     obtain ⟨q0,q1,q2,q3,_,_,_,_⟩:=((Bx.new w 39 #[.int .i64 12,.int .i64 a,.int .i64 b,.int .i64 q]).below b1).four
     go_wp2_with fail
     refine (s_RotationUnits _ _).mono ?_
     rintro e w2 ⟨rfl,rfl⟩
     rw [HU.out]
     go_wp2_with fail
     go_ret
     exact ⟨ret_int HF.out.symm,below_alloc b1⟩
    ·have HF:=zH (axis_3 hA (.inr (.inr (.inr ⟨rfl,hq⟩))))
     have e1:(q != c)=true:=by simpa using hq
     clear hA hu h10 h9 hq
     go_enter Tryz.func177,Tryz.ntmps177
     go_wp2_with fail
     refine (s_ActsOn _ _ _ _ _ _).mono ?_
     rintro e w1 ⟨rfl,b1⟩
     rw [HA.out]
     obtain ⟨q0,q1,q2,q3,_,_,_,_⟩:=((Bx.new w 39 #[.int .i64 12,.int .i64 a,.int .i64 b,.int .i64 c]).below b1).four
     go_wp2_with fail
     refine (s_RotationUnits _ _).mono ?_
     rintro e w2 ⟨rfl,rfl⟩
     rw [HU.out]
     go_wp2_with fail
     go_ret
     exact ⟨ret_int HF.out.symm,below_alloc b1⟩
   by_cases h1:k=1
   ·subst h1
    have HF:=zH (axis_1 hA (by omega) (.inl rfl))
    clear hA hu h10 h9 h12
    go_enter Tryz.func177,Tryz.ntmps177
    go_wp2_with fail
    refine (s_ActsOn _ _ _ _ _ _).mono ?_
    rintro e w1 ⟨rfl,b1⟩
    rw [HA.out]
    obtain ⟨q0,q1,q2,q3,_,_,_,_⟩:=((Bx.new w 39 #[.int .i64 1,.int .i64 a,.int .i64 b,.int .i64 c]).below b1).four
    go_wp2_with fail
    refine (s_RotationUnits _ _).mono ?_
    rintro e w2 ⟨rfl,rfl⟩
    rw [HU.out]
    go_wp2_with fail
    go_ret
    exact ⟨ret_int HF.out.symm,below_alloc b1⟩
   have HF:=zH (axis_2 hA (by omega) (by omega))
   have e10:(k == 10)=false:=by simpa using h10
   have e9:(k == 9)=false:=by simpa using h9
   have e12:(k == 12)=false:=by simpa using h12
   have e1:(k == 1)=false:=by simpa using h1
   clear hA hu h10 h9 h12 h1
   go_enter Tryz.func177,Tryz.ntmps177
   go_wp2_with fail
   refine (s_ActsOn _ _ _ _ _ _).mono ?_
   rintro e w1 ⟨rfl,b1⟩
   rw [HA.out]
   obtain ⟨q0,q1,q2,q3,_,_,_,_⟩:=((Bx.new w 39 #[.int .i64 k,.int .i64 a,.int .i64 b,.int .i64 c]).below b1).four
   go_wp2_with fail
   refine (s_RotationUnits _ _).mono ?_
   rintro e w2 ⟨rfl,rfl⟩
   rw [HU.out]
   go_wp2_with fail
   go_ret
   exact ⟨ret_int HF.out.symm,below_alloc b1⟩
  ·have HF:=zH (axis_3 hA (.inl hu))
   have hub:=units_bd k
   have hu1:1<=units k:=by omega
   have hu2:(units k != 0)=true:=by simpa using hu
   clear hA hu hub
   go_enter Tryz.func177,Tryz.ntmps177
   go_wp2_with fail
   refine (s_ActsOn _ _ _ _ _ _).mono ?_
   rintro e w1 ⟨rfl,b1⟩
   rw [HA.out]
   obtain ⟨q0,q1,q2,q3,_,_,_,_⟩:=((Bx.new w 39 #[.int .i64 k,.int .i64 a,.int .i64 b,.int .i64 c]).below b1).four
   go_wp2_with fail
   refine (s_RotationUnits _ _).mono ?_
   rintro e w2 ⟨rfl,rfl⟩
   go_wp2_with fail
   go_ret
   exact ⟨ret_int HF.out.symm,below_alloc b1⟩
theorem i_CommutationAxis (k a b c q:Int) (w:World):Calls Tryz.prog 128 #[.agg #[.int .i64 k,.int .i64 a,.int .i64 b,.int .i64 c],.int .i64 q] w fun e w'=>e=.returned (.int .i64 (axis k a b c q))/\Below w.heap.size w w':=by
 cases hA:acts k a b c q
 ·have HA:=zH hA
  have HF:=zH (axis_no hA)
  clear hA
  go_enter Tryz.func128,Tryz.ntmps128
  go_wp2_with fail
  refine (i_ActsOn _ _ _ _ _ _).mono ?_
  rintro e w1 ⟨rfl,b1⟩
  rw [HA.out]
  obtain ⟨q0,q1,q2,q3,_,_,_,_⟩:=((Bx.new w 39 #[.int .i64 k,.int .i64 a,.int .i64 b,.int .i64 c]).below b1).four
  go_wp2_with fail
  go_ret
  exact ⟨ret_int HF.out.symm,below_alloc b1⟩
 ·have HA:=zH hA
  by_cases hu:units k=0
  ·have HU:=zH hu
   by_cases h10:k=10
   ·subst h10
    have HF:=zH (axis_3 hA (.inr (.inl rfl)))
    clear hA hu
    go_enter Tryz.func128,Tryz.ntmps128
    go_wp2_with fail
    refine (i_ActsOn _ _ _ _ _ _).mono ?_
    rintro e w1 ⟨rfl,b1⟩
    rw [HA.out]
    obtain ⟨q0,q1,q2,q3,_,_,_,_⟩:=((Bx.new w 39 #[.int .i64 10,.int .i64 a,.int .i64 b,.int .i64 c]).below b1).four
    go_wp2_with fail
    refine (i_RotationUnits _ _).mono ?_
    rintro e w2 ⟨rfl,rfl⟩
    rw [HU.out]
    go_wp2_with fail
    go_ret
    exact ⟨ret_int HF.out.symm,below_alloc b1⟩
   by_cases h9:k=9
   ·subst h9
    by_cases hq:q=a
    ·subst hq
     have HF:=zH (axis_3 hA (.inr (.inr (.inl ⟨rfl,rfl⟩))))
     clear hA hu h10
     go_enter Tryz.func128,Tryz.ntmps128
     go_wp2_with fail
     refine (i_ActsOn _ _ _ _ _ _).mono ?_
     rintro e w1 ⟨rfl,b1⟩
     rw [HA.out]
     obtain ⟨q0,q1,q2,q3,_,_,_,_⟩:=((Bx.new w 39 #[.int .i64 9,.int .i64 q,.int .i64 b,.int .i64 c]).below b1).four
     go_wp2_with fail
     refine (i_RotationUnits _ _).mono ?_
     rintro e w2 ⟨rfl,rfl⟩
     rw [HU.out]
     go_wp2_with fail
     go_ret
     exact ⟨ret_int HF.out.symm,below_alloc b1⟩
    ·have HF:=zH (axis_1 hA (by omega) (.inr (.inl rfl)))
     have e1:(q == a)=false:=by simpa using hq
     clear hA hu h10 hq
     go_enter Tryz.func128,Tryz.ntmps128
     go_wp2_with fail
     refine (i_ActsOn _ _ _ _ _ _).mono ?_
     rintro e w1 ⟨rfl,b1⟩
     rw [HA.out]
     obtain ⟨q0,q1,q2,q3,_,_,_,_⟩:=((Bx.new w 39 #[.int .i64 9,.int .i64 a,.int .i64 b,.int .i64 c]).below b1).four
     go_wp2_with fail
     refine (i_RotationUnits _ _).mono ?_
     rintro e w2 ⟨rfl,rfl⟩
     rw [HU.out]
     go_wp2_with fail
     go_ret
     exact ⟨ret_int HF.out.symm,below_alloc b1⟩
   by_cases h12:k=12
   ·subst h12
    by_cases hq:q=c
    ·subst hq
     have HF:=zH (axis_1 hA (by omega) (.inr (.inr rfl)))
     clear hA hu h10 h9
     go_enter Tryz.func128,Tryz.ntmps128
     go_wp2_with fail
     refine (i_ActsOn _ _ _ _ _ _).mono ?_
     rintro e w1 ⟨rfl,b1⟩
     rw [HA.out]
     obtain ⟨q0,q1,q2,q3,_,_,_,_⟩:=((Bx.new w 39 #[.int .i64 12,.int .i64 a,.int .i64 b,.int .i64 q]).below b1).four
     go_wp2_with fail
     refine (i_RotationUnits _ _).mono ?_
     rintro e w2 ⟨rfl,rfl⟩
     rw [HU.out]
     go_wp2_with fail
     go_ret
     exact ⟨ret_int HF.out.symm,below_alloc b1⟩
    ·have HF:=zH (axis_3 hA (.inr (.inr (.inr ⟨rfl,hq⟩))))
     have e1:(q != c)=true:=by simpa using hq
     clear hA hu h10 h9 hq
     go_enter Tryz.func128,Tryz.ntmps128
     go_wp2_with fail
     refine (i_ActsOn _ _ _ _ _ _).mono ?_
     rintro e w1 ⟨rfl,b1⟩
     rw [HA.out]
     obtain ⟨q0,q1,q2,q3,_,_,_,_⟩:=((Bx.new w 39 #[.int .i64 12,.int .i64 a,.int .i64 b,.int .i64 c]).below b1).four
     go_wp2_with fail
     refine (i_RotationUnits _ _).mono ?_
     rintro e w2 ⟨rfl,rfl⟩
     rw [HU.out]
     go_wp2_with fail
     go_ret
     exact ⟨ret_int HF.out.symm,below_alloc b1⟩
   by_cases h1:k=1
   ·subst h1
    have HF:=zH (axis_1 hA (by omega) (.inl rfl))
    clear hA hu h10 h9 h12
    go_enter Tryz.func128,Tryz.ntmps128
    go_wp2_with fail
    refine (i_ActsOn _ _ _ _ _ _).mono ?_
    rintro e w1 ⟨rfl,b1⟩
    rw [HA.out]
    obtain ⟨q0,q1,q2,q3,_,_,_,_⟩:=((Bx.new w 39 #[.int .i64 1,.int .i64 a,.int .i64 b,.int .i64 c]).below b1).four
    go_wp2_with fail
    refine (i_RotationUnits _ _).mono ?_
    rintro e w2 ⟨rfl,rfl⟩
    rw [HU.out]
    go_wp2_with fail
    go_ret
    exact ⟨ret_int HF.out.symm,below_alloc b1⟩
   have HF:=zH (axis_2 hA (by omega) (by omega))
   have e10:(k == 10)=false:=by simpa using h10
   have e9:(k == 9)=false:=by simpa using h9
   have e12:(k == 12)=false:=by simpa using h12
   have e1:(k == 1)=false:=by simpa using h1
   clear hA hu h10 h9 h12 h1
   go_enter Tryz.func128,Tryz.ntmps128
   go_wp2_with fail
   refine (i_ActsOn _ _ _ _ _ _).mono ?_
   rintro e w1 ⟨rfl,b1⟩
   rw [HA.out]
   obtain ⟨q0,q1,q2,q3,_,_,_,_⟩:=((Bx.new w 39 #[.int .i64 k,.int .i64 a,.int .i64 b,.int .i64 c]).below b1).four
   go_wp2_with fail
   refine (i_RotationUnits _ _).mono ?_
   rintro e w2 ⟨rfl,rfl⟩
   rw [HU.out]
   go_wp2_with fail
   go_ret
   exact ⟨ret_int HF.out.symm,below_alloc b1⟩
  ·have HF:=zH (axis_3 hA (.inl hu))
   have hub:=units_bd k
   have hu1:1<=units k:=by omega
   have hu2:(units k != 0)=true:=by simpa using hu
   clear hA hu hub
   go_enter Tryz.func128,Tryz.ntmps128
   go_wp2_with fail
   refine (i_ActsOn _ _ _ _ _ _).mono ?_
   rintro e w1 ⟨rfl,b1⟩
   rw [HA.out]
   obtain ⟨q0,q1,q2,q3,_,_,_,_⟩:=((Bx.new w 39 #[.int .i64 k,.int .i64 a,.int .i64 b,.int .i64 c]).below b1).four
   go_wp2_with fail
   refine (i_RotationUnits _ _).mono ?_
   rintro e w2 ⟨rfl,rfl⟩
   go_wp2_with fail
   go_ret
   exact ⟨ret_int HF.out.symm,below_alloc b1⟩
def Gt.axis (g:Gt) (q:Int):Int:=Go.Proofs.YtmenmibfkojnoaaGreat.axis g.k g.a g.b g.c q
def Gt.qs (g:Gt):List Int:=gqn g.k g.a g.b g.c
def commQ (g h:Gt) (q:Int):Bool:=h.axis q == 0 || !(g.axis q != h.axis q || g.axis q == 2)
def comm (g h:Gt):Bool:=g.qs.all (commQ g h)
theorem axis_zero {k a b c q:Int} (h:acts k a b c q=true):1<=axis k a b c q:=by
 unfold axis
 rw [if_neg (by simp [h])]
 split
 ·omega
 ·split<;>omega
def CoSt (w:World) (g h:Gt) (A:Option Addr) (m:Nat) (wr:World):Prop :=
 Bx wr w.heap.size 39 #[.int .i64 g.k,.int .i64 g.a,.int .i64 g.b,.int .i64 g.c]/\Bx wr (w.heap.size+1) 39 #[.int .i64 h.k,.int .i64 h.a,.int .i64 h.b,.int .i64 h.c]/\RdI wr A m g.qs/\Below w.heap.size w wr
theorem CoSt.below {w wr w':World} {g h:Gt} {A:Option Addr} {m:Nat} (s:CoSt w g h A m wr) (hb:Below wr.heap.size wr w'):CoSt w g h A m w' :=
 ⟨s.1.below hb,s.2.1.below hb,s.2.2.1.below hb,s.2.2.2.trans (hb.mono s.2.2.2.size)⟩
theorem CoSt.drew {w wr:World} {g h:Gt} {A:Option Addr} {m:Nat} (s:CoSt w g h A m wr):CoSt w g h A m wr.drew:=⟨s.1,s.2.1,s.2.2.1,s.2.2.2.drew⟩
set_option maxRecDepth 100000 in
theorem s_GatesCommute (g h:Gt) (w:World):Calls Tryz.prog 142 #[.agg #[.int .i64 g.k,.int .i64 g.a,.int .i64 g.b,.int .i64 g.c],.agg #[.int .i64 h.k,.int .i64 h.a,.int .i64 h.b,.int .i64 h.c]] w fun e w'=>e=.returned (.bool (comm g h))/\Below w.heap.size w w':=by
 have hbd:=arity_bd g.k
 obtain ⟨m,hm⟩:∃ m,(arity g.k).toNat=m:=⟨_,rfl⟩
 have HM:=zH hm
 have hm3:m<=3:=by omega
 have HC:Hid (comm g h=g.qs.all (commQ g h)):=rfl
 have HQ:Hid (gqn g.k g.a g.b g.c=g.qs):=rfl
 obtain ⟨zs,hz⟩:∃ zs,g.qs=zs:=⟨_,rfl⟩
 have HZ:=zH hz
 clear hm hbd hz
 go_enter Tryz.func142,Tryz.ntmps142
 go_wp2_with fail
 refine (s_GateQubits _ _ _ _ _).mono ?_
 rintro e w1 ⟨A1,c1,rfl,r1,b1⟩
 rw [HM.out,HQ.out] at r1
 rw [HM.out]
 have x1:=((Bx.new w 39 #[.int .i64 g.k,.int .i64 g.a,.int .i64 g.b,.int .i64 g.c]).alloc (.cells #[.int .i64 h.k,.int .i64 h.a,.int .i64 h.b,.int .i64 h.c] 39)).below b1
 have x2:=(Bx.new (w.alloc (.cells #[.int .i64 g.k,.int .i64 g.a,.int .i64 g.b,.int .i64 g.c] 39)) 39 #[.int .i64 h.k,.int .i64 h.a,.int .i64 h.b,.int .i64 h.c]).below b1
 simp only [World.size_alloc] at x2
 have ST:Hid (CoSt w g h A1 m w1):=⟨x1,x2,r1,below_alloc (below_alloc b1)⟩
 clear x1 x2 r1 b1
 go_wp2_with fail
 go_loopg [6] m (fun j i wr=>∃ (k:Nat),k+j=m/\i=.int .i64 k/\(zs.drop k).all (commQ g h)=zs.all (commQ g h)/\CoSt w g h A1 m wr)
 case atStart=>exact ⟨0,by omega,rfl,by simp,ST.out⟩
 case round =>
  obtain ⟨k,hk,rfl,hx,st⟩:=hrel
  have HX:=zH hx
  have S:=zH st
  clear hx st ST
  by_cases hlt:k < m
  ·obtain ⟨b,off,q,rfl,hB,hd,c0⟩:=S.out.2.2.1.at_ hlt
   rw [HZ.out] at hd
   have HD:=zH hd
   clear hd
   obtain ⟨p0,p1,p2,p3,_,_,_,_⟩:=S.out.1.four
   obtain ⟨q0,q1,q2,q3,_,_,_,_⟩:=S.out.2.1.four
   have HA:Hid (axis g.k g.a g.b g.c q=g.axis q):=rfl
   have HB:Hid (axis h.k h.a h.b h.c q=h.axis q):=rfl
   have hga:0<=g.axis q:=(axis_bd g.k g.a g.b g.c q).1
   have hha:0<=h.axis q:=(axis_bd h.k h.a h.b h.c q).1
   have yes:commQ g h q=true->(zs.drop (k+1)).all (commQ g h)=zs.all (commQ g h):=fun hq=>by rw [<- HX.out,HD.out,List.all_cons,hq,Bool.true_and]
   have no:commQ g h q=false->comm g h=false:=fun hq=>by rw [HC.out,HZ.out,<- HX.out,HD.out,List.all_cons,hq,Bool.false_and]
   have YES:=zH yes
   have NO:=zH no
   clear yes no
   by_cases h0:h.axis q=0
   ·have e0:(h.axis q != 0)=false:=by simpa using h0
    have E0:=zH h0
    clear h0
    go_wp2_with fail
    go_still_tail 5,(by kernel_rfl)
    go_wp2_with fail
    refine (s_CommutationAxis _ _ _ _ _ _).mono ?_
    rintro e w2 ⟨rfl,b2⟩
    rw [HA.out]
    have S2:=S.out.drew.below b2
    obtain ⟨_,_,_,_,_,_,_,_⟩:=S2.1.four
    obtain ⟨r0,r1,r2,r3,_,_,_,_⟩:=S2.2.1.four
    have cc:=(b2.cell (p:=⟨b,off+k,none⟩) hB).trans c0
    go_wp2_with fail
    go_still_tail 5,(by kernel_rfl)
    go_wp2_with fail
    refine (s_CommutationAxis _ _ _ _ _ _).mono ?_
    rintro e w3 ⟨rfl,b3⟩
    rw [HB.out]
    have S3:=S2.drew.below b3
    go_wp2_with fail
    go_roundg (gk - 1)
    case measure=>omega
    case rel=>exact ⟨k+1,by omega,by go_num,YES.out (by unfold commQ;simp [E0.out]),S3⟩
   have e0:(h.axis q != 0)=true:=by simpa using h0
   by_cases h1:g.axis q=h.axis q
   ·have e1:(g.axis q != h.axis q)=false:=by simpa using h1
    have E1:=zH h1
    clear h1
    by_cases h2:g.axis q=2
    ·have e2:(g.axis q == 2)=true:=by simpa using h2
     have E2:=zH h2
     clear h2
     go_wp2_with fail
     go_still_tail 5,(by kernel_rfl)
     go_wp2_with fail
     refine (s_CommutationAxis _ _ _ _ _ _).mono ?_
     rintro e w2 ⟨rfl,b2⟩
     rw [HA.out]
     have S2:=S.out.drew.below b2
     obtain ⟨_,_,_,_,_,_,_,_⟩:=S2.1.four
     obtain ⟨r0,r1,r2,r3,_,_,_,_⟩:=S2.2.1.four
     have cc:=(b2.cell (p:=⟨b,off+k,none⟩) hB).trans c0
     go_wp2_with fail
     go_still_tail 5,(by kernel_rfl)
     go_wp2_with fail
     refine (s_CommutationAxis _ _ _ _ _ _).mono ?_
     rintro e w3 ⟨rfl,b3⟩
     rw [HB.out]
     have S3:=S2.drew.below b3
     go_wp2_with fail
     go_ret
     exact ⟨ret_bool (NO.out (by unfold commQ;simp [e1,e2];omega)).symm,S3.2.2.2⟩
    ·have e2:(g.axis q == 2)=false:=by simpa using h2
     clear h2
     go_wp2_with fail
     go_still_tail 5,(by kernel_rfl)
     go_wp2_with fail
     refine (s_CommutationAxis _ _ _ _ _ _).mono ?_
     rintro e w2 ⟨rfl,b2⟩
     rw [HA.out]
     have S2:=S.out.drew.below b2
     obtain ⟨_,_,_,_,_,_,_,_⟩:=S2.1.four
     obtain ⟨r0,r1,r2,r3,_,_,_,_⟩:=S2.2.1.four
     have cc:=(b2.cell (p:=⟨b,off+k,none⟩) hB).trans c0
     go_wp2_with fail
     go_still_tail 5,(by kernel_rfl)
     go_wp2_with fail
     refine (s_CommutationAxis _ _ _ _ _ _).mono ?_
     rintro e w3 ⟨rfl,b3⟩
     rw [HB.out]
     have S3:=S2.drew.below b3
     go_wp2_with fail
     go_roundg (gk - 1)
     case measure=>omega
     case rel=>exact ⟨k+1,by omega,by go_num,YES.out (by unfold commQ;simp [e1,e2]),S3⟩
   ·have e1:(g.axis q != h.axis q)=true:=by simpa using h1
    clear h1
    go_wp2_with fail
    go_still_tail 5,(by kernel_rfl)
    go_wp2_with fail
    refine (s_CommutationAxis _ _ _ _ _ _).mono ?_
    rintro e w2 ⟨rfl,b2⟩
    rw [HA.out]
    have S2:=S.out.drew.below b2
    obtain ⟨_,_,_,_,_,_,_,_⟩:=S2.1.four
    obtain ⟨r0,r1,r2,r3,_,_,_,_⟩:=S2.2.1.four
    have cc:=(b2.cell (p:=⟨b,off+k,none⟩) hB).trans c0
    go_wp2_with fail
    go_still_tail 5,(by kernel_rfl)
    go_wp2_with fail
    refine (s_CommutationAxis _ _ _ _ _ _).mono ?_
    rintro e w3 ⟨rfl,b3⟩
    rw [HB.out]
    have S3:=S2.drew.below b3
    go_wp2_with fail
    go_ret
    exact ⟨ret_bool (NO.out (by unfold commQ;simp [e1];omega)).symm,S3.2.2.2⟩
  ·go_wp2_with fail
   go_ret
   exact ⟨ret_bool (by rw [HC.out,HZ.out,<- HX.out,List.drop_eq_nil_of_le (by have:=S.out.2.2.1.1;rw [HZ.out] at this;omega)];rfl),S.out.2.2.2⟩
set_option maxRecDepth 100000 in
theorem i_GatesCommute (g h:Gt) (w:World):Calls Tryz.prog 84 #[.agg #[.int .i64 g.k,.int .i64 g.a,.int .i64 g.b,.int .i64 g.c],.agg #[.int .i64 h.k,.int .i64 h.a,.int .i64 h.b,.int .i64 h.c]] w fun e w'=>e=.returned (.bool (comm g h))/\Below w.heap.size w w':=by
 have hbd:=arity_bd g.k
 obtain ⟨m,hm⟩:∃ m,(arity g.k).toNat=m:=⟨_,rfl⟩
 have HM:=zH hm
 have hm3:m<=3:=by omega
 have HC:Hid (comm g h=g.qs.all (commQ g h)):=rfl
 have HQ:Hid (gqn g.k g.a g.b g.c=g.qs):=rfl
 obtain ⟨zs,hz⟩:∃ zs,g.qs=zs:=⟨_,rfl⟩
 have HZ:=zH hz
 clear hm hbd hz
 go_enter Tryz.func84,Tryz.ntmps84
 go_wp2_with fail
 refine (i_GateQubits _ _ _ _ _).mono ?_
 rintro e w1 ⟨A1,c1,rfl,r1,b1⟩
 rw [HM.out,HQ.out] at r1
 rw [HM.out]
 have x1:=((Bx.new w 39 #[.int .i64 g.k,.int .i64 g.a,.int .i64 g.b,.int .i64 g.c]).alloc (.cells #[.int .i64 h.k,.int .i64 h.a,.int .i64 h.b,.int .i64 h.c] 39)).below b1
 have x2:=(Bx.new (w.alloc (.cells #[.int .i64 g.k,.int .i64 g.a,.int .i64 g.b,.int .i64 g.c] 39)) 39 #[.int .i64 h.k,.int .i64 h.a,.int .i64 h.b,.int .i64 h.c]).below b1
 simp only [World.size_alloc] at x2
 have ST:Hid (CoSt w g h A1 m w1):=⟨x1,x2,r1,below_alloc (below_alloc b1)⟩
 clear x1 x2 r1 b1
 go_wp2_with fail
 go_loopg [11] m (fun j i wr=>∃ (k:Nat),k+j=m/\i=.int .i64 k/\(zs.drop k).all (commQ g h)=zs.all (commQ g h)/\CoSt w g h A1 m wr)
 case atStart=>exact ⟨0,by omega,rfl,by simp,ST.out⟩
 case round =>
  obtain ⟨k,hk,rfl,hx,st⟩:=hrel
  have HX:=zH hx
  have S:=zH st
  clear hx st ST
  by_cases hlt:k < m
  ·obtain ⟨b,off,q,rfl,hB,hd,c0⟩:=S.out.2.2.1.at_ hlt
   rw [HZ.out] at hd
   have HD:=zH hd
   clear hd
   obtain ⟨p0,p1,p2,p3,_,_,_,_⟩:=S.out.1.four
   obtain ⟨q0,q1,q2,q3,_,_,_,_⟩:=S.out.2.1.four
   have HA:Hid (axis g.k g.a g.b g.c q=g.axis q):=rfl
   have HB:Hid (axis h.k h.a h.b h.c q=h.axis q):=rfl
   have hga:0<=g.axis q:=(axis_bd g.k g.a g.b g.c q).1
   have hha:0<=h.axis q:=(axis_bd h.k h.a h.b h.c q).1
   have yes:commQ g h q=true->(zs.drop (k+1)).all (commQ g h)=zs.all (commQ g h):=fun hq=>by rw [<- HX.out,HD.out,List.all_cons,hq,Bool.true_and]
   have no:commQ g h q=false->comm g h=false:=fun hq=>by rw [HC.out,HZ.out,<- HX.out,HD.out,List.all_cons,hq,Bool.false_and]
   have YES:=zH yes
   have NO:=zH no
   clear yes no
   cases hac:acts h.k h.a h.b h.c q
   ·have HAC:=zH hac
    have E0:=zH (axis_no hac)
    clear hac
    go_wp2_with fail
    refine (i_ActsOn _ _ _ _ _ _).mono ?_
    rintro e w2 ⟨rfl,b2⟩
    rw [HAC.out]
    have S2:=S.out.below b2
    obtain ⟨u0,u1,u2,u3,_,_,_,_⟩:=S2.1.four
    obtain ⟨v0,v1,v2,v3,_,_,_,_⟩:=S2.2.1.four
    go_wp2_with fail
    go_roundg (gk - 1)
    case measure=>omega
    case rel=>exact ⟨k+1,by omega,by go_num,YES.out (by unfold commQ;rw [show h.axis q=0 from E0.out];simp),S2⟩
   ·have HAC:=zH hac
    have h0:1<=h.axis q:=axis_zero hac
    have e0:(h.axis q == 0)=false:=by simp;omega
    clear hac
    by_cases h2:g.axis q=2
    ·have e2:(g.axis q == 2)=true:=by simpa using h2
     clear h2
     go_wp2_with fail
     refine (i_ActsOn _ _ _ _ _ _).mono ?_
     rintro e w2 ⟨rfl,b2⟩
     rw [HAC.out]
     have S2:=S.out.below b2
     obtain ⟨u0,u1,u2,u3,_,_,_,_⟩:=S2.1.four
     obtain ⟨v0,v1,v2,v3,_,_,_,_⟩:=S2.2.1.four
     go_wp2_with fail
     refine (i_CommutationAxis _ _ _ _ _ _).mono ?_
     rintro e w3 ⟨rfl,b3⟩
     rw [HA.out]
     have S3:=S2.below b3
     obtain ⟨x0,x1,x2,x3,_,_,_,_⟩:=S3.1.four
     obtain ⟨y0,y1,y2,y3,_,_,_,_⟩:=S3.2.1.four
     go_wp2_with fail
     go_ret
     exact ⟨ret_bool (NO.out (by unfold commQ;simp [e0,e2])).symm,S3.2.2.2⟩
    ·have e2:(g.axis q == 2)=false:=by simpa using h2
     clear h2
     by_cases h1:g.axis q=h.axis q
     ·have e1:(g.axis q != h.axis q)=false:=by simpa using h1
      clear h1
      go_wp2_with fail
      refine (i_ActsOn _ _ _ _ _ _).mono ?_
      rintro e w2 ⟨rfl,b2⟩
      rw [HAC.out]
      have S2:=S.out.below b2
      obtain ⟨u0,u1,u2,u3,_,_,_,_⟩:=S2.1.four
      obtain ⟨v0,v1,v2,v3,_,_,_,_⟩:=S2.2.1.four
      go_wp2_with fail
      refine (i_CommutationAxis _ _ _ _ _ _).mono ?_
      rintro e w3 ⟨rfl,b3⟩
      rw [HA.out]
      have S3:=S2.below b3
      obtain ⟨x0,x1,x2,x3,_,_,_,_⟩:=S3.1.four
      obtain ⟨y0,y1,y2,y3,_,_,_,_⟩:=S3.2.1.four
      go_wp2_with fail
      refine (i_CommutationAxis _ _ _ _ _ _).mono ?_
      rintro e w4 ⟨rfl,b4⟩
      rw [HB.out]
      have S4:=S3.below b4
      go_wp2_with fail
      go_roundg (gk - 1)
      case measure=>omega
      case rel=>exact ⟨k+1,by omega,by go_num,YES.out (by unfold commQ;simp [e1,e2]),S4⟩
     ·have e1:(g.axis q != h.axis q)=true:=by simpa using h1
      clear h1
      go_wp2_with fail
      refine (i_ActsOn _ _ _ _ _ _).mono ?_
      rintro e w2 ⟨rfl,b2⟩
      rw [HAC.out]
      have S2:=S.out.below b2
      obtain ⟨u0,u1,u2,u3,_,_,_,_⟩:=S2.1.four
      obtain ⟨v0,v1,v2,v3,_,_,_,_⟩:=S2.2.1.four
      go_wp2_with fail
      refine (i_CommutationAxis _ _ _ _ _ _).mono ?_
      rintro e w3 ⟨rfl,b3⟩
      rw [HA.out]
      have S3:=S2.below b3
      obtain ⟨x0,x1,x2,x3,_,_,_,_⟩:=S3.1.four
      obtain ⟨y0,y1,y2,y3,_,_,_,_⟩:=S3.2.1.four
      go_wp2_with fail
      refine (i_CommutationAxis _ _ _ _ _ _).mono ?_
      rintro e w4 ⟨rfl,b4⟩
      rw [HB.out]
      have S4:=S3.below b4
      go_wp2_with fail
      go_ret
      exact ⟨ret_bool (NO.out (by unfold commQ;simp [e0,e1])).symm,S4.2.2.2⟩
  ·go_wp2_with fail
   go_ret
   exact ⟨ret_bool (by rw [HC.out,HZ.out,<- HX.out,List.drop_eq_nil_of_le (by have:=S.out.2.2.1.1;rw [HZ.out] at this;omega)];rfl),S.out.2.2.2⟩
def invK (k:Int):Int:=if k=5 then 6 else if k=6 then 5 else if k=7 then 8 else if k=8 then 7 else k
theorem invK_cases (k:Int):(k=5/\invK k=6) ∨ (k=6/\invK k=5) ∨ (k=7/\invK k=8) ∨ (k=8/\invK k=7) ∨ (k ≠ 5/\k ≠ 6/\k ≠ 7/\k ≠ 8/\invK k=k):=by
 unfold invK
 by_cases h5:k=5
 ·simp [h5]
 ·by_cases h6:k=6
  ·simp [h6]
  ·by_cases h7:k=7
   ·simp [h7]
   ·by_cases h8:k=8
    ·simp [h8]
    ·simp [h5,h6,h7,h8]
theorem s_InverseGate (k a b c:Int) (w:World):Calls Tryz.prog 154 #[.agg #[.int .i64 k,.int .i64 a,.int .i64 b,.int .i64 c]] w fun e w'=>e=.returned (.agg #[.int .i64 (invK k),.int .i64 a,.int .i64 b,.int .i64 c])/\Below w.heap.size w w':=by
 rcases invK_cases k with ⟨rfl,h⟩ | ⟨rfl,h⟩ | ⟨rfl,h⟩ | ⟨rfl,h⟩ | ⟨h5,h6,h7,h8,h⟩
 ·rw [h]
  clear h
  go_enter Tryz.func154,Tryz.ntmps154
  go_wp2
  exact bodyPost_ret (v:=.agg #[.int .i64 6,.int .i64 a,.int .i64 b,.int .i64 c]) (by simp [results,Tryz.results154,go_sem]) rfl ⟨rfl,(by repeat (first | exact zW | assumption | refine Below.drew ?_ | refine Below.alloc ?_ (by simp<;>omega) _))⟩
 ·rw [h]
  clear h
  go_enter Tryz.func154,Tryz.ntmps154
  go_wp2
  exact bodyPost_ret (v:=.agg #[.int .i64 5,.int .i64 a,.int .i64 b,.int .i64 c]) (by simp [results,Tryz.results154,go_sem]) rfl ⟨rfl,(by repeat (first | exact zW | assumption | refine Below.drew ?_ | refine Below.alloc ?_ (by simp<;>omega) _))⟩
 ·rw [h]
  clear h
  go_enter Tryz.func154,Tryz.ntmps154
  go_wp2
  exact bodyPost_ret (v:=.agg #[.int .i64 8,.int .i64 a,.int .i64 b,.int .i64 c]) (by simp [results,Tryz.results154,go_sem]) rfl ⟨rfl,(by repeat (first | exact zW | assumption | refine Below.drew ?_ | refine Below.alloc ?_ (by simp<;>omega) _))⟩
 ·rw [h]
  clear h
  go_enter Tryz.func154,Tryz.ntmps154
  go_wp2
  exact bodyPost_ret (v:=.agg #[.int .i64 7,.int .i64 a,.int .i64 b,.int .i64 c]) (by simp [results,Tryz.results154,go_sem]) rfl ⟨rfl,(by repeat (first | exact zW | assumption | refine Below.drew ?_ | refine Below.alloc ?_ (by simp<;>omega) _))⟩
 ·rw [h]
  clear h
  go_enter Tryz.func154,Tryz.ntmps154
  go_wp2
  exact bodyPost_ret (v:=.agg #[.int .i64 k,.int .i64 a,.int .i64 b,.int .i64 c]) (by simp [results,Tryz.results154,go_sem]) rfl ⟨rfl,(by repeat (first | exact zW | assumption | refine Below.drew ?_ | refine Below.alloc ?_ (by simp<;>omega) _))⟩
theorem i_InverseGate (k a b c:Int) (w:World):Calls Tryz.prog 126 #[.agg #[.int .i64 k,.int .i64 a,.int .i64 b,.int .i64 c]] w fun e w'=>e=.returned (.agg #[.int .i64 (invK k),.int .i64 a,.int .i64 b,.int .i64 c])/\Below w.heap.size w w':=by
 rcases invK_cases k with ⟨rfl,h⟩ | ⟨rfl,h⟩ | ⟨rfl,h⟩ | ⟨rfl,h⟩ | ⟨h5,h6,h7,h8,h⟩
 ·rw [h]
  clear h
  go_enter Tryz.func126,Tryz.ntmps126
  go_wp2
  exact bodyPost_ret (v:=.agg #[.int .i64 6,.int .i64 a,.int .i64 b,.int .i64 c]) (by simp [results,Tryz.results126,go_sem]) rfl ⟨rfl,(by repeat (first | exact zW | assumption | refine Below.drew ?_ | refine Below.alloc ?_ (by simp<;>omega) _))⟩
 ·rw [h]
  clear h
  go_enter Tryz.func126,Tryz.ntmps126
  go_wp2
  exact bodyPost_ret (v:=.agg #[.int .i64 5,.int .i64 a,.int .i64 b,.int .i64 c]) (by simp [results,Tryz.results126,go_sem]) rfl ⟨rfl,(by repeat (first | exact zW | assumption | refine Below.drew ?_ | refine Below.alloc ?_ (by simp<;>omega) _))⟩
 ·rw [h]
  clear h
  go_enter Tryz.func126,Tryz.ntmps126
  go_wp2
  exact bodyPost_ret (v:=.agg #[.int .i64 8,.int .i64 a,.int .i64 b,.int .i64 c]) (by simp [results,Tryz.results126,go_sem]) rfl ⟨rfl,(by repeat (first | exact zW | assumption | refine Below.drew ?_ | refine Below.alloc ?_ (by simp<;>omega) _))⟩
 ·rw [h]
  clear h
  go_enter Tryz.func126,Tryz.ntmps126
  go_wp2
  exact bodyPost_ret (v:=.agg #[.int .i64 7,.int .i64 a,.int .i64 b,.int .i64 c]) (by simp [results,Tryz.results126,go_sem]) rfl ⟨rfl,(by repeat (first | exact zW | assumption | refine Below.drew ?_ | refine Below.alloc ?_ (by simp<;>omega) _))⟩
 ·rw [h]
  clear h
  go_enter Tryz.func126,Tryz.ntmps126
  go_wp2
  exact bodyPost_ret (v:=.agg #[.int .i64 k,.int .i64 a,.int .i64 b,.int .i64 c]) (by simp [results,Tryz.results126,go_sem]) rfl ⟨rfl,(by repeat (first | exact zW | assumption | refine Below.drew ?_ | refine Below.alloc ?_ (by simp<;>omega) _))⟩
theorem tmod8 (n:Int) : -8 < n.tmod 8/\n.tmod 8 < 8/\(0<=n.tmod 8->n.tmod 8=n % 8)/\(n.tmod 8 < 0->n.tmod 8+8=n % 8):=by
 have h:=Int.tmod_eq_emod (a:=n) (b:=8)
 have h1:=Int.emod_nonneg n (show (8:Int) ≠ 0 by omega)
 have h2:=Int.emod_lt_of_pos n (show (0:Int) < 8 by omega)
 split at h<;>simp at h<;>omega
theorem s_l32Rest (n:Int) (w:World):Calls Tryz.prog 58 #[.int .i64 n] w fun e w'=>e=.returned (.int .i64 (n % 8))/\w=w':=by
 obtain ⟨h1,h2,h3,h4⟩:=tmod8 n
 obtain ⟨r,hr⟩:∃ r,n.tmod 8=r:=⟨_,rfl⟩
 rw [hr] at h1 h2 h3 h4
 by_cases h:r < 0
 ·go_enter Tryz.func58,Tryz.ntmps58
  go_wp2
  go_ret
  exact ⟨ret_int (by omega),rfl⟩
 ·go_enter Tryz.func58,Tryz.ntmps58
  go_wp2
  go_ret
  exact ⟨ret_int (by omega),rfl⟩
theorem i_mod8 (n:Int) (w:World):Calls Tryz.prog 43 #[.int .i64 n] w fun e w'=>e=.returned (.int .i64 (n % 8))/\w=w':=by
 obtain ⟨h1,h2,h3,h4⟩:=tmod8 n
 obtain ⟨r,hr⟩:∃ r,n.tmod 8=r:=⟨_,rfl⟩
 rw [hr] at h1 h2 h3 h4
 go_enter Tryz.func43,Tryz.ntmps43
 go_wp2
 go_ret
 exact ⟨ret_int (by omega),rfl⟩
def allCl (gs:List Gt):Bool:=gs.all fun g=>cliff g.k
def costK (k:Int):Int:=if k=7 ∨ k=8 then 1000 else if 9<=k/\k<=12 then 10 else 1
def cost:List Gt->Int
 |[]=>0
 |g :: r=>costK g.k+cost r
theorem costK_cases (k:Int):((k=7 ∨ k=8)/\costK k=1000) ∨ ((9<=k/\k<=12)/\costK k=10) ∨ ((k ≠ 7/\k ≠ 8/\(k < 9 ∨ 12 < k))/\costK k=1):=by
 unfold costK
 by_cases h:k=7 ∨ k=8
 ·rw [if_pos h];exact .inl ⟨h,rfl⟩
 ·rw [if_neg h]
  by_cases h2:9<=k/\k<=12
  ·rw [if_pos h2];exact .inr (.inl ⟨h2,rfl⟩)
  ·rw [if_neg h2];exact .inr (.inr ⟨by omega,rfl⟩)
theorem cost_bd (l:List Gt):0<=cost l/\cost l<=1000 * l.length:=by
 induction l with
 |nil=>simp [cost]
 |cons g r ih=>simp only [cost,List.length_cons];rcases costK_cases g.k with ⟨_,h⟩ | ⟨_,h⟩ | ⟨_,h⟩<;>omega
theorem cost_nil {l:List Gt} {k:Nat} (h:l.length<=k):cost (l.drop k)=0:=by rw [List.drop_eq_nil_of_le h];rfl
theorem s_IsClifford (k a b c:Int) (w:World) :
  Calls Tryz.prog 62 #[.agg #[.int .i64 k,.int .i64 a,.int .i64 b,.int .i64 c]] w fun e w'=>e=.returned (.bool (cliff k))/\Below w.heap.size w w':=by
 rcases arity_cases k with ⟨h1,h2,ha⟩ | ⟨h1,h2,ha⟩ | ⟨h1,ha⟩ | ⟨h1,ha⟩
 ·have HA:=zH ha
  clear ha
  by_cases h7:k=7
  ·subst h7
   go_enter Tryz.func62,Tryz.ntmps62
   go_wp2_with fail
   refine (s_Arity _ _).mono ?_
   rintro e w' ⟨rfl,rfl⟩
   rw [HA.out]
   go_wp2_with fail
   go_ret
   exact ⟨ret_bool rfl,(zW).alloc zR _⟩
  by_cases h8:k=8
  ·subst h8
   go_enter Tryz.func62,Tryz.ntmps62
   go_wp2_with fail
   refine (s_Arity _ _).mono ?_
   rintro e w' ⟨rfl,rfl⟩
   rw [HA.out]
   go_wp2_with fail
   go_ret
   exact ⟨ret_bool rfl,(zW).alloc zR _⟩
  have e7:(k != 7)=true:=by simpa using h7
  have e8:(k != 8)=true:=by simpa using h8
  have e12:(k != 12)=true:=by simp;omega
  have hv:=zH (cliff_t h1 (by omega) h7 h8)
  clear h7 h8
  go_enter Tryz.func62,Tryz.ntmps62
  go_wp2_with fail
  refine (s_Arity _ _).mono ?_
  rintro e w' ⟨rfl,rfl⟩
  rw [HA.out]
  go_wp2_with fail
  go_ret
  exact ⟨ret_bool hv.out.symm,(zW).alloc zR _⟩
 ·have HA:=zH ha
  clear ha
  have e7:(k != 7)=true:=by simp;omega
  have e8:(k != 8)=true:=by simp;omega
  have e12:(k != 12)=true:=by simp;omega
  have hv:=zH (cliff_t (k:=k) (by omega) h2 (by omega) (by omega))
  go_enter Tryz.func62,Tryz.ntmps62
  go_wp2_with fail
  refine (s_Arity _ _).mono ?_
  rintro e w' ⟨rfl,rfl⟩
  rw [HA.out]
  go_wp2_with fail
  go_ret
  exact ⟨ret_bool hv.out.symm,(zW).alloc zR _⟩
 ·have HA:=zH ha
  clear ha
  subst h1
  go_enter Tryz.func62,Tryz.ntmps62
  go_wp2_with fail
  refine (s_Arity _ _).mono ?_
  rintro e w' ⟨rfl,rfl⟩
  rw [HA.out]
  go_wp2_with fail
  go_ret
  exact ⟨ret_bool rfl,(zW).alloc zR _⟩
 ·have HA:=zH ha
  clear ha
  have hv:=zH (cliff_f (k:=k) (by omega))
  go_enter Tryz.func62,Tryz.ntmps62
  go_wp2_with fail
  refine (s_Arity _ _).mono ?_
  rintro e w' ⟨rfl,rfl⟩
  rw [HA.out]
  go_wp2_with fail
  go_ret
  exact ⟨ret_bool hv.out.symm,(zW).alloc zR _⟩
theorem i_IsClifford (k a b c:Int) (w:World) :
  Calls Tryz.prog 66 #[.agg #[.int .i64 k,.int .i64 a,.int .i64 b,.int .i64 c]] w fun e w'=>e=.returned (.bool (cliff k))/\Below w.heap.size w w':=by
 rcases arity_cases k with ⟨h1,h2,ha⟩ | ⟨h1,h2,ha⟩ | ⟨h1,ha⟩ | ⟨h1,ha⟩
 ·have HA:=zH ha
  clear ha
  by_cases h7:k=7
  ·subst h7
   go_enter Tryz.func66,Tryz.ntmps66
   go_wp2_with fail
   refine (i_Arity _ _).mono ?_
   rintro e w' ⟨rfl,rfl⟩
   rw [HA.out]
   go_wp2_with fail
   go_ret
   exact ⟨ret_bool rfl,(zW).alloc zR _⟩
  by_cases h8:k=8
  ·subst h8
   go_enter Tryz.func66,Tryz.ntmps66
   go_wp2_with fail
   refine (i_Arity _ _).mono ?_
   rintro e w' ⟨rfl,rfl⟩
   rw [HA.out]
   go_wp2_with fail
   go_ret
   exact ⟨ret_bool rfl,(zW).alloc zR _⟩
  have e7:(k != 7)=true:=by simpa using h7
  have e8:(k != 8)=true:=by simpa using h8
  have e12:(k != 12)=true:=by simp;omega
  have hv:=zH (cliff_t h1 (by omega) h7 h8)
  clear h7 h8
  go_enter Tryz.func66,Tryz.ntmps66
  go_wp2_with fail
  refine (i_Arity _ _).mono ?_
  rintro e w' ⟨rfl,rfl⟩
  rw [HA.out]
  go_wp2_with fail
  go_ret
  exact ⟨ret_bool hv.out.symm,(zW).alloc zR _⟩
 ·have HA:=zH ha
  clear ha
  have e7:(k != 7)=true:=by simp;omega
  have e8:(k != 8)=true:=by simp;omega
  have e12:(k != 12)=true:=by simp;omega
  have hv:=zH (cliff_t (k:=k) (by omega) h2 (by omega) (by omega))
  go_enter Tryz.func66,Tryz.ntmps66
  go_wp2_with fail
  refine (i_Arity _ _).mono ?_
  rintro e w' ⟨rfl,rfl⟩
  rw [HA.out]
  go_wp2_with fail
  go_ret
  exact ⟨ret_bool hv.out.symm,(zW).alloc zR _⟩
 ·have HA:=zH ha
  clear ha
  subst h1
  go_enter Tryz.func66,Tryz.ntmps66
  go_wp2_with fail
  refine (i_Arity _ _).mono ?_
  rintro e w' ⟨rfl,rfl⟩
  rw [HA.out]
  go_wp2_with fail
  go_ret
  exact ⟨ret_bool rfl,(zW).alloc zR _⟩
 ·have HA:=zH ha
  clear ha
  have hv:=zH (cliff_f (k:=k) (by omega))
  go_enter Tryz.func66,Tryz.ntmps66
  go_wp2_with fail
  refine (i_Arity _ _).mono ?_
  rintro e w' ⟨rfl,rfl⟩
  rw [HA.out]
  go_wp2_with fail
  go_ret
  exact ⟨ret_bool hv.out.symm,(zW).alloc zR _⟩
theorem s_AllClifford (A:Option Addr) (n cap:Nat) (gs:List Gt) (w:World) (h:RdG w A n gs) (hn:n<=1099511627776) :
  Calls Tryz.prog 31 #[.slice A n cap] w fun e w'=>e=.returned (.bool (allCl gs))/\Below w.heap.size w w':=by
 have H:=zH h
 clear h
 go_enter Tryz.func31,Tryz.ntmps31
 go_wp2
 go_loopg [3] n (fun m i wr=>∃ (k:Nat),k+m=n/\i=.int .i64 k/\allCl (gs.drop k)=allCl gs/\Below w.heap.size w wr)
 case atStart=>exact ⟨0,by omega,rfl,by simp,zW⟩
 case round =>
  obtain ⟨k,hk,rfl,hx,hb⟩:=hrel
  have HX:=zH hx
  clear hx
  by_cases hlt:k < n
  ·obtain ⟨b,off,g,rfl,hB,hd,c0,c1,c2,c3⟩:=(H.out.below hb).at_ hlt
   have HD:=zH hd
   clear hd
   cases hc:cliff g.k
   ·have HC:=zH hc
    clear hc
    go_wp2_with fail
    refine (s_IsClifford _ _ _ _ _).mono ?_
    rintro e w1 ⟨rfl,hb1⟩
    rw [HC.out]
    go_wp2_with fail
    go_ret
    exact ⟨ret_bool (by rw [<- HX.out,HD.out];simp [allCl,HC.out]),hb.trans (hb1.mono hb.size)⟩
   ·have HC:=zH hc
    clear hc
    go_wp2_with fail
    refine (s_IsClifford _ _ _ _ _).mono ?_
    rintro e w1 ⟨rfl,hb1⟩
    rw [HC.out]
    go_wp2_with fail
    go_roundg (gk - 1)
    case measure=>omega
    case rel=>exact ⟨k+1,by omega,by go_num,by rw [<- HX.out,HD.out];simp [allCl,HC.out],hb.trans (hb1.mono hb.size)⟩
  ·go_wp2_with fail
   go_ret
   exact ⟨ret_bool (by rw [<- HX.out,List.drop_eq_nil_of_le (by have:=H.out.1;omega)];rfl),hb⟩
theorem i_AllClifford (A:Option Addr) (n cap:Nat) (gs:List Gt) (w:World) (h:RdG w A n gs) (hn:n<=1099511627776) :
  Calls Tryz.prog 36 #[.slice A n cap] w fun e w'=>e=.returned (.bool (allCl gs))/\Below w.heap.size w w':=by
 have H:=zH h
 clear h
 go_enter Tryz.func36,Tryz.ntmps36
 go_wp2
 go_loopg [7] n (fun m i wr=>∃ (k:Nat),k+m=n/\i=.int .i64 k/\allCl (gs.drop k)=allCl gs/\Below w.heap.size w wr)
 case atStart=>exact ⟨0,by omega,rfl,by simp,zW⟩
 case round =>
  obtain ⟨k,hk,rfl,hx,hb⟩:=hrel
  have HX:=zH hx
  clear hx
  by_cases hlt:k < n
  ·obtain ⟨b,off,g,rfl,hB,hd,c0,c1,c2,c3⟩:=(H.out.below hb).at_ hlt
   have HD:=zH hd
   clear hd
   cases hc:cliff g.k
   ·have HC:=zH hc
    clear hc
    go_wp2_with fail
    refine (i_IsClifford _ _ _ _ _).mono ?_
    rintro e w1 ⟨rfl,hb1⟩
    rw [HC.out]
    go_wp2_with fail
    go_ret
    exact ⟨ret_bool (by rw [<- HX.out,HD.out];simp [allCl,HC.out]),hb.trans ((below_alloc hb1).mono hb.size)⟩
   ·have HC:=zH hc
    clear hc
    go_wp2_with fail
    refine (i_IsClifford _ _ _ _ _).mono ?_
    rintro e w1 ⟨rfl,hb1⟩
    rw [HC.out]
    go_wp2_with fail
    go_roundg (gk - 1)
    case measure=>omega
    case rel=>exact ⟨k+1,by omega,by go_num,by rw [<- HX.out,HD.out];simp [allCl,HC.out],hb.trans ((below_alloc hb1).mono hb.size)⟩
  ·go_wp2_with fail
   go_ret
   exact ⟨ret_bool (by rw [<- HX.out,List.drop_eq_nil_of_le (by have:=H.out.1;omega)];rfl),hb⟩
theorem s_GateCost (A:Option Addr) (n cap:Nat) (gs:List Gt) (w:World) (h:RdG w A n gs) (hn:n<=1099511627776) :
  Calls Tryz.prog 33 #[.slice A n cap] w fun e w'=>e=.returned (.int .i64 (cost gs))/\Below w.heap.size w w':=by
 have H:=zH h
 clear h
 go_enter Tryz.func33,Tryz.ntmps33
 go_wp2
 go_loopg [3,4] n (fun m s i wr=>∃ (k:Nat) (x:Int),k+m=n/\i=.int .i64 k/\s=.int .i64 x/\0<=x/\x<=1000 * k/\x+cost (gs.drop k)=cost gs/\Below w.heap.size w wr)
 case atStart=>exact ⟨0,0,by omega,rfl,rfl,by omega,by omega,by simp,zW⟩
 case round =>
  obtain ⟨k,x,hk,rfl,rfl,h0,h1,hx,hb⟩:=hrel
  have HX:=zH hx
  clear hx
  by_cases hlt:k < n
  ·obtain ⟨b,off,g,rfl,hB,hd,c0,c1,c2,c3⟩:=(H.out.below hb).at_ hlt
   have HD:=zH hd
   clear hd
   rcases costK_cases g.k with ⟨hc,hv⟩ | ⟨hc,hv⟩ | ⟨hc,hv⟩
   ·have HC:=zH hv
    clear hv
    by_cases h7:(g.k == 7)=true
    ·clear hc
     go_wp2_with fail
     go_roundg (gk - 1)
     case measure=>omega
     case rel =>
      have:=HX.out
      rw [HD.out,cost,HC.out] at this
      exact ⟨k+1,x+1000,by omega,by go_num,by go_num,by omega,by omega,by omega,hb⟩
    ·have h7':(g.k == 7)=false:=by simpa using h7
     have h8:(g.k == 8)=true:=by simp at h7 ⊢;omega
     clear hc h7
     go_wp2_with fail
     go_roundg (gk - 1)
     case measure=>omega
     case rel =>
      have:=HX.out
      rw [HD.out,cost,HC.out] at this
      exact ⟨k+1,x+1000,by omega,by go_num,by go_num,by omega,by omega,by omega,hb⟩
   ·have HC:=zH hv
    have h7:(g.k == 7)=false:=by simp;omega
    have h8:(g.k == 8)=false:=by simp;omega
    have ha:2<=arity g.k:=by rcases arity_cases g.k with h | h | h | h<;>omega
    have hb3:=(arity_bd g.k).2
    clear hv hc
    go_wp2_with fail
    refine (s_Arity _ _).mono ?_
    rintro e w' ⟨rfl,rfl⟩
    go_wp2_with fail
    go_roundg (gk - 1)
    case measure=>omega
    case rel =>
     have:=HX.out
     rw [HD.out,cost,HC.out] at this
     exact ⟨k+1,x+10,by omega,by go_num,by go_num,by omega,by omega,by omega,hb⟩
   ·have HC:=zH hv
    have h7:(g.k == 7)=false:=by simp;omega
    have h8:(g.k == 8)=false:=by simp;omega
    have ha:arity g.k<=1:=by rcases arity_cases g.k with h | h | h | h<;>omega
    clear hv hc
    go_wp2_with fail
    refine (s_Arity _ _).mono ?_
    rintro e w' ⟨rfl,rfl⟩
    go_wp2_with fail
    go_roundg (gk - 1)
    case measure=>omega
    case rel =>
     have:=HX.out
     rw [HD.out,cost,HC.out] at this
     exact ⟨k+1,x+1,by omega,by go_num,by go_num,by omega,by omega,by omega,hb⟩
  ·go_wp2_with fail
   go_ret
   have:=HX.out
   rw [cost_nil (by have:=H.out.1;omega)] at this
   exact ⟨ret_int (by omega),hb⟩
theorem i_GateCost (A:Option Addr) (n cap:Nat) (gs:List Gt) (w:World) (h:RdG w A n gs) (hn:n<=1099511627776) :
  Calls Tryz.prog 21 #[.slice A n cap] w fun e w'=>e=.returned (.int .i64 (cost gs))/\Below w.heap.size w w':=by
 have H:=zH h
 clear h
 go_enter Tryz.func21,Tryz.ntmps21
 go_wp2
 go_loopg [3,8] n (fun m s i wr=>∃ (k:Nat) (x:Int),k+m=n/\i=.int .i64 k/\s=.int .i64 x/\0<=x/\x<=1000 * k/\x+cost (gs.drop k)=cost gs/\Below w.heap.size w wr)
 case atStart=>exact ⟨0,0,by omega,rfl,rfl,by omega,by omega,by simp,zW⟩
 case round =>
  obtain ⟨k,x,hk,rfl,rfl,h0,h1,hx,hb⟩:=hrel
  have HX:=zH hx
  clear hx
  by_cases hlt:k < n
  ·obtain ⟨b,off,g,rfl,hB,hd,c0,c1,c2,c3⟩:=(H.out.below hb).at_ hlt
   have HD:=zH hd
   clear hd
   rcases costK_cases g.k with ⟨hc,hv⟩ | ⟨hc,hv⟩ | ⟨hc,hv⟩
   ·have HC:=zH hv
    clear hv
    by_cases h7:(g.k == 7)=true
    ·clear hc
     go_wp2_with fail
     go_roundg (gk - 1)
     case measure=>omega
     case rel =>
      have:=HX.out
      rw [HD.out,cost,HC.out] at this
      exact ⟨k+1,x+1000,by omega,by go_num,by go_num,by omega,by omega,by omega,hb.alloc hb.size _⟩
    ·have h7':(g.k == 7)=false:=by simpa using h7
     have h8:(g.k == 8)=true:=by simp at h7 ⊢;omega
     clear hc h7
     go_wp2_with fail
     go_roundg (gk - 1)
     case measure=>omega
     case rel =>
      have:=HX.out
      rw [HD.out,cost,HC.out] at this
      exact ⟨k+1,x+1000,by omega,by go_num,by go_num,by omega,by omega,by omega,hb.alloc hb.size _⟩
   ·have HC:=zH hv
    have h7:(g.k == 7)=false:=by simp;omega
    have h8:(g.k == 8)=false:=by simp;omega
    have ha:2<=arity g.k:=by rcases arity_cases g.k with h | h | h | h<;>omega
    have hb3:=(arity_bd g.k).2
    clear hv hc
    go_wp2_with fail
    refine (i_Arity _ _).mono ?_
    rintro e w' ⟨rfl,rfl⟩
    go_wp2_with fail
    go_roundg (gk - 1)
    case measure=>omega
    case rel =>
     have:=HX.out
     rw [HD.out,cost,HC.out] at this
     exact ⟨k+1,x+10,by omega,by go_num,by go_num,by omega,by omega,by omega,hb.alloc hb.size _⟩
   ·have HC:=zH hv
    have h7:(g.k == 7)=false:=by simp;omega
    have h8:(g.k == 8)=false:=by simp;omega
    have ha:arity g.k<=1:=by rcases arity_cases g.k with h | h | h | h<;>omega
    clear hv hc
    go_wp2_with fail
    refine (i_Arity _ _).mono ?_
    rintro e w' ⟨rfl,rfl⟩
    go_wp2_with fail
    go_roundg (gk - 1)
    case measure=>omega
    case rel =>
     have:=HX.out
     rw [HD.out,cost,HC.out] at this
     exact ⟨k+1,x+1,by omega,by go_num,by go_num,by omega,by omega,by omega,hb.alloc hb.size _⟩
  ·go_wp2_with fail
   go_ret
   have:=HX.out
   rw [cost_nil (by have:=H.out.1;omega)] at this
   exact ⟨ret_int (by omega),hb⟩
end Go.Proofs.YtmenmibfkojnoaaGreat
