/- Contracts of the laws' helpers on slices of gates: szGateS, toGate, toGateS, eqGate, eqGateS, markGateS, heldGateS. The slices have at most 2^20 gates where gates are made. Plain functions on gates: what the program's small functions compute. No program in sight; nothing is asked. Contracts of the small functions on numbers and gates (spec and impl): in, Arity, RotationUnits, one, cx, copyGates. ... -/
import Derived.Test.YtmenmibfkojnoaaGreatV01
import Derived.Test.YtmenmibfkojnoaaGreatProg
import Derived.StillTailTactics
import Derived.Outline
set_option maxHeartbeats 16000000
namespace Go.Proofs.YtmenmibfkojnoaaGreat
open Go.RowKit
theorem infoGate:(Tryz.prog.info? 39).map (fun i=>(i.zero,i.size,i.bytes))=some (some (.agg #[.int .i64 0,.int .i64 0,.int .i64 0,.int .i64 0]),4,32):=by kernel_rfl
theorem l_szGateS (A:Option Addr) (n cap:Nat) (hn:n<=9223372036854775807) (w:World) :
  Calls Tryz.prog 8 #[.slice A n cap,.int .i64 1048576] w fun e w'=>e=.returned (.int .i64 (if n<=1048576 then 1048576 - n else -1))/\w=w':=by
 by_cases h:n<=1048576
 ·go_enter Tryz.func8,Tryz.ntmps8
  go_wp2
  go_ret
  exact ⟨ret_int (by simp),rfl⟩
 ·go_enter Tryz.func8,Tryz.ntmps8
  go_wp2
  go_ret
  exact ⟨ret_int (by simp),rfl⟩
end Go.Proofs.YtmenmibfkojnoaaGreat
namespace Go.Proofs.YtmenmibfkojnoaaGreat
def inB (n lo hi:Int):Bool:=decide (lo<=n) && decide (n<=hi)
theorem inB_t {n lo hi:Int} (h1:lo<=n) (h2:n<=hi):inB n lo hi=true:=by simp [inB,h1,h2]
theorem inB_f {n lo hi:Int} (h:n < lo ∨ hi < n):inB n lo hi=false:=by simp only [inB,Bool.and_eq_false_iff,decide_eq_false_iff_not];omega
theorem inB_iff {n lo hi:Int}:inB n lo hi=true ↔ lo<=n/\n<=hi:=by simp [inB]
def arity (k:Int):Int:=if 1<=k/\k<=8 then 1 else if 9<=k/\k<=11 then 2 else if k=12 then 3 else 0
theorem arity_cases (k:Int):(1<=k/\k<=8/\arity k=1) ∨ (9<=k/\k<=11/\arity k=2) ∨ (k=12/\arity k=3) ∨ ((k < 1 ∨ 12 < k)/\arity k=0):=by
 unfold arity
 by_cases h1:1<=k/\k<=8
 ·rw [if_pos h1];exact .inl ⟨h1.1,h1.2,rfl⟩
 ·rw [if_neg h1]
  by_cases h2:9<=k/\k<=11
  ·rw [if_pos h2];exact .inr (.inl ⟨h2.1,h2.2,rfl⟩)
  ·rw [if_neg h2]
   by_cases h3:k=12
   ·rw [if_pos h3];exact .inr (.inr (.inl ⟨h3,rfl⟩))
   ·rw [if_neg h3];exact .inr (.inr (.inr ⟨by omega,rfl⟩))
theorem arity_bd (k:Int):0<=arity k/\arity k<=3:=by rcases arity_cases k with h | h | h | h<;>omega
def units (k:Int):Int:=if k=7 then 1 else if k=5 then 2 else if k=3 then 4 else if k=6 then 6 else if k=8 then 7 else 0
theorem units_cases (k:Int):(k=7/\units k=1) ∨ (k=5/\units k=2) ∨ (k=3/\units k=4) ∨ (k=6/\units k=6) ∨ (k=8/\units k=7) ∨ (k ≠ 7/\k ≠ 5/\k ≠ 3/\k ≠ 6/\k ≠ 8/\units k=0):=by
 unfold units
 by_cases h1:k=7
 ·simp [h1]
 ·by_cases h2:k=5
  ·simp [h2]
  ·by_cases h3:k=3
   ·simp [h3]
   ·by_cases h4:k=6
    ·simp [h4]
    ·by_cases h5:k=8
     ·simp [h5]
     ·simp [h1,h2,h3,h4,h5]
theorem units_bd (k:Int):0<=units k/\units k<=7:=by rcases units_cases k with h | h | h | h | h | h<;>omega
def cliff (k:Int):Bool:=decide (1<=k) && decide (k<=11) && !(k == 7) && !(k == 8)
theorem cliff_t {k:Int} (h1:1<=k) (h2:k<=11) (h3:k ≠ 7) (h4:k ≠ 8):cliff k=true:=by simp [cliff,h1,h2,h3,h4]
theorem cliff_f {k:Int} (h:k < 1 ∨ 11 < k ∨ k=7 ∨ k=8):cliff k=false:=by
 rcases h with h | h | h | h
 ·have:¬ 1<=k:=by omega
  simp [cliff,this]
 ·have:¬ k<=11:=by omega
  simp [cliff,this]
 ·subst h;rfl
 ·subst h;rfl
end Go.Proofs.YtmenmibfkojnoaaGreat
namespace Go.Proofs.YtmenmibfkojnoaaGreat
open Go.RowKit
theorem s_in (n lo hi:Int) (w:World):Calls Tryz.prog 50 #[.int .i64 n,.int .i64 lo,.int .i64 hi] w fun e w'=>e=.returned (.bool (inB n lo hi))/\w=w':=by
 by_cases h1:lo<=n
 ·by_cases h2:n<=hi
  ·rw [inB_t h1 h2]
   go_enter Tryz.func50,Tryz.ntmps50
   go_wp2
   go_ret
   exact ⟨rfl,rfl⟩
  ·rw [inB_f (.inr (by omega))]
   go_enter Tryz.func50,Tryz.ntmps50
   go_wp2
   go_ret
   exact ⟨rfl,rfl⟩
 ·rw [inB_f (.inl (by omega))]
  go_enter Tryz.func50,Tryz.ntmps50
  go_wp2
  go_ret
  exact ⟨rfl,rfl⟩
theorem i_in (n lo hi:Int) (w:World):Calls Tryz.prog 70 #[.int .i64 n,.int .i64 lo,.int .i64 hi] w fun e w'=>e=.returned (.bool (inB n lo hi))/\w=w':=by
 by_cases h1:lo<=n
 ·by_cases h2:n<=hi
  ·rw [inB_t h1 h2]
   go_enter Tryz.func70,Tryz.ntmps70
   go_wp2
   go_ret
   exact ⟨rfl,rfl⟩
  ·rw [inB_f (.inr (by omega))]
   go_enter Tryz.func70,Tryz.ntmps70
   go_wp2
   go_ret
   exact ⟨rfl,rfl⟩
 ·rw [inB_f (.inl (by omega))]
  go_enter Tryz.func70,Tryz.ntmps70
  go_wp2
  go_ret
  exact ⟨rfl,rfl⟩
theorem s_Arity (k:Int) (w:World):Calls Tryz.prog 60 #[.int .i64 k] w fun e w'=>e=.returned (.int .i64 (arity k))/\w=w':=by
 rcases arity_cases k with ⟨h1,h2,h3⟩ | ⟨h1,h2,h3⟩ | ⟨h1,h3⟩ | ⟨h1,h3⟩
 ·rw [h3]
  clear h3
  go_enter Tryz.func60,Tryz.ntmps60
  go_wp2_with fail
  refine (s_in _ _ _ _).mono ?_
  rintro e w' ⟨rfl,rfl⟩
  rw [inB_t h1 h2]
  go_wp2_with fail
  go_ret
  exact ⟨rfl,rfl⟩
 ·rw [h3]
  clear h3
  go_enter Tryz.func60,Tryz.ntmps60
  go_wp2_with fail
  refine (s_in _ _ _ _).mono ?_
  rintro e w' ⟨rfl,rfl⟩
  rw [inB_f (.inr (by omega))]
  go_wp2_with fail
  refine (s_in _ _ _ _).mono ?_
  rintro e w' ⟨rfl,rfl⟩
  rw [inB_t h1 h2]
  go_wp2_with fail
  go_ret
  exact ⟨rfl,rfl⟩
 ·rw [h3]
  clear h3
  subst h1
  go_enter Tryz.func60,Tryz.ntmps60
  go_wp2_with fail
  refine (s_in _ _ _ _).mono ?_
  rintro e w' ⟨rfl,rfl⟩
  rw [inB_f (.inr (by omega))]
  go_wp2_with fail
  refine (s_in _ _ _ _).mono ?_
  rintro e w' ⟨rfl,rfl⟩
  rw [inB_f (.inr (by omega))]
  go_wp2_with fail
  go_ret
  exact ⟨rfl,rfl⟩
 ·rw [h3]
  clear h3
  have h4:(k == 12)=false:=by simp;omega
  go_enter Tryz.func60,Tryz.ntmps60
  go_wp2_with fail
  refine (s_in _ _ _ _).mono ?_
  rintro e w' ⟨rfl,rfl⟩
  rw [inB_f (by omega)]
  go_wp2_with fail
  refine (s_in _ _ _ _).mono ?_
  rintro e w' ⟨rfl,rfl⟩
  rw [inB_f (by omega)]
  go_wp2_with fail
  go_ret
  exact ⟨rfl,rfl⟩
theorem i_Arity (k:Int) (w:World):Calls Tryz.prog 44 #[.int .i64 k] w fun e w'=>e=.returned (.int .i64 (arity k))/\w=w':=by
 rcases arity_cases k with ⟨h1,h2,h3⟩ | ⟨h1,h2,h3⟩ | ⟨h1,h3⟩ | ⟨h1,h3⟩
 ·rw [h3]
  clear h3
  go_enter Tryz.func44,Tryz.ntmps44
  go_wp2_with fail
  refine (i_in _ _ _ _).mono ?_
  rintro e w' ⟨rfl,rfl⟩
  rw [inB_t h1 h2]
  go_wp2_with fail
  go_ret
  exact ⟨rfl,rfl⟩
 ·rw [h3]
  clear h3
  go_enter Tryz.func44,Tryz.ntmps44
  go_wp2_with fail
  refine (i_in _ _ _ _).mono ?_
  rintro e w' ⟨rfl,rfl⟩
  rw [inB_f (.inr (by omega))]
  go_wp2_with fail
  refine (i_in _ _ _ _).mono ?_
  rintro e w' ⟨rfl,rfl⟩
  rw [inB_t h1 h2]
  go_wp2_with fail
  go_ret
  exact ⟨rfl,rfl⟩
 ·rw [h3]
  clear h3
  subst h1
  go_enter Tryz.func44,Tryz.ntmps44
  go_wp2_with fail
  refine (i_in _ _ _ _).mono ?_
  rintro e w' ⟨rfl,rfl⟩
  rw [inB_f (.inr (by omega))]
  go_wp2_with fail
  refine (i_in _ _ _ _).mono ?_
  rintro e w' ⟨rfl,rfl⟩
  rw [inB_f (.inr (by omega))]
  go_wp2_with fail
  go_ret
  exact ⟨rfl,rfl⟩
 ·rw [h3]
  clear h3
  have h4:(k == 12)=false:=by simp;omega
  go_enter Tryz.func44,Tryz.ntmps44
  go_wp2_with fail
  refine (i_in _ _ _ _).mono ?_
  rintro e w' ⟨rfl,rfl⟩
  rw [inB_f (by omega)]
  go_wp2_with fail
  refine (i_in _ _ _ _).mono ?_
  rintro e w' ⟨rfl,rfl⟩
  rw [inB_f (by omega)]
  go_wp2_with fail
  go_ret
  exact ⟨rfl,rfl⟩
theorem s_RotationUnits (k:Int) (w:World):Calls Tryz.prog 102 #[.int .i64 k] w fun e w'=>e=.returned (.int .i64 (units k))/\w=w':=by
 rcases units_cases k with ⟨h,h3⟩ | ⟨h,h3⟩ | ⟨h,h3⟩ | ⟨h,h3⟩ | ⟨h,h3⟩ | ⟨h7,h5,h33,h6,h8,h3⟩
 iterate 5
  ·rw [h3]
   clear h3
   subst h
   go_enter Tryz.func102,Tryz.ntmps102
   go_wp2
   go_ret
   exact ⟨rfl,rfl⟩
 ·rw [h3]
  clear h3
  have e7:(k == 7)=false:=by simpa using h7
  have e5:(k == 5)=false:=by simpa using h5
  have e3:(k == 3)=false:=by simpa using h33
  have e6:(k == 6)=false:=by simpa using h6
  have e8:(k == 8)=false:=by simpa using h8
  go_enter Tryz.func102,Tryz.ntmps102
  go_wp2
  go_ret
  exact ⟨rfl,rfl⟩
theorem i_RotationUnits (k:Int) (w:World):Calls Tryz.prog 79 #[.int .i64 k] w fun e w'=>e=.returned (.int .i64 (units k))/\w=w':=by
 rcases units_cases k with ⟨h,h3⟩ | ⟨h,h3⟩ | ⟨h,h3⟩ | ⟨h,h3⟩ | ⟨h,h3⟩ | ⟨h7,h5,h33,h6,h8,h3⟩
 iterate 5
  ·rw [h3]
   clear h3
   subst h
   go_enter Tryz.func79,Tryz.ntmps79
   go_wp2
   go_ret
   exact ⟨rfl,rfl⟩
 ·rw [h3]
  clear h3
  have e7:(k == 7)=false:=by simpa using h7
  have e5:(k == 5)=false:=by simpa using h5
  have e3:(k == 3)=false:=by simpa using h33
  have e6:(k == 6)=false:=by simpa using h6
  have e8:(k == 8)=false:=by simpa using h8
  go_enter Tryz.func79,Tryz.ntmps79
  go_wp2
  go_ret
  exact ⟨rfl,rfl⟩
theorem s_one (k a:Int) (w:World):Calls Tryz.prog 106 #[.int .i64 k,.int .i64 a] w fun e w'=>e=.returned (.agg #[.int .i64 k,.int .i64 a,.int .i64 0,.int .i64 0])/\Below w.heap.size w w':=by
 go_enter Tryz.func106,Tryz.ntmps106
 go_wp2
 exact bodyPost_ret (v:=.agg #[.int .i64 k,.int .i64 a,.int .i64 0,.int .i64 0]) (by simp [results,Tryz.results106,go_sem]) rfl ⟨rfl,(by repeat (first | exact zW | assumption | refine Below.drew ?_ | refine Below.alloc ?_ (by simp<;>omega) _))⟩
theorem i_one (k a:Int) (w:World):Calls Tryz.prog 85 #[.int .i64 k,.int .i64 a] w fun e w'=>e=.returned (.agg #[.int .i64 k,.int .i64 a,.int .i64 0,.int .i64 0])/\Below w.heap.size w w':=by
 go_enter Tryz.func85,Tryz.ntmps85
 go_wp2
 exact bodyPost_ret (v:=.agg #[.int .i64 k,.int .i64 a,.int .i64 0,.int .i64 0]) (by simp [results,Tryz.results85,go_sem]) rfl ⟨rfl,(by repeat (first | exact zW | assumption | refine Below.drew ?_ | refine Below.alloc ?_ (by simp<;>omega) _))⟩
theorem s_cx (k a:Int) (w:World):Calls Tryz.prog 190 #[.int .i64 k,.int .i64 a] w fun e w'=>e=.returned (.agg #[.int .i64 9,.int .i64 k,.int .i64 a,.int .i64 0])/\Below w.heap.size w w':=by
 go_enter Tryz.func190,Tryz.ntmps190
 go_wp2
 exact bodyPost_ret (v:=.agg #[.int .i64 9,.int .i64 k,.int .i64 a,.int .i64 0]) (by simp [results,Tryz.results190,go_sem]) rfl ⟨rfl,(by repeat (first | exact zW | assumption | refine Below.drew ?_ | refine Below.alloc ?_ (by simp<;>omega) _))⟩
theorem i_copyGates (A:Option Addr) (n cap:Nat) (gs:List Gt) (w:World) (h:RdG w A n gs) (hn:n<=1099511627776) :
  Calls Tryz.prog 35 #[.slice A n cap] w (Ret 39 4 (cellsG gs) n w):=by
 have H:=zH h
 clear h
 go_enter Tryz.func35,Tryz.ntmps35
 go_wp2_with (at_builtin;refine wpList_app rfl (.tmp 3) (.tmp 4) 24 rfl Tryz.underlying24 infoGate rfl (by decide) rfl (World.ownsRow_lit w #[] 0 zR (by simp [maxLen]) rfl) rfl (H.out.2.alloc _) one_cellsG (by omega) (by decide) (by simp) ?_;intro A2 c2 w2 o2 g2)
 go_ret
 try rw [Nat.zero_add] at o2
 refine ⟨A2,c2,rfl,by simpa using o2,?_⟩
 exact below_grown (a:=w) ((zW).alloc zR _) (by simp) (World.ownsRow_lit w #[] 0 (size:=4) (e:=39) zR (by simp [maxLen]) rfl) zR g2
end Go.Proofs.YtmenmibfkojnoaaGreat
