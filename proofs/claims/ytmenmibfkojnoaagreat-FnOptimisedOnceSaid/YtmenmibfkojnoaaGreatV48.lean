/- Contracts of GateQubits (spec and impl): the slice handed back is newly made. -/
import Derived.Test.YtmenmibfkojnoaaGreatV03
import Derived.Test.YtmenmibfkojnoaaGreatV47
set_option maxHeartbeats 16000000
namespace Go.Proofs.YtmenmibfkojnoaaGreat
open Go.RowKit
set_option linter.unusedVariables false
def RetIB (zs:List Int) (n:Nat) (w:World) (e:Ending) (w':World):Prop :=
 ∃ A c,e=.returned (.slice A n c)/\RdI w' A n zs/\Below w.heap.size w w'/\∀ b off,A=some ⟨b,off,none⟩->w.heap.size<=b
theorem own_ge {w:World} {base:Nat} {e:TypeId} {sz n c:Nat} {A:Option Addr} {xs:List Value} (h:w.ownsRow base e sz (.slice A n c) n xs):∀ b off,A=some ⟨b,off,none⟩->base<=b:=by
 intro b off hA
 rcases h.2 with ⟨h0,_⟩ | ⟨g,cap,cur,hv,hb,_⟩
 ·injection h0 with h0
  rw [h0] at hA
  cases hA
 ·injection hv with hv
  rw [hv] at hA
  injection hA with hA
  injection hA with hA
  omega
theorem s_GateQB (k a b c:Int) (w:World):Calls Tryz.prog 49 #[.agg #[.int .i64 k,.int .i64 a,.int .i64 b,.int .i64 c]] w (RetIB (gqn k a b c) (arity k).toNat w):=by
 have hr:Rd (((w.alloc (.cells #[.int .i64 k,.int .i64 a,.int .i64 b,.int .i64 c] 39)).alloc (.cells #[.int .i64 a,.int .i64 b,.int .i64 c] 3)).alloc (.cells #[] 3)) 1 (some ⟨w.heap.size+1,0,none⟩) 3 [.int .i64 a,.int .i64 b,.int .i64 c]:=by
  have:=Rd.alloc (Rd.lit (w.alloc (.cells #[.int .i64 k,.int .i64 a,.int .i64 b,.int .i64 c] 39)) 3 #[.int .i64 a,.int .i64 b,.int .i64 c] 3 1 rfl) (.cells #[] 3)
  simpa using this
 have ho:=World.ownsRow_lit ((w.alloc (.cells #[.int .i64 k,.int .i64 a,.int .i64 b,.int .i64 c] 39)).alloc (.cells #[.int .i64 a,.int .i64 b,.int .i64 c] 3)) #[] 0 (size:=1) (e:=3) (base:=w.heap.size) (by simp<;>omega) (by simp [maxLen]) rfl
 simp only [World.size_alloc] at ho
 have HR:=zH hr
 have HO:=zH ho
 clear hr ho
 rcases arity_cases k with ⟨_,_,ha⟩ | ⟨_,_,ha⟩ | ⟨h1,ha⟩ | ⟨_,ha⟩
 rotate_left 2
 clear h1
 rotate_left 2
 ·have HA:=zH ha
  clear ha
  go_enter Tryz.func49,Tryz.ntmps49
  go_wp2_with fail
  refine (s_Arity _ _).mono ?_
  rintro e w' ⟨rfl,rfl⟩
  rw [HA.out]
  go_wp2_with (at_builtin;refine wpList_app rfl (.tmp 11) (.tmp 16) 58 rfl Tryz.underlying58 infoInt rfl (by decide) rfl HO.out rfl (HR.out.pre (k:=1) (by omega)) (by simp [Value.oneCell']) (by omega) (by decide) (by simp<;>omega) ?_;intro A2 c2 w2 o2 g2)
  go_ret
  have e1:gqn k a b c=[a]:=by simp [gqn,HA.out]
  refine ⟨A2,c2,?_,?_,?_,own_ge o2⟩
  ·rw [HA.out];rfl
  ·rw [HA.out,e1];exact RdI.own (gs:=[a]) (by simpa [cellsI] using o2)
  ·exact below_grown (a:=w) (((zW).alloc zR _).alloc (by simp) _ |>.alloc (by simp<;>omega) _) (by simp<;>omega) HO.out zR g2
 ·have HA:=zH ha
  clear ha
  go_enter Tryz.func49,Tryz.ntmps49
  go_wp2_with fail
  refine (s_Arity _ _).mono ?_
  rintro e w' ⟨rfl,rfl⟩
  rw [HA.out]
  go_wp2_with (at_builtin;refine wpList_app rfl (.tmp 11) (.tmp 16) 58 rfl Tryz.underlying58 infoInt rfl (by decide) rfl HO.out rfl (HR.out.pre (k:=2) (by omega)) (by simp [Value.oneCell']) (by omega) (by decide) (by simp<;>omega) ?_;intro A2 c2 w2 o2 g2)
  go_ret
  have e1:gqn k a b c=[a,b]:=by simp [gqn,HA.out]
  refine ⟨A2,c2,?_,?_,?_,own_ge o2⟩
  ·rw [HA.out];rfl
  ·rw [HA.out,e1];exact RdI.own (gs:=[a,b]) (by simpa [cellsI] using o2)
  ·exact below_grown (a:=w) (((zW).alloc zR _).alloc (by simp) _ |>.alloc (by simp<;>omega) _) (by simp<;>omega) HO.out zR g2
 ·have HA:=zH ha
  clear ha
  go_enter Tryz.func49,Tryz.ntmps49
  go_wp2_with fail
  refine (s_Arity _ _).mono ?_
  rintro e w' ⟨rfl,rfl⟩
  rw [HA.out]
  go_wp2_with (at_builtin;refine wpList_app rfl (.tmp 11) (.tmp 16) 58 rfl Tryz.underlying58 infoInt rfl (by decide) rfl HO.out rfl (HR.out.pre (k:=3) (by omega)) (by simp [Value.oneCell']) (by omega) (by decide) (by simp<;>omega) ?_;intro A2 c2 w2 o2 g2)
  go_ret
  have e1:gqn k a b c=[a,b,c]:=by simp [gqn,HA.out]
  refine ⟨A2,c2,?_,?_,?_,own_ge o2⟩
  ·rw [HA.out];rfl
  ·rw [HA.out,e1];exact RdI.own (gs:=[a,b,c]) (by simpa [cellsI] using o2)
  ·exact below_grown (a:=w) (((zW).alloc zR _).alloc (by simp) _ |>.alloc (by simp<;>omega) _) (by simp<;>omega) HO.out zR g2
 ·have HA:=zH ha
  clear ha
  go_enter Tryz.func49,Tryz.ntmps49
  go_wp2_with fail
  refine (s_Arity _ _).mono ?_
  rintro e w' ⟨rfl,rfl⟩
  rw [HA.out]
  go_wp2_with (at_builtin;refine wpList_app rfl (.tmp 11) (.tmp 16) 58 rfl Tryz.underlying58 infoInt rfl (by decide) rfl HO.out rfl (HR.out.pre (k:=0) (by omega)) (by simp [Value.oneCell']) (by omega) (by decide) (by simp<;>omega) ?_;intro A2 c2 w2 o2 g2)
  go_ret
  have e1:gqn k a b c=[]:=by simp [gqn,HA.out]
  refine ⟨A2,c2,?_,?_,?_,own_ge o2⟩
  ·rw [HA.out];rfl
  ·rw [HA.out,e1];exact RdI.own (gs:=[]) (by simpa [cellsI] using o2)
  ·exact below_grown (a:=w) (((zW).alloc zR _).alloc (by simp) _ |>.alloc (by simp<;>omega) _) (by simp<;>omega) HO.out zR g2
theorem i_GateQB (k a b c:Int) (w:World):Calls Tryz.prog 48 #[.agg #[.int .i64 k,.int .i64 a,.int .i64 b,.int .i64 c]] w (RetIB (gqn k a b c) (arity k).toNat w):=by
 have hr0:=(Rd.lit (w.alloc (.cells #[.int .i64 k,.int .i64 a,.int .i64 b,.int .i64 c] 39)) 3 #[.int .i64 a,.int .i64 b,.int .i64 c] 3 1 rfl)
 simp only [World.size_alloc] at hr0
 have hr:=zH hr0
 clear hr0
 rcases arity_cases k with ⟨_,_,ha⟩ | ⟨_,_,ha⟩ | ⟨h1,ha⟩ | ⟨_,ha⟩
 rotate_left 2
 clear h1
 rotate_left 2
 ·have HA:=zH ha
  clear ha
  go_enter Tryz.func48,Tryz.ntmps48
  go_wp2_with fail
  go_region_held3 (fun w'=>w'.cell? ⟨w.heap.size,0,none⟩=some (.int .i64 k)/\w'.cell? ⟨w.heap.size,1,none⟩=some (.int .i64 a)/\w'.cell? ⟨w.heap.size,2,none⟩=some (.int .i64 b)/\w'.cell? ⟨w.heap.size,3,none⟩=some (.int .i64 c))
   (first | go_keep)
   (first | (go_at_call 44;refine (i_Arity _ _).mono ?_;rintro e w' ⟨rfl,rfl⟩;rw [HA.out]))
  all_goals go_wp2_with fail
  all_goals go_ret
  all_goals
   have e1:gqn k a b c=[a]:=by simp [gqn,HA.out]
   refine ⟨some ⟨w.heap.size+1,0,none⟩,1,?_,?_,?_,fun b' off' h=>by injection h with h;injection h with h;omega⟩
   ·rw [HA.out];rfl
   ·rw [HA.out,e1];exact ⟨rfl,hr.out.pre (k:=1) (by omega)⟩
   ·exact (((zW).alloc zR _).alloc (by simp) _).drew
 ·have HA:=zH ha
  clear ha
  go_enter Tryz.func48,Tryz.ntmps48
  go_wp2_with fail
  go_region_held3 (fun w'=>w'.cell? ⟨w.heap.size,0,none⟩=some (.int .i64 k)/\w'.cell? ⟨w.heap.size,1,none⟩=some (.int .i64 a)/\w'.cell? ⟨w.heap.size,2,none⟩=some (.int .i64 b)/\w'.cell? ⟨w.heap.size,3,none⟩=some (.int .i64 c))
   (first | go_keep)
   (first | (go_at_call 44;refine (i_Arity _ _).mono ?_;rintro e w' ⟨rfl,rfl⟩;rw [HA.out]))
  all_goals go_wp2_with fail
  all_goals go_ret
  all_goals
   have e1:gqn k a b c=[a,b]:=by simp [gqn,HA.out]
   refine ⟨some ⟨w.heap.size+1,0,none⟩,2,?_,?_,?_,fun b' off' h=>by injection h with h;injection h with h;omega⟩
   ·rw [HA.out];rfl
   ·rw [HA.out,e1];exact ⟨rfl,hr.out.pre (k:=2) (by omega)⟩
   ·exact (((zW).alloc zR _).alloc (by simp) _).drew
 ·have HA:=zH ha
  clear ha
  go_enter Tryz.func48,Tryz.ntmps48
  go_wp2_with fail
  go_region_held3 (fun w'=>w'.cell? ⟨w.heap.size,0,none⟩=some (.int .i64 k)/\w'.cell? ⟨w.heap.size,1,none⟩=some (.int .i64 a)/\w'.cell? ⟨w.heap.size,2,none⟩=some (.int .i64 b)/\w'.cell? ⟨w.heap.size,3,none⟩=some (.int .i64 c))
   (first | go_keep)
   (first | (go_at_call 44;refine (i_Arity _ _).mono ?_;rintro e w' ⟨rfl,rfl⟩;rw [HA.out]))
  all_goals go_wp2_with fail
  all_goals go_ret
  all_goals
   have e1:gqn k a b c=[a,b,c]:=by simp [gqn,HA.out]
   refine ⟨some ⟨w.heap.size+1,0,none⟩,3,?_,?_,?_,fun b' off' h=>by injection h with h;injection h with h;omega⟩
   ·rw [HA.out];rfl
   ·rw [HA.out,e1];exact ⟨rfl,hr.out.pre (k:=3) (by omega)⟩
   ·exact (((zW).alloc zR _).alloc (by simp) _).drew
 ·have HA:=zH ha
  clear ha
  go_enter Tryz.func48,Tryz.ntmps48
  go_wp2_with fail
  go_region_held3 (fun w'=>w'.cell? ⟨w.heap.size,0,none⟩=some (.int .i64 k)/\w'.cell? ⟨w.heap.size,1,none⟩=some (.int .i64 a)/\w'.cell? ⟨w.heap.size,2,none⟩=some (.int .i64 b)/\w'.cell? ⟨w.heap.size,3,none⟩=some (.int .i64 c))
   (first | go_keep)
   (first | (go_at_call 44;refine (i_Arity _ _).mono ?_;rintro e w' ⟨rfl,rfl⟩;rw [HA.out]))
  all_goals go_wp2_with fail
  all_goals go_ret
  all_goals
   have e1:gqn k a b c=[]:=by simp [gqn,HA.out]
   refine ⟨some ⟨w.heap.size+1,0,none⟩,0,?_,?_,?_,fun b' off' h=>by injection h with h;injection h with h;omega⟩
   ·rw [HA.out];rfl
   ·rw [HA.out,e1];exact ⟨rfl,hr.out.pre (k:=0) (by omega)⟩
   ·exact (((zW).alloc zR _).alloc (by simp) _).drew
end Go.Proofs.YtmenmibfkojnoaaGreat
