/- Contracts of GateQubits (spec and impl):. -/
import Derived.Test.YtmenmibfkojnoaaGreatY47
set_option maxHeartbeats 16000000
namespace Go.Proofs.YtmenmibfkojnoaaGreat
open Go.RowKit
set_option linter.unusedVariables false
def Qv (zs:List Int) (n:Nat) (w:World) (e:Ending) (w':World):Prop :=
 ∃ A c,e=.returned (.slice A n c)/\RdI w' A n zs/\Below w w w'/\∀ b off,A=some ⟨b,off,none⟩->w.heap.size<=b
theorem xw {w:World} {base:Nat} {e:TypeId} {sz n c:Nat} {A:Option Addr} {xs:List Value} (h:w.ownsRow base e sz (.slice A n c) n xs):∀ b off,A=some ⟨b,off,none⟩->base<=b:=by
 intro b off hA;rcases h.2 with ⟨h0,_⟩ | ⟨g,cap,cur,hv,hb,_⟩
 ·injection h0 with h0;rw [h0] at hA
  cases hA
 ·injection hv with hv;rw [hv] at hA
  injection hA with hA;injection hA with hA;omega
theorem xy {p:Prop} (h:p:=by simpa [aB] using o2):p:=h
theorem xA {p:Prop} (h:p:=by
  exact ag (a:=w) (((zW).alloc zR _).alloc zI _ |>.alloc zS _) zS HO.out zR g2):p:=h
theorem Lx (k a b c:Int) (w:World):Calls Tryz.prog 49 #[.agg #[k,a,b,c]] w (Qv (ik k a b c) (aA k).toNat w):=by
 have hr:Rd (((w.alloc (.cells #[k,a,b,c] 39)).alloc (.cells #[a,b,c] 3)).alloc (.cells #[] 3)) 1 (some ⟨w.heap.size+1,0,none⟩) 3 [.int .i64 a,.int .i64 b,.int .i64 c]:=by
  have:=Rd.alloc (Rd.lit (w.alloc (.cells #[k,a,b,c] 39)) 3 #[a,b,c] 3 1 rfl) (.cells #[] 3);simpa using this
 have ho:=World.ownsRow_lit ((w.alloc (.cells #[k,a,b,c] 39)).alloc (.cells #[a,b,c] 3)) #[] 0 (size:=1) (e:=3) (base:=w.heap.size) zS zM rfl;simp only [World.size_alloc] at ho;have HR:=zH hr;have HO:=zH ho;clear hr ho;rcases bd k with ⟨_,_,ha⟩ | ⟨_,_,ha⟩ | ⟨h1,ha⟩ | ⟨_,ha⟩
 rotate_left 2
 clear h1
 rotate_left 2
 ·have HA:=zH ha;clear ha;go_enter Tryz.func49,Tryz.ntmps49;go_wp2_with fail;refine (bX _ _).mono ?_;rintro e w' ⟨rfl,rfl⟩;rw [HA.out]
  go_wp2_with (at_builtin;refine ah rfl (.tmp 11) (.tmp 16) 58 rfl Tryz.underlying58 jp rfl zD rfl HO.out rfl (HR.pre (k:=1) zO) zV zO zD zS ?_;intro A2 c2 w2 o2 g2)
  go_ret;have e1:ik k a b c=[a]:=by simp [ik,HA.out]
  refine ⟨A2,c2,?_,?_,?_,xw o2⟩
  ·rw [HA.out];rfl
  ·rw [HA.out,e1];exact RdI.own (gs:=[a]) xy
  ·exact xA
 ·have HA:=zH ha;clear ha;go_enter Tryz.func49,Tryz.ntmps49;go_wp2_with fail;refine (bX _ _).mono ?_;rintro e w' ⟨rfl,rfl⟩;rw [HA.out]
  go_wp2_with (at_builtin;refine ah rfl (.tmp 11) (.tmp 16) 58 rfl Tryz.underlying58 jp rfl zD rfl HO.out rfl (HR.pre (k:=2) zO) zV zO zD zS ?_;intro A2 c2 w2 o2 g2)
  go_ret;have e1:ik k a b c=[a,b]:=by simp [ik,HA.out]
  refine ⟨A2,c2,?_,?_,?_,xw o2⟩
  ·rw [HA.out];rfl
  ·rw [HA.out,e1];exact RdI.own (gs:=[a,b]) xy
  ·exact xA
 ·have HA:=zH ha;clear ha;go_enter Tryz.func49,Tryz.ntmps49;go_wp2_with fail;refine (bX _ _).mono ?_;rintro e w' ⟨rfl,rfl⟩;rw [HA.out]
  go_wp2_with (at_builtin;refine ah rfl (.tmp 11) (.tmp 16) 58 rfl Tryz.underlying58 jp rfl zD rfl HO.out rfl (HR.pre (k:=3) zO) zV zO zD zS ?_;intro A2 c2 w2 o2 g2)
  go_ret;have e1:ik k a b c=[a,b,c]:=by simp [ik,HA.out]
  refine ⟨A2,c2,?_,?_,?_,xw o2⟩
  ·rw [HA.out];rfl
  ·rw [HA.out,e1];exact RdI.own (gs:=[a,b,c]) xy
  ·exact xA
 ·have HA:=zH ha;clear ha;go_enter Tryz.func49,Tryz.ntmps49;go_wp2_with fail;refine (bX _ _).mono ?_;rintro e w' ⟨rfl,rfl⟩;rw [HA.out]
  go_wp2_with (at_builtin;refine ah rfl (.tmp 11) (.tmp 16) 58 rfl Tryz.underlying58 jp rfl zD rfl HO.out rfl (HR.pre (k:=0) zO) zV zO zD zS ?_;intro A2 c2 w2 o2 g2)
  go_ret;have e1:ik k a b c=[]:=by simp [ik,HA.out]
  refine ⟨A2,c2,?_,?_,?_,xw o2⟩
  ·rw [HA.out];rfl
  ·rw [HA.out,e1];exact RdI.own (gs:=[]) xy
  ·exact xA
theorem xC {p:Prop} (h:p:=by
  exact (((zW).alloc zR _).alloc zI _).drew):p:=h
theorem Ly (k a b c:Int) (w:World):Calls Tryz.prog 48 #[.agg #[k,a,b,c]] w (Qv (ik k a b c) (aA k).toNat w):=by
 have hr0:=(Rd.lit (w.alloc (.cells #[k,a,b,c] 39)) 3 #[a,b,c] 3 1 rfl);simp only [World.size_alloc] at hr0;have hr:=zH hr0;clear hr0;rcases bd k with ⟨_,_,ha⟩ | ⟨_,_,ha⟩ | ⟨h1,ha⟩ | ⟨_,ha⟩
 rotate_left 2
 clear h1
 rotate_left 2
 ·have HA:=zH ha;clear ha;go_enter Tryz.func48,Tryz.ntmps48;go_wp2_with fail
  go_region_held3 (fun w'=>w'.cell? ⟨w,0,none⟩=some (.int .i64 k)/\w'.cell? ⟨w,1,none⟩=some (.int .i64 a)/\w'.cell? ⟨w,2,none⟩=some (.int .i64 b)/\w'.cell? ⟨w,3,none⟩=some (.int .i64 c))
   (first | go_keep)
   (first | (go_at_call 44;refine (bO _ _).mono ?_;rintro e w' ⟨rfl,rfl⟩;rw [HA.out]))
  all_goals go_wp2_with fail
  all_goals go_ret
  all_goals
   have e1:ik k a b c=[a]:=by simp [ik,HA.out]
   refine ⟨some ⟨w.heap.size+1,0,none⟩,1,?_,?_,?_,fun b' off' h=>by injection h with h;injection h with h;omega⟩
   ·rw [HA.out];rfl
   ·rw [HA.out,e1];exact ⟨rfl,hr.pre (k:=1) zO⟩
   ·exact xC
 ·have HA:=zH ha;clear ha;go_enter Tryz.func48,Tryz.ntmps48;go_wp2_with fail
  go_region_held3 (fun w'=>w'.cell? ⟨w,0,none⟩=some (.int .i64 k)/\w'.cell? ⟨w,1,none⟩=some (.int .i64 a)/\w'.cell? ⟨w,2,none⟩=some (.int .i64 b)/\w'.cell? ⟨w,3,none⟩=some (.int .i64 c))
   (first | go_keep)
   (first | (go_at_call 44;refine (bO _ _).mono ?_;rintro e w' ⟨rfl,rfl⟩;rw [HA.out]))
  all_goals go_wp2_with fail
  all_goals go_ret
  all_goals
   have e1:ik k a b c=[a,b]:=by simp [ik,HA.out]
   refine ⟨some ⟨w.heap.size+1,0,none⟩,2,?_,?_,?_,fun b' off' h=>by injection h with h;injection h with h;omega⟩
   ·rw [HA.out];rfl
   ·rw [HA.out,e1];exact ⟨rfl,hr.pre (k:=2) zO⟩
   ·exact xC
 ·have HA:=zH ha;clear ha;go_enter Tryz.func48,Tryz.ntmps48;go_wp2_with fail
  go_region_held3 (fun w'=>w'.cell? ⟨w,0,none⟩=some (.int .i64 k)/\w'.cell? ⟨w,1,none⟩=some (.int .i64 a)/\w'.cell? ⟨w,2,none⟩=some (.int .i64 b)/\w'.cell? ⟨w,3,none⟩=some (.int .i64 c))
   (first | go_keep)
   (first | (go_at_call 44;refine (bO _ _).mono ?_;rintro e w' ⟨rfl,rfl⟩;rw [HA.out]))
  all_goals go_wp2_with fail
  all_goals go_ret
  all_goals
   have e1:ik k a b c=[a,b,c]:=by simp [ik,HA.out]
   refine ⟨some ⟨w.heap.size+1,0,none⟩,3,?_,?_,?_,fun b' off' h=>by injection h with h;injection h with h;omega⟩
   ·rw [HA.out];rfl
   ·rw [HA.out,e1];exact ⟨rfl,hr.pre (k:=3) zO⟩
   ·exact xC
 ·have HA:=zH ha;clear ha;go_enter Tryz.func48,Tryz.ntmps48;go_wp2_with fail
  go_region_held3 (fun w'=>w'.cell? ⟨w,0,none⟩=some (.int .i64 k)/\w'.cell? ⟨w,1,none⟩=some (.int .i64 a)/\w'.cell? ⟨w,2,none⟩=some (.int .i64 b)/\w'.cell? ⟨w,3,none⟩=some (.int .i64 c))
   (first | go_keep)
   (first | (go_at_call 44;refine (bO _ _).mono ?_;rintro e w' ⟨rfl,rfl⟩;rw [HA.out]))
  all_goals go_wp2_with fail
  all_goals go_ret
  all_goals
   have e1:ik k a b c=[]:=by simp [ik,HA.out]
   refine ⟨some ⟨w.heap.size+1,0,none⟩,0,?_,?_,?_,fun b' off' h=>by injection h with h;injection h with h;omega⟩
   ·rw [HA.out];rfl
   ·rw [HA.out,e1];exact ⟨rfl,hr.pre (k:=0) zO⟩
   ·exact xC
end Go.Proofs.YtmenmibfkojnoaaGreat
