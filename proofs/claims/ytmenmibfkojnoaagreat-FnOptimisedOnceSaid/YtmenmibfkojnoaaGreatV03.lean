/- Contracts of l1HasInt, GateQubits, ActsOn, CommutationAxis (spec and impl). l1HasInt: at most 2^40 numbers. -/
import Derived.Test.YtmenmibfkojnoaaGreatV02
import Derived.Deep.RegionHeld3
set_option maxHeartbeats 16000000
namespace Go.Proofs.YtmenmibfkojnoaaGreat
open Go.RowKit
theorem infoInt:(Tryz.prog.info? 3).map (fun i=>(i.zero,i.size,i.bytes))=some (some (.int .i64 0),1,8):=by kernel_rfl
def hasI (zs:List Int) (x:Int):Bool:=zs.any (· == x)
def gqn (k a b c:Int):List Int:=[a,b,c].take (arity k).toNat
def acts (k a b c q:Int):Bool:=hasI (gqn k a b c) q
theorem hasI_hit {zs r:List Int} {k:Nat} {x y:Int} (hd:zs.drop k=x :: r) (h1:(x == y)=true):hasI zs y=true:=by
 have:x ∈ zs:=List.mem_of_mem_drop (by rw [hd];simp)
 exact List.any_eq_true.2 ⟨_,this,h1⟩
def RetI (zs:List Int) (n:Nat) (w:World) (e:Ending) (w':World):Prop :=
 ∃ A c,e=.returned (.slice A n c)/\RdI w' A n zs/\Below w.heap.size w w'
def RetIC (zs:List Int) (n:Nat) (w:World) (e:Ending) (w':World):Prop :=
 ∃ A c,e=.returned (.slice A n c)/\RdI w' A n zs/\Below w.heap.size w w'/\n<=c
theorem own_cap {w:World} {base:Nat} {e:TypeId} {sz n c:Nat} {A:Option Addr} {xs:List Value} (h:w.ownsRow base e sz (.slice A n c) n xs):n<=c:=by
 rcases h.2 with ⟨_,h0⟩ | ⟨g,cap,cur,hv,_,hg,hnc,_⟩
 ·omega
 ·simp only [Value.slice.injEq] at hv
  obtain ⟨_,_,rfl⟩:=hv
  exact hnc
theorem s_hasI (A:Option Addr) (n cap:Nat) (zs:List Int) (x:Int) (w:World) (h:RdI w A n zs) (hn:n<=1099511627776) :
  Calls Tryz.prog 51 #[.slice A n cap,.int .i64 x] w fun e w'=>e=.returned (.bool (hasI zs x))/\w=w':=by
 have H:=zH h
 clear h
 go_enter Tryz.func51,Tryz.ntmps51
 go_wp2
 go_loopg [5] n (fun m i wr=>∃ (k:Nat),k+m=n/\i=.int .i64 k/\hasI (zs.drop k) x=hasI zs x/\w=wr)
 case atStart=>exact ⟨0,by omega,rfl,by simp,rfl⟩
 case round =>
  obtain ⟨k,hk,rfl,hx,rfl⟩:=hrel
  have HX:=zH hx
  clear hx
  by_cases hlt:k < n
  ·obtain ⟨b,off,y,rfl,hB,hd,c0⟩:=H.out.at_ hlt
   have HD:=zH hd
   clear hd
   by_cases h1:(y == x)=true
   ·go_wp2
    go_ret
    exact ⟨ret_bool (hasI_hit HD.out h1).symm,rfl⟩
   ·have h1':(y == x)=false:=by simpa using h1
    clear h1
    go_wp2
    go_roundg (gk - 1)
    case measure=>omega
    case rel=>exact ⟨k+1,by omega,by go_num,by rw [<- HX.out,HD.out];simp [hasI,h1'],rfl⟩
  ·go_wp2
   go_ret
   exact ⟨ret_bool (by rw [<- HX.out,List.drop_eq_nil_of_le (by have:=H.out.1;omega)];rfl),rfl⟩
theorem s_GateQubitsC (k a b c:Int) (w:World):Calls Tryz.prog 49 #[.agg #[.int .i64 k,.int .i64 a,.int .i64 b,.int .i64 c]] w (RetIC (gqn k a b c) (arity k).toNat w):=by
 have hr:Rd (((w.alloc (.cells #[.int .i64 k,.int .i64 a,.int .i64 b,.int .i64 c] 39)).alloc (.cells #[.int .i64 a,.int .i64 b,.int .i64 c] 3)).alloc (.cells #[] 3)) 1 (some ⟨w.heap.size+1,0,none⟩) 3 [.int .i64 a,.int .i64 b,.int .i64 c]:=by
  have:=Rd.alloc (Rd.lit (w.alloc (.cells #[.int .i64 k,.int .i64 a,.int .i64 b,.int .i64 c] 39)) 3 #[.int .i64 a,.int .i64 b,.int .i64 c] 3 1 rfl) (.cells #[] 3)
  simpa using this
 have ho:=World.ownsRow_lit ((w.alloc (.cells #[.int .i64 k,.int .i64 a,.int .i64 b,.int .i64 c] 39)).alloc (.cells #[.int .i64 a,.int .i64 b,.int .i64 c] 3)) #[] 0 (size:=1) (e:=3) (base:=w.heap.size) (by simp<;>omega) (by simp [maxLen]) rfl
 simp only [World.size_alloc] at ho
 have HR:=zH hr
 have HO:=zH ho
 clear hr ho
 rcases arity_cases k with ⟨_,_,ha⟩ | ⟨_,_,ha⟩ | ⟨h1,ha⟩ | ⟨_,ha⟩
 rotate_left 2
 clear h1
 rotate_left 2
 ·have HA:=zH ha
  clear ha
  go_enter Tryz.func49,Tryz.ntmps49
  go_wp2_with fail
  refine (s_Arity _ _).mono ?_
  rintro e w' ⟨rfl,rfl⟩
  rw [HA.out]
  go_wp2_with (at_builtin;refine wpList_app rfl (.tmp 11) (.tmp 16) 58 rfl Tryz.underlying58 infoInt rfl (by decide) rfl HO.out rfl (HR.out.pre (k:=1) (by omega)) (by simp [Value.oneCell']) (by omega) (by decide) (by simp<;>omega) ?_;intro A2 c2 w2 o2 g2)
  go_ret
  have e1:gqn k a b c=[a]:=by simp [gqn,HA.out]
  refine ⟨A2,c2,?_,?_,?_,by have:=own_cap o2;have:=HA.out;omega⟩
  ·rw [HA.out];rfl
  ·rw [HA.out,e1];exact RdI.own (gs:=[a]) (by simpa [cellsI] using o2)
  ·exact below_grown (a:=w) (((zW).alloc zR _).alloc (by simp) _ |>.alloc (by simp<;>omega) _) (by simp<;>omega) HO.out zR g2
 ·have HA:=zH ha
  clear ha
  go_enter Tryz.func49,Tryz.ntmps49
  go_wp2_with fail
  refine (s_Arity _ _).mono ?_
  rintro e w' ⟨rfl,rfl⟩
  rw [HA.out]
  go_wp2_with (at_builtin;refine wpList_app rfl (.tmp 11) (.tmp 16) 58 rfl Tryz.underlying58 infoInt rfl (by decide) rfl HO.out rfl (HR.out.pre (k:=2) (by omega)) (by simp [Value.oneCell']) (by omega) (by decide) (by simp<;>omega) ?_;intro A2 c2 w2 o2 g2)
  go_ret
  have e1:gqn k a b c=[a,b]:=by simp [gqn,HA.out]
  refine ⟨A2,c2,?_,?_,?_,by have:=own_cap o2;have:=HA.out;omega⟩
  ·rw [HA.out];rfl
  ·rw [HA.out,e1];exact RdI.own (gs:=[a,b]) (by simpa [cellsI] using o2)
  ·exact below_grown (a:=w) (((zW).alloc zR _).alloc (by simp) _ |>.alloc (by simp<;>omega) _) (by simp<;>omega) HO.out zR g2
 ·have HA:=zH ha
  clear ha
  go_enter Tryz.func49,Tryz.ntmps49
  go_wp2_with fail
  refine (s_Arity _ _).mono ?_
  rintro e w' ⟨rfl,rfl⟩
  rw [HA.out]
  go_wp2_with (at_builtin;refine wpList_app rfl (.tmp 11) (.tmp 16) 58 rfl Tryz.underlying58 infoInt rfl (by decide) rfl HO.out rfl (HR.out.pre (k:=3) (by omega)) (by simp [Value.oneCell']) (by omega) (by decide) (by simp<;>omega) ?_;intro A2 c2 w2 o2 g2)
  go_ret
  have e1:gqn k a b c=[a,b,c]:=by simp [gqn,HA.out]
  refine ⟨A2,c2,?_,?_,?_,by have:=own_cap o2;have:=HA.out;omega⟩
  ·rw [HA.out];rfl
  ·rw [HA.out,e1];exact RdI.own (gs:=[a,b,c]) (by simpa [cellsI] using o2)
  ·exact below_grown (a:=w) (((zW).alloc zR _).alloc (by simp) _ |>.alloc (by simp<;>omega) _) (by simp<;>omega) HO.out zR g2
 ·have HA:=zH ha
  clear ha
  go_enter Tryz.func49,Tryz.ntmps49
  go_wp2_with fail
  refine (s_Arity _ _).mono ?_
  rintro e w' ⟨rfl,rfl⟩
  rw [HA.out]
  go_wp2_with (at_builtin;refine wpList_app rfl (.tmp 11) (.tmp 16) 58 rfl Tryz.underlying58 infoInt rfl (by decide) rfl HO.out rfl (HR.out.pre (k:=0) (by omega)) (by simp [Value.oneCell']) (by omega) (by decide) (by simp<;>omega) ?_;intro A2 c2 w2 o2 g2)
  go_ret
  have e1:gqn k a b c=[]:=by simp [gqn,HA.out]
  refine ⟨A2,c2,?_,?_,?_,by have:=own_cap o2;have:=HA.out;omega⟩
  ·rw [HA.out];rfl
  ·rw [HA.out,e1];exact RdI.own (gs:=[]) (by simpa [cellsI] using o2)
  ·exact below_grown (a:=w) (((zW).alloc zR _).alloc (by simp) _ |>.alloc (by simp<;>omega) _) (by simp<;>omega) HO.out zR g2
theorem s_GateQubits (k a b c:Int) (w:World):Calls Tryz.prog 49 #[.agg #[.int .i64 k,.int .i64 a,.int .i64 b,.int .i64 c]] w (RetI (gqn k a b c) (arity k).toNat w):=by
 refine (s_GateQubitsC k a b c w).mono ?_
 rintro e w' ⟨A,c',h1,h2,h3,_⟩
 exact ⟨A,c',h1,h2,h3⟩
theorem i_GateQubits (k a b c:Int) (w:World):Calls Tryz.prog 48 #[.agg #[.int .i64 k,.int .i64 a,.int .i64 b,.int .i64 c]] w (RetI (gqn k a b c) (arity k).toNat w):=by
 have hr0:=(Rd.lit (w.alloc (.cells #[.int .i64 k,.int .i64 a,.int .i64 b,.int .i64 c] 39)) 3 #[.int .i64 a,.int .i64 b,.int .i64 c] 3 1 rfl)
 simp only [World.size_alloc] at hr0
 have hr:=zH hr0
 clear hr0
 rcases arity_cases k with ⟨_,_,ha⟩ | ⟨_,_,ha⟩ | ⟨h1,ha⟩ | ⟨_,ha⟩
 rotate_left 2
 clear h1
 rotate_left 2
 ·have HA:=zH ha
  clear ha
  go_enter Tryz.func48,Tryz.ntmps48
  go_wp2_with fail
  go_region_held3 (fun w'=>w'.cell? ⟨w.heap.size,0,none⟩=some (.int .i64 k)/\w'.cell? ⟨w.heap.size,1,none⟩=some (.int .i64 a)/\w'.cell? ⟨w.heap.size,2,none⟩=some (.int .i64 b)/\w'.cell? ⟨w.heap.size,3,none⟩=some (.int .i64 c))
   (first | go_keep)
   (first | (go_at_call 44;refine (i_Arity _ _).mono ?_;rintro e w' ⟨rfl,rfl⟩;rw [HA.out]))
  all_goals go_wp2_with fail
  all_goals go_ret
  all_goals
   have e1:gqn k a b c=[a]:=by simp [gqn,HA.out]
   refine ⟨some ⟨w.heap.size+1,0,none⟩,1,?_,?_,?_⟩
   ·rw [HA.out];rfl
   ·rw [HA.out,e1];exact ⟨rfl,hr.out.pre (k:=1) (by omega)⟩
   ·exact (((zW).alloc zR _).alloc (by simp) _).drew
 ·have HA:=zH ha
  clear ha
  go_enter Tryz.func48,Tryz.ntmps48
  go_wp2_with fail
  go_region_held3 (fun w'=>w'.cell? ⟨w.heap.size,0,none⟩=some (.int .i64 k)/\w'.cell? ⟨w.heap.size,1,none⟩=some (.int .i64 a)/\w'.cell? ⟨w.heap.size,2,none⟩=some (.int .i64 b)/\w'.cell? ⟨w.heap.size,3,none⟩=some (.int .i64 c))
   (first | go_keep)
   (first | (go_at_call 44;refine (i_Arity _ _).mono ?_;rintro e w' ⟨rfl,rfl⟩;rw [HA.out]))
  all_goals go_wp2_with fail
  all_goals go_ret
  all_goals
   have e1:gqn k a b c=[a,b]:=by simp [gqn,HA.out]
   refine ⟨some ⟨w.heap.size+1,0,none⟩,2,?_,?_,?_⟩
   ·rw [HA.out];rfl
   ·rw [HA.out,e1];exact ⟨rfl,hr.out.pre (k:=2) (by omega)⟩
   ·exact (((zW).alloc zR _).alloc (by simp) _).drew
 ·have HA:=zH ha
  clear ha
  go_enter Tryz.func48,Tryz.ntmps48
  go_wp2_with fail
  go_region_held3 (fun w'=>w'.cell? ⟨w.heap.size,0,none⟩=some (.int .i64 k)/\w'.cell? ⟨w.heap.size,1,none⟩=some (.int .i64 a)/\w'.cell? ⟨w.heap.size,2,none⟩=some (.int .i64 b)/\w'.cell? ⟨w.heap.size,3,none⟩=some (.int .i64 c))
   (first | go_keep)
   (first | (go_at_call 44;refine (i_Arity _ _).mono ?_;rintro e w' ⟨rfl,rfl⟩;rw [HA.out]))
  all_goals go_wp2_with fail
  all_goals go_ret
  all_goals
   have e1:gqn k a b c=[a,b,c]:=by simp [gqn,HA.out]
   refine ⟨some ⟨w.heap.size+1,0,none⟩,3,?_,?_,?_⟩
   ·rw [HA.out];rfl
   ·rw [HA.out,e1];exact ⟨rfl,hr.out.pre (k:=3) (by omega)⟩
   ·exact (((zW).alloc zR _).alloc (by simp) _).drew
 ·have HA:=zH ha
  clear ha
  go_enter Tryz.func48,Tryz.ntmps48
  go_wp2_with fail
  go_region_held3 (fun w'=>w'.cell? ⟨w.heap.size,0,none⟩=some (.int .i64 k)/\w'.cell? ⟨w.heap.size,1,none⟩=some (.int .i64 a)/\w'.cell? ⟨w.heap.size,2,none⟩=some (.int .i64 b)/\w'.cell? ⟨w.heap.size,3,none⟩=some (.int .i64 c))
   (first | go_keep)
   (first | (go_at_call 44;refine (i_Arity _ _).mono ?_;rintro e w' ⟨rfl,rfl⟩;rw [HA.out]))
  all_goals go_wp2_with fail
  all_goals go_ret
  all_goals
   have e1:gqn k a b c=[]:=by simp [gqn,HA.out]
   refine ⟨some ⟨w.heap.size+1,0,none⟩,0,?_,?_,?_⟩
   ·rw [HA.out];rfl
   ·rw [HA.out,e1];exact ⟨rfl,hr.out.pre (k:=0) (by omega)⟩
   ·exact (((zW).alloc zR _).alloc (by simp) _).drew
theorem s_ActsOn (k a b c q:Int) (w:World):Calls Tryz.prog 206 #[.agg #[.int .i64 k,.int .i64 a,.int .i64 b,.int .i64 c],.int .i64 q] w fun e w'=>e=.returned (.bool (acts k a b c q))/\Below w.heap.size w w':=by
 have hbd:=arity_bd k
 go_enter Tryz.func206,Tryz.ntmps206
 go_wp2_with fail
 refine (s_GateQubits _ _ _ _ _).mono ?_
 rintro e w1 ⟨A1,c1,rfl,r1,b1⟩
 go_wp2_with fail
 refine (s_hasI _ _ _ _ _ _ r1 (by omega)).mono ?_
 rintro e w2 ⟨rfl,rfl⟩
 go_wp2_with fail
 go_ret
 exact ⟨rfl,below_alloc b1⟩
theorem i_ActsOn (k a b c q:Int) (w:World):Calls Tryz.prog 127 #[.agg #[.int .i64 k,.int .i64 a,.int .i64 b,.int .i64 c],.int .i64 q] w fun e w'=>e=.returned (.bool (acts k a b c q))/\Below w.heap.size w w':=by
 have hbd:=arity_bd k
 obtain ⟨n,hn⟩:∃ n,(arity k).toNat=n:=⟨_,rfl⟩
 have HN:=zH hn
 have hn4:n<=4:=by omega
 obtain ⟨zs,hz⟩:∃ zs,gqn k a b c=zs:=⟨_,rfl⟩
 have HZ:=zH hz
 have HC:Hid (acts k a b c q=hasI zs q):=by rw [<- hz];rfl
 clear hn hz hbd
 go_enter Tryz.func127,Tryz.ntmps127
 go_wp2_with fail
 refine (i_GateQubits _ _ _ _ _).mono ?_
 rintro e w1 ⟨A1,c1,rfl,r1,b1⟩
 rw [HN.out,HZ.out] at r1
 rw [HN.out]
 have b01:=below_alloc b1
 have R1:=zH r1
 clear r1 b1
 go_wp2_with fail
 go_loopg [10] n (fun m i wr=>∃ (j:Nat),j+m=n/\i=.int .i64 j/\hasI (zs.drop j) q=hasI zs q/\w1=wr)
 case atStart=>exact ⟨0,by omega,rfl,by simp,rfl⟩
 case round =>
  obtain ⟨j,hk,rfl,hx,rfl⟩:=hrel
  have HX:=zH hx
  clear hx
  by_cases hlt:j < n
  ·obtain ⟨b',off,y,rfl,hB,hd,c0⟩:=R1.out.at_ hlt
   have HD:=zH hd
   clear hd
   by_cases h1:(y == q)=true
   ·go_wp2_with fail
    go_ret
    exact ⟨ret_bool (HC.out.trans (hasI_hit HD.out h1)).symm,b01⟩
   ·have h1':(y == q)=false:=by simpa using h1
    clear h1
    go_wp2_with fail
    go_roundg (gk - 1)
    case measure=>omega
    case rel=>exact ⟨j+1,by omega,by go_num,by rw [<- HX.out,HD.out];simp [hasI,h1'],rfl⟩
  ·go_wp2_with fail
   go_ret
   exact ⟨ret_bool (by rw [HC.out,<- HX.out,List.drop_eq_nil_of_le (by have:=R1.out.1;omega)];rfl),b01⟩
end Go.Proofs.YtmenmibfkojnoaaGreat
