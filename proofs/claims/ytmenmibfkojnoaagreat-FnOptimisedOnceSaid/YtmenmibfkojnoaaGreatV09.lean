/- Contracts of RotationGates (spec and impl). Nothing is asked. -/
import Derived.Test.YtmenmibfkojnoaaGreatV01
import Derived.Test.YtmenmibfkojnoaaGreatV02
set_option maxHeartbeats 16000000
namespace Go.Proofs.YtmenmibfkojnoaaGreat
open Go.RowKit
def rotK (c:Int):List Int:=if c=1 then [7] else if c=2 then [5] else if c=3 then [5,7] else if c=4 then [3] else if c=5 then [3,7] else if c=6 then [6] else if c=7 then [8] else []
def kindG (q k:Int):Gt:=⟨k,q,0,0⟩
def rotG (c q:Int):List Gt:=(rotK c).map (kindG q)
theorem rotK_out {c:Int} (h:c < 0 ∨ 7 < c):rotK c=[]:=by
 unfold rotK
 rw [if_neg (by omega),if_neg (by omega),if_neg (by omega),if_neg (by omega),if_neg (by omega),if_neg (by omega),if_neg (by omega)]
theorem rotK_len (c:Int):(rotK c).length<=2:=by
 unfold rotK
 repeat' split
 all_goals simp
theorem rotG_len (c q:Int):(rotG c q).length=(rotK c).length:=by simp [rotG]
theorem s_Rot0 (q:Int) (w:World):Calls Tryz.prog 104 #[.int .i64 0,.int .i64 q] w (Ret 39 4 (cellsG (rotG 0 q)) 0 w):=by
 have hz:Hid (rotG 0 q=([]:List Int).map (kindG q)):=rfl
 go_enter Tryz.func104,Tryz.ntmps104
 go_wp2_with fail
 go_loopg [6,7] 0 (fun m v i wr=>∃ (k:Nat) (A:Option Addr) (ca:Nat),k+m=0/\i=.int .i64 k/\v=.slice A k ca/\wr.ownsRow w.heap.size 39 4 (.slice A k ca) k (cellsG ((([]:List Int).take k).map (kindG q)))/\Below w.heap.size w wr/\Bx wr (w.heap.size) 3 #[]/\Bx wr (w.heap.size+1+1+1+1+1+1+1+1) 58 #[.slice (some ⟨w.heap.size,0,none⟩) 0 0,.slice (some ⟨w.heap.size+1,0,none⟩) 1 1,.slice (some ⟨w.heap.size+1+1,0,none⟩) 1 1,.slice (some ⟨w.heap.size+1+1+1,0,none⟩) 2 2,.slice (some ⟨w.heap.size+1+1+1+1,0,none⟩) 1 1,.slice (some ⟨w.heap.size+1+1+1+1+1,0,none⟩) 2 2,.slice (some ⟨w.heap.size+1+1+1+1+1+1,0,none⟩) 1 1,.slice (some ⟨w.heap.size+1+1+1+1+1+1+1,0,none⟩) 1 1])
 case atStart =>
  refine ⟨0,_,_,by omega,rfl,rfl,?_,?_,?_,?_⟩
  ·have ho:=World.ownsRow_lit (((((((((w.alloc (.cells #[] 3)).alloc (.cells #[.int .i64 7] 3)).alloc (.cells #[.int .i64 5] 3)).alloc (.cells #[.int .i64 5,.int .i64 7] 3)).alloc (.cells #[.int .i64 3] 3)).alloc (.cells #[.int .i64 3,.int .i64 7] 3)).alloc (.cells #[.int .i64 6] 3)).alloc (.cells #[.int .i64 8] 3)).alloc (.cells #[.slice (some ⟨w.heap.size,0,none⟩) 0 0,.slice (some ⟨w.heap.size+1,0,none⟩) 1 1,.slice (some ⟨w.heap.size+1+1,0,none⟩) 1 1,.slice (some ⟨w.heap.size+1+1+1,0,none⟩) 2 2,.slice (some ⟨w.heap.size+1+1+1+1,0,none⟩) 1 1,.slice (some ⟨w.heap.size+1+1+1+1+1,0,none⟩) 2 2,.slice (some ⟨w.heap.size+1+1+1+1+1+1,0,none⟩) 1 1,.slice (some ⟨w.heap.size+1+1+1+1+1+1+1,0,none⟩) 1 1] 58)) #[] 0 (size:=4) (e:=39) (base:=w.heap.size) (by simp<;>omega) (by simp [maxLen]) rfl
   simp [cellsG] at ho ⊢
   repeat (first | exact ho | refine World.ownsRow.alloc ?_ _)
  ·exact (by repeat (first | exact zW | assumption | refine Below.drew ?_ | refine Below.alloc ?_ (by simp<;>omega) _))
  ·repeat (first | (refine Bx.new' ?_;simp;done) | refine Bx.alloc ?_ _)
  ·repeat (first | (refine Bx.new' ?_;simp;done) | refine Bx.alloc ?_ _)
 case round =>
  obtain ⟨k,A,ca,hk,rfl,rfl,hown,hb,hbx,hout⟩:=hrel
  have hsz:=hb.size
  have oc:wr.cell? ⟨w.heap.size+1+1+1+1+1+1+1+1,0,none⟩=some (.slice (some ⟨w.heap.size,0,none⟩) 0 0):=hout.cell 0
  obtain rfl:k=0:=by omega
  go_wp2_with fail
  refine (s_in _ _ _ _).mono ?_
  rintro e w' ⟨rfl,rfl⟩
  rw [inB_t (by omega) (by omega)]
  go_wp2_with fail
  go_ret
  exact ⟨A,ca,rfl,by rw [hz.out];exact hown,hb⟩
theorem s_Rot1 (q:Int) (w:World):Calls Tryz.prog 104 #[.int .i64 1,.int .i64 q] w (Ret 39 4 (cellsG (rotG 1 q)) 1 w):=by
 have hz:Hid (rotG 1 q=([7]:List Int).map (kindG q)):=rfl
 go_enter Tryz.func104,Tryz.ntmps104
 go_wp2_with fail
 go_loopg [6,7] 1 (fun m v i wr=>∃ (k:Nat) (A:Option Addr) (ca:Nat),k+m=1/\i=.int .i64 k/\v=.slice A k ca/\wr.ownsRow w.heap.size 39 4 (.slice A k ca) k (cellsG ((([7]:List Int).take k).map (kindG q)))/\Below w.heap.size w wr/\Bx wr (w.heap.size+1) 3 #[.int .i64 7]/\Bx wr (w.heap.size+1+1+1+1+1+1+1+1) 58 #[.slice (some ⟨w.heap.size,0,none⟩) 0 0,.slice (some ⟨w.heap.size+1,0,none⟩) 1 1,.slice (some ⟨w.heap.size+1+1,0,none⟩) 1 1,.slice (some ⟨w.heap.size+1+1+1,0,none⟩) 2 2,.slice (some ⟨w.heap.size+1+1+1+1,0,none⟩) 1 1,.slice (some ⟨w.heap.size+1+1+1+1+1,0,none⟩) 2 2,.slice (some ⟨w.heap.size+1+1+1+1+1+1,0,none⟩) 1 1,.slice (some ⟨w.heap.size+1+1+1+1+1+1+1,0,none⟩) 1 1])
 case atStart =>
  refine ⟨0,_,_,by omega,rfl,rfl,?_,?_,?_,?_⟩
  ·have ho:=World.ownsRow_lit (((((((((w.alloc (.cells #[] 3)).alloc (.cells #[.int .i64 7] 3)).alloc (.cells #[.int .i64 5] 3)).alloc (.cells #[.int .i64 5,.int .i64 7] 3)).alloc (.cells #[.int .i64 3] 3)).alloc (.cells #[.int .i64 3,.int .i64 7] 3)).alloc (.cells #[.int .i64 6] 3)).alloc (.cells #[.int .i64 8] 3)).alloc (.cells #[.slice (some ⟨w.heap.size,0,none⟩) 0 0,.slice (some ⟨w.heap.size+1,0,none⟩) 1 1,.slice (some ⟨w.heap.size+1+1,0,none⟩) 1 1,.slice (some ⟨w.heap.size+1+1+1,0,none⟩) 2 2,.slice (some ⟨w.heap.size+1+1+1+1,0,none⟩) 1 1,.slice (some ⟨w.heap.size+1+1+1+1+1,0,none⟩) 2 2,.slice (some ⟨w.heap.size+1+1+1+1+1+1,0,none⟩) 1 1,.slice (some ⟨w.heap.size+1+1+1+1+1+1+1,0,none⟩) 1 1] 58)) #[] 0 (size:=4) (e:=39) (base:=w.heap.size) (by simp<;>omega) (by simp [maxLen]) rfl
   simp [cellsG] at ho ⊢
   repeat (first | exact ho | refine World.ownsRow.alloc ?_ _)
  ·exact (by repeat (first | exact zW | assumption | refine Below.drew ?_ | refine Below.alloc ?_ (by simp<;>omega) _))
  ·repeat (first | (refine Bx.new' ?_;simp;done) | refine Bx.alloc ?_ _)
  ·repeat (first | (refine Bx.new' ?_;simp;done) | refine Bx.alloc ?_ _)
 case round =>
  obtain ⟨k,A,ca,hk,rfl,rfl,hown,hb,hbx,hout⟩:=hrel
  have hsz:=hb.size
  have oc:wr.cell? ⟨w.heap.size+1+1+1+1+1+1+1+1,1,none⟩=some (.slice (some ⟨w.heap.size+1,0,none⟩) 1 1):=hout.cell 1
  by_cases hk0:k=0
  ·subst hk0
   have ic:wr.cell? ⟨w.heap.size+1,0,none⟩=some (.int .i64 7):=hbx.cell 0
   go_wp2_with fail
   refine (s_in _ _ _ _).mono ?_
   rintro e w' ⟨rfl,rfl⟩
   rw [inB_t (by omega) (by omega)]
   go_wp2_with fail
   refine (s_one _ _ _).mono ?_
   rintro e w1 ⟨rfl,b1⟩
   have o1:=ownsRow_below hown b1
   have bx1:=hbx.below b1
   have ou1:=hout.below b1
   have b01:=hb.trans (b1.mono hb.size)
   have hsz1:=b01.size
   clear b1
   go_wp2_with (at_builtin;refine wpList_app rfl (.tmp 31) (.tmp 41) 24 rfl Tryz.underlying24 infoGate rfl (by decide) rfl (o1.alloc _) rfl (Rd.lit w1 39 #[.int .i64 7,.int .i64 q,.int .i64 0,.int .i64 0] 1 4 rfl) (by simp [Value.oneCell']) (by omega) (by decide) (by simp<;>omega) ?_;intro A2 c2 w2 o2 g2)
   go_roundg (gk - 1)
   case measure=>omega
   case rel =>
    refine ⟨0+1,A2,c2,by omega,by go_num,rfl,?_,below_grown (b01.alloc hsz1 _) (by simp<;>omega) (o1.alloc _) zR g2,kept_app (o1.alloc _) g2 (bx1.alloc _) (by decide),kept_app (o1.alloc _) g2 (ou1.alloc _) (by decide)⟩
    simpa [cellsG,Gt.cells,kindG] using o2
  obtain rfl:k=1:=by omega
  go_wp2_with fail
  refine (s_in _ _ _ _).mono ?_
  rintro e w' ⟨rfl,rfl⟩
  rw [inB_t (by omega) (by omega)]
  go_wp2_with fail
  go_ret
  exact ⟨A,ca,rfl,by rw [hz.out];exact hown,hb⟩
theorem s_Rot2 (q:Int) (w:World):Calls Tryz.prog 104 #[.int .i64 2,.int .i64 q] w (Ret 39 4 (cellsG (rotG 2 q)) 1 w):=by
 have hz:Hid (rotG 2 q=([5]:List Int).map (kindG q)):=rfl
 go_enter Tryz.func104,Tryz.ntmps104
 go_wp2_with fail
 go_loopg [6,7] 1 (fun m v i wr=>∃ (k:Nat) (A:Option Addr) (ca:Nat),k+m=1/\i=.int .i64 k/\v=.slice A k ca/\wr.ownsRow w.heap.size 39 4 (.slice A k ca) k (cellsG ((([5]:List Int).take k).map (kindG q)))/\Below w.heap.size w wr/\Bx wr (w.heap.size+1+1) 3 #[.int .i64 5]/\Bx wr (w.heap.size+1+1+1+1+1+1+1+1) 58 #[.slice (some ⟨w.heap.size,0,none⟩) 0 0,.slice (some ⟨w.heap.size+1,0,none⟩) 1 1,.slice (some ⟨w.heap.size+1+1,0,none⟩) 1 1,.slice (some ⟨w.heap.size+1+1+1,0,none⟩) 2 2,.slice (some ⟨w.heap.size+1+1+1+1,0,none⟩) 1 1,.slice (some ⟨w.heap.size+1+1+1+1+1,0,none⟩) 2 2,.slice (some ⟨w.heap.size+1+1+1+1+1+1,0,none⟩) 1 1,.slice (some ⟨w.heap.size+1+1+1+1+1+1+1,0,none⟩) 1 1])
 case atStart =>
  refine ⟨0,_,_,by omega,rfl,rfl,?_,?_,?_,?_⟩
  ·have ho:=World.ownsRow_lit (((((((((w.alloc (.cells #[] 3)).alloc (.cells #[.int .i64 7] 3)).alloc (.cells #[.int .i64 5] 3)).alloc (.cells #[.int .i64 5,.int .i64 7] 3)).alloc (.cells #[.int .i64 3] 3)).alloc (.cells #[.int .i64 3,.int .i64 7] 3)).alloc (.cells #[.int .i64 6] 3)).alloc (.cells #[.int .i64 8] 3)).alloc (.cells #[.slice (some ⟨w.heap.size,0,none⟩) 0 0,.slice (some ⟨w.heap.size+1,0,none⟩) 1 1,.slice (some ⟨w.heap.size+1+1,0,none⟩) 1 1,.slice (some ⟨w.heap.size+1+1+1,0,none⟩) 2 2,.slice (some ⟨w.heap.size+1+1+1+1,0,none⟩) 1 1,.slice (some ⟨w.heap.size+1+1+1+1+1,0,none⟩) 2 2,.slice (some ⟨w.heap.size+1+1+1+1+1+1,0,none⟩) 1 1,.slice (some ⟨w.heap.size+1+1+1+1+1+1+1,0,none⟩) 1 1] 58)) #[] 0 (size:=4) (e:=39) (base:=w.heap.size) (by simp<;>omega) (by simp [maxLen]) rfl
   simp [cellsG] at ho ⊢
   repeat (first | exact ho | refine World.ownsRow.alloc ?_ _)
  ·exact (by repeat (first | exact zW | assumption | refine Below.drew ?_ | refine Below.alloc ?_ (by simp<;>omega) _))
  ·repeat (first | (refine Bx.new' ?_;simp;done) | refine Bx.alloc ?_ _)
  ·repeat (first | (refine Bx.new' ?_;simp;done) | refine Bx.alloc ?_ _)
 case round =>
  obtain ⟨k,A,ca,hk,rfl,rfl,hown,hb,hbx,hout⟩:=hrel
  have hsz:=hb.size
  have oc:wr.cell? ⟨w.heap.size+1+1+1+1+1+1+1+1,2,none⟩=some (.slice (some ⟨w.heap.size+1+1,0,none⟩) 1 1):=hout.cell 2
  by_cases hk0:k=0
  ·subst hk0
   have ic:wr.cell? ⟨w.heap.size+1+1,0,none⟩=some (.int .i64 5):=hbx.cell 0
   go_wp2_with fail
   refine (s_in _ _ _ _).mono ?_
   rintro e w' ⟨rfl,rfl⟩
   rw [inB_t (by omega) (by omega)]
   go_wp2_with fail
   refine (s_one _ _ _).mono ?_
   rintro e w1 ⟨rfl,b1⟩
   have o1:=ownsRow_below hown b1
   have bx1:=hbx.below b1
   have ou1:=hout.below b1
   have b01:=hb.trans (b1.mono hb.size)
   have hsz1:=b01.size
   clear b1
   go_wp2_with (at_builtin;refine wpList_app rfl (.tmp 31) (.tmp 41) 24 rfl Tryz.underlying24 infoGate rfl (by decide) rfl (o1.alloc _) rfl (Rd.lit w1 39 #[.int .i64 5,.int .i64 q,.int .i64 0,.int .i64 0] 1 4 rfl) (by simp [Value.oneCell']) (by omega) (by decide) (by simp<;>omega) ?_;intro A2 c2 w2 o2 g2)
   go_roundg (gk - 1)
   case measure=>omega
   case rel =>
    refine ⟨0+1,A2,c2,by omega,by go_num,rfl,?_,below_grown (b01.alloc hsz1 _) (by simp<;>omega) (o1.alloc _) zR g2,kept_app (o1.alloc _) g2 (bx1.alloc _) (by decide),kept_app (o1.alloc _) g2 (ou1.alloc _) (by decide)⟩
    simpa [cellsG,Gt.cells,kindG] using o2
  obtain rfl:k=1:=by omega
  go_wp2_with fail
  refine (s_in _ _ _ _).mono ?_
  rintro e w' ⟨rfl,rfl⟩
  rw [inB_t (by omega) (by omega)]
  go_wp2_with fail
  go_ret
  exact ⟨A,ca,rfl,by rw [hz.out];exact hown,hb⟩
theorem s_Rot3 (q:Int) (w:World):Calls Tryz.prog 104 #[.int .i64 3,.int .i64 q] w (Ret 39 4 (cellsG (rotG 3 q)) 2 w):=by
 have hz:Hid (rotG 3 q=([5,7]:List Int).map (kindG q)):=rfl
 go_enter Tryz.func104,Tryz.ntmps104
 go_wp2_with fail
 go_loopg [6,7] 2 (fun m v i wr=>∃ (k:Nat) (A:Option Addr) (ca:Nat),k+m=2/\i=.int .i64 k/\v=.slice A k ca/\wr.ownsRow w.heap.size 39 4 (.slice A k ca) k (cellsG ((([5,7]:List Int).take k).map (kindG q)))/\Below w.heap.size w wr/\Bx wr (w.heap.size+1+1+1) 3 #[.int .i64 5,.int .i64 7]/\Bx wr (w.heap.size+1+1+1+1+1+1+1+1) 58 #[.slice (some ⟨w.heap.size,0,none⟩) 0 0,.slice (some ⟨w.heap.size+1,0,none⟩) 1 1,.slice (some ⟨w.heap.size+1+1,0,none⟩) 1 1,.slice (some ⟨w.heap.size+1+1+1,0,none⟩) 2 2,.slice (some ⟨w.heap.size+1+1+1+1,0,none⟩) 1 1,.slice (some ⟨w.heap.size+1+1+1+1+1,0,none⟩) 2 2,.slice (some ⟨w.heap.size+1+1+1+1+1+1,0,none⟩) 1 1,.slice (some ⟨w.heap.size+1+1+1+1+1+1+1,0,none⟩) 1 1])
 case atStart =>
  refine ⟨0,_,_,by omega,rfl,rfl,?_,?_,?_,?_⟩
  ·have ho:=World.ownsRow_lit (((((((((w.alloc (.cells #[] 3)).alloc (.cells #[.int .i64 7] 3)).alloc (.cells #[.int .i64 5] 3)).alloc (.cells #[.int .i64 5,.int .i64 7] 3)).alloc (.cells #[.int .i64 3] 3)).alloc (.cells #[.int .i64 3,.int .i64 7] 3)).alloc (.cells #[.int .i64 6] 3)).alloc (.cells #[.int .i64 8] 3)).alloc (.cells #[.slice (some ⟨w.heap.size,0,none⟩) 0 0,.slice (some ⟨w.heap.size+1,0,none⟩) 1 1,.slice (some ⟨w.heap.size+1+1,0,none⟩) 1 1,.slice (some ⟨w.heap.size+1+1+1,0,none⟩) 2 2,.slice (some ⟨w.heap.size+1+1+1+1,0,none⟩) 1 1,.slice (some ⟨w.heap.size+1+1+1+1+1,0,none⟩) 2 2,.slice (some ⟨w.heap.size+1+1+1+1+1+1,0,none⟩) 1 1,.slice (some ⟨w.heap.size+1+1+1+1+1+1+1,0,none⟩) 1 1] 58)) #[] 0 (size:=4) (e:=39) (base:=w.heap.size) (by simp<;>omega) (by simp [maxLen]) rfl
   simp [cellsG] at ho ⊢
   repeat (first | exact ho | refine World.ownsRow.alloc ?_ _)
  ·exact (by repeat (first | exact zW | assumption | refine Below.drew ?_ | refine Below.alloc ?_ (by simp<;>omega) _))
  ·repeat (first | (refine Bx.new' ?_;simp;done) | refine Bx.alloc ?_ _)
  ·repeat (first | (refine Bx.new' ?_;simp;done) | refine Bx.alloc ?_ _)
 case round =>
  obtain ⟨k,A,ca,hk,rfl,rfl,hown,hb,hbx,hout⟩:=hrel
  have hsz:=hb.size
  have oc:wr.cell? ⟨w.heap.size+1+1+1+1+1+1+1+1,3,none⟩=some (.slice (some ⟨w.heap.size+1+1+1,0,none⟩) 2 2):=hout.cell 3
  by_cases hk0:k=0
  ·subst hk0
   have ic:wr.cell? ⟨w.heap.size+1+1+1,0,none⟩=some (.int .i64 5):=hbx.cell 0
   go_wp2_with fail
   refine (s_in _ _ _ _).mono ?_
   rintro e w' ⟨rfl,rfl⟩
   rw [inB_t (by omega) (by omega)]
   go_wp2_with fail
   refine (s_one _ _ _).mono ?_
   rintro e w1 ⟨rfl,b1⟩
   have o1:=ownsRow_below hown b1
   have bx1:=hbx.below b1
   have ou1:=hout.below b1
   have b01:=hb.trans (b1.mono hb.size)
   have hsz1:=b01.size
   clear b1
   go_wp2_with (at_builtin;refine wpList_app rfl (.tmp 31) (.tmp 41) 24 rfl Tryz.underlying24 infoGate rfl (by decide) rfl (o1.alloc _) rfl (Rd.lit w1 39 #[.int .i64 5,.int .i64 q,.int .i64 0,.int .i64 0] 1 4 rfl) (by simp [Value.oneCell']) (by omega) (by decide) (by simp<;>omega) ?_;intro A2 c2 w2 o2 g2)
   go_roundg (gk - 1)
   case measure=>omega
   case rel =>
    refine ⟨0+1,A2,c2,by omega,by go_num,rfl,?_,below_grown (b01.alloc hsz1 _) (by simp<;>omega) (o1.alloc _) zR g2,kept_app (o1.alloc _) g2 (bx1.alloc _) (by decide),kept_app (o1.alloc _) g2 (ou1.alloc _) (by decide)⟩
    simpa [cellsG,Gt.cells,kindG] using o2
  by_cases hk1:k=1
  ·subst hk1
   have ic:wr.cell? ⟨w.heap.size+1+1+1,1,none⟩=some (.int .i64 7):=hbx.cell 1
   go_wp2_with fail
   refine (s_in _ _ _ _).mono ?_
   rintro e w' ⟨rfl,rfl⟩
   rw [inB_t (by omega) (by omega)]
   go_wp2_with fail
   refine (s_one _ _ _).mono ?_
   rintro e w1 ⟨rfl,b1⟩
   have o1:=ownsRow_below hown b1
   have bx1:=hbx.below b1
   have ou1:=hout.below b1
   have b01:=hb.trans (b1.mono hb.size)
   have hsz1:=b01.size
   clear b1
   go_wp2_with (at_builtin;refine wpList_app rfl (.tmp 31) (.tmp 41) 24 rfl Tryz.underlying24 infoGate rfl (by decide) rfl (o1.alloc _) rfl (Rd.lit w1 39 #[.int .i64 7,.int .i64 q,.int .i64 0,.int .i64 0] 1 4 rfl) (by simp [Value.oneCell']) (by omega) (by decide) (by simp<;>omega) ?_;intro A2 c2 w2 o2 g2)
   go_roundg (gk - 1)
   case measure=>omega
   case rel =>
    refine ⟨1+1,A2,c2,by omega,by go_num,rfl,?_,below_grown (b01.alloc hsz1 _) (by simp<;>omega) (o1.alloc _) zR g2,kept_app (o1.alloc _) g2 (bx1.alloc _) (by decide),kept_app (o1.alloc _) g2 (ou1.alloc _) (by decide)⟩
    simpa [cellsG,Gt.cells,kindG] using o2
  obtain rfl:k=2:=by omega
  go_wp2_with fail
  refine (s_in _ _ _ _).mono ?_
  rintro e w' ⟨rfl,rfl⟩
  rw [inB_t (by omega) (by omega)]
  go_wp2_with fail
  go_ret
  exact ⟨A,ca,rfl,by rw [hz.out];exact hown,hb⟩
theorem s_Rot4 (q:Int) (w:World):Calls Tryz.prog 104 #[.int .i64 4,.int .i64 q] w (Ret 39 4 (cellsG (rotG 4 q)) 1 w):=by
 have hz:Hid (rotG 4 q=([3]:List Int).map (kindG q)):=rfl
 go_enter Tryz.func104,Tryz.ntmps104
 go_wp2_with fail
 go_loopg [6,7] 1 (fun m v i wr=>∃ (k:Nat) (A:Option Addr) (ca:Nat),k+m=1/\i=.int .i64 k/\v=.slice A k ca/\wr.ownsRow w.heap.size 39 4 (.slice A k ca) k (cellsG ((([3]:List Int).take k).map (kindG q)))/\Below w.heap.size w wr/\Bx wr (w.heap.size+1+1+1+1) 3 #[.int .i64 3]/\Bx wr (w.heap.size+1+1+1+1+1+1+1+1) 58 #[.slice (some ⟨w.heap.size,0,none⟩) 0 0,.slice (some ⟨w.heap.size+1,0,none⟩) 1 1,.slice (some ⟨w.heap.size+1+1,0,none⟩) 1 1,.slice (some ⟨w.heap.size+1+1+1,0,none⟩) 2 2,.slice (some ⟨w.heap.size+1+1+1+1,0,none⟩) 1 1,.slice (some ⟨w.heap.size+1+1+1+1+1,0,none⟩) 2 2,.slice (some ⟨w.heap.size+1+1+1+1+1+1,0,none⟩) 1 1,.slice (some ⟨w.heap.size+1+1+1+1+1+1+1,0,none⟩) 1 1])
 case atStart =>
  refine ⟨0,_,_,by omega,rfl,rfl,?_,?_,?_,?_⟩
  ·have ho:=World.ownsRow_lit (((((((((w.alloc (.cells #[] 3)).alloc (.cells #[.int .i64 7] 3)).alloc (.cells #[.int .i64 5] 3)).alloc (.cells #[.int .i64 5,.int .i64 7] 3)).alloc (.cells #[.int .i64 3] 3)).alloc (.cells #[.int .i64 3,.int .i64 7] 3)).alloc (.cells #[.int .i64 6] 3)).alloc (.cells #[.int .i64 8] 3)).alloc (.cells #[.slice (some ⟨w.heap.size,0,none⟩) 0 0,.slice (some ⟨w.heap.size+1,0,none⟩) 1 1,.slice (some ⟨w.heap.size+1+1,0,none⟩) 1 1,.slice (some ⟨w.heap.size+1+1+1,0,none⟩) 2 2,.slice (some ⟨w.heap.size+1+1+1+1,0,none⟩) 1 1,.slice (some ⟨w.heap.size+1+1+1+1+1,0,none⟩) 2 2,.slice (some ⟨w.heap.size+1+1+1+1+1+1,0,none⟩) 1 1,.slice (some ⟨w.heap.size+1+1+1+1+1+1+1,0,none⟩) 1 1] 58)) #[] 0 (size:=4) (e:=39) (base:=w.heap.size) (by simp<;>omega) (by simp [maxLen]) rfl
   simp [cellsG] at ho ⊢
   repeat (first | exact ho | refine World.ownsRow.alloc ?_ _)
  ·exact (by repeat (first | exact zW | assumption | refine Below.drew ?_ | refine Below.alloc ?_ (by simp<;>omega) _))
  ·repeat (first | (refine Bx.new' ?_;simp;done) | refine Bx.alloc ?_ _)
  ·repeat (first | (refine Bx.new' ?_;simp;done) | refine Bx.alloc ?_ _)
 case round =>
  obtain ⟨k,A,ca,hk,rfl,rfl,hown,hb,hbx,hout⟩:=hrel
  have hsz:=hb.size
  have oc:wr.cell? ⟨w.heap.size+1+1+1+1+1+1+1+1,4,none⟩=some (.slice (some ⟨w.heap.size+1+1+1+1,0,none⟩) 1 1):=hout.cell 4
  by_cases hk0:k=0
  ·subst hk0
   have ic:wr.cell? ⟨w.heap.size+1+1+1+1,0,none⟩=some (.int .i64 3):=hbx.cell 0
   go_wp2_with fail
   refine (s_in _ _ _ _).mono ?_
   rintro e w' ⟨rfl,rfl⟩
   rw [inB_t (by omega) (by omega)]
   go_wp2_with fail
   refine (s_one _ _ _).mono ?_
   rintro e w1 ⟨rfl,b1⟩
   have o1:=ownsRow_below hown b1
   have bx1:=hbx.below b1
   have ou1:=hout.below b1
   have b01:=hb.trans (b1.mono hb.size)
   have hsz1:=b01.size
   clear b1
   go_wp2_with (at_builtin;refine wpList_app rfl (.tmp 31) (.tmp 41) 24 rfl Tryz.underlying24 infoGate rfl (by decide) rfl (o1.alloc _) rfl (Rd.lit w1 39 #[.int .i64 3,.int .i64 q,.int .i64 0,.int .i64 0] 1 4 rfl) (by simp [Value.oneCell']) (by omega) (by decide) (by simp<;>omega) ?_;intro A2 c2 w2 o2 g2)
   go_roundg (gk - 1)
   case measure=>omega
   case rel =>
    refine ⟨0+1,A2,c2,by omega,by go_num,rfl,?_,below_grown (b01.alloc hsz1 _) (by simp<;>omega) (o1.alloc _) zR g2,kept_app (o1.alloc _) g2 (bx1.alloc _) (by decide),kept_app (o1.alloc _) g2 (ou1.alloc _) (by decide)⟩
    simpa [cellsG,Gt.cells,kindG] using o2
  obtain rfl:k=1:=by omega
  go_wp2_with fail
  refine (s_in _ _ _ _).mono ?_
  rintro e w' ⟨rfl,rfl⟩
  rw [inB_t (by omega) (by omega)]
  go_wp2_with fail
  go_ret
  exact ⟨A,ca,rfl,by rw [hz.out];exact hown,hb⟩
theorem s_Rot5 (q:Int) (w:World):Calls Tryz.prog 104 #[.int .i64 5,.int .i64 q] w (Ret 39 4 (cellsG (rotG 5 q)) 2 w):=by
 have hz:Hid (rotG 5 q=([3,7]:List Int).map (kindG q)):=rfl
 go_enter Tryz.func104,Tryz.ntmps104
 go_wp2_with fail
 go_loopg [6,7] 2 (fun m v i wr=>∃ (k:Nat) (A:Option Addr) (ca:Nat),k+m=2/\i=.int .i64 k/\v=.slice A k ca/\wr.ownsRow w.heap.size 39 4 (.slice A k ca) k (cellsG ((([3,7]:List Int).take k).map (kindG q)))/\Below w.heap.size w wr/\Bx wr (w.heap.size+1+1+1+1+1) 3 #[.int .i64 3,.int .i64 7]/\Bx wr (w.heap.size+1+1+1+1+1+1+1+1) 58 #[.slice (some ⟨w.heap.size,0,none⟩) 0 0,.slice (some ⟨w.heap.size+1,0,none⟩) 1 1,.slice (some ⟨w.heap.size+1+1,0,none⟩) 1 1,.slice (some ⟨w.heap.size+1+1+1,0,none⟩) 2 2,.slice (some ⟨w.heap.size+1+1+1+1,0,none⟩) 1 1,.slice (some ⟨w.heap.size+1+1+1+1+1,0,none⟩) 2 2,.slice (some ⟨w.heap.size+1+1+1+1+1+1,0,none⟩) 1 1,.slice (some ⟨w.heap.size+1+1+1+1+1+1+1,0,none⟩) 1 1])
 case atStart =>
  refine ⟨0,_,_,by omega,rfl,rfl,?_,?_,?_,?_⟩
  ·have ho:=World.ownsRow_lit (((((((((w.alloc (.cells #[] 3)).alloc (.cells #[.int .i64 7] 3)).alloc (.cells #[.int .i64 5] 3)).alloc (.cells #[.int .i64 5,.int .i64 7] 3)).alloc (.cells #[.int .i64 3] 3)).alloc (.cells #[.int .i64 3,.int .i64 7] 3)).alloc (.cells #[.int .i64 6] 3)).alloc (.cells #[.int .i64 8] 3)).alloc (.cells #[.slice (some ⟨w.heap.size,0,none⟩) 0 0,.slice (some ⟨w.heap.size+1,0,none⟩) 1 1,.slice (some ⟨w.heap.size+1+1,0,none⟩) 1 1,.slice (some ⟨w.heap.size+1+1+1,0,none⟩) 2 2,.slice (some ⟨w.heap.size+1+1+1+1,0,none⟩) 1 1,.slice (some ⟨w.heap.size+1+1+1+1+1,0,none⟩) 2 2,.slice (some ⟨w.heap.size+1+1+1+1+1+1,0,none⟩) 1 1,.slice (some ⟨w.heap.size+1+1+1+1+1+1+1,0,none⟩) 1 1] 58)) #[] 0 (size:=4) (e:=39) (base:=w.heap.size) (by simp<;>omega) (by simp [maxLen]) rfl
   simp [cellsG] at ho ⊢
   repeat (first | exact ho | refine World.ownsRow.alloc ?_ _)
  ·exact (by repeat (first | exact zW | assumption | refine Below.drew ?_ | refine Below.alloc ?_ (by simp<;>omega) _))
  ·repeat (first | (refine Bx.new' ?_;simp;done) | refine Bx.alloc ?_ _)
  ·repeat (first | (refine Bx.new' ?_;simp;done) | refine Bx.alloc ?_ _)
 case round =>
  obtain ⟨k,A,ca,hk,rfl,rfl,hown,hb,hbx,hout⟩:=hrel
  have hsz:=hb.size
  have oc:wr.cell? ⟨w.heap.size+1+1+1+1+1+1+1+1,5,none⟩=some (.slice (some ⟨w.heap.size+1+1+1+1+1,0,none⟩) 2 2):=hout.cell 5
  by_cases hk0:k=0
  ·subst hk0
   have ic:wr.cell? ⟨w.heap.size+1+1+1+1+1,0,none⟩=some (.int .i64 3):=hbx.cell 0
   go_wp2_with fail
   refine (s_in _ _ _ _).mono ?_
   rintro e w' ⟨rfl,rfl⟩
   rw [inB_t (by omega) (by omega)]
   go_wp2_with fail
   refine (s_one _ _ _).mono ?_
   rintro e w1 ⟨rfl,b1⟩
   have o1:=ownsRow_below hown b1
   have bx1:=hbx.below b1
   have ou1:=hout.below b1
   have b01:=hb.trans (b1.mono hb.size)
   have hsz1:=b01.size
   clear b1
   go_wp2_with (at_builtin;refine wpList_app rfl (.tmp 31) (.tmp 41) 24 rfl Tryz.underlying24 infoGate rfl (by decide) rfl (o1.alloc _) rfl (Rd.lit w1 39 #[.int .i64 3,.int .i64 q,.int .i64 0,.int .i64 0] 1 4 rfl) (by simp [Value.oneCell']) (by omega) (by decide) (by simp<;>omega) ?_;intro A2 c2 w2 o2 g2)
   go_roundg (gk - 1)
   case measure=>omega
   case rel =>
    refine ⟨0+1,A2,c2,by omega,by go_num,rfl,?_,below_grown (b01.alloc hsz1 _) (by simp<;>omega) (o1.alloc _) zR g2,kept_app (o1.alloc _) g2 (bx1.alloc _) (by decide),kept_app (o1.alloc _) g2 (ou1.alloc _) (by decide)⟩
    simpa [cellsG,Gt.cells,kindG] using o2
  by_cases hk1:k=1
  ·subst hk1
   have ic:wr.cell? ⟨w.heap.size+1+1+1+1+1,1,none⟩=some (.int .i64 7):=hbx.cell 1
   go_wp2_with fail
   refine (s_in _ _ _ _).mono ?_
   rintro e w' ⟨rfl,rfl⟩
   rw [inB_t (by omega) (by omega)]
   go_wp2_with fail
   refine (s_one _ _ _).mono ?_
   rintro e w1 ⟨rfl,b1⟩
   have o1:=ownsRow_below hown b1
   have bx1:=hbx.below b1
   have ou1:=hout.below b1
   have b01:=hb.trans (b1.mono hb.size)
   have hsz1:=b01.size
   clear b1
   go_wp2_with (at_builtin;refine wpList_app rfl (.tmp 31) (.tmp 41) 24 rfl Tryz.underlying24 infoGate rfl (by decide) rfl (o1.alloc _) rfl (Rd.lit w1 39 #[.int .i64 7,.int .i64 q,.int .i64 0,.int .i64 0] 1 4 rfl) (by simp [Value.oneCell']) (by omega) (by decide) (by simp<;>omega) ?_;intro A2 c2 w2 o2 g2)
   go_roundg (gk - 1)
   case measure=>omega
   case rel =>
    refine ⟨1+1,A2,c2,by omega,by go_num,rfl,?_,below_grown (b01.alloc hsz1 _) (by simp<;>omega) (o1.alloc _) zR g2,kept_app (o1.alloc _) g2 (bx1.alloc _) (by decide),kept_app (o1.alloc _) g2 (ou1.alloc _) (by decide)⟩
    simpa [cellsG,Gt.cells,kindG] using o2
  obtain rfl:k=2:=by omega
  go_wp2_with fail
  refine (s_in _ _ _ _).mono ?_
  rintro e w' ⟨rfl,rfl⟩
  rw [inB_t (by omega) (by omega)]
  go_wp2_with fail
  go_ret
  exact ⟨A,ca,rfl,by rw [hz.out];exact hown,hb⟩
theorem s_Rot6 (q:Int) (w:World):Calls Tryz.prog 104 #[.int .i64 6,.int .i64 q] w (Ret 39 4 (cellsG (rotG 6 q)) 1 w):=by
 have hz:Hid (rotG 6 q=([6]:List Int).map (kindG q)):=rfl
 go_enter Tryz.func104,Tryz.ntmps104
 go_wp2_with fail
 go_loopg [6,7] 1 (fun m v i wr=>∃ (k:Nat) (A:Option Addr) (ca:Nat),k+m=1/\i=.int .i64 k/\v=.slice A k ca/\wr.ownsRow w.heap.size 39 4 (.slice A k ca) k (cellsG ((([6]:List Int).take k).map (kindG q)))/\Below w.heap.size w wr/\Bx wr (w.heap.size+1+1+1+1+1+1) 3 #[.int .i64 6]/\Bx wr (w.heap.size+1+1+1+1+1+1+1+1) 58 #[.slice (some ⟨w.heap.size,0,none⟩) 0 0,.slice (some ⟨w.heap.size+1,0,none⟩) 1 1,.slice (some ⟨w.heap.size+1+1,0,none⟩) 1 1,.slice (some ⟨w.heap.size+1+1+1,0,none⟩) 2 2,.slice (some ⟨w.heap.size+1+1+1+1,0,none⟩) 1 1,.slice (some ⟨w.heap.size+1+1+1+1+1,0,none⟩) 2 2,.slice (some ⟨w.heap.size+1+1+1+1+1+1,0,none⟩) 1 1,.slice (some ⟨w.heap.size+1+1+1+1+1+1+1,0,none⟩) 1 1])
 case atStart =>
  refine ⟨0,_,_,by omega,rfl,rfl,?_,?_,?_,?_⟩
  ·have ho:=World.ownsRow_lit (((((((((w.alloc (.cells #[] 3)).alloc (.cells #[.int .i64 7] 3)).alloc (.cells #[.int .i64 5] 3)).alloc (.cells #[.int .i64 5,.int .i64 7] 3)).alloc (.cells #[.int .i64 3] 3)).alloc (.cells #[.int .i64 3,.int .i64 7] 3)).alloc (.cells #[.int .i64 6] 3)).alloc (.cells #[.int .i64 8] 3)).alloc (.cells #[.slice (some ⟨w.heap.size,0,none⟩) 0 0,.slice (some ⟨w.heap.size+1,0,none⟩) 1 1,.slice (some ⟨w.heap.size+1+1,0,none⟩) 1 1,.slice (some ⟨w.heap.size+1+1+1,0,none⟩) 2 2,.slice (some ⟨w.heap.size+1+1+1+1,0,none⟩) 1 1,.slice (some ⟨w.heap.size+1+1+1+1+1,0,none⟩) 2 2,.slice (some ⟨w.heap.size+1+1+1+1+1+1,0,none⟩) 1 1,.slice (some ⟨w.heap.size+1+1+1+1+1+1+1,0,none⟩) 1 1] 58)) #[] 0 (size:=4) (e:=39) (base:=w.heap.size) (by simp<;>omega) (by simp [maxLen]) rfl
   simp [cellsG] at ho ⊢
   repeat (first | exact ho | refine World.ownsRow.alloc ?_ _)
  ·exact (by repeat (first | exact zW | assumption | refine Below.drew ?_ | refine Below.alloc ?_ (by simp<;>omega) _))
  ·repeat (first | (refine Bx.new' ?_;simp;done) | refine Bx.alloc ?_ _)
  ·repeat (first | (refine Bx.new' ?_;simp;done) | refine Bx.alloc ?_ _)
 case round =>
  obtain ⟨k,A,ca,hk,rfl,rfl,hown,hb,hbx,hout⟩:=hrel
  have hsz:=hb.size
  have oc:wr.cell? ⟨w.heap.size+1+1+1+1+1+1+1+1,6,none⟩=some (.slice (some ⟨w.heap.size+1+1+1+1+1+1,0,none⟩) 1 1):=hout.cell 6
  by_cases hk0:k=0
  ·subst hk0
   have ic:wr.cell? ⟨w.heap.size+1+1+1+1+1+1,0,none⟩=some (.int .i64 6):=hbx.cell 0
   go_wp2_with fail
   refine (s_in _ _ _ _).mono ?_
   rintro e w' ⟨rfl,rfl⟩
   rw [inB_t (by omega) (by omega)]
   go_wp2_with fail
   refine (s_one _ _ _).mono ?_
   rintro e w1 ⟨rfl,b1⟩
   have o1:=ownsRow_below hown b1
   have bx1:=hbx.below b1
   have ou1:=hout.below b1
   have b01:=hb.trans (b1.mono hb.size)
   have hsz1:=b01.size
   clear b1
   go_wp2_with (at_builtin;refine wpList_app rfl (.tmp 31) (.tmp 41) 24 rfl Tryz.underlying24 infoGate rfl (by decide) rfl (o1.alloc _) rfl (Rd.lit w1 39 #[.int .i64 6,.int .i64 q,.int .i64 0,.int .i64 0] 1 4 rfl) (by simp [Value.oneCell']) (by omega) (by decide) (by simp<;>omega) ?_;intro A2 c2 w2 o2 g2)
   go_roundg (gk - 1)
   case measure=>omega
   case rel =>
    refine ⟨0+1,A2,c2,by omega,by go_num,rfl,?_,below_grown (b01.alloc hsz1 _) (by simp<;>omega) (o1.alloc _) zR g2,kept_app (o1.alloc _) g2 (bx1.alloc _) (by decide),kept_app (o1.alloc _) g2 (ou1.alloc _) (by decide)⟩
    simpa [cellsG,Gt.cells,kindG] using o2
  obtain rfl:k=1:=by omega
  go_wp2_with fail
  refine (s_in _ _ _ _).mono ?_
  rintro e w' ⟨rfl,rfl⟩
  rw [inB_t (by omega) (by omega)]
  go_wp2_with fail
  go_ret
  exact ⟨A,ca,rfl,by rw [hz.out];exact hown,hb⟩
theorem s_Rot7 (q:Int) (w:World):Calls Tryz.prog 104 #[.int .i64 7,.int .i64 q] w (Ret 39 4 (cellsG (rotG 7 q)) 1 w):=by
 have hz:Hid (rotG 7 q=([8]:List Int).map (kindG q)):=rfl
 go_enter Tryz.func104,Tryz.ntmps104
 go_wp2_with fail
 go_loopg [6,7] 1 (fun m v i wr=>∃ (k:Nat) (A:Option Addr) (ca:Nat),k+m=1/\i=.int .i64 k/\v=.slice A k ca/\wr.ownsRow w.heap.size 39 4 (.slice A k ca) k (cellsG ((([8]:List Int).take k).map (kindG q)))/\Below w.heap.size w wr/\Bx wr (w.heap.size+1+1+1+1+1+1+1) 3 #[.int .i64 8]/\Bx wr (w.heap.size+1+1+1+1+1+1+1+1) 58 #[.slice (some ⟨w.heap.size,0,none⟩) 0 0,.slice (some ⟨w.heap.size+1,0,none⟩) 1 1,.slice (some ⟨w.heap.size+1+1,0,none⟩) 1 1,.slice (some ⟨w.heap.size+1+1+1,0,none⟩) 2 2,.slice (some ⟨w.heap.size+1+1+1+1,0,none⟩) 1 1,.slice (some ⟨w.heap.size+1+1+1+1+1,0,none⟩) 2 2,.slice (some ⟨w.heap.size+1+1+1+1+1+1,0,none⟩) 1 1,.slice (some ⟨w.heap.size+1+1+1+1+1+1+1,0,none⟩) 1 1])
 case atStart =>
  refine ⟨0,_,_,by omega,rfl,rfl,?_,?_,?_,?_⟩
  ·have ho:=World.ownsRow_lit (((((((((w.alloc (.cells #[] 3)).alloc (.cells #[.int .i64 7] 3)).alloc (.cells #[.int .i64 5] 3)).alloc (.cells #[.int .i64 5,.int .i64 7] 3)).alloc (.cells #[.int .i64 3] 3)).alloc (.cells #[.int .i64 3,.int .i64 7] 3)).alloc (.cells #[.int .i64 6] 3)).alloc (.cells #[.int .i64 8] 3)).alloc (.cells #[.slice (some ⟨w.heap.size,0,none⟩) 0 0,.slice (some ⟨w.heap.size+1,0,none⟩) 1 1,.slice (some ⟨w.heap.size+1+1,0,none⟩) 1 1,.slice (some ⟨w.heap.size+1+1+1,0,none⟩) 2 2,.slice (some ⟨w.heap.size+1+1+1+1,0,none⟩) 1 1,.slice (some ⟨w.heap.size+1+1+1+1+1,0,none⟩) 2 2,.slice (some ⟨w.heap.size+1+1+1+1+1+1,0,none⟩) 1 1,.slice (some ⟨w.heap.size+1+1+1+1+1+1+1,0,none⟩) 1 1] 58)) #[] 0 (size:=4) (e:=39) (base:=w.heap.size) (by simp<;>omega) (by simp [maxLen]) rfl
   simp [cellsG] at ho ⊢
   repeat (first | exact ho | refine World.ownsRow.alloc ?_ _)
  ·exact (by repeat (first | exact zW | assumption | refine Below.drew ?_ | refine Below.alloc ?_ (by simp<;>omega) _))
  ·repeat (first | (refine Bx.new' ?_;simp;done) | refine Bx.alloc ?_ _)
  ·repeat (first | (refine Bx.new' ?_;simp;done) | refine Bx.alloc ?_ _)
 case round =>
  obtain ⟨k,A,ca,hk,rfl,rfl,hown,hb,hbx,hout⟩:=hrel
  have hsz:=hb.size
  have oc:wr.cell? ⟨w.heap.size+1+1+1+1+1+1+1+1,7,none⟩=some (.slice (some ⟨w.heap.size+1+1+1+1+1+1+1,0,none⟩) 1 1):=hout.cell 7
  by_cases hk0:k=0
  ·subst hk0
   have ic:wr.cell? ⟨w.heap.size+1+1+1+1+1+1+1,0,none⟩=some (.int .i64 8):=hbx.cell 0
   go_wp2_with fail
   refine (s_in _ _ _ _).mono ?_
   rintro e w' ⟨rfl,rfl⟩
   rw [inB_t (by omega) (by omega)]
   go_wp2_with fail
   refine (s_one _ _ _).mono ?_
   rintro e w1 ⟨rfl,b1⟩
   have o1:=ownsRow_below hown b1
   have bx1:=hbx.below b1
   have ou1:=hout.below b1
   have b01:=hb.trans (b1.mono hb.size)
   have hsz1:=b01.size
   clear b1
   go_wp2_with (at_builtin;refine wpList_app rfl (.tmp 31) (.tmp 41) 24 rfl Tryz.underlying24 infoGate rfl (by decide) rfl (o1.alloc _) rfl (Rd.lit w1 39 #[.int .i64 8,.int .i64 q,.int .i64 0,.int .i64 0] 1 4 rfl) (by simp [Value.oneCell']) (by omega) (by decide) (by simp<;>omega) ?_;intro A2 c2 w2 o2 g2)
   go_roundg (gk - 1)
   case measure=>omega
   case rel =>
    refine ⟨0+1,A2,c2,by omega,by go_num,rfl,?_,below_grown (b01.alloc hsz1 _) (by simp<;>omega) (o1.alloc _) zR g2,kept_app (o1.alloc _) g2 (bx1.alloc _) (by decide),kept_app (o1.alloc _) g2 (ou1.alloc _) (by decide)⟩
    simpa [cellsG,Gt.cells,kindG] using o2
  obtain rfl:k=1:=by omega
  go_wp2_with fail
  refine (s_in _ _ _ _).mono ?_
  rintro e w' ⟨rfl,rfl⟩
  rw [inB_t (by omega) (by omega)]
  go_wp2_with fail
  go_ret
  exact ⟨A,ca,rfl,by rw [hz.out];exact hown,hb⟩
theorem s_RotOut (c q:Int) (w:World) (hc:c < 0 ∨ 7 < c):Calls Tryz.prog 104 #[.int .i64 c,.int .i64 q] w (Ret 39 4 [] 0 w):=by
 go_enter Tryz.func104,Tryz.ntmps104
 go_wp2_with fail
 go_loopg [6,7] 0 (fun m v i wr=>∃ (A:Option Addr) (ca:Nat),i=.int .i64 0/\v=.slice A 0 ca/\wr.ownsRow w.heap.size 39 4 (.slice A 0 ca) 0 []/\Below w.heap.size w wr)
 case atStart =>
  refine ⟨_,_,rfl,rfl,?_,?_⟩
  ·have ho:=World.ownsRow_lit (((((((((w.alloc (.cells #[] 3)).alloc (.cells #[.int .i64 7] 3)).alloc (.cells #[.int .i64 5] 3)).alloc (.cells #[.int .i64 5,.int .i64 7] 3)).alloc (.cells #[.int .i64 3] 3)).alloc (.cells #[.int .i64 3,.int .i64 7] 3)).alloc (.cells #[.int .i64 6] 3)).alloc (.cells #[.int .i64 8] 3)).alloc (.cells #[.slice (some ⟨w.heap.size,0,none⟩) 0 0,.slice (some ⟨w.heap.size+1,0,none⟩) 1 1,.slice (some ⟨w.heap.size+1+1,0,none⟩) 1 1,.slice (some ⟨w.heap.size+1+1+1,0,none⟩) 2 2,.slice (some ⟨w.heap.size+1+1+1+1,0,none⟩) 1 1,.slice (some ⟨w.heap.size+1+1+1+1+1,0,none⟩) 2 2,.slice (some ⟨w.heap.size+1+1+1+1+1+1,0,none⟩) 1 1,.slice (some ⟨w.heap.size+1+1+1+1+1+1+1,0,none⟩) 1 1] 58)) #[] 0 (size:=4) (e:=39) (base:=w.heap.size) (by simp<;>omega) (by simp [maxLen]) rfl
   simp at ho ⊢
   exact ho
  ·exact (by repeat (first | exact zW | assumption | refine Below.drew ?_ | refine Below.alloc ?_ (by simp<;>omega) _))
 case round =>
  obtain ⟨A,ca,rfl,rfl,hown,hb⟩:=hrel
  go_wp2_with fail
  refine (s_in _ _ _ _).mono ?_
  rintro e w' ⟨rfl,rfl⟩
  rw [inB_f (by omega)]
  go_wp2_with fail
  go_ret
  exact ⟨A,ca,rfl,hown,hb⟩
theorem s_RotationGates (c q:Int) (w:World):Calls Tryz.prog 104 #[.int .i64 c,.int .i64 q] w (Ret 39 4 (cellsG (rotG c q)) (rotK c).length w):=by
 by_cases hc:0<=c/\c<=7
 ·obtain h | h | h | h | h | h | h | h:c=0 ∨ c=1 ∨ c=2 ∨ c=3 ∨ c=4 ∨ c=5 ∨ c=6 ∨ c=7:=by omega
  ·subst h;exact s_Rot0 q w
  ·subst h;exact s_Rot1 q w
  ·subst h;exact s_Rot2 q w
  ·subst h;exact s_Rot3 q w
  ·subst h;exact s_Rot4 q w
  ·subst h;exact s_Rot5 q w
  ·subst h;exact s_Rot6 q w
  ·subst h;exact s_Rot7 q w
 ·have h:c < 0 ∨ 7 < c:=by omega
  have:=s_RotOut c q w h
  rw [rotG,rotK_out h]
  exact this
theorem i_Rot0 (q:Int) (w:World):Calls Tryz.prog 81 #[.int .i64 0,.int .i64 q] w (Ret 39 4 (cellsG (rotG 0 q)) 0 w):=by
 have hz:Hid (rotG 0 q=([]:List Int).map (kindG q)):=rfl
 go_enter Tryz.func81,Tryz.ntmps81
 go_wp2_with (go_at_call 70;refine (i_in _ _ _ _).mono ?_;rintro e w' ⟨rfl,rfl⟩;rw [inB_t (by omega) (by omega)])
 go_loopg [5,25] 0 (fun m v i wr=>∃ (k:Nat) (A:Option Addr) (ca:Nat),k+m=0/\i=.int .i64 k/\v=.slice A k ca/\wr.ownsRow w.heap.size 39 4 (.slice A k ca) k (cellsG ((([]:List Int).take k).map (kindG q)))/\Below w.heap.size w wr/\Bx wr (w.heap.size+1) 3 #[])
 case atStart =>
  refine ⟨0,_,_,by omega,rfl,rfl,?_,?_,?_⟩
  ·have ho:=World.ownsRow_lit w #[] 0 (size:=4) (e:=39) (base:=w.heap.size) (by simp<;>omega) (by simp [maxLen]) rfl
   simp [cellsG] at ho ⊢
   repeat (first | exact ho | refine World.ownsRow.alloc ?_ _)
  ·exact (by repeat (first | exact zW | assumption | refine Below.drew ?_ | refine Below.alloc ?_ (by simp<;>omega) _))
  ·repeat (first | (refine Bx.new' ?_;simp;done) | refine Bx.alloc ?_ _)
 case round =>
  obtain ⟨k,A,ca,hk,rfl,rfl,hown,hb,hbx⟩:=hrel
  have hsz:=hb.size
  obtain rfl:k=0:=by omega
  go_wp2_with fail
  go_ret
  exact ⟨A,ca,rfl,by rw [hz.out];exact hown,hb⟩
theorem i_Rot1 (q:Int) (w:World):Calls Tryz.prog 81 #[.int .i64 1,.int .i64 q] w (Ret 39 4 (cellsG (rotG 1 q)) 1 w):=by
 have hz:Hid (rotG 1 q=([7]:List Int).map (kindG q)):=rfl
 go_enter Tryz.func81,Tryz.ntmps81
 go_wp2_with (go_at_call 70;refine (i_in _ _ _ _).mono ?_;rintro e w' ⟨rfl,rfl⟩;rw [inB_t (by omega) (by omega)])
 go_loopg [5,25] 1 (fun m v i wr=>∃ (k:Nat) (A:Option Addr) (ca:Nat),k+m=1/\i=.int .i64 k/\v=.slice A k ca/\wr.ownsRow w.heap.size 39 4 (.slice A k ca) k (cellsG ((([7]:List Int).take k).map (kindG q)))/\Below w.heap.size w wr/\Bx wr (w.heap.size+1+1) 3 #[.int .i64 7])
 case atStart =>
  refine ⟨0,_,_,by omega,rfl,rfl,?_,?_,?_⟩
  ·have ho:=World.ownsRow_lit w #[] 0 (size:=4) (e:=39) (base:=w.heap.size) (by simp<;>omega) (by simp [maxLen]) rfl
   simp [cellsG] at ho ⊢
   repeat (first | exact ho | refine World.ownsRow.alloc ?_ _)
  ·exact (by repeat (first | exact zW | assumption | refine Below.drew ?_ | refine Below.alloc ?_ (by simp<;>omega) _))
  ·repeat (first | (refine Bx.new' ?_;simp;done) | refine Bx.alloc ?_ _)
 case round =>
  obtain ⟨k,A,ca,hk,rfl,rfl,hown,hb,hbx⟩:=hrel
  have hsz:=hb.size
  by_cases hk0:k=0
  ·subst hk0
   have ic:wr.cell? ⟨w.heap.size+1+1,0,none⟩=some (.int .i64 7):=hbx.cell 0
   go_wp2_with fail
   refine (i_one _ _ _).mono ?_
   rintro e w1 ⟨rfl,b1⟩
   have o1:=ownsRow_below hown b1
   have bx1:=hbx.below b1
   have b01:=hb.trans (b1.mono hb.size)
   have hsz1:=b01.size
   clear b1
   go_wp2_with (at_builtin;refine wpList_app rfl (.tmp 29) (.tmp 33) 24 rfl Tryz.underlying24 infoGate rfl (by decide) rfl (o1.alloc _) rfl (Rd.lit w1 39 #[.int .i64 7,.int .i64 q,.int .i64 0,.int .i64 0] 1 4 rfl) (by simp [Value.oneCell']) (by omega) (by decide) (by simp<;>omega) ?_;intro A2 c2 w2 o2 g2)
   go_roundg (gk - 1)
   case measure=>omega
   case rel =>
    refine ⟨0+1,A2,c2,by omega,by go_num,rfl,?_,below_grown (b01.alloc hsz1 _) (by simp<;>omega) (o1.alloc _) zR g2,kept_app (o1.alloc _) g2 (bx1.alloc _) (by decide)⟩
    simpa [cellsG,Gt.cells,kindG] using o2
  obtain rfl:k=1:=by omega
  go_wp2_with fail
  go_ret
  exact ⟨A,ca,rfl,by rw [hz.out];exact hown,hb⟩
theorem i_Rot2 (q:Int) (w:World):Calls Tryz.prog 81 #[.int .i64 2,.int .i64 q] w (Ret 39 4 (cellsG (rotG 2 q)) 1 w):=by
 have hz:Hid (rotG 2 q=([5]:List Int).map (kindG q)):=rfl
 go_enter Tryz.func81,Tryz.ntmps81
 go_wp2_with (go_at_call 70;refine (i_in _ _ _ _).mono ?_;rintro e w' ⟨rfl,rfl⟩;rw [inB_t (by omega) (by omega)])
 go_loopg [5,25] 1 (fun m v i wr=>∃ (k:Nat) (A:Option Addr) (ca:Nat),k+m=1/\i=.int .i64 k/\v=.slice A k ca/\wr.ownsRow w.heap.size 39 4 (.slice A k ca) k (cellsG ((([5]:List Int).take k).map (kindG q)))/\Below w.heap.size w wr/\Bx wr (w.heap.size+1+1+1) 3 #[.int .i64 5])
 case atStart =>
  refine ⟨0,_,_,by omega,rfl,rfl,?_,?_,?_⟩
  ·have ho:=World.ownsRow_lit w #[] 0 (size:=4) (e:=39) (base:=w.heap.size) (by simp<;>omega) (by simp [maxLen]) rfl
   simp [cellsG] at ho ⊢
   repeat (first | exact ho | refine World.ownsRow.alloc ?_ _)
  ·exact (by repeat (first | exact zW | assumption | refine Below.drew ?_ | refine Below.alloc ?_ (by simp<;>omega) _))
  ·repeat (first | (refine Bx.new' ?_;simp;done) | refine Bx.alloc ?_ _)
 case round =>
  obtain ⟨k,A,ca,hk,rfl,rfl,hown,hb,hbx⟩:=hrel
  have hsz:=hb.size
  by_cases hk0:k=0
  ·subst hk0
   have ic:wr.cell? ⟨w.heap.size+1+1+1,0,none⟩=some (.int .i64 5):=hbx.cell 0
   go_wp2_with fail
   refine (i_one _ _ _).mono ?_
   rintro e w1 ⟨rfl,b1⟩
   have o1:=ownsRow_below hown b1
   have bx1:=hbx.below b1
   have b01:=hb.trans (b1.mono hb.size)
   have hsz1:=b01.size
   clear b1
   go_wp2_with (at_builtin;refine wpList_app rfl (.tmp 29) (.tmp 33) 24 rfl Tryz.underlying24 infoGate rfl (by decide) rfl (o1.alloc _) rfl (Rd.lit w1 39 #[.int .i64 5,.int .i64 q,.int .i64 0,.int .i64 0] 1 4 rfl) (by simp [Value.oneCell']) (by omega) (by decide) (by simp<;>omega) ?_;intro A2 c2 w2 o2 g2)
   go_roundg (gk - 1)
   case measure=>omega
   case rel =>
    refine ⟨0+1,A2,c2,by omega,by go_num,rfl,?_,below_grown (b01.alloc hsz1 _) (by simp<;>omega) (o1.alloc _) zR g2,kept_app (o1.alloc _) g2 (bx1.alloc _) (by decide)⟩
    simpa [cellsG,Gt.cells,kindG] using o2
  obtain rfl:k=1:=by omega
  go_wp2_with fail
  go_ret
  exact ⟨A,ca,rfl,by rw [hz.out];exact hown,hb⟩
theorem i_Rot3 (q:Int) (w:World):Calls Tryz.prog 81 #[.int .i64 3,.int .i64 q] w (Ret 39 4 (cellsG (rotG 3 q)) 2 w):=by
 have hz:Hid (rotG 3 q=([5,7]:List Int).map (kindG q)):=rfl
 go_enter Tryz.func81,Tryz.ntmps81
 go_wp2_with (go_at_call 70;refine (i_in _ _ _ _).mono ?_;rintro e w' ⟨rfl,rfl⟩;rw [inB_t (by omega) (by omega)])
 go_loopg [5,25] 2 (fun m v i wr=>∃ (k:Nat) (A:Option Addr) (ca:Nat),k+m=2/\i=.int .i64 k/\v=.slice A k ca/\wr.ownsRow w.heap.size 39 4 (.slice A k ca) k (cellsG ((([5,7]:List Int).take k).map (kindG q)))/\Below w.heap.size w wr/\Bx wr (w.heap.size+1+1+1+1) 3 #[.int .i64 5,.int .i64 7])
 case atStart =>
  refine ⟨0,_,_,by omega,rfl,rfl,?_,?_,?_⟩
  ·have ho:=World.ownsRow_lit w #[] 0 (size:=4) (e:=39) (base:=w.heap.size) (by simp<;>omega) (by simp [maxLen]) rfl
   simp [cellsG] at ho ⊢
   repeat (first | exact ho | refine World.ownsRow.alloc ?_ _)
  ·exact (by repeat (first | exact zW | assumption | refine Below.drew ?_ | refine Below.alloc ?_ (by simp<;>omega) _))
  ·repeat (first | (refine Bx.new' ?_;simp;done) | refine Bx.alloc ?_ _)
 case round =>
  obtain ⟨k,A,ca,hk,rfl,rfl,hown,hb,hbx⟩:=hrel
  have hsz:=hb.size
  by_cases hk0:k=0
  ·subst hk0
   have ic:wr.cell? ⟨w.heap.size+1+1+1+1,0,none⟩=some (.int .i64 5):=hbx.cell 0
   go_wp2_with fail
   refine (i_one _ _ _).mono ?_
   rintro e w1 ⟨rfl,b1⟩
   have o1:=ownsRow_below hown b1
   have bx1:=hbx.below b1
   have b01:=hb.trans (b1.mono hb.size)
   have hsz1:=b01.size
   clear b1
   go_wp2_with (at_builtin;refine wpList_app rfl (.tmp 29) (.tmp 33) 24 rfl Tryz.underlying24 infoGate rfl (by decide) rfl (o1.alloc _) rfl (Rd.lit w1 39 #[.int .i64 5,.int .i64 q,.int .i64 0,.int .i64 0] 1 4 rfl) (by simp [Value.oneCell']) (by omega) (by decide) (by simp<;>omega) ?_;intro A2 c2 w2 o2 g2)
   go_roundg (gk - 1)
   case measure=>omega
   case rel =>
    refine ⟨0+1,A2,c2,by omega,by go_num,rfl,?_,below_grown (b01.alloc hsz1 _) (by simp<;>omega) (o1.alloc _) zR g2,kept_app (o1.alloc _) g2 (bx1.alloc _) (by decide)⟩
    simpa [cellsG,Gt.cells,kindG] using o2
  by_cases hk1:k=1
  ·subst hk1
   have ic:wr.cell? ⟨w.heap.size+1+1+1+1,1,none⟩=some (.int .i64 7):=hbx.cell 1
   go_wp2_with fail
   refine (i_one _ _ _).mono ?_
   rintro e w1 ⟨rfl,b1⟩
   have o1:=ownsRow_below hown b1
   have bx1:=hbx.below b1
   have b01:=hb.trans (b1.mono hb.size)
   have hsz1:=b01.size
   clear b1
   go_wp2_with (at_builtin;refine wpList_app rfl (.tmp 29) (.tmp 33) 24 rfl Tryz.underlying24 infoGate rfl (by decide) rfl (o1.alloc _) rfl (Rd.lit w1 39 #[.int .i64 7,.int .i64 q,.int .i64 0,.int .i64 0] 1 4 rfl) (by simp [Value.oneCell']) (by omega) (by decide) (by simp<;>omega) ?_;intro A2 c2 w2 o2 g2)
   go_roundg (gk - 1)
   case measure=>omega
   case rel =>
    refine ⟨1+1,A2,c2,by omega,by go_num,rfl,?_,below_grown (b01.alloc hsz1 _) (by simp<;>omega) (o1.alloc _) zR g2,kept_app (o1.alloc _) g2 (bx1.alloc _) (by decide)⟩
    simpa [cellsG,Gt.cells,kindG] using o2
  obtain rfl:k=2:=by omega
  go_wp2_with fail
  go_ret
  exact ⟨A,ca,rfl,by rw [hz.out];exact hown,hb⟩
theorem i_Rot4 (q:Int) (w:World):Calls Tryz.prog 81 #[.int .i64 4,.int .i64 q] w (Ret 39 4 (cellsG (rotG 4 q)) 1 w):=by
 have hz:Hid (rotG 4 q=([3]:List Int).map (kindG q)):=rfl
 go_enter Tryz.func81,Tryz.ntmps81
 go_wp2_with (go_at_call 70;refine (i_in _ _ _ _).mono ?_;rintro e w' ⟨rfl,rfl⟩;rw [inB_t (by omega) (by omega)])
 go_loopg [5,25] 1 (fun m v i wr=>∃ (k:Nat) (A:Option Addr) (ca:Nat),k+m=1/\i=.int .i64 k/\v=.slice A k ca/\wr.ownsRow w.heap.size 39 4 (.slice A k ca) k (cellsG ((([3]:List Int).take k).map (kindG q)))/\Below w.heap.size w wr/\Bx wr (w.heap.size+1+1+1+1+1) 3 #[.int .i64 3])
 case atStart =>
  refine ⟨0,_,_,by omega,rfl,rfl,?_,?_,?_⟩
  ·have ho:=World.ownsRow_lit w #[] 0 (size:=4) (e:=39) (base:=w.heap.size) (by simp<;>omega) (by simp [maxLen]) rfl
   simp [cellsG] at ho ⊢
   repeat (first | exact ho | refine World.ownsRow.alloc ?_ _)
  ·exact (by repeat (first | exact zW | assumption | refine Below.drew ?_ | refine Below.alloc ?_ (by simp<;>omega) _))
  ·repeat (first | (refine Bx.new' ?_;simp;done) | refine Bx.alloc ?_ _)
 case round =>
  obtain ⟨k,A,ca,hk,rfl,rfl,hown,hb,hbx⟩:=hrel
  have hsz:=hb.size
  by_cases hk0:k=0
  ·subst hk0
   have ic:wr.cell? ⟨w.heap.size+1+1+1+1+1,0,none⟩=some (.int .i64 3):=hbx.cell 0
   go_wp2_with fail
   refine (i_one _ _ _).mono ?_
   rintro e w1 ⟨rfl,b1⟩
   have o1:=ownsRow_below hown b1
   have bx1:=hbx.below b1
   have b01:=hb.trans (b1.mono hb.size)
   have hsz1:=b01.size
   clear b1
   go_wp2_with (at_builtin;refine wpList_app rfl (.tmp 29) (.tmp 33) 24 rfl Tryz.underlying24 infoGate rfl (by decide) rfl (o1.alloc _) rfl (Rd.lit w1 39 #[.int .i64 3,.int .i64 q,.int .i64 0,.int .i64 0] 1 4 rfl) (by simp [Value.oneCell']) (by omega) (by decide) (by simp<;>omega) ?_;intro A2 c2 w2 o2 g2)
   go_roundg (gk - 1)
   case measure=>omega
   case rel =>
    refine ⟨0+1,A2,c2,by omega,by go_num,rfl,?_,below_grown (b01.alloc hsz1 _) (by simp<;>omega) (o1.alloc _) zR g2,kept_app (o1.alloc _) g2 (bx1.alloc _) (by decide)⟩
    simpa [cellsG,Gt.cells,kindG] using o2
  obtain rfl:k=1:=by omega
  go_wp2_with fail
  go_ret
  exact ⟨A,ca,rfl,by rw [hz.out];exact hown,hb⟩
theorem i_Rot5 (q:Int) (w:World):Calls Tryz.prog 81 #[.int .i64 5,.int .i64 q] w (Ret 39 4 (cellsG (rotG 5 q)) 2 w):=by
 have hz:Hid (rotG 5 q=([3,7]:List Int).map (kindG q)):=rfl
 go_enter Tryz.func81,Tryz.ntmps81
 go_wp2_with (go_at_call 70;refine (i_in _ _ _ _).mono ?_;rintro e w' ⟨rfl,rfl⟩;rw [inB_t (by omega) (by omega)])
 go_loopg [5,25] 2 (fun m v i wr=>∃ (k:Nat) (A:Option Addr) (ca:Nat),k+m=2/\i=.int .i64 k/\v=.slice A k ca/\wr.ownsRow w.heap.size 39 4 (.slice A k ca) k (cellsG ((([3,7]:List Int).take k).map (kindG q)))/\Below w.heap.size w wr/\Bx wr (w.heap.size+1+1+1+1+1+1) 3 #[.int .i64 3,.int .i64 7])
 case atStart =>
  refine ⟨0,_,_,by omega,rfl,rfl,?_,?_,?_⟩
  ·have ho:=World.ownsRow_lit w #[] 0 (size:=4) (e:=39) (base:=w.heap.size) (by simp<;>omega) (by simp [maxLen]) rfl
   simp [cellsG] at ho ⊢
   repeat (first | exact ho | refine World.ownsRow.alloc ?_ _)
  ·exact (by repeat (first | exact zW | assumption | refine Below.drew ?_ | refine Below.alloc ?_ (by simp<;>omega) _))
  ·repeat (first | (refine Bx.new' ?_;simp;done) | refine Bx.alloc ?_ _)
 case round =>
  obtain ⟨k,A,ca,hk,rfl,rfl,hown,hb,hbx⟩:=hrel
  have hsz:=hb.size
  by_cases hk0:k=0
  ·subst hk0
   have ic:wr.cell? ⟨w.heap.size+1+1+1+1+1+1,0,none⟩=some (.int .i64 3):=hbx.cell 0
   go_wp2_with fail
   refine (i_one _ _ _).mono ?_
   rintro e w1 ⟨rfl,b1⟩
   have o1:=ownsRow_below hown b1
   have bx1:=hbx.below b1
   have b01:=hb.trans (b1.mono hb.size)
   have hsz1:=b01.size
   clear b1
   go_wp2_with (at_builtin;refine wpList_app rfl (.tmp 29) (.tmp 33) 24 rfl Tryz.underlying24 infoGate rfl (by decide) rfl (o1.alloc _) rfl (Rd.lit w1 39 #[.int .i64 3,.int .i64 q,.int .i64 0,.int .i64 0] 1 4 rfl) (by simp [Value.oneCell']) (by omega) (by decide) (by simp<;>omega) ?_;intro A2 c2 w2 o2 g2)
   go_roundg (gk - 1)
   case measure=>omega
   case rel =>
    refine ⟨0+1,A2,c2,by omega,by go_num,rfl,?_,below_grown (b01.alloc hsz1 _) (by simp<;>omega) (o1.alloc _) zR g2,kept_app (o1.alloc _) g2 (bx1.alloc _) (by decide)⟩
    simpa [cellsG,Gt.cells,kindG] using o2
  by_cases hk1:k=1
  ·subst hk1
   have ic:wr.cell? ⟨w.heap.size+1+1+1+1+1+1,1,none⟩=some (.int .i64 7):=hbx.cell 1
   go_wp2_with fail
   refine (i_one _ _ _).mono ?_
   rintro e w1 ⟨rfl,b1⟩
   have o1:=ownsRow_below hown b1
   have bx1:=hbx.below b1
   have b01:=hb.trans (b1.mono hb.size)
   have hsz1:=b01.size
   clear b1
   go_wp2_with (at_builtin;refine wpList_app rfl (.tmp 29) (.tmp 33) 24 rfl Tryz.underlying24 infoGate rfl (by decide) rfl (o1.alloc _) rfl (Rd.lit w1 39 #[.int .i64 7,.int .i64 q,.int .i64 0,.int .i64 0] 1 4 rfl) (by simp [Value.oneCell']) (by omega) (by decide) (by simp<;>omega) ?_;intro A2 c2 w2 o2 g2)
   go_roundg (gk - 1)
   case measure=>omega
   case rel =>
    refine ⟨1+1,A2,c2,by omega,by go_num,rfl,?_,below_grown (b01.alloc hsz1 _) (by simp<;>omega) (o1.alloc _) zR g2,kept_app (o1.alloc _) g2 (bx1.alloc _) (by decide)⟩
    simpa [cellsG,Gt.cells,kindG] using o2
  obtain rfl:k=2:=by omega
  go_wp2_with fail
  go_ret
  exact ⟨A,ca,rfl,by rw [hz.out];exact hown,hb⟩
theorem i_Rot6 (q:Int) (w:World):Calls Tryz.prog 81 #[.int .i64 6,.int .i64 q] w (Ret 39 4 (cellsG (rotG 6 q)) 1 w):=by
 have hz:Hid (rotG 6 q=([6]:List Int).map (kindG q)):=rfl
 go_enter Tryz.func81,Tryz.ntmps81
 go_wp2_with (go_at_call 70;refine (i_in _ _ _ _).mono ?_;rintro e w' ⟨rfl,rfl⟩;rw [inB_t (by omega) (by omega)])
 go_loopg [5,25] 1 (fun m v i wr=>∃ (k:Nat) (A:Option Addr) (ca:Nat),k+m=1/\i=.int .i64 k/\v=.slice A k ca/\wr.ownsRow w.heap.size 39 4 (.slice A k ca) k (cellsG ((([6]:List Int).take k).map (kindG q)))/\Below w.heap.size w wr/\Bx wr (w.heap.size+1+1+1+1+1+1+1) 3 #[.int .i64 6])
 case atStart =>
  refine ⟨0,_,_,by omega,rfl,rfl,?_,?_,?_⟩
  ·have ho:=World.ownsRow_lit w #[] 0 (size:=4) (e:=39) (base:=w.heap.size) (by simp<;>omega) (by simp [maxLen]) rfl
   simp [cellsG] at ho ⊢
   repeat (first | exact ho | refine World.ownsRow.alloc ?_ _)
  ·exact (by repeat (first | exact zW | assumption | refine Below.drew ?_ | refine Below.alloc ?_ (by simp<;>omega) _))
  ·repeat (first | (refine Bx.new' ?_;simp;done) | refine Bx.alloc ?_ _)
 case round =>
  obtain ⟨k,A,ca,hk,rfl,rfl,hown,hb,hbx⟩:=hrel
  have hsz:=hb.size
  by_cases hk0:k=0
  ·subst hk0
   have ic:wr.cell? ⟨w.heap.size+1+1+1+1+1+1+1,0,none⟩=some (.int .i64 6):=hbx.cell 0
   go_wp2_with fail
   refine (i_one _ _ _).mono ?_
   rintro e w1 ⟨rfl,b1⟩
   have o1:=ownsRow_below hown b1
   have bx1:=hbx.below b1
   have b01:=hb.trans (b1.mono hb.size)
   have hsz1:=b01.size
   clear b1
   go_wp2_with (at_builtin;refine wpList_app rfl (.tmp 29) (.tmp 33) 24 rfl Tryz.underlying24 infoGate rfl (by decide) rfl (o1.alloc _) rfl (Rd.lit w1 39 #[.int .i64 6,.int .i64 q,.int .i64 0,.int .i64 0] 1 4 rfl) (by simp [Value.oneCell']) (by omega) (by decide) (by simp<;>omega) ?_;intro A2 c2 w2 o2 g2)
   go_roundg (gk - 1)
   case measure=>omega
   case rel =>
    refine ⟨0+1,A2,c2,by omega,by go_num,rfl,?_,below_grown (b01.alloc hsz1 _) (by simp<;>omega) (o1.alloc _) zR g2,kept_app (o1.alloc _) g2 (bx1.alloc _) (by decide)⟩
    simpa [cellsG,Gt.cells,kindG] using o2
  obtain rfl:k=1:=by omega
  go_wp2_with fail
  go_ret
  exact ⟨A,ca,rfl,by rw [hz.out];exact hown,hb⟩
theorem i_Rot7 (q:Int) (w:World):Calls Tryz.prog 81 #[.int .i64 7,.int .i64 q] w (Ret 39 4 (cellsG (rotG 7 q)) 1 w):=by
 have hz:Hid (rotG 7 q=([8]:List Int).map (kindG q)):=rfl
 go_enter Tryz.func81,Tryz.ntmps81
 go_wp2_with (go_at_call 70;refine (i_in _ _ _ _).mono ?_;rintro e w' ⟨rfl,rfl⟩;rw [inB_t (by omega) (by omega)])
 go_loopg [5,25] 1 (fun m v i wr=>∃ (k:Nat) (A:Option Addr) (ca:Nat),k+m=1/\i=.int .i64 k/\v=.slice A k ca/\wr.ownsRow w.heap.size 39 4 (.slice A k ca) k (cellsG ((([8]:List Int).take k).map (kindG q)))/\Below w.heap.size w wr/\Bx wr (w.heap.size+1+1+1+1+1+1+1+1) 3 #[.int .i64 8])
 case atStart =>
  refine ⟨0,_,_,by omega,rfl,rfl,?_,?_,?_⟩
  ·have ho:=World.ownsRow_lit w #[] 0 (size:=4) (e:=39) (base:=w.heap.size) (by simp<;>omega) (by simp [maxLen]) rfl
   simp [cellsG] at ho ⊢
   repeat (first | exact ho | refine World.ownsRow.alloc ?_ _)
  ·exact (by repeat (first | exact zW | assumption | refine Below.drew ?_ | refine Below.alloc ?_ (by simp<;>omega) _))
  ·repeat (first | (refine Bx.new' ?_;simp;done) | refine Bx.alloc ?_ _)
 case round =>
  obtain ⟨k,A,ca,hk,rfl,rfl,hown,hb,hbx⟩:=hrel
  have hsz:=hb.size
  by_cases hk0:k=0
  ·subst hk0
   have ic:wr.cell? ⟨w.heap.size+1+1+1+1+1+1+1+1,0,none⟩=some (.int .i64 8):=hbx.cell 0
   go_wp2_with fail
   refine (i_one _ _ _).mono ?_
   rintro e w1 ⟨rfl,b1⟩
   have o1:=ownsRow_below hown b1
   have bx1:=hbx.below b1
   have b01:=hb.trans (b1.mono hb.size)
   have hsz1:=b01.size
   clear b1
   go_wp2_with (at_builtin;refine wpList_app rfl (.tmp 29) (.tmp 33) 24 rfl Tryz.underlying24 infoGate rfl (by decide) rfl (o1.alloc _) rfl (Rd.lit w1 39 #[.int .i64 8,.int .i64 q,.int .i64 0,.int .i64 0] 1 4 rfl) (by simp [Value.oneCell']) (by omega) (by decide) (by simp<;>omega) ?_;intro A2 c2 w2 o2 g2)
   go_roundg (gk - 1)
   case measure=>omega
   case rel =>
    refine ⟨0+1,A2,c2,by omega,by go_num,rfl,?_,below_grown (b01.alloc hsz1 _) (by simp<;>omega) (o1.alloc _) zR g2,kept_app (o1.alloc _) g2 (bx1.alloc _) (by decide)⟩
    simpa [cellsG,Gt.cells,kindG] using o2
  obtain rfl:k=1:=by omega
  go_wp2_with fail
  go_ret
  exact ⟨A,ca,rfl,by rw [hz.out];exact hown,hb⟩
theorem i_RotOut (c q:Int) (w:World) (hc:c < 0 ∨ 7 < c):Calls Tryz.prog 81 #[.int .i64 c,.int .i64 q] w (Ret 39 4 [] 0 w):=by
 go_enter Tryz.func81,Tryz.ntmps81
 go_wp2_with fail
 refine (i_in _ _ _ _).mono ?_
 rintro e w' ⟨rfl,rfl⟩
 rw [inB_f (by omega)]
 go_wp2_with fail
 go_ret
 exact ⟨none,0,rfl,World.ownsRow_nil _ _ _ _,zW⟩
theorem i_RotationGates (c q:Int) (w:World):Calls Tryz.prog 81 #[.int .i64 c,.int .i64 q] w (Ret 39 4 (cellsG (rotG c q)) (rotK c).length w):=by
 by_cases hc:0<=c/\c<=7
 ·obtain h | h | h | h | h | h | h | h:c=0 ∨ c=1 ∨ c=2 ∨ c=3 ∨ c=4 ∨ c=5 ∨ c=6 ∨ c=7:=by omega
  ·subst h;exact i_Rot0 q w
  ·subst h;exact i_Rot1 q w
  ·subst h;exact i_Rot2 q w
  ·subst h;exact i_Rot3 q w
  ·subst h;exact i_Rot4 q w
  ·subst h;exact i_Rot5 q w
  ·subst h;exact i_Rot6 q w
  ·subst h;exact i_Rot7 q w
 ·have h:c < 0 ∨ 7 < c:=by omega
  have:=i_RotOut c q w h
  rw [rotG,rotK_out h]
  exact this
end Go.Proofs.YtmenmibfkojnoaaGreat
