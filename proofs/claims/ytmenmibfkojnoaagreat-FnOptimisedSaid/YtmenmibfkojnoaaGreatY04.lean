/- Contracts of RotationGates (spec and imp. -/
import Derived.Test.YtmenmibfkojnoaaGreatY01
set_option maxHeartbeats 16000000
namespace Go.Proofs.YtmenmibfkojnoaaGreat
open Go.RowKit
def lu (c:Int):List Int:=if c=1 then [7] else if c=2 then [5] else if c=3 then [5,7] else if c=4 then [3] else if c=5 then [3,7] else if c=6 then [6] else if c=7 then [8] else []
def cJ (q k:Int):Gt:=⟨k,q,0,0⟩
def cG (c q:Int):List Gt:=(lu c).map (cJ q)
theorem xP {c:Int} (h:c < 0\/7 < c):lu c=[]:=by
 unfold lu;rw [if_neg zO,if_neg zO,if_neg zO,if_neg zO,if_neg zO,if_neg zO,if_neg zO]
theorem fS (c:Int):(lu c).length<=2:=by
 unfold lu
 repeat' split
 all_goals simp
theorem jU (c q:Int):(cG c q).length=(lu c).length:=by simp [cG]
theorem Ay {p:Prop} (h:p:=by repeat (first | exact zW | assumption | refine Below.drew ?_ | refine Below.alloc ?_ zS _)):p:=h
theorem CS {p:Prop} (h:p:=by
  simp [af] at ho ⊢
  repeat (first | exact ho | refine World.ownsRow.alloc ?_ _)):p:=h
theorem lz {p:Prop} (h:p:=by
  refine ⟨0,_,_,zO,rfl,rfl,?_,?_,?_,?_⟩
  ·have ho:=World.ownsRow_lit (((((((((w.alloc (.cells #[] 3)).alloc (.cells #[(7:Int)] 3)).alloc (.cells #[(5:Int)] 3)).alloc (.cells #[(5:Int),(7:Int)] 3)).alloc (.cells #[(3:Int)] 3)).alloc (.cells #[(3:Int),(7:Int)] 3)).alloc (.cells #[(6:Int)] 3)).alloc (.cells #[(8:Int)] 3)).alloc (.cells #[.slice (some ⟨w,0,none⟩) 0 0,.slice (some ⟨w.heap.size+1,0,none⟩) 1 1,.slice (some ⟨w.heap.size+1+1,0,none⟩) 1 1,.slice (some ⟨w.heap.size+1+1+1,0,none⟩) 2 2,.slice (some ⟨w.heap.size+1+1+1+1,0,none⟩) 1 1,.slice (some ⟨w.heap.size+1+1+1+1+1,0,none⟩) 2 2,.slice (some ⟨w.heap.size+1+1+1+1+1+1,0,none⟩) 1 1,.slice (some ⟨w.heap.size+1+1+1+1+1+1+1,0,none⟩) 1 1] 58)) #[] 0 (size:=4) (e:=39) (base:=w.heap.size) zS zM rfl;exact CS
  ·exact Ay
  ·repeat (first | (refine Bx.new' ?_;simp;done) | refine Bx.alloc ?_ _)
  ·repeat (first | (refine Bx.new' ?_;simp;done) | refine Bx.alloc ?_ _)):p:=h
theorem vi {p:Prop} (h:p:=by
  go_wp2_with fail;refine (el _ _ _ _).mono ?_;rintro e w' ⟨rfl,rfl⟩;rw [bG zO zO];go_wp2_with fail;go_ret;exact ⟨A,ca,rfl,by rw [hz.out];exact hown,hb⟩):p:=h
theorem QE (q:Int) (w:World):Calls Tryz.prog 104 #[(0:Int),q] w (jl 39 4 (af (cG 0 q)) 0 w):=by
 have hz:Hid (cG 0 q=([]:List Int).map (cJ q)):=rfl;go_enter Tryz.func104,Tryz.ntmps104;go_wp2_with fail;go_loopg [6,7] 0 (fun m v i wr=>∃ (k:Nat) (A:Option Addr) (ca:Nat),k+m=0/\i=.int .i64 k/\v=.slice A k ca/\wr.ownsRow w 39 4 (.slice A k ca) k (af ((([]:List Int).take k).map (cJ q)))/\Below w w wr/\Bx wr (w.heap.size) 3 #[]/\Bx wr (w.heap.size+1+1+1+1+1+1+1+1) 58 #[.slice (some ⟨w,0,none⟩) 0 0,.slice (some ⟨w.heap.size+1,0,none⟩) 1 1,.slice (some ⟨w.heap.size+1+1,0,none⟩) 1 1,.slice (some ⟨w.heap.size+1+1+1,0,none⟩) 2 2,.slice (some ⟨w.heap.size+1+1+1+1,0,none⟩) 1 1,.slice (some ⟨w.heap.size+1+1+1+1+1,0,none⟩) 2 2,.slice (some ⟨w.heap.size+1+1+1+1+1+1,0,none⟩) 1 1,.slice (some ⟨w.heap.size+1+1+1+1+1+1+1,0,none⟩) 1 1])
 case atStart =>
  exact lz
 case round =>
  obtain ⟨k,A,ca,hk,rfl,rfl,hown,hb,hbx,hout⟩:=hrel;have hsz:=hb.size;have oc:wr.cell? ⟨w.heap.size+1+1+1+1+1+1+1+1,0,none⟩=some (.slice (some ⟨w,0,none⟩) 0 0):=hout.cell 0;obtain rfl:k=0:=zO;exact vi
theorem rv {p:Prop} (h:p:=by
  go_roundg (gk - 1)
  case measure=>omega
  case rel =>
   refine ⟨0+1,A2,c2,zO,by go_num,rfl,?_,ag (b01.alloc hsz1 _) zS (o1.alloc _) zR g2,az (o1.alloc _) g2 (bx1.alloc _) zD,az (o1.alloc _) g2 (ou1.alloc _) zD⟩;simpa [af,Gt.cells,cJ] using o2):p:=h
theorem nH {p:Prop} (h:p:=by
  obtain rfl:k=1:=zO;exact vi):p:=h
theorem QF (q:Int) (w:World):Calls Tryz.prog 104 #[(1:Int),q] w (jl 39 4 (af (cG 1 q)) 1 w):=by
 have hz:Hid (cG 1 q=([7]:List Int).map (cJ q)):=rfl;go_enter Tryz.func104,Tryz.ntmps104;go_wp2_with fail;go_loopg [6,7] 1 (fun m v i wr=>∃ (k:Nat) (A:Option Addr) (ca:Nat),k+m=1/\i=.int .i64 k/\v=.slice A k ca/\wr.ownsRow w 39 4 (.slice A k ca) k (af ((([7]:List Int).take k).map (cJ q)))/\Below w w wr/\Bx wr (w.heap.size+1) 3 #[(7:Int)]/\Bx wr (w.heap.size+1+1+1+1+1+1+1+1) 58 #[.slice (some ⟨w,0,none⟩) 0 0,.slice (some ⟨w.heap.size+1,0,none⟩) 1 1,.slice (some ⟨w.heap.size+1+1,0,none⟩) 1 1,.slice (some ⟨w.heap.size+1+1+1,0,none⟩) 2 2,.slice (some ⟨w.heap.size+1+1+1+1,0,none⟩) 1 1,.slice (some ⟨w.heap.size+1+1+1+1+1,0,none⟩) 2 2,.slice (some ⟨w.heap.size+1+1+1+1+1+1,0,none⟩) 1 1,.slice (some ⟨w.heap.size+1+1+1+1+1+1+1,0,none⟩) 1 1])
 case atStart =>
  exact lz
 case round =>
  obtain ⟨k,A,ca,hk,rfl,rfl,hown,hb,hbx,hout⟩:=hrel;have hsz:=hb.size;have oc:wr.cell? ⟨w.heap.size+1+1+1+1+1+1+1+1,1,none⟩=some (.slice (some ⟨w.heap.size+1,0,none⟩) 1 1):=hout.cell 1;by_cases hk0:k=0
  ·subst hk0;have ic:wr.cell? ⟨w.heap.size+1,0,none⟩=some (.int .i64 7):=hbx.cell 0;go_wp2_with fail;refine (el _ _ _ _).mono ?_;rintro e w' ⟨rfl,rfl⟩;rw [bG zO zO];go_wp2_with fail;refine (eG _ _ _).mono ?_;rintro e w1 ⟨rfl,b1⟩;have o1:=ab hown b1;have bx1:=hbx.below b1;have ou1:=hout.below b1;have b01:=hb.trans (b1.mono hb.size);have hsz1:=b01.size;clear b1
   go_wp2_with (at_builtin;refine ah rfl (.tmp 31) (.tmp 41) 24 rfl Tryz.underlying24 ak rfl zD rfl (o1.alloc _) rfl (Rd.lit w1 39 #[(7:Int),q,(0:Int),(0:Int)] 1 4 rfl) zV zO zD zS ?_;intro A2 c2 w2 o2 g2)
   exact rv
  exact nH
theorem GW {p:Prop} (h:p:=by
  go_wp2_with fail;refine (el _ _ _ _).mono ?_;rintro e w' ⟨rfl,rfl⟩;rw [bG zO zO];go_wp2_with fail;refine (eG _ _ _).mono ?_;rintro e w1 ⟨rfl,b1⟩;have o1:=ab hown b1;have bx1:=hbx.below b1;have ou1:=hout.below b1;have b01:=hb.trans (b1.mono hb.size);have hsz1:=b01.size;clear b1
  go_wp2_with (at_builtin;refine ah rfl (.tmp 31) (.tmp 41) 24 rfl Tryz.underlying24 ak rfl zD rfl (o1.alloc _) rfl (Rd.lit w1 39 #[(5:Int),q,(0:Int),(0:Int)] 1 4 rfl) zV zO zD zS ?_;intro A2 c2 w2 o2 g2)
  exact rv):p:=h
theorem QG (q:Int) (w:World):Calls Tryz.prog 104 #[(2:Int),q] w (jl 39 4 (af (cG 2 q)) 1 w):=by
 have hz:Hid (cG 2 q=([5]:List Int).map (cJ q)):=rfl;go_enter Tryz.func104,Tryz.ntmps104;go_wp2_with fail;go_loopg [6,7] 1 (fun m v i wr=>∃ (k:Nat) (A:Option Addr) (ca:Nat),k+m=1/\i=.int .i64 k/\v=.slice A k ca/\wr.ownsRow w 39 4 (.slice A k ca) k (af ((([5]:List Int).take k).map (cJ q)))/\Below w w wr/\Bx wr (w.heap.size+1+1) 3 #[(5:Int)]/\Bx wr (w.heap.size+1+1+1+1+1+1+1+1) 58 #[.slice (some ⟨w,0,none⟩) 0 0,.slice (some ⟨w.heap.size+1,0,none⟩) 1 1,.slice (some ⟨w.heap.size+1+1,0,none⟩) 1 1,.slice (some ⟨w.heap.size+1+1+1,0,none⟩) 2 2,.slice (some ⟨w.heap.size+1+1+1+1,0,none⟩) 1 1,.slice (some ⟨w.heap.size+1+1+1+1+1,0,none⟩) 2 2,.slice (some ⟨w.heap.size+1+1+1+1+1+1,0,none⟩) 1 1,.slice (some ⟨w.heap.size+1+1+1+1+1+1+1,0,none⟩) 1 1])
 case atStart =>
  exact lz
 case round =>
  obtain ⟨k,A,ca,hk,rfl,rfl,hown,hb,hbx,hout⟩:=hrel;have hsz:=hb.size;have oc:wr.cell? ⟨w.heap.size+1+1+1+1+1+1+1+1,2,none⟩=some (.slice (some ⟨w.heap.size+1+1,0,none⟩) 1 1):=hout.cell 2;by_cases hk0:k=0
  ·subst hk0;have ic:wr.cell? ⟨w.heap.size+1+1,0,none⟩=some (.int .i64 5):=hbx.cell 0;exact GW
  exact nH
theorem GY {p:Prop} (h:p:=by
  go_wp2_with fail;refine (el _ _ _ _).mono ?_;rintro e w' ⟨rfl,rfl⟩;rw [bG zO zO];go_wp2_with fail;refine (eG _ _ _).mono ?_;rintro e w1 ⟨rfl,b1⟩;have o1:=ab hown b1;have bx1:=hbx.below b1;have ou1:=hout.below b1;have b01:=hb.trans (b1.mono hb.size);have hsz1:=b01.size;clear b1
  go_wp2_with (at_builtin;refine ah rfl (.tmp 31) (.tmp 41) 24 rfl Tryz.underlying24 ak rfl zD rfl (o1.alloc _) rfl (Rd.lit w1 39 #[(7:Int),q,(0:Int),(0:Int)] 1 4 rfl) zV zO zD zS ?_;intro A2 c2 w2 o2 g2)
  go_roundg (gk - 1)
  case measure=>omega
  case rel =>
   refine ⟨1+1,A2,c2,zO,by go_num,rfl,?_,ag (b01.alloc hsz1 _) zS (o1.alloc _) zR g2,az (o1.alloc _) g2 (bx1.alloc _) zD,az (o1.alloc _) g2 (ou1.alloc _) zD⟩;simpa [af,Gt.cells,cJ] using o2):p:=h
theorem QH (q:Int) (w:World):Calls Tryz.prog 104 #[(3:Int),q] w (jl 39 4 (af (cG 3 q)) 2 w):=by
 have hz:Hid (cG 3 q=([5,7]:List Int).map (cJ q)):=rfl;go_enter Tryz.func104,Tryz.ntmps104;go_wp2_with fail;go_loopg [6,7] 2 (fun m v i wr=>∃ (k:Nat) (A:Option Addr) (ca:Nat),k+m=2/\i=.int .i64 k/\v=.slice A k ca/\wr.ownsRow w 39 4 (.slice A k ca) k (af ((([5,7]:List Int).take k).map (cJ q)))/\Below w w wr/\Bx wr (w.heap.size+1+1+1) 3 #[(5:Int),(7:Int)]/\Bx wr (w.heap.size+1+1+1+1+1+1+1+1) 58 #[.slice (some ⟨w,0,none⟩) 0 0,.slice (some ⟨w.heap.size+1,0,none⟩) 1 1,.slice (some ⟨w.heap.size+1+1,0,none⟩) 1 1,.slice (some ⟨w.heap.size+1+1+1,0,none⟩) 2 2,.slice (some ⟨w.heap.size+1+1+1+1,0,none⟩) 1 1,.slice (some ⟨w.heap.size+1+1+1+1+1,0,none⟩) 2 2,.slice (some ⟨w.heap.size+1+1+1+1+1+1,0,none⟩) 1 1,.slice (some ⟨w.heap.size+1+1+1+1+1+1+1,0,none⟩) 1 1])
 case atStart =>
  exact lz
 case round =>
  obtain ⟨k,A,ca,hk,rfl,rfl,hown,hb,hbx,hout⟩:=hrel;have hsz:=hb.size;have oc:wr.cell? ⟨w.heap.size+1+1+1+1+1+1+1+1,3,none⟩=some (.slice (some ⟨w.heap.size+1+1+1,0,none⟩) 2 2):=hout.cell 3;by_cases hk0:k=0
  ·subst hk0;have ic:wr.cell? ⟨w.heap.size+1+1+1,0,none⟩=some (.int .i64 5):=hbx.cell 0;exact GW
  by_cases hk1:k=1
  ·subst hk1;have ic:wr.cell? ⟨w.heap.size+1+1+1,1,none⟩=some (.int .i64 7):=hbx.cell 1;exact GY
  obtain rfl:k=2:=zO;exact vi
theorem GZ {p:Prop} (h:p:=by
  go_wp2_with fail;refine (el _ _ _ _).mono ?_;rintro e w' ⟨rfl,rfl⟩;rw [bG zO zO];go_wp2_with fail;refine (eG _ _ _).mono ?_;rintro e w1 ⟨rfl,b1⟩;have o1:=ab hown b1;have bx1:=hbx.below b1;have ou1:=hout.below b1;have b01:=hb.trans (b1.mono hb.size);have hsz1:=b01.size;clear b1
  go_wp2_with (at_builtin;refine ah rfl (.tmp 31) (.tmp 41) 24 rfl Tryz.underlying24 ak rfl zD rfl (o1.alloc _) rfl (Rd.lit w1 39 #[(3:Int),q,(0:Int),(0:Int)] 1 4 rfl) zV zO zD zS ?_;intro A2 c2 w2 o2 g2)
  exact rv):p:=h
theorem QI (q:Int) (w:World):Calls Tryz.prog 104 #[(4:Int),q] w (jl 39 4 (af (cG 4 q)) 1 w):=by
 have hz:Hid (cG 4 q=([3]:List Int).map (cJ q)):=rfl;go_enter Tryz.func104,Tryz.ntmps104;go_wp2_with fail;go_loopg [6,7] 1 (fun m v i wr=>∃ (k:Nat) (A:Option Addr) (ca:Nat),k+m=1/\i=.int .i64 k/\v=.slice A k ca/\wr.ownsRow w 39 4 (.slice A k ca) k (af ((([3]:List Int).take k).map (cJ q)))/\Below w w wr/\Bx wr (w.heap.size+1+1+1+1) 3 #[(3:Int)]/\Bx wr (w.heap.size+1+1+1+1+1+1+1+1) 58 #[.slice (some ⟨w,0,none⟩) 0 0,.slice (some ⟨w.heap.size+1,0,none⟩) 1 1,.slice (some ⟨w.heap.size+1+1,0,none⟩) 1 1,.slice (some ⟨w.heap.size+1+1+1,0,none⟩) 2 2,.slice (some ⟨w.heap.size+1+1+1+1,0,none⟩) 1 1,.slice (some ⟨w.heap.size+1+1+1+1+1,0,none⟩) 2 2,.slice (some ⟨w.heap.size+1+1+1+1+1+1,0,none⟩) 1 1,.slice (some ⟨w.heap.size+1+1+1+1+1+1+1,0,none⟩) 1 1])
 case atStart =>
  exact lz
 case round =>
  obtain ⟨k,A,ca,hk,rfl,rfl,hown,hb,hbx,hout⟩:=hrel;have hsz:=hb.size;have oc:wr.cell? ⟨w.heap.size+1+1+1+1+1+1+1+1,4,none⟩=some (.slice (some ⟨w.heap.size+1+1+1+1,0,none⟩) 1 1):=hout.cell 4;by_cases hk0:k=0
  ·subst hk0;have ic:wr.cell? ⟨w.heap.size+1+1+1+1,0,none⟩=some (.int .i64 3):=hbx.cell 0;exact GZ
  exact nH
theorem QJ (q:Int) (w:World):Calls Tryz.prog 104 #[(5:Int),q] w (jl 39 4 (af (cG 5 q)) 2 w):=by
 have hz:Hid (cG 5 q=([3,7]:List Int).map (cJ q)):=rfl;go_enter Tryz.func104,Tryz.ntmps104;go_wp2_with fail;go_loopg [6,7] 2 (fun m v i wr=>∃ (k:Nat) (A:Option Addr) (ca:Nat),k+m=2/\i=.int .i64 k/\v=.slice A k ca/\wr.ownsRow w 39 4 (.slice A k ca) k (af ((([3,7]:List Int).take k).map (cJ q)))/\Below w w wr/\Bx wr (w.heap.size+1+1+1+1+1) 3 #[(3:Int),(7:Int)]/\Bx wr (w.heap.size+1+1+1+1+1+1+1+1) 58 #[.slice (some ⟨w,0,none⟩) 0 0,.slice (some ⟨w.heap.size+1,0,none⟩) 1 1,.slice (some ⟨w.heap.size+1+1,0,none⟩) 1 1,.slice (some ⟨w.heap.size+1+1+1,0,none⟩) 2 2,.slice (some ⟨w.heap.size+1+1+1+1,0,none⟩) 1 1,.slice (some ⟨w.heap.size+1+1+1+1+1,0,none⟩) 2 2,.slice (some ⟨w.heap.size+1+1+1+1+1+1,0,none⟩) 1 1,.slice (some ⟨w.heap.size+1+1+1+1+1+1+1,0,none⟩) 1 1])
 case atStart =>
  exact lz
 case round =>
  obtain ⟨k,A,ca,hk,rfl,rfl,hown,hb,hbx,hout⟩:=hrel;have hsz:=hb.size;have oc:wr.cell? ⟨w.heap.size+1+1+1+1+1+1+1+1,5,none⟩=some (.slice (some ⟨w.heap.size+1+1+1+1+1,0,none⟩) 2 2):=hout.cell 5;by_cases hk0:k=0
  ·subst hk0;have ic:wr.cell? ⟨w.heap.size+1+1+1+1+1,0,none⟩=some (.int .i64 3):=hbx.cell 0;exact GZ
  by_cases hk1:k=1
  ·subst hk1;have ic:wr.cell? ⟨w.heap.size+1+1+1+1+1,1,none⟩=some (.int .i64 7):=hbx.cell 1;exact GY
  obtain rfl:k=2:=zO;exact vi
theorem QK (q:Int) (w:World):Calls Tryz.prog 104 #[(6:Int),q] w (jl 39 4 (af (cG 6 q)) 1 w):=by
 have hz:Hid (cG 6 q=([6]:List Int).map (cJ q)):=rfl;go_enter Tryz.func104,Tryz.ntmps104;go_wp2_with fail;go_loopg [6,7] 1 (fun m v i wr=>∃ (k:Nat) (A:Option Addr) (ca:Nat),k+m=1/\i=.int .i64 k/\v=.slice A k ca/\wr.ownsRow w 39 4 (.slice A k ca) k (af ((([6]:List Int).take k).map (cJ q)))/\Below w w wr/\Bx wr (w.heap.size+1+1+1+1+1+1) 3 #[(6:Int)]/\Bx wr (w.heap.size+1+1+1+1+1+1+1+1) 58 #[.slice (some ⟨w,0,none⟩) 0 0,.slice (some ⟨w.heap.size+1,0,none⟩) 1 1,.slice (some ⟨w.heap.size+1+1,0,none⟩) 1 1,.slice (some ⟨w.heap.size+1+1+1,0,none⟩) 2 2,.slice (some ⟨w.heap.size+1+1+1+1,0,none⟩) 1 1,.slice (some ⟨w.heap.size+1+1+1+1+1,0,none⟩) 2 2,.slice (some ⟨w.heap.size+1+1+1+1+1+1,0,none⟩) 1 1,.slice (some ⟨w.heap.size+1+1+1+1+1+1+1,0,none⟩) 1 1])
 case atStart =>
  exact lz
 case round =>
  obtain ⟨k,A,ca,hk,rfl,rfl,hown,hb,hbx,hout⟩:=hrel;have hsz:=hb.size;have oc:wr.cell? ⟨w.heap.size+1+1+1+1+1+1+1+1,6,none⟩=some (.slice (some ⟨w.heap.size+1+1+1+1+1+1,0,none⟩) 1 1):=hout.cell 6;by_cases hk0:k=0
  ·subst hk0;have ic:wr.cell? ⟨w.heap.size+1+1+1+1+1+1,0,none⟩=some (.int .i64 6):=hbx.cell 0;go_wp2_with fail;refine (el _ _ _ _).mono ?_;rintro e w' ⟨rfl,rfl⟩;rw [bG zO zO];go_wp2_with fail;refine (eG _ _ _).mono ?_;rintro e w1 ⟨rfl,b1⟩;have o1:=ab hown b1;have bx1:=hbx.below b1;have ou1:=hout.below b1;have b01:=hb.trans (b1.mono hb.size);have hsz1:=b01.size;clear b1
   go_wp2_with (at_builtin;refine ah rfl (.tmp 31) (.tmp 41) 24 rfl Tryz.underlying24 ak rfl zD rfl (o1.alloc _) rfl (Rd.lit w1 39 #[(6:Int),q,(0:Int),(0:Int)] 1 4 rfl) zV zO zD zS ?_;intro A2 c2 w2 o2 g2)
   exact rv
  exact nH
theorem QL (q:Int) (w:World):Calls Tryz.prog 104 #[(7:Int),q] w (jl 39 4 (af (cG 7 q)) 1 w):=by
 have hz:Hid (cG 7 q=([8]:List Int).map (cJ q)):=rfl;go_enter Tryz.func104,Tryz.ntmps104;go_wp2_with fail;go_loopg [6,7] 1 (fun m v i wr=>∃ (k:Nat) (A:Option Addr) (ca:Nat),k+m=1/\i=.int .i64 k/\v=.slice A k ca/\wr.ownsRow w 39 4 (.slice A k ca) k (af ((([8]:List Int).take k).map (cJ q)))/\Below w w wr/\Bx wr (w.heap.size+1+1+1+1+1+1+1) 3 #[(8:Int)]/\Bx wr (w.heap.size+1+1+1+1+1+1+1+1) 58 #[.slice (some ⟨w,0,none⟩) 0 0,.slice (some ⟨w.heap.size+1,0,none⟩) 1 1,.slice (some ⟨w.heap.size+1+1,0,none⟩) 1 1,.slice (some ⟨w.heap.size+1+1+1,0,none⟩) 2 2,.slice (some ⟨w.heap.size+1+1+1+1,0,none⟩) 1 1,.slice (some ⟨w.heap.size+1+1+1+1+1,0,none⟩) 2 2,.slice (some ⟨w.heap.size+1+1+1+1+1+1,0,none⟩) 1 1,.slice (some ⟨w.heap.size+1+1+1+1+1+1+1,0,none⟩) 1 1])
 case atStart =>
  exact lz
 case round =>
  obtain ⟨k,A,ca,hk,rfl,rfl,hown,hb,hbx,hout⟩:=hrel;have hsz:=hb.size;have oc:wr.cell? ⟨w.heap.size+1+1+1+1+1+1+1+1,7,none⟩=some (.slice (some ⟨w.heap.size+1+1+1+1+1+1+1,0,none⟩) 1 1):=hout.cell 7;by_cases hk0:k=0
  ·subst hk0;have ic:wr.cell? ⟨w.heap.size+1+1+1+1+1+1+1,0,none⟩=some (.int .i64 8):=hbx.cell 0;go_wp2_with fail;refine (el _ _ _ _).mono ?_;rintro e w' ⟨rfl,rfl⟩;rw [bG zO zO];go_wp2_with fail;refine (eG _ _ _).mono ?_;rintro e w1 ⟨rfl,b1⟩;have o1:=ab hown b1;have bx1:=hbx.below b1;have ou1:=hout.below b1;have b01:=hb.trans (b1.mono hb.size);have hsz1:=b01.size;clear b1
   go_wp2_with (at_builtin;refine ah rfl (.tmp 31) (.tmp 41) 24 rfl Tryz.underlying24 ak rfl zD rfl (o1.alloc _) rfl (Rd.lit w1 39 #[(8:Int),q,(0:Int),(0:Int)] 1 4 rfl) zV zO zD zS ?_;intro A2 c2 w2 o2 g2)
   exact rv
  exact nH
theorem Ha (c q:Int) (w:World) (hc:c < 0\/7 < c):Calls Tryz.prog 104 #[c,q] w (jl 39 4 [] 0 w):=by
 go_enter Tryz.func104,Tryz.ntmps104;go_wp2_with fail;go_loopg [6,7] 0 (fun m v i wr=>∃ (A:Option Addr) (ca:Nat),i=.int .i64 0/\v=.slice A 0 ca/\wr.ownsRow w 39 4 (.slice A 0 ca) 0 []/\Below w w wr)
 case atStart =>
  refine ⟨_,_,rfl,rfl,?_,?_⟩
  ·have ho:=World.ownsRow_lit (((((((((w.alloc (.cells #[] 3)).alloc (.cells #[(7:Int)] 3)).alloc (.cells #[(5:Int)] 3)).alloc (.cells #[(5:Int),(7:Int)] 3)).alloc (.cells #[(3:Int)] 3)).alloc (.cells #[(3:Int),(7:Int)] 3)).alloc (.cells #[(6:Int)] 3)).alloc (.cells #[(8:Int)] 3)).alloc (.cells #[.slice (some ⟨w,0,none⟩) 0 0,.slice (some ⟨w.heap.size+1,0,none⟩) 1 1,.slice (some ⟨w.heap.size+1+1,0,none⟩) 1 1,.slice (some ⟨w.heap.size+1+1+1,0,none⟩) 2 2,.slice (some ⟨w.heap.size+1+1+1+1,0,none⟩) 1 1,.slice (some ⟨w.heap.size+1+1+1+1+1,0,none⟩) 2 2,.slice (some ⟨w.heap.size+1+1+1+1+1+1,0,none⟩) 1 1,.slice (some ⟨w.heap.size+1+1+1+1+1+1+1,0,none⟩) 1 1] 58)) #[] 0 (size:=4) (e:=39) (base:=w.heap.size) zS zM rfl;simp at ho ⊢;exact ho
  ·exact Ay
 case round =>
  obtain ⟨A,ca,rfl,rfl,hown,hb⟩:=hrel;go_wp2_with fail;refine (el _ _ _ _).mono ?_;rintro e w' ⟨rfl,rfl⟩;rw [gw zO];go_wp2_with fail;go_ret;exact ⟨A,ca,rfl,hown,hb⟩
theorem kQ (c q:Int) (w:World):Calls Tryz.prog 104 #[c,q] w (jl 39 4 (af (cG c q)) (lu c).length w):=by
 by_cases hc:0<=c/\c<=7
 ·obtain h | h | h | h | h | h | h | h:c=0\/c=1\/c=2\/c=3\/c=4\/c=5\/c=6\/c=7:=zO
  ·subst h;exact QE q w
  ·subst h;exact QF q w
  ·subst h;exact QG q w
  ·subst h;exact QH q w
  ·subst h;exact QI q w
  ·subst h;exact QJ q w
  ·subst h;exact QK q w
  ·subst h;exact QL q w
 ·have h:c < 0\/7 < c:=zO;have:=Ha c q w h;rw [cG,xP h];exact this
theorem lA {p:Prop} (h:p:=by
  refine ⟨0,_,_,zO,rfl,rfl,?_,?_,?_⟩
  ·have ho:=World.ownsRow_lit w #[] 0 (size:=4) (e:=39) (base:=w.heap.size) zS zM rfl;exact CS
  ·exact Ay
  ·repeat (first | (refine Bx.new' ?_;simp;done) | refine Bx.alloc ?_ _)):p:=h
theorem qE {p:Prop} (h:p:=by
  go_wp2_with fail;go_ret;exact ⟨A,ca,rfl,by rw [hz.out];exact hown,hb⟩):p:=h
theorem QM (q:Int) (w:World):Calls Tryz.prog 81 #[(0:Int),q] w (jl 39 4 (af (cG 0 q)) 0 w):=by
 have hz:Hid (cG 0 q=([]:List Int).map (cJ q)):=rfl;go_enter Tryz.func81,Tryz.ntmps81
 go_wp2_with (go_at_call 70;refine (eK _ _ _ _).mono ?_;rintro e w' ⟨rfl,rfl⟩;rw [bG zO zO])
 go_loopg [5,25] 0 (fun m v i wr=>∃ (k:Nat) (A:Option Addr) (ca:Nat),k+m=0/\i=.int .i64 k/\v=.slice A k ca/\wr.ownsRow w 39 4 (.slice A k ca) k (af ((([]:List Int).take k).map (cJ q)))/\Below w w wr/\Bx wr (w.heap.size+1) 3 #[])
 case atStart =>
  exact lA
 case round =>
  obtain ⟨k,A,ca,hk,rfl,rfl,hown,hb,hbx⟩:=hrel;have hsz:=hb.size;obtain rfl:k=0:=zO;exact qE
theorem rx {p:Prop} (h:p:=by
  go_roundg (gk - 1)
  case measure=>omega
  case rel =>
   refine ⟨0+1,A2,c2,zO,by go_num,rfl,?_,ag (b01.alloc hsz1 _) zS (o1.alloc _) zR g2,az (o1.alloc _) g2 (bx1.alloc _) zD⟩;simpa [af,Gt.cells,cJ] using o2):p:=h
theorem nI {p:Prop} (h:p:=by
  obtain rfl:k=1:=zO;exact qE):p:=h
theorem QN (q:Int) (w:World):Calls Tryz.prog 81 #[(1:Int),q] w (jl 39 4 (af (cG 1 q)) 1 w):=by
 have hz:Hid (cG 1 q=([7]:List Int).map (cJ q)):=rfl;go_enter Tryz.func81,Tryz.ntmps81
 go_wp2_with (go_at_call 70;refine (eK _ _ _ _).mono ?_;rintro e w' ⟨rfl,rfl⟩;rw [bG zO zO])
 go_loopg [5,25] 1 (fun m v i wr=>∃ (k:Nat) (A:Option Addr) (ca:Nat),k+m=1/\i=.int .i64 k/\v=.slice A k ca/\wr.ownsRow w 39 4 (.slice A k ca) k (af ((([7]:List Int).take k).map (cJ q)))/\Below w w wr/\Bx wr (w.heap.size+1+1) 3 #[(7:Int)])
 case atStart =>
  exact lA
 case round =>
  obtain ⟨k,A,ca,hk,rfl,rfl,hown,hb,hbx⟩:=hrel;have hsz:=hb.size;by_cases hk0:k=0
  ·subst hk0;have ic:wr.cell? ⟨w.heap.size+1+1,0,none⟩=some (.int .i64 7):=hbx.cell 0;go_wp2_with fail;refine (jo _ _ _).mono ?_;rintro e w1 ⟨rfl,b1⟩;have o1:=ab hown b1;have bx1:=hbx.below b1;have b01:=hb.trans (b1.mono hb.size);have hsz1:=b01.size;clear b1
   go_wp2_with (at_builtin;refine ah rfl (.tmp 29) (.tmp 33) 24 rfl Tryz.underlying24 ak rfl zD rfl (o1.alloc _) rfl (Rd.lit w1 39 #[(7:Int),q,(0:Int),(0:Int)] 1 4 rfl) zV zO zD zS ?_;intro A2 c2 w2 o2 g2)
   exact rx
  exact nI
theorem CT {p:Prop} (h:p:=by
  go_wp2_with fail;refine (jo _ _ _).mono ?_;rintro e w1 ⟨rfl,b1⟩;have o1:=ab hown b1;have bx1:=hbx.below b1;have b01:=hb.trans (b1.mono hb.size);have hsz1:=b01.size;clear b1
  go_wp2_with (at_builtin;refine ah rfl (.tmp 29) (.tmp 33) 24 rfl Tryz.underlying24 ak rfl zD rfl (o1.alloc _) rfl (Rd.lit w1 39 #[(5:Int),q,(0:Int),(0:Int)] 1 4 rfl) zV zO zD zS ?_;intro A2 c2 w2 o2 g2)
  exact rx):p:=h
theorem QO (q:Int) (w:World):Calls Tryz.prog 81 #[(2:Int),q] w (jl 39 4 (af (cG 2 q)) 1 w):=by
 have hz:Hid (cG 2 q=([5]:List Int).map (cJ q)):=rfl;go_enter Tryz.func81,Tryz.ntmps81
 go_wp2_with (go_at_call 70;refine (eK _ _ _ _).mono ?_;rintro e w' ⟨rfl,rfl⟩;rw [bG zO zO])
 go_loopg [5,25] 1 (fun m v i wr=>∃ (k:Nat) (A:Option Addr) (ca:Nat),k+m=1/\i=.int .i64 k/\v=.slice A k ca/\wr.ownsRow w 39 4 (.slice A k ca) k (af ((([5]:List Int).take k).map (cJ q)))/\Below w w wr/\Bx wr (w.heap.size+1+1+1) 3 #[(5:Int)])
 case atStart =>
  exact lA
 case round =>
  obtain ⟨k,A,ca,hk,rfl,rfl,hown,hb,hbx⟩:=hrel;have hsz:=hb.size;by_cases hk0:k=0
  ·subst hk0;have ic:wr.cell? ⟨w.heap.size+1+1+1,0,none⟩=some (.int .i64 5):=hbx.cell 0;exact CT
  exact nI
theorem Hb {p:Prop} (h:p:=by
  go_wp2_with fail;refine (jo _ _ _).mono ?_;rintro e w1 ⟨rfl,b1⟩;have o1:=ab hown b1;have bx1:=hbx.below b1;have b01:=hb.trans (b1.mono hb.size);have hsz1:=b01.size;clear b1
  go_wp2_with (at_builtin;refine ah rfl (.tmp 29) (.tmp 33) 24 rfl Tryz.underlying24 ak rfl zD rfl (o1.alloc _) rfl (Rd.lit w1 39 #[(7:Int),q,(0:Int),(0:Int)] 1 4 rfl) zV zO zD zS ?_;intro A2 c2 w2 o2 g2)
  go_roundg (gk - 1)
  case measure=>omega
  case rel =>
   refine ⟨1+1,A2,c2,zO,by go_num,rfl,?_,ag (b01.alloc hsz1 _) zS (o1.alloc _) zR g2,az (o1.alloc _) g2 (bx1.alloc _) zD⟩;simpa [af,Gt.cells,cJ] using o2):p:=h
theorem QP (q:Int) (w:World):Calls Tryz.prog 81 #[(3:Int),q] w (jl 39 4 (af (cG 3 q)) 2 w):=by
 have hz:Hid (cG 3 q=([5,7]:List Int).map (cJ q)):=rfl;go_enter Tryz.func81,Tryz.ntmps81
 go_wp2_with (go_at_call 70;refine (eK _ _ _ _).mono ?_;rintro e w' ⟨rfl,rfl⟩;rw [bG zO zO])
 go_loopg [5,25] 2 (fun m v i wr=>∃ (k:Nat) (A:Option Addr) (ca:Nat),k+m=2/\i=.int .i64 k/\v=.slice A k ca/\wr.ownsRow w 39 4 (.slice A k ca) k (af ((([5,7]:List Int).take k).map (cJ q)))/\Below w w wr/\Bx wr (w.heap.size+1+1+1+1) 3 #[(5:Int),(7:Int)])
 case atStart =>
  exact lA
 case round =>
  obtain ⟨k,A,ca,hk,rfl,rfl,hown,hb,hbx⟩:=hrel;have hsz:=hb.size;by_cases hk0:k=0
  ·subst hk0;have ic:wr.cell? ⟨w.heap.size+1+1+1+1,0,none⟩=some (.int .i64 5):=hbx.cell 0;exact CT
  by_cases hk1:k=1
  ·subst hk1;have ic:wr.cell? ⟨w.heap.size+1+1+1+1,1,none⟩=some (.int .i64 7):=hbx.cell 1;exact Hb
  obtain rfl:k=2:=zO;exact qE
theorem CU {p:Prop} (h:p:=by
  go_wp2_with fail;refine (jo _ _ _).mono ?_;rintro e w1 ⟨rfl,b1⟩;have o1:=ab hown b1;have bx1:=hbx.below b1;have b01:=hb.trans (b1.mono hb.size);have hsz1:=b01.size;clear b1
  go_wp2_with (at_builtin;refine ah rfl (.tmp 29) (.tmp 33) 24 rfl Tryz.underlying24 ak rfl zD rfl (o1.alloc _) rfl (Rd.lit w1 39 #[(3:Int),q,(0:Int),(0:Int)] 1 4 rfl) zV zO zD zS ?_;intro A2 c2 w2 o2 g2)
  exact rx):p:=h
theorem QQ (q:Int) (w:World):Calls Tryz.prog 81 #[(4:Int),q] w (jl 39 4 (af (cG 4 q)) 1 w):=by
 have hz:Hid (cG 4 q=([3]:List Int).map (cJ q)):=rfl;go_enter Tryz.func81,Tryz.ntmps81
 go_wp2_with (go_at_call 70;refine (eK _ _ _ _).mono ?_;rintro e w' ⟨rfl,rfl⟩;rw [bG zO zO])
 go_loopg [5,25] 1 (fun m v i wr=>∃ (k:Nat) (A:Option Addr) (ca:Nat),k+m=1/\i=.int .i64 k/\v=.slice A k ca/\wr.ownsRow w 39 4 (.slice A k ca) k (af ((([3]:List Int).take k).map (cJ q)))/\Below w w wr/\Bx wr (w.heap.size+1+1+1+1+1) 3 #[(3:Int)])
 case atStart =>
  exact lA
 case round =>
  obtain ⟨k,A,ca,hk,rfl,rfl,hown,hb,hbx⟩:=hrel;have hsz:=hb.size;by_cases hk0:k=0
  ·subst hk0;have ic:wr.cell? ⟨w.heap.size+1+1+1+1+1,0,none⟩=some (.int .i64 3):=hbx.cell 0;exact CU
  exact nI
theorem QR (q:Int) (w:World):Calls Tryz.prog 81 #[(5:Int),q] w (jl 39 4 (af (cG 5 q)) 2 w):=by
 have hz:Hid (cG 5 q=([3,7]:List Int).map (cJ q)):=rfl;go_enter Tryz.func81,Tryz.ntmps81
 go_wp2_with (go_at_call 70;refine (eK _ _ _ _).mono ?_;rintro e w' ⟨rfl,rfl⟩;rw [bG zO zO])
 go_loopg [5,25] 2 (fun m v i wr=>∃ (k:Nat) (A:Option Addr) (ca:Nat),k+m=2/\i=.int .i64 k/\v=.slice A k ca/\wr.ownsRow w 39 4 (.slice A k ca) k (af ((([3,7]:List Int).take k).map (cJ q)))/\Below w w wr/\Bx wr (w.heap.size+1+1+1+1+1+1) 3 #[(3:Int),(7:Int)])
 case atStart =>
  exact lA
 case round =>
  obtain ⟨k,A,ca,hk,rfl,rfl,hown,hb,hbx⟩:=hrel;have hsz:=hb.size;by_cases hk0:k=0
  ·subst hk0;have ic:wr.cell? ⟨w.heap.size+1+1+1+1+1+1,0,none⟩=some (.int .i64 3):=hbx.cell 0;exact CU
  by_cases hk1:k=1
  ·subst hk1;have ic:wr.cell? ⟨w.heap.size+1+1+1+1+1+1,1,none⟩=some (.int .i64 7):=hbx.cell 1;exact Hb
  obtain rfl:k=2:=zO;exact qE
theorem QS (q:Int) (w:World):Calls Tryz.prog 81 #[(6:Int),q] w (jl 39 4 (af (cG 6 q)) 1 w):=by
 have hz:Hid (cG 6 q=([6]:List Int).map (cJ q)):=rfl;go_enter Tryz.func81,Tryz.ntmps81
 go_wp2_with (go_at_call 70;refine (eK _ _ _ _).mono ?_;rintro e w' ⟨rfl,rfl⟩;rw [bG zO zO])
 go_loopg [5,25] 1 (fun m v i wr=>∃ (k:Nat) (A:Option Addr) (ca:Nat),k+m=1/\i=.int .i64 k/\v=.slice A k ca/\wr.ownsRow w 39 4 (.slice A k ca) k (af ((([6]:List Int).take k).map (cJ q)))/\Below w w wr/\Bx wr (w.heap.size+1+1+1+1+1+1+1) 3 #[(6:Int)])
 case atStart =>
  exact lA
 case round =>
  obtain ⟨k,A,ca,hk,rfl,rfl,hown,hb,hbx⟩:=hrel;have hsz:=hb.size;by_cases hk0:k=0
  ·subst hk0;have ic:wr.cell? ⟨w.heap.size+1+1+1+1+1+1+1,0,none⟩=some (.int .i64 6):=hbx.cell 0;go_wp2_with fail;refine (jo _ _ _).mono ?_;rintro e w1 ⟨rfl,b1⟩;have o1:=ab hown b1;have bx1:=hbx.below b1;have b01:=hb.trans (b1.mono hb.size);have hsz1:=b01.size;clear b1
   go_wp2_with (at_builtin;refine ah rfl (.tmp 29) (.tmp 33) 24 rfl Tryz.underlying24 ak rfl zD rfl (o1.alloc _) rfl (Rd.lit w1 39 #[(6:Int),q,(0:Int),(0:Int)] 1 4 rfl) zV zO zD zS ?_;intro A2 c2 w2 o2 g2)
   exact rx
  exact nI
theorem QT (q:Int) (w:World):Calls Tryz.prog 81 #[(7:Int),q] w (jl 39 4 (af (cG 7 q)) 1 w):=by
 have hz:Hid (cG 7 q=([8]:List Int).map (cJ q)):=rfl;go_enter Tryz.func81,Tryz.ntmps81
 go_wp2_with (go_at_call 70;refine (eK _ _ _ _).mono ?_;rintro e w' ⟨rfl,rfl⟩;rw [bG zO zO])
 go_loopg [5,25] 1 (fun m v i wr=>∃ (k:Nat) (A:Option Addr) (ca:Nat),k+m=1/\i=.int .i64 k/\v=.slice A k ca/\wr.ownsRow w 39 4 (.slice A k ca) k (af ((([8]:List Int).take k).map (cJ q)))/\Below w w wr/\Bx wr (w.heap.size+1+1+1+1+1+1+1+1) 3 #[(8:Int)])
 case atStart =>
  exact lA
 case round =>
  obtain ⟨k,A,ca,hk,rfl,rfl,hown,hb,hbx⟩:=hrel;have hsz:=hb.size;by_cases hk0:k=0
  ·subst hk0;have ic:wr.cell? ⟨w.heap.size+1+1+1+1+1+1+1+1,0,none⟩=some (.int .i64 8):=hbx.cell 0;go_wp2_with fail;refine (jo _ _ _).mono ?_;rintro e w1 ⟨rfl,b1⟩;have o1:=ab hown b1;have bx1:=hbx.below b1;have b01:=hb.trans (b1.mono hb.size);have hsz1:=b01.size;clear b1
   go_wp2_with (at_builtin;refine ah rfl (.tmp 29) (.tmp 33) 24 rfl Tryz.underlying24 ak rfl zD rfl (o1.alloc _) rfl (Rd.lit w1 39 #[(8:Int),q,(0:Int),(0:Int)] 1 4 rfl) zV zO zD zS ?_;intro A2 c2 w2 o2 g2)
   exact rx
  exact nI
theorem Hc (c q:Int) (w:World) (hc:c < 0\/7 < c):Calls Tryz.prog 81 #[c,q] w (jl 39 4 [] 0 w):=by
 go_enter Tryz.func81,Tryz.ntmps81;go_wp2_with fail;refine (eK _ _ _ _).mono ?_;rintro e w' ⟨rfl,rfl⟩;rw [gw zO];go_wp2_with fail;go_ret;exact ⟨none,0,rfl,World.ownsRow_nil _ _ _ _,zW⟩
theorem kR (c q:Int) (w:World):Calls Tryz.prog 81 #[c,q] w (jl 39 4 (af (cG c q)) (lu c).length w):=by
 by_cases hc:0<=c/\c<=7
 ·obtain h | h | h | h | h | h | h | h:c=0\/c=1\/c=2\/c=3\/c=4\/c=5\/c=6\/c=7:=zO
  ·subst h;exact QM q w
  ·subst h;exact QN q w
  ·subst h;exact QO q w
  ·subst h;exact QP q w
  ·subst h;exact QQ q w
  ·subst h;exact QR q w
  ·subst h;exact QS q w
  ·subst h;exact QT q w
 ·have h:c < 0\/7 < c:=zO;have:=Hc c q w h;rw [cG,xP h];exact this
end Go.Proofs.YtmenmibfkojnoaaGreat
