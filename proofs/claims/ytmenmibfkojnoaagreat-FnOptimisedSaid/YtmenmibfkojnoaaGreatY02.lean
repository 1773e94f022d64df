/- Contracts of l1HasInt, GateQubits, ActsO. -/
import Derived.Test.YtmenmibfkojnoaaGreatY01
import Derived.Deep.RegionHeld3
set_option maxHeartbeats 16000000
set_option maxRecDepth 100000
namespace Go.Proofs.YtmenmibfkojnoaaGreat
open Go.RowKit
theorem jp:(Tryz.prog.info? 3).map (fun i=>(i.zero,i.size,i.bytes))=some (some (.int .i64 0),1,8):=zK
def gH (zs:List Int) (x:Int):Bool:=zs.any (· == x)
def ik (k a b c:Int):List Int:=[a,b,c].take (aA k).toNat
def kV (k a b c q:Int):Bool:=gH (ik k a b c) q
theorem xL {zs r:List Int} {k:Nat} {x y:Int} (hd:zs.drop k=x :: r) (h1:(x == y)=true):gH zs y=true:=by
 have:x ∈ zs:=List.mem_of_mem_drop (by rw [hd];simp);exact List.any_eq_true.2 ⟨_,this,h1⟩
def Uk (zs:List Int) (n:Nat) (w:World) (e:Ending) (w':World):Prop :=
 ∃ A c,e=.returned (.slice A n c)/\RdI w' A n zs/\Below w w w'
def Ul (zs:List Int) (n:Nat) (w:World) (e:Ending) (w':World):Prop :=
 ∃ A c,e=.returned (.slice A n c)/\RdI w' A n zs/\Below w w w'/\n<=c
theorem qB {w:World} {base:Nat} {e:TypeId} {sz n c:Nat} {A:Option Addr} {xs:List Value} (h:w.ownsRow base e sz (.slice A n c) n xs):n<=c:=by
 rcases h.2 with ⟨_,h0⟩ | ⟨g,cap,cur,hv,_,hg,hnc,_⟩
 ·omega
 ·simp only [Value.slice.injEq] at hv;obtain ⟨_,_,rfl⟩:=hv;exact hnc
theorem u9 (A:Option Addr) (n cap:Nat) (zs:List Int) (x:Int) (w:World) (h:RdI w A n zs) (hn:n<=1099511627776) :
  Calls Tryz.prog 51 #[.slice A n cap,x] w fun e w'=>e=.returned (.bool (gH zs x))/\w=w':=by
 have H:=zH h;clear h;go_enter Tryz.func51,Tryz.ntmps51;go_wp2;go_loopg [5] n (fun m i wr=>∃ (k:Nat),k+m=n/\i=.int .i64 k/\gH (zs.drop k) x=gH zs x/\w=wr)
 case atStart=>exact ⟨0,zO,rfl,zI,rfl⟩
 case round =>
  obtain ⟨k,hk,rfl,hx,rfl⟩:=hrel;have HX:=zH hx;clear hx;by_cases hlt:k < n
  ·obtain ⟨b,off,y,rfl,hB,hd,c0⟩:=H.at_ hlt;have HD:=zH hd;clear hd;by_cases h1:(y == x)=true
   ·go_wp2;go_ret;exact ⟨aw (xL HD h1).symm,rfl⟩
   ·have h1':(y == x)=false:=by simpa using h1
    clear h1;go_wp2;go_roundg (gk - 1)
    case measure=>omega
    case rel=>exact ⟨k+1,zO,by go_num,by rw [<- HX.out,HD.out];simp [gH,h1'],rfl⟩
  ·go_wp2;go_ret;exact ⟨aw (by rw [<- HX.out,List.drop_eq_nil_of_le (by have:=H.out.1;omega)];rfl),rfl⟩
theorem vb {p:Prop} (h:p:=by simpa [aB] using o2):p:=h
theorem vc {p:Prop} (h:p:=by
  exact ag (a:=w) (((zW).alloc zR _).alloc zI _ |>.alloc zS _) zS HO.out zR g2):p:=h
theorem mM (k a b c:Int) (w:World):Calls Tryz.prog 49 #[.agg #[k,a,b,c]] w (Ul (ik k a b c) (aA k).toNat w):=by
 have hr:Rd (((w.alloc (.cells #[k,a,b,c] 39)).alloc (.cells #[a,b,c] 3)).alloc (.cells #[] 3)) 1 (some ⟨w.heap.size+1,0,none⟩) 3 [.int .i64 a,.int .i64 b,.int .i64 c]:=by
  have:=Rd.alloc (Rd.lit (w.alloc (.cells #[k,a,b,c] 39)) 3 #[a,b,c] 3 1 rfl) (.cells #[] 3);simpa using this
 have ho:=World.ownsRow_lit ((w.alloc (.cells #[k,a,b,c] 39)).alloc (.cells #[a,b,c] 3)) #[] 0 (size:=1) (e:=3) (base:=w.heap.size) zS zM rfl;simp only [World.size_alloc] at ho;have HR:=zH hr;have HO:=zH ho;clear hr ho;rcases bd k with ⟨_,_,ha⟩ | ⟨_,_,ha⟩ | ⟨h1,ha⟩ | ⟨_,ha⟩
 rotate_left 2
 clear h1
 rotate_left 2
 ·have HA:=zH ha;clear ha;go_enter Tryz.func49,Tryz.ntmps49;go_wp2_with fail;refine (bX _ _).mono ?_;rintro e w' ⟨rfl,rfl⟩;rw [HA.out]
  go_wp2_with (at_builtin;refine ah rfl (.tmp 11) (.tmp 16) 58 rfl Tryz.underlying58 jp rfl zD rfl HO.out rfl (HR.pre (k:=1) zO) zV zO zD zS ?_;intro A2 c2 w2 o2 g2)
  go_ret;have e1:ik k a b c=[a]:=by simp [ik,HA.out]
  refine ⟨A2,c2,?_,?_,?_,by have:=qB o2;have:=HA.out;omega⟩
  ·rw [HA.out];rfl
  ·rw [HA.out,e1];exact RdI.own (gs:=[a]) vb
  ·exact vc
 ·have HA:=zH ha;clear ha;go_enter Tryz.func49,Tryz.ntmps49;go_wp2_with fail;refine (bX _ _).mono ?_;rintro e w' ⟨rfl,rfl⟩;rw [HA.out]
  go_wp2_with (at_builtin;refine ah rfl (.tmp 11) (.tmp 16) 58 rfl Tryz.underlying58 jp rfl zD rfl HO.out rfl (HR.pre (k:=2) zO) zV zO zD zS ?_;intro A2 c2 w2 o2 g2)
  go_ret;have e1:ik k a b c=[a,b]:=by simp [ik,HA.out]
  refine ⟨A2,c2,?_,?_,?_,by have:=qB o2;have:=HA.out;omega⟩
  ·rw [HA.out];rfl
  ·rw [HA.out,e1];exact RdI.own (gs:=[a,b]) vb
  ·exact vc
 ·have HA:=zH ha;clear ha;go_enter Tryz.func49,Tryz.ntmps49;go_wp2_with fail;refine (bX _ _).mono ?_;rintro e w' ⟨rfl,rfl⟩;rw [HA.out]
  go_wp2_with (at_builtin;refine ah rfl (.tmp 11) (.tmp 16) 58 rfl Tryz.underlying58 jp rfl zD rfl HO.out rfl (HR.pre (k:=3) zO) zV zO zD zS ?_;intro A2 c2 w2 o2 g2)
  go_ret;have e1:ik k a b c=[a,b,c]:=by simp [ik,HA.out]
  refine ⟨A2,c2,?_,?_,?_,by have:=qB o2;have:=HA.out;omega⟩
  ·rw [HA.out];rfl
  ·rw [HA.out,e1];exact RdI.own (gs:=[a,b,c]) vb
  ·exact vc
 ·have HA:=zH ha;clear ha;go_enter Tryz.func49,Tryz.ntmps49;go_wp2_with fail;refine (bX _ _).mono ?_;rintro e w' ⟨rfl,rfl⟩;rw [HA.out]
  go_wp2_with (at_builtin;refine ah rfl (.tmp 11) (.tmp 16) 58 rfl Tryz.underlying58 jp rfl zD rfl HO.out rfl (HR.pre (k:=0) zO) zV zO zD zS ?_;intro A2 c2 w2 o2 g2)
  go_ret;have e1:ik k a b c=[]:=by simp [ik,HA.out]
  refine ⟨A2,c2,?_,?_,?_,by have:=qB o2;have:=HA.out;omega⟩
  ·rw [HA.out];rfl
  ·rw [HA.out,e1];exact RdI.own (gs:=[]) vb
  ·exact vc
theorem nB (k a b c:Int) (w:World):Calls Tryz.prog 49 #[.agg #[k,a,b,c]] w (Uk (ik k a b c) (aA k).toNat w):=by
 refine (mM k a b c w).mono ?_;rintro e w' ⟨A,c',h1,h2,h3,_⟩;exact ⟨A,c',h1,h2,h3⟩
theorem vd {p:Prop} (h:p:=by
  exact (((zW).alloc zR _).alloc zI _).drew):p:=h
theorem nC (k a b c:Int) (w:World):Calls Tryz.prog 48 #[.agg #[k,a,b,c]] w (Uk (ik k a b c) (aA k).toNat w):=by
 have hr0:=(Rd.lit (w.alloc (.cells #[k,a,b,c] 39)) 3 #[a,b,c] 3 1 rfl);simp only [World.size_alloc] at hr0;have hr:=zH hr0;clear hr0;rcases bd k with ⟨_,_,ha⟩ | ⟨_,_,ha⟩ | ⟨h1,ha⟩ | ⟨_,ha⟩
 rotate_left 2
 clear h1
 rotate_left 2
 ·have HA:=zH ha;clear ha;go_enter Tryz.func48,Tryz.ntmps48;go_wp2_with fail
  go_region_held3 (fun w'=>w'.cell? ⟨w,0,none⟩=some (.int .i64 k)/\w'.cell? ⟨w,1,none⟩=some (.int .i64 a)/\w'.cell? ⟨w,2,none⟩=some (.int .i64 b)/\w'.cell? ⟨w,3,none⟩=some (.int .i64 c))
   (first | go_keep)
   (first | (go_at_call 44;refine (bO _ _).mono ?_;rintro e w' ⟨rfl,rfl⟩;rw [HA.out]))
  all_goals go_wp2_with fail
  all_goals go_ret
  all_goals
   have e1:ik k a b c=[a]:=by simp [ik,HA.out]
   refine ⟨some ⟨w.heap.size+1,0,none⟩,1,?_,?_,?_⟩
   ·rw [HA.out];rfl
   ·rw [HA.out,e1];exact ⟨rfl,hr.pre (k:=1) zO⟩
   ·exact vd
 ·have HA:=zH ha;clear ha;go_enter Tryz.func48,Tryz.ntmps48;go_wp2_with fail
  go_region_held3 (fun w'=>w'.cell? ⟨w,0,none⟩=some (.int .i64 k)/\w'.cell? ⟨w,1,none⟩=some (.int .i64 a)/\w'.cell? ⟨w,2,none⟩=some (.int .i64 b)/\w'.cell? ⟨w,3,none⟩=some (.int .i64 c))
   (first | go_keep)
   (first | (go_at_call 44;refine (bO _ _).mono ?_;rintro e w' ⟨rfl,rfl⟩;rw [HA.out]))
  all_goals go_wp2_with fail
  all_goals go_ret
  all_goals
   have e1:ik k a b c=[a,b]:=by simp [ik,HA.out]
   refine ⟨some ⟨w.heap.size+1,0,none⟩,2,?_,?_,?_⟩
   ·rw [HA.out];rfl
   ·rw [HA.out,e1];exact ⟨rfl,hr.pre (k:=2) zO⟩
   ·exact vd
 ·have HA:=zH ha;clear ha;go_enter Tryz.func48,Tryz.ntmps48;go_wp2_with fail
  go_region_held3 (fun w'=>w'.cell? ⟨w,0,none⟩=some (.int .i64 k)/\w'.cell? ⟨w,1,none⟩=some (.int .i64 a)/\w'.cell? ⟨w,2,none⟩=some (.int .i64 b)/\w'.cell? ⟨w,3,none⟩=some (.int .i64 c))
   (first | go_keep)
   (first | (go_at_call 44;refine (bO _ _).mono ?_;rintro e w' ⟨rfl,rfl⟩;rw [HA.out]))
  all_goals go_wp2_with fail
  all_goals go_ret
  all_goals
   have e1:ik k a b c=[a,b,c]:=by simp [ik,HA.out]
   refine ⟨some ⟨w.heap.size+1,0,none⟩,3,?_,?_,?_⟩
   ·rw [HA.out];rfl
   ·rw [HA.out,e1];exact ⟨rfl,hr.pre (k:=3) zO⟩
   ·exact vd
 ·have HA:=zH ha;clear ha;go_enter Tryz.func48,Tryz.ntmps48;go_wp2_with fail
  go_region_held3 (fun w'=>w'.cell? ⟨w,0,none⟩=some (.int .i64 k)/\w'.cell? ⟨w,1,none⟩=some (.int .i64 a)/\w'.cell? ⟨w,2,none⟩=some (.int .i64 b)/\w'.cell? ⟨w,3,none⟩=some (.int .i64 c))
   (first | go_keep)
   (first | (go_at_call 44;refine (bO _ _).mono ?_;rintro e w' ⟨rfl,rfl⟩;rw [HA.out]))
  all_goals go_wp2_with fail
  all_goals go_ret
  all_goals
   have e1:ik k a b c=[]:=by simp [ik,HA.out]
   refine ⟨some ⟨w.heap.size+1,0,none⟩,0,?_,?_,?_⟩
   ·rw [HA.out];rfl
   ·rw [HA.out,e1];exact ⟨rfl,hr.pre (k:=0) zO⟩
   ·exact vd
theorem eL (k a b c q:Int) (w:World):Calls Tryz.prog 206 #[.agg #[k,a,b,c],q] w fun e w'=>e=.returned (.bool (kV k a b c q))/\Below w w w':=by
 have hbd:=ev k;go_enter Tryz.func206,Tryz.ntmps206;go_wp2_with fail;refine (nB _ _ _ _ _).mono ?_;rintro e w1 ⟨A1,c1,rfl,r1,b1⟩;go_wp2_with fail;refine (u9 _ _ _ _ _ _ r1 zO).mono ?_;rintro e w2 ⟨rfl,rfl⟩;go_wp2_with fail;go_ret;exact ⟨rfl,aD b1⟩
theorem dS (k a b c q:Int) (w:World):Calls Tryz.prog 127 #[.agg #[k,a,b,c],q] w fun e w'=>e=.returned (.bool (kV k a b c q))/\Below w w w':=by
 have hbd:=ev k;obtain ⟨n,hn⟩:∃ n,(aA k).toNat=n:=⟨_,rfl⟩;have HN:=zH hn;have hn4:n<=4:=zO;obtain ⟨zs,hz⟩:∃ zs,ik k a b c=zs:=⟨_,rfl⟩;have HZ:=zH hz;have HC:Hid (kV k a b c q=gH zs q):=by rw [<- hz];rfl
 clear hn hz hbd;go_enter Tryz.func127,Tryz.ntmps127;go_wp2_with fail;refine (nC _ _ _ _ _).mono ?_;rintro e w1 ⟨A1,c1,rfl,r1,b1⟩;rw [HN.out,HZ.out] at r1;rw [HN.out];have b01:=aD b1;have R1:=zH r1;clear r1 b1;go_wp2_with fail;go_loopg [10] n (fun m i wr=>∃ (j:Nat),j+m=n/\i=.int .i64 j/\gH (zs.drop j) q=gH zs q/\w1=wr)
 case atStart=>exact ⟨0,zO,rfl,zI,rfl⟩
 case round =>
  obtain ⟨j,hk,rfl,hx,rfl⟩:=hrel;have HX:=zH hx;clear hx;by_cases hlt:j < n
  ·obtain ⟨b',off,y,rfl,hB,hd,c0⟩:=R1.at_ hlt;have HD:=zH hd;clear hd;by_cases h1:(y == q)=true
   ·go_wp2_with fail;go_ret;exact ⟨aw (HC.trans (xL HD h1)).symm,b01⟩
   ·have h1':(y == q)=false:=by simpa using h1
    clear h1;go_wp2_with fail;go_roundg (gk - 1)
    case measure=>omega
    case rel=>exact ⟨j+1,zO,by go_num,by rw [<- HX.out,HD.out];simp [gH,h1'],rfl⟩
  ·go_wp2_with fail;go_ret;exact ⟨aw (by rw [HC.out,<- HX.out,List.drop_eq_nil_of_le (by have:=R1.out.1;omega)];rfl),b01⟩
def axis (k a b c q:Int):Int :=
 if kV k a b c q=false then 0 else if al k ≠ 0\/k=10\/k=9/\q=a\/k=12/\q ≠ c then 3 else if k=1\/k=9\/k=12 then 1 else 2
theorem ve {k a b c q:Int} (h:kV k a b c q=false):axis k a b c q=0:=by unfold axis;rw [if_pos h]
theorem lk {k a b c q:Int} (h:kV k a b c q=true) (h2:al k ≠ 0\/k=10\/k=9/\q=a\/k=12/\q ≠ c):axis k a b c q=3:=by unfold axis;rw [if_neg (by simp [h]),if_pos h2]
theorem oQ {k a b c q:Int} (h:kV k a b c q=true) (h2:¬ (al k ≠ 0\/k=10\/k=9/\q=a\/k=12/\q ≠ c)) (h3:k=1\/k=9\/k=12):axis k a b c q=1:=by
 unfold axis;rw [if_neg (by simp [h]),if_neg h2,if_pos h3]
theorem Gr {k a b c q:Int} (h:kV k a b c q=true) (h2:¬ (al k ≠ 0\/k=10\/k=9/\q=a\/k=12/\q ≠ c)) (h3:¬ (k=1\/k=9\/k=12)):axis k a b c q=2:=by
 unfold axis;rw [if_neg (by simp [h]),if_neg h2,if_neg h3]
theorem qC (k a b c q:Int):0<=axis k a b c q/\axis k a b c q<=3:=by
 unfold axis;split
 ·omega
 ·split
  ·omega
  ·split<;>omega
theorem Gs {p:Prop} (h:p:=by
  rintro e w2 ⟨rfl,rfl⟩;rw [HU.out];go_wp2_with fail;go_ret;exact ⟨cR HF.symm,aD b1⟩):p:=h
theorem mX {p:Prop} (h:p:=by
  go_wp2_with fail;refine (aT _ _).mono ?_;exact Gs):p:=h
theorem Gu {p:Prop} (h:p:=by
  rintro e w1 ⟨rfl,b1⟩;rw [HA.out];obtain ⟨q0,q1,q2,q3,_,_,_,_⟩:=((Bx.new w 39 #[k,a,b,c]).below b1).four;go_wp2_with fail;go_ret;exact ⟨cR HF.symm,aD b1⟩):p:=h
theorem Gv {p:Prop} (h:p:=by
  rintro e w2 ⟨rfl,rfl⟩;go_wp2_with fail;go_ret;exact ⟨cR HF.symm,aD b1⟩):p:=h
theorem bY (k a b c q:Int) (w:World):Calls Tryz.prog 177 #[.agg #[k,a,b,c],q] w fun e w'=>e=.returned (.int .i64 (axis k a b c q))/\Below w w w':=by
 cases hA:kV k a b c q
 ·have HA:=zH hA;have HF:=zH (ve hA);clear hA;go_enter Tryz.func177,Tryz.ntmps177;go_wp2_with fail;refine (eL _ _ _ _ _ _).mono ?_;exact Gu
 ·have HA:=zH hA;by_cases hu:al k=0
  ·have HU:=zH hu;by_cases h10:k=10
   ·subst h10;have HF:=zH (lk hA (.inr (.inl rfl)));clear hA hu;go_enter Tryz.func177,Tryz.ntmps177;go_wp2_with fail;refine (eL _ _ _ _ _ _).mono ?_;rintro e w1 ⟨rfl,b1⟩;rw [HA.out];obtain ⟨q0,q1,q2,q3,_,_,_,_⟩:=((Bx.new w 39 #[(10:Int),a,b,c]).below b1).four;exact mX
   by_cases h9:k=9
   ·subst h9;by_cases hq:q=a
    ·subst hq;have HF:=zH (lk hA (.inr (.inr (.inl ⟨rfl,rfl⟩))));clear hA hu h10;go_enter Tryz.func177,Tryz.ntmps177;go_wp2_with fail;refine (eL _ _ _ _ _ _).mono ?_;rintro e w1 ⟨rfl,b1⟩;rw [HA.out];obtain ⟨q0,q1,q2,q3,_,_,_,_⟩:=((Bx.new w 39 #[(9:Int),q,b,c]).below b1).four;exact mX
    ·have HF:=zH (oQ hA zO (.inr (.inl rfl)));have e1:(q == a)=false:=by simpa using hq
     clear hA hu h10 hq;go_enter Tryz.func177,Tryz.ntmps177;go_wp2_with fail;refine (eL _ _ _ _ _ _).mono ?_;rintro e w1 ⟨rfl,b1⟩;rw [HA.out];obtain ⟨q0,q1,q2,q3,_,_,_,_⟩:=((Bx.new w 39 #[(9:Int),a,b,c]).below b1).four;exact mX
   by_cases h12:k=12
   ·subst h12;by_cases hq:q=c
    ·subst hq;have HF:=zH (oQ hA zO (.inr (.inr rfl)));clear hA hu h10 h9;go_enter Tryz.func177,Tryz.ntmps177;go_wp2_with fail;refine (eL _ _ _ _ _ _).mono ?_;rintro e w1 ⟨rfl,b1⟩;rw [HA.out];obtain ⟨q0,q1,q2,q3,_,_,_,_⟩:=((Bx.new w 39 #[(12:Int),a,b,q]).below b1).four;exact mX
    ·have HF:=zH (lk hA (.inr (.inr (.inr ⟨rfl,hq⟩))));have e1:(q != c)=true:=by simpa using hq
     clear hA hu h10 h9 hq;go_enter Tryz.func177,Tryz.ntmps177;go_wp2_with fail;refine (eL _ _ _ _ _ _).mono ?_;rintro e w1 ⟨rfl,b1⟩;rw [HA.out];obtain ⟨q0,q1,q2,q3,_,_,_,_⟩:=((Bx.new w 39 #[(12:Int),a,b,c]).below b1).four;exact mX
   by_cases h1:k=1
   ·subst h1;have HF:=zH (oQ hA zO (.inl rfl));clear hA hu h10 h9 h12;go_enter Tryz.func177,Tryz.ntmps177;go_wp2_with fail;refine (eL _ _ _ _ _ _).mono ?_;rintro e w1 ⟨rfl,b1⟩;rw [HA.out];obtain ⟨q0,q1,q2,q3,_,_,_,_⟩:=((Bx.new w 39 #[(1:Int),a,b,c]).below b1).four;exact mX
   have HF:=zH (Gr hA zO zO);have e10:(k == 10)=false:=by simpa using h10
   have e9:(k == 9)=false:=by simpa using h9
   have e12:(k == 12)=false:=by simpa using h12
   have e1:(k == 1)=false:=by simpa using h1
   clear hA hu h10 h9 h12 h1;go_enter Tryz.func177,Tryz.ntmps177;go_wp2_with fail;refine (eL _ _ _ _ _ _).mono ?_;rintro e w1 ⟨rfl,b1⟩;rw [HA.out];obtain ⟨q0,q1,q2,q3,_,_,_,_⟩:=((Bx.new w 39 #[k,a,b,c]).below b1).four;exact mX
  ·have HF:=zH (lk hA (.inl hu));have hub:=ft k;have hu1:1<=al k:=zO;have hu2:(al k != 0)=true:=by simpa using hu
   clear hA hu hub;go_enter Tryz.func177,Tryz.ntmps177;go_wp2_with fail;refine (eL _ _ _ _ _ _).mono ?_;rintro e w1 ⟨rfl,b1⟩;rw [HA.out];obtain ⟨q0,q1,q2,q3,_,_,_,_⟩:=((Bx.new w 39 #[k,a,b,c]).below b1).four;go_wp2_with fail;refine (aT _ _).mono ?_;exact Gv
theorem mY {p:Prop} (h:p:=by
  go_wp2_with fail;refine (bt _ _).mono ?_;exact Gs):p:=h
theorem dC (k a b c q:Int) (w:World):Calls Tryz.prog 128 #[.agg #[k,a,b,c],q] w fun e w'=>e=.returned (.int .i64 (axis k a b c q))/\Below w w w':=by
 cases hA:kV k a b c q
 ·have HA:=zH hA;have HF:=zH (ve hA);clear hA;go_enter Tryz.func128,Tryz.ntmps128;go_wp2_with fail;refine (dS _ _ _ _ _ _).mono ?_;exact Gu
 ·have HA:=zH hA;by_cases hu:al k=0
  ·have HU:=zH hu;by_cases h10:k=10
   ·subst h10;have HF:=zH (lk hA (.inr (.inl rfl)));clear hA hu;go_enter Tryz.func128,Tryz.ntmps128;go_wp2_with fail;refine (dS _ _ _ _ _ _).mono ?_;rintro e w1 ⟨rfl,b1⟩;rw [HA.out];obtain ⟨q0,q1,q2,q3,_,_,_,_⟩:=((Bx.new w 39 #[(10:Int),a,b,c]).below b1).four;exact mY
   by_cases h9:k=9
   ·subst h9;by_cases hq:q=a
    ·subst hq;have HF:=zH (lk hA (.inr (.inr (.inl ⟨rfl,rfl⟩))));clear hA hu h10;go_enter Tryz.func128,Tryz.ntmps128;go_wp2_with fail;refine (dS _ _ _ _ _ _).mono ?_;rintro e w1 ⟨rfl,b1⟩;rw [HA.out];obtain ⟨q0,q1,q2,q3,_,_,_,_⟩:=((Bx.new w 39 #[(9:Int),q,b,c]).below b1).four;exact mY
    ·have HF:=zH (oQ hA zO (.inr (.inl rfl)));have e1:(q == a)=false:=by simpa using hq
     clear hA hu h10 hq;go_enter Tryz.func128,Tryz.ntmps128;go_wp2_with fail;refine (dS _ _ _ _ _ _).mono ?_;rintro e w1 ⟨rfl,b1⟩;rw [HA.out];obtain ⟨q0,q1,q2,q3,_,_,_,_⟩:=((Bx.new w 39 #[(9:Int),a,b,c]).below b1).four;exact mY
   by_cases h12:k=12
   ·subst h12;by_cases hq:q=c
    ·subst hq;have HF:=zH (oQ hA zO (.inr (.inr rfl)));clear hA hu h10 h9;go_enter Tryz.func128,Tryz.ntmps128;go_wp2_with fail;refine (dS _ _ _ _ _ _).mono ?_;rintro e w1 ⟨rfl,b1⟩;rw [HA.out];obtain ⟨q0,q1,q2,q3,_,_,_,_⟩:=((Bx.new w 39 #[(12:Int),a,b,q]).below b1).four;exact mY
    ·have HF:=zH (lk hA (.inr (.inr (.inr ⟨rfl,hq⟩))));have e1:(q != c)=true:=by simpa using hq
     clear hA hu h10 h9 hq;go_enter Tryz.func128,Tryz.ntmps128;go_wp2_with fail;refine (dS _ _ _ _ _ _).mono ?_;rintro e w1 ⟨rfl,b1⟩;rw [HA.out];obtain ⟨q0,q1,q2,q3,_,_,_,_⟩:=((Bx.new w 39 #[(12:Int),a,b,c]).below b1).four;exact mY
   by_cases h1:k=1
   ·subst h1;have HF:=zH (oQ hA zO (.inl rfl));clear hA hu h10 h9 h12;go_enter Tryz.func128,Tryz.ntmps128;go_wp2_with fail;refine (dS _ _ _ _ _ _).mono ?_;rintro e w1 ⟨rfl,b1⟩;rw [HA.out];obtain ⟨q0,q1,q2,q3,_,_,_,_⟩:=((Bx.new w 39 #[(1:Int),a,b,c]).below b1).four;exact mY
   have HF:=zH (Gr hA zO zO);have e10:(k == 10)=false:=by simpa using h10
   have e9:(k == 9)=false:=by simpa using h9
   have e12:(k == 12)=false:=by simpa using h12
   have e1:(k == 1)=false:=by simpa using h1
   clear hA hu h10 h9 h12 h1;go_enter Tryz.func128,Tryz.ntmps128;go_wp2_with fail;refine (dS _ _ _ _ _ _).mono ?_;rintro e w1 ⟨rfl,b1⟩;rw [HA.out];obtain ⟨q0,q1,q2,q3,_,_,_,_⟩:=((Bx.new w 39 #[k,a,b,c]).below b1).four;exact mY
  ·have HF:=zH (lk hA (.inl hu));have hub:=ft k;have hu1:1<=al k:=zO;have hu2:(al k != 0)=true:=by simpa using hu
   clear hA hu hub;go_enter Tryz.func128,Tryz.ntmps128;go_wp2_with fail;refine (dS _ _ _ _ _ _).mono ?_;rintro e w1 ⟨rfl,b1⟩;rw [HA.out];obtain ⟨q0,q1,q2,q3,_,_,_,_⟩:=((Bx.new w 39 #[k,a,b,c]).below b1).four;go_wp2_with fail;refine (bt _ _).mono ?_;exact Gv
def Gt.axis (g:Gt) (q:Int):Int:=Go.Proofs.YtmenmibfkojnoaaGreat.axis g.k g.a g.b g.c q
def Gt.qs (g:Gt):List Int:=ik g.k g.a g.b g.c
def eM (g h:Gt) (q:Int):Bool:=h.axis q == 0 || !(g.axis q != h.axis q || g.axis q == 2)
def jI (g h:Gt):Bool:=g.qs.all (eM g h)
theorem EQ {k a b c q:Int} (h:kV k a b c q=true):1<=axis k a b c q:=by
 unfold axis;rw [if_neg (by simp [h])];split
 ·omega
 ·split<;>omega
def CoSt (w:World) (g h:Gt) (A:Option Addr) (m:Nat) (wr:World):Prop :=
 Bx wr w 39 #[g.k,g.a,g.b,g.c]/\Bx wr (w.heap.size+1) 39 #[h.k,h.a,h.b,h.c]/\RdI wr A m g.qs/\Below w w wr
theorem CoSt.below {w wr w':World} {g h:Gt} {A:Option Addr} {m:Nat} (s:CoSt w g h A m wr) (hb:Below wr wr w'):CoSt w g h A m w' :=
 ⟨s.1.below hb,s.2.1.below hb,s.2.2.1.below hb,s.2.2.2.trans (hb.mono s.2.2.2.size)⟩
theorem CoSt.drew {w wr:World} {g h:Gt} {A:Option Addr} {m:Nat} (s:CoSt w g h A m wr):CoSt w g h A m wr.drew:=⟨s.1,s.2.1,s.2.2.1,s.2.2.2.drew⟩
theorem Gw {p:Prop} (h:p:=by rw [HC.out,HZ.out,<- HX.out,List.drop_eq_nil_of_le (by have:=S.out.2.2.1.1;rw [HZ.out] at this;omega)];rfl):p:=h
theorem ri (g h:Gt) (w:World):Calls Tryz.prog 142 #[.agg #[g.k,g.a,g.b,g.c],.agg #[h.k,h.a,h.b,h.c]] w fun e w'=>e=.returned (.bool (jI g h))/\Below w w w':=by
 have hbd:=ev g.k;obtain ⟨m,hm⟩:∃ m,(aA g.k).toNat=m:=⟨_,rfl⟩;have HM:=zH hm;have hm3:m<=3:=zO;have HC:Hid (jI g h=g.qs.all (eM g h)):=rfl;have HQ:Hid (ik g.k g.a g.b g.c=g.qs):=rfl;obtain ⟨zs,hz⟩:∃ zs,g.qs=zs:=⟨_,rfl⟩;have HZ:=zH hz;clear hm hbd hz;go_enter Tryz.func142,Tryz.ntmps142;go_wp2_with fail;refine (nB _ _ _ _ _).mono ?_;rintro e w1 ⟨A1,c1,rfl,r1,b1⟩;rw [HM.out,HQ.out] at r1;rw [HM.out];have x1:=((Bx.new w 39 #[g.k,g.a,g.b,g.c]).alloc h).below b1;have x2:=(Bx.new (w.alloc g) 39 #[h.k,h.a,h.b,h.c]).below b1;simp only [World.size_alloc] at x2;have ST:Hid (CoSt w g h A1 m w1):=⟨x1,x2,r1,aD (aD b1)⟩;clear x1 x2 r1 b1;go_wp2_with fail;go_loopg [6] m (fun j i wr=>∃ (k:Nat),k+j=m/\i=.int .i64 k/\(zs.drop k).all (eM g h)=zs.all (eM g h)/\CoSt w g h A1 m wr)
 case atStart=>exact ⟨0,zO,rfl,zI,ST.out⟩
 case round =>
  obtain ⟨k,hk,rfl,hx,st⟩:=hrel;have HX:=zH hx;have S:=zH st;clear hx st ST;by_cases hlt:k < m
  ·obtain ⟨b,off,q,rfl,hB,hd,c0⟩:=S.out.2.2.1.at_ hlt;rw [HZ.out] at hd;have HD:=zH hd;clear hd;obtain ⟨p0,p1,p2,p3,_,_,_,_⟩:=S.out.1.four;obtain ⟨q0,q1,q2,q3,_,_,_,_⟩:=S.out.2.1.four;have HA:Hid (axis g.k g.a g.b g.c q=g.axis q):=rfl;have HB:Hid (axis h.k h.a h.b h.c q=h.axis q):=rfl;have hga:0<=g.axis q:=(qC g.k g.a g.b g.c q).1;have hha:0<=h.axis q:=(qC h.k h.a h.b h.c q).1;have yes:eM g h q=true->(zs.drop (k+1)).all (eM g h)=zs.all (eM g h):=fun hq=>by rw [<- HX.out,HD.out,List.all_cons,hq,Bool.true_and]
   have no:eM g h q=false->jI g h=false:=fun hq=>by rw [HC.out,HZ.out,<- HX.out,HD.out,List.all_cons,hq,Bool.false_and]
   have YES:=zH yes;have NO:=zH no;clear yes no;by_cases h0:h.axis q=0
   ·have e0:(h.axis q != 0)=false:=by simpa using h0
    have E0:=zH h0;clear h0;go_wp2_with fail
    go_still_tail 5,zK
    go_wp2_with fail;refine (bY _ _ _ _ _ _).mono ?_;rintro e w2 ⟨rfl,b2⟩;rw [HA.out];have S2:=S.drew.below b2;obtain ⟨_,_,_,_,_,_,_,_⟩:=S2.1.four;obtain ⟨r0,r1,r2,r3,_,_,_,_⟩:=S2.2.1.four;have cc:=(b2.cell (p:=⟨b,off+k,none⟩) hB).trans c0;go_wp2_with fail
    go_still_tail 5,zK
    go_wp2_with fail;refine (bY _ _ _ _ _ _).mono ?_;rintro e w3 ⟨rfl,b3⟩;rw [HB.out];have S3:=S2.drew.below b3;go_wp2_with fail;go_roundg (gk - 1)
    case measure=>omega
    case rel=>exact ⟨k+1,zO,by go_num,YES.out (by unfold eM;simp [E0.out]),S3⟩
   have e0:(h.axis q != 0)=true:=by simpa using h0
   by_cases h1:g.axis q=h.axis q
   ·have e1:(g.axis q != h.axis q)=false:=by simpa using h1
    have E1:=zH h1;clear h1;by_cases h2:g.axis q=2
    ·have e2:(g.axis q == 2)=true:=by simpa using h2
     have E2:=zH h2;clear h2;go_wp2_with fail
     go_still_tail 5,zK
     go_wp2_with fail;refine (bY _ _ _ _ _ _).mono ?_;rintro e w2 ⟨rfl,b2⟩;rw [HA.out];have S2:=S.drew.below b2;obtain ⟨_,_,_,_,_,_,_,_⟩:=S2.1.four;obtain ⟨r0,r1,r2,r3,_,_,_,_⟩:=S2.2.1.four;have cc:=(b2.cell (p:=⟨b,off+k,none⟩) hB).trans c0;go_wp2_with fail
     go_still_tail 5,zK
     go_wp2_with fail;refine (bY _ _ _ _ _ _).mono ?_;rintro e w3 ⟨rfl,b3⟩;rw [HB.out];have S3:=S2.drew.below b3;go_wp2_with fail;go_ret;exact ⟨aw (NO.out (by unfold eM;simp [e1,e2];omega)).symm,S3.2.2.2⟩
    ·have e2:(g.axis q == 2)=false:=by simpa using h2
     clear h2;go_wp2_with fail
     go_still_tail 5,zK
     go_wp2_with fail;refine (bY _ _ _ _ _ _).mono ?_;rintro e w2 ⟨rfl,b2⟩;rw [HA.out];have S2:=S.drew.below b2;obtain ⟨_,_,_,_,_,_,_,_⟩:=S2.1.four;obtain ⟨r0,r1,r2,r3,_,_,_,_⟩:=S2.2.1.four;have cc:=(b2.cell (p:=⟨b,off+k,none⟩) hB).trans c0;go_wp2_with fail
     go_still_tail 5,zK
     go_wp2_with fail;refine (bY _ _ _ _ _ _).mono ?_;rintro e w3 ⟨rfl,b3⟩;rw [HB.out];have S3:=S2.drew.below b3;go_wp2_with fail;go_roundg (gk - 1)
     case measure=>omega
     case rel=>exact ⟨k+1,zO,by go_num,YES.out (by unfold eM;simp [e1,e2]),S3⟩
   ·have e1:(g.axis q != h.axis q)=true:=by simpa using h1
    clear h1;go_wp2_with fail
    go_still_tail 5,zK
    go_wp2_with fail;refine (bY _ _ _ _ _ _).mono ?_;rintro e w2 ⟨rfl,b2⟩;rw [HA.out];have S2:=S.drew.below b2;obtain ⟨_,_,_,_,_,_,_,_⟩:=S2.1.four;obtain ⟨r0,r1,r2,r3,_,_,_,_⟩:=S2.2.1.four;have cc:=(b2.cell (p:=⟨b,off+k,none⟩) hB).trans c0;go_wp2_with fail
    go_still_tail 5,zK
    go_wp2_with fail;refine (bY _ _ _ _ _ _).mono ?_;rintro e w3 ⟨rfl,b3⟩;rw [HB.out];have S3:=S2.drew.below b3;go_wp2_with fail;go_ret;exact ⟨aw (NO.out (by unfold eM;simp [e1];omega)).symm,S3.2.2.2⟩
  ·go_wp2_with fail;go_ret;exact ⟨aw Gw,S.out.2.2.2⟩
theorem rj (g h:Gt) (w:World):Calls Tryz.prog 84 #[.agg #[g.k,g.a,g.b,g.c],.agg #[h.k,h.a,h.b,h.c]] w fun e w'=>e=.returned (.bool (jI g h))/\Below w w w':=by
 have hbd:=ev g.k;obtain ⟨m,hm⟩:∃ m,(aA g.k).toNat=m:=⟨_,rfl⟩;have HM:=zH hm;have hm3:m<=3:=zO;have HC:Hid (jI g h=g.qs.all (eM g h)):=rfl;have HQ:Hid (ik g.k g.a g.b g.c=g.qs):=rfl;obtain ⟨zs,hz⟩:∃ zs,g.qs=zs:=⟨_,rfl⟩;have HZ:=zH hz;clear hm hbd hz;go_enter Tryz.func84,Tryz.ntmps84;go_wp2_with fail;refine (nC _ _ _ _ _).mono ?_;rintro e w1 ⟨A1,c1,rfl,r1,b1⟩;rw [HM.out,HQ.out] at r1;rw [HM.out];have x1:=((Bx.new w 39 #[g.k,g.a,g.b,g.c]).alloc h).below b1;have x2:=(Bx.new (w.alloc g) 39 #[h.k,h.a,h.b,h.c]).below b1;simp only [World.size_alloc] at x2;have ST:Hid (CoSt w g h A1 m w1):=⟨x1,x2,r1,aD (aD b1)⟩;clear x1 x2 r1 b1;go_wp2_with fail;go_loopg [11] m (fun j i wr=>∃ (k:Nat),k+j=m/\i=.int .i64 k/\(zs.drop k).all (eM g h)=zs.all (eM g h)/\CoSt w g h A1 m wr)
 case atStart=>exact ⟨0,zO,rfl,zI,ST.out⟩
 case round =>
  obtain ⟨k,hk,rfl,hx,st⟩:=hrel;have HX:=zH hx;have S:=zH st;clear hx st ST;by_cases hlt:k < m
  ·obtain ⟨b,off,q,rfl,hB,hd,c0⟩:=S.out.2.2.1.at_ hlt;rw [HZ.out] at hd;have HD:=zH hd;clear hd;obtain ⟨p0,p1,p2,p3,_,_,_,_⟩:=S.out.1.four;obtain ⟨q0,q1,q2,q3,_,_,_,_⟩:=S.out.2.1.four;have HA:Hid (axis g.k g.a g.b g.c q=g.axis q):=rfl;have HB:Hid (axis h.k h.a h.b h.c q=h.axis q):=rfl;have hga:0<=g.axis q:=(qC g.k g.a g.b g.c q).1;have hha:0<=h.axis q:=(qC h.k h.a h.b h.c q).1;have yes:eM g h q=true->(zs.drop (k+1)).all (eM g h)=zs.all (eM g h):=fun hq=>by rw [<- HX.out,HD.out,List.all_cons,hq,Bool.true_and]
   have no:eM g h q=false->jI g h=false:=fun hq=>by rw [HC.out,HZ.out,<- HX.out,HD.out,List.all_cons,hq,Bool.false_and]
   have YES:=zH yes;have NO:=zH no;clear yes no;cases hac:kV h.k h.a h.b h.c q
   ·have HAC:=zH hac;have E0:=zH (ve hac);clear hac;go_wp2_with fail;refine (dS _ _ _ _ _ _).mono ?_;rintro e w2 ⟨rfl,b2⟩;rw [HAC.out];have S2:=S.below b2;obtain ⟨u0,u1,u2,u3,_,_,_,_⟩:=S2.1.four;obtain ⟨v0,v1,v2,v3,_,_,_,_⟩:=S2.2.1.four;go_wp2_with fail;go_roundg (gk - 1)
    case measure=>omega
    case rel=>exact ⟨k+1,zO,by go_num,YES.out (by unfold eM;rw [show h.axis q=0 from E0.out];simp),S2⟩
   ·have HAC:=zH hac;have h0:1<=h.axis q:=EQ hac;have e0:(h.axis q == 0)=false:=zJ;clear hac;by_cases h2:g.axis q=2
    ·have e2:(g.axis q == 2)=true:=by simpa using h2
     clear h2;go_wp2_with fail;refine (dS _ _ _ _ _ _).mono ?_;rintro e w2 ⟨rfl,b2⟩;rw [HAC.out];have S2:=S.below b2;obtain ⟨u0,u1,u2,u3,_,_,_,_⟩:=S2.1.four;obtain ⟨v0,v1,v2,v3,_,_,_,_⟩:=S2.2.1.four;go_wp2_with fail;refine (dC _ _ _ _ _ _).mono ?_;rintro e w3 ⟨rfl,b3⟩;rw [HA.out];have S3:=S2.below b3;obtain ⟨x0,x1,x2,x3,_,_,_,_⟩:=S3.1.four;obtain ⟨y0,y1,y2,y3,_,_,_,_⟩:=S3.2.1.four;go_wp2_with fail;go_ret;exact ⟨aw (NO.out (by unfold eM;simp [e0,e2])).symm,S3.2.2.2⟩
    ·have e2:(g.axis q == 2)=false:=by simpa using h2
     clear h2;by_cases h1:g.axis q=h.axis q
     ·have e1:(g.axis q != h.axis q)=false:=by simpa using h1
      clear h1;go_wp2_with fail;refine (dS _ _ _ _ _ _).mono ?_;rintro e w2 ⟨rfl,b2⟩;rw [HAC.out];have S2:=S.below b2;obtain ⟨u0,u1,u2,u3,_,_,_,_⟩:=S2.1.four;obtain ⟨v0,v1,v2,v3,_,_,_,_⟩:=S2.2.1.four;go_wp2_with fail;refine (dC _ _ _ _ _ _).mono ?_;rintro e w3 ⟨rfl,b3⟩;rw [HA.out];have S3:=S2.below b3;obtain ⟨x0,x1,x2,x3,_,_,_,_⟩:=S3.1.four;obtain ⟨y0,y1,y2,y3,_,_,_,_⟩:=S3.2.1.four;go_wp2_with fail;refine (dC _ _ _ _ _ _).mono ?_;rintro e w4 ⟨rfl,b4⟩;rw [HB.out];have S4:=S3.below b4;go_wp2_with fail;go_roundg (gk - 1)
      case measure=>omega
      case rel=>exact ⟨k+1,zO,by go_num,YES.out (by unfold eM;simp [e1,e2]),S4⟩
     ·have e1:(g.axis q != h.axis q)=true:=by simpa using h1
      clear h1;go_wp2_with fail;refine (dS _ _ _ _ _ _).mono ?_;rintro e w2 ⟨rfl,b2⟩;rw [HAC.out];have S2:=S.below b2;obtain ⟨u0,u1,u2,u3,_,_,_,_⟩:=S2.1.four;obtain ⟨v0,v1,v2,v3,_,_,_,_⟩:=S2.2.1.four;go_wp2_with fail;refine (dC _ _ _ _ _ _).mono ?_;rintro e w3 ⟨rfl,b3⟩;rw [HA.out];have S3:=S2.below b3;obtain ⟨x0,x1,x2,x3,_,_,_,_⟩:=S3.1.four;obtain ⟨y0,y1,y2,y3,_,_,_,_⟩:=S3.2.1.four;go_wp2_with fail;refine (dC _ _ _ _ _ _).mono ?_;rintro e w4 ⟨rfl,b4⟩;rw [HB.out];have S4:=S3.below b4;go_wp2_with fail;go_ret;exact ⟨aw (NO.out (by unfold eM;simp [e0,e1])).symm,S4.2.2.2⟩
  ·go_wp2_with fail;go_ret;exact ⟨aw Gw,S.out.2.2.2⟩
def ji (k:Int):Int:=if k=5 then 6 else if k=6 then 5 else if k=7 then 8 else if k=8 then 7 else k
theorem mZ (k:Int):(k=5/\ji k=6)\/(k=6/\ji k=5)\/(k=7/\ji k=8)\/(k=8/\ji k=7)\/(k ≠ 5/\k ≠ 6/\k ≠ 7/\k ≠ 8/\ji k=k):=by
 unfold ji;by_cases h5:k=5
 ·simp [h5]
 ·by_cases h6:k=6
  ·simp [h6]
  ·by_cases h7:k=7
   ·simp [h7]
   ·by_cases h8:k=8
    ·simp [h8]
    ·simp [h5,h6,h7,h8]
theorem jJ {p:Prop} (h:p:=by repeat (first | exact zW | assumption | refine Below.drew ?_ | refine Below.alloc ?_ zS _)):p:=h
theorem rk {p:Prop} (h:p:=by simp [results,Tryz.results154,go_sem]):p:=h
theorem jK (k a b c:Int) (w:World):Calls Tryz.prog 154 #[.agg #[k,a,b,c]] w fun e w'=>e=.returned (.agg #[.int .i64 (ji k),a,b,c])/\Below w w w':=by
 rcases mZ k with ⟨rfl,h⟩ | ⟨rfl,h⟩ | ⟨rfl,h⟩ | ⟨rfl,h⟩ | ⟨h5,h6,h7,h8,h⟩
 ·rw [h];clear h;go_enter Tryz.func154,Tryz.ntmps154;go_wp2;exact bodyPost_ret (v:=.agg #[(6:Int),a,b,c]) rk rfl ⟨rfl,jJ⟩
 ·rw [h];clear h;go_enter Tryz.func154,Tryz.ntmps154;go_wp2;exact bodyPost_ret (v:=.agg #[(5:Int),a,b,c]) rk rfl ⟨rfl,jJ⟩
 ·rw [h];clear h;go_enter Tryz.func154,Tryz.ntmps154;go_wp2;exact bodyPost_ret (v:=.agg #[(8:Int),a,b,c]) rk rfl ⟨rfl,jJ⟩
 ·rw [h];clear h;go_enter Tryz.func154,Tryz.ntmps154;go_wp2;exact bodyPost_ret (v:=.agg #[(7:Int),a,b,c]) rk rfl ⟨rfl,jJ⟩
 ·rw [h];clear h;go_enter Tryz.func154,Tryz.ntmps154;go_wp2;exact bodyPost_ret (v:=.agg #[k,a,b,c]) rk rfl ⟨rfl,jJ⟩
theorem rn {p:Prop} (h:p:=by simp [results,Tryz.results126,go_sem]):p:=h
theorem mN (k a b c:Int) (w:World):Calls Tryz.prog 126 #[.agg #[k,a,b,c]] w fun e w'=>e=.returned (.agg #[.int .i64 (ji k),a,b,c])/\Below w w w':=by
 rcases mZ k with ⟨rfl,h⟩ | ⟨rfl,h⟩ | ⟨rfl,h⟩ | ⟨rfl,h⟩ | ⟨h5,h6,h7,h8,h⟩
 ·rw [h];clear h;go_enter Tryz.func126,Tryz.ntmps126;go_wp2;exact bodyPost_ret (v:=.agg #[(6:Int),a,b,c]) rn rfl ⟨rfl,jJ⟩
 ·rw [h];clear h;go_enter Tryz.func126,Tryz.ntmps126;go_wp2;exact bodyPost_ret (v:=.agg #[(5:Int),a,b,c]) rn rfl ⟨rfl,jJ⟩
 ·rw [h];clear h;go_enter Tryz.func126,Tryz.ntmps126;go_wp2;exact bodyPost_ret (v:=.agg #[(8:Int),a,b,c]) rn rfl ⟨rfl,jJ⟩
 ·rw [h];clear h;go_enter Tryz.func126,Tryz.ntmps126;go_wp2;exact bodyPost_ret (v:=.agg #[(7:Int),a,b,c]) rn rfl ⟨rfl,jJ⟩
 ·rw [h];clear h;go_enter Tryz.func126,Tryz.ntmps126;go_wp2;exact bodyPost_ret (v:=.agg #[k,a,b,c]) rn rfl ⟨rfl,jJ⟩
theorem PE (n:Int) : -8 < n.tmod 8/\n.tmod 8 < 8/\(0<=n.tmod 8->n.tmod 8=n % 8)/\(n.tmod 8 < 0->n.tmod 8+8=n % 8):=by
 have h:=Int.tmod_eq_emod (a:=n) (b:=8);have h1:=Int.emod_nonneg n (show (8:Int) ≠ 0 by omega);have h2:=Int.emod_lt_of_pos n (show (0:Int) < 8 by omega);split at h<;>simp at h<;>omega
theorem fI (n:Int) (w:World):Calls Tryz.prog 58 #[n] w fun e w'=>e=.returned (.int .i64 (n % 8))/\w=w':=by
 obtain ⟨h1,h2,h3,h4⟩:=PE n;obtain ⟨r,hr⟩:∃ r,n.tmod 8=r:=⟨_,rfl⟩;rw [hr] at h1 h2 h3 h4;by_cases h:r < 0
 ·go_enter Tryz.func58,Tryz.ntmps58;go_wp2;go_ret;exact ⟨cR zO,rfl⟩
 ·go_enter Tryz.func58,Tryz.ntmps58;go_wp2;go_ret;exact ⟨cR zO,rfl⟩
theorem m6 (n:Int) (w:World):Calls Tryz.prog 43 #[n] w fun e w'=>e=.returned (.int .i64 (n % 8))/\w=w':=by
 obtain ⟨h1,h2,h3,h4⟩:=PE n;obtain ⟨r,hr⟩:∃ r,n.tmod 8=r:=⟨_,rfl⟩;rw [hr] at h1 h2 h3 h4;go_enter Tryz.func43,Tryz.ntmps43;go_wp2;go_ret;exact ⟨cR zO,rfl⟩
end Go.Proofs.YtmenmibfkojnoaaGreat
