/- Contracts of ConjugateByTableau (spec an. -/
import Derived.Test.YtmenmibfkojnoaaGreatY21
set_option maxHeartbeats 16000000
set_option maxRecDepth 100000
namespace Go.Proofs.YtmenmibfkojnoaaGreat
open Go.RowKit
set_option linter.unusedVariables false
def DBT (w:World) (n:Nat) (A:Option Addr) (m c:Nat) (a:Pq) (O:Nat) (o:Pq) (wx:World):Prop :=
 Bx wx w 73 #[n,.slice A m c]/\QB w (w.heap.size+1) n a wx/\Bx wx (w.heap.size+1+1) 151 #[(0:Int),(0:Int),(0:Int),(0:Int)]/\Bx wx O 151 #[n,o.x,o.z,o.p]/\w.heap.size+1+1 < O
section
variable {w wx w':World} {n O m c:Nat} {a o:Pq} {A:Option Addr}
theorem DBT.below (h:DBT w n A m c a O o wx) (hb:Below wx wx w'):DBT w n A m c a O o w':=⟨h.1.below hb,h.2.1.below hb,h.2.2.1.below hb,h.2.2.2.1.below hb,h.2.2.2.2⟩
theorem DBT.alloc (h:DBT w n A m c a O o wx) (u:Obj):DBT w n A m c a O o (wx.alloc u):=h.below ((zW).alloc zR _)
theorem DBT.drew (h:DBT w n A m c a O o wx):DBT w n A m c a O o wx.drew:=h.below (zW).drew
theorem DBT.set (h:DBT w n A m c a O o wx) (b:Pq):DBT w n A m c a O b (S4 wx O (.int .i64 (n:Nat)) (.int .i64 (b.x:Nat)) (.int .i64 (b.z:Nat)) (.int .i64 (b.p:Nat))):=by
 have hO:=h.2.2.2.2;exact ⟨h.1.far4 zO _ _ _ _,h.2.1.set4 zO zO _ _ _ _,h.2.2.1.far4 zO _ _ _ _,h.2.2.2.1.set4 _ _ _ _,hO⟩
theorem DBT.bel (h:DBT w n A m c a O o wx):Below w w wx:=h.2.1.2.1
end
def UM (n:Nat) (t:List Pq) (a o:Pq) (q:Nat):Pq :=
 let o1:=if aZ a.x q=true then cn o (t.getD q ⟨0,0,0⟩) else o
 if aZ a.z q=true then cn o1 (t.getD (q+n) ⟨0,0,0⟩) else o1
theorem yK {n k:Nat} {t:List Pq} {a o c:Pq} (hk:k < n) (h:Nn n t a ((List.range n).drop k) o=c):Nn n t a ((List.range n).drop (k+1)) (UM n t a o k)=c:=by
 rw [rS hk] at h;exact h
theorem Du {n:Nat} {t:List Pq} {a o c:Pq} (h:Nn n t a ((List.range n).drop n) o=c):o=c:=by
 rw [List.drop_eq_nil_of_le zI] at h;exact h
theorem vP {p:Prop} (h:p:=by rw [HL.out,HM.out];omega):p:=h
theorem Jd {p:Prop} (h:p:=by
  have BX6:=zH hcut;clear hcut;obtain ⟨p0',p1',p2',p3'⟩:=BX6.out.2.1.cells;go_wp2_with fail;go_roundg (gk - 1)
  all_goals first
   |omega
   |exact ⟨k+1,o2,zO,by go_num,HNO.out,NX.out,BX6.out⟩):p:=h
theorem Je {p:Prop} (h:p:=by
  rw [HS2.out];have h1:ci n (if aZ a.x k=true then cn o u else o)=true:=by
   split
   ·exact jw HO.out oku.out
   ·exact HO.out
  split
  ·exact jw h1 okv.out
  ·exact h1):p:=h
theorem Jf {p:Prop} (h:p:=by
  obtain rfl:o2=o:=by rw [HS2.out,hx,hz];rfl
  go_wp2_with fail;go_roundg (gk - 1)
  all_goals first
   |omega
   |exact ⟨k+1,o2,zO,by go_num,HNO.out,NX.out,HB.out⟩):p:=h
theorem RM (n m c:Nat) (A:Option Addr) (r:List Pq) (a d:Pq) (w:World) (hn:1<=n/\n<=4) (hr:RdG w A m (dP n r)) (hmc:m<=c) (hok:ed n r) (ha:ci n a=true) (hd:nY n r a=d):Calls Tryz.prog 215 #[.agg #[n,.slice A m c],.agg #[n,a.x,a.z,a.p]] w fun e w'=>e=.returned (.tuple #[.agg #[n,d.x,d.z,d.p],.bool true])/\Below w w w':=by
 have hm:m=2 * n:=by rw [<- hr.1,ep,hok.1]
 obtain ⟨b,off,rfl⟩:=hr.first zO;have HA:=zH ha;have HW:=zH hr;have HR:=zH hok;have HM:=zH hm;have hm8:m<=8:=zO;have HL:=zH (show r.length=m by rw [hok.1,hm]);have HC:=zH (show Nn n r a ((List.range n).drop 0) ⟨0,0,a.p⟩=d from hd);have okp:=zH (show ci n ⟨0,0,a.p⟩=true from okQn_iff.2 ⟨Nat.pow_pos zO,Nat.pow_pos zO,(okQn_iff.1 ha).2.2⟩);have hx4:=(bI hn.2 ha).1;have hz4:=(bI hn.2 ha).2.1;have T0:=zH (show Bx (((w.alloc (.cells #[n,.slice (some ⟨b,off,none⟩) m c] 73)).alloc (.cells #[n,a.x,a.z,a.p] 151)).alloc ZO.zQ) w.heap.size 73 _ from ((Bx.new w _ _).alloc _).alloc _);have P0:=zH (show QB w (w.heap.size+1) n a (((w.alloc (.cells #[n,.slice (some ⟨b,off,none⟩) m c] 73)).alloc (.cells #[n,a.x,a.z,a.p] 151)).alloc ZO.zQ) from ⟨(Bx.new' zI).alloc _,(((zW).alloc zR _).alloc zI _).alloc zS _,zO⟩)
 have R0:=zH (show Bx (((w.alloc (.cells #[n,.slice (some ⟨b,off,none⟩) m c] 73)).alloc (.cells #[n,a.x,a.z,a.p] 151)).alloc ZO.zQ) (w.heap.size+1+1) 151 #[(0:Int),(0:Int),(0:Int),(0:Int)] from Bx.new' zI);clear ha hr hok hm hd;go_enter Tryz.func215,Tryz.ntmps215;go_wp2_with fail;refine (my n m c _ r _ hn (HW.below P0.out.2.1) HR).mono ?_;rintro e w1 ⟨rfl,b1⟩;have T1:=zH (T0.below b1);have P1:=zH (P0.below b1);have R1:=zH (R0.below b1);clear b1 T0 P0 R0;obtain ⟨p0,p1,p2,p3⟩:=P1.cells;go_wp2_with fail;refine (nK n a _ hn HA).mono ?_;rintro e w2 ⟨rfl,b2⟩;have B0:=zH (show DBT w n (some ⟨b,off,none⟩) m c a w2.heap.size ⟨0,0,a.p⟩ (w2.alloc (.cells #[n,(0:Int),(0:Int),a.p] 151)) from ⟨(T1.below b2).alloc _,⟨(P1.below b2).1.alloc _,(P1.below b2).2.1.alloc (by have:=(R1.below b2).lt;omega) _,(P1.below b2).2.2⟩,(R1.below b2).alloc _,Bx.new _ _ _,(R1.below b2).lt⟩);clear p0 p1 p2 p3
 obtain ⟨p0,p1,p2,p3⟩:=(P1.below b2).cells;have t0:=(T1.below b2).cell 0;clear b2 T1 P1 R1;go_wp2_with fail;go_loopg [7] n (fun q i wr=>∃ (k:Nat) (o:Pq),k+q=n/\i=.int .i64 k/\ci n o=true/\Nn n r a ((List.range n).drop k) o=d/\DBT w n (some ⟨b,off,none⟩) m c a w2.heap.size o wr)
 case atStart=>exact ⟨0,⟨0,0,a.p⟩,zO,rfl,okp.out,HC.out,B0.out⟩
 case round =>
  clear B0 HC okp p0 p1 p2 p3 t0;obtain ⟨k,o,hk,rfl,ho,he,hB⟩:=hrel;have HO:=zH ho;have HE:=zH he;have HB:=zH hB;clear ho he hB;obtain ⟨p0,p1,p2,p3⟩:=HB.out.2.1.cells;by_cases hlt:k < n
  ·obtain ⟨u,hu⟩:=aV (l:=r) (k:=k) vP;obtain ⟨v,hv⟩:=aV (l:=r) (k:=k+n) vP;have HU:=zH hu;have HV:=zH hv;have oku:=zH (io HR.out hu).1;have okv:=zH (io HR.out hv).1;have NX:=zH (yK hlt HE);obtain ⟨o2,ho2⟩:∃ o2,UM n r a o k=o2:=⟨_,rfl⟩;have HS2:=zH (show o2=(if aZ a.z k=true then cn (if aZ a.x k=true then cn o u else o) v else (if aZ a.x k=true then cn o u else o)) by rw [<- ho2];unfold UM;rw [List.getD_eq_getElem?_getD,hu,List.getD_eq_getElem?_getD,hv];rfl);rw [ho2] at NX;have BX:=qp hx4 (show k < 4 by omega);have BZ:=qp hz4 (show k < 4 by omega);have NO:ci n o2=true:=by
    exact Je
   have HNO:=zH NO;have km:(k:Int) < (m:Int):=by have:=HM.out;omega
   have knm:(k:Int)+(n:Int) < (m:Int):=by have:=HM.out;omega
   have kn:IntKind.i64.wrap ((k:Int)+(n:Int))=(k:Int)+(n:Int):=E8 zO zO;clear ho2 HE hu hv NO;cases hx:aZ a.x k
   ·cases hz:aZ a.z k
    ·exact Jf
    ·have HMU:=zH (show cn o v=o2 by rw [HS2.out,hx,hz];rfl);go_upto_region 10 with fail
     have BD:=HB.drew;obtain ⟨p0',p1',p2',p3'⟩:=BD.2.1.cells;have t1:=BD.1.cell 1;have t0:=BD.1.cell 0;obtain ⟨q0,q1,q2,q3,_⟩:=BD.2.2.2.1.four;obtain ⟨_,v0,v1,v2,v3⟩:=(HW.below BD.bel).cellsAt (aE HV.out);simp only [pg] at v0 v1 v2 v3
     go_region_with (first
      |(go_at_call 185;refine (gV n o v o2 _ hn HO.out okv.out HMU.out).mono ?_;rintro e w6 ⟨rfl,b6⟩;have B7:=BD.below b6;obtain ⟨z0,z1,z2,z3,z4,z5,z6,z7⟩:=B7.2.2.2.1.four)
      |fail)
     all_goals go_wp2_with fail
     all_goals go_roundg (gk - 1)
     all_goals first
      |omega
      |exact ⟨k+1,o2,zO,by go_num,HNO.out,NX.out,B7.set o2⟩
   ·cases hz:aZ a.z k
    ·have HMU:=zH (show cn o u=o2 by rw [HS2.out,hx,hz];rfl);go_upto_region 8 with fail
     go_cut [50] (fun v wx=>DBT w n (some ⟨b,off,none⟩) m c a w2.heap.size o2 wx)
     case first =>
      have BD:=HB.drew;obtain ⟨p0',p1',p2',p3'⟩:=BD.2.1.cells;have t1:=BD.1.cell 1;obtain ⟨q0,q1,q2,q3,_⟩:=BD.2.2.2.1.four;obtain ⟨_,v0,v1,v2,v3⟩:=(HW.below BD.bel).cellsAt (aE HU.out);simp only [pg] at v0 v1 v2 v3
      go_region_with (first
       |(go_at_call 185;refine (gV n o u o2 _ hn HO.out oku.out HMU.out).mono ?_;rintro e w6 ⟨rfl,b6⟩;have B7:=BD.below b6;obtain ⟨z0,z1,z2,z3,z4,z5,z6,z7⟩:=B7.2.2.2.1.four)
       |fail)
      all_goals go_wp2_with fail
      all_goals go_meet
      all_goals exact B7.set o2
     case rest =>
      exact Jd
    ·obtain ⟨om,hom⟩:∃ m,cn o u=m:=⟨_,rfl⟩;have OM:=zH (jw HO oku);rw [hom] at OM;have HMU:=zH hom;have HM2:=zH (show cn om v=o2 by rw [HS2.out,hx,hz,<- hom];rfl);clear hom;go_upto_region 8 with fail
     go_cut [50] (fun v wx=>DBT w n (some ⟨b,off,none⟩) m c a w2.heap.size om wx)
     case first =>
      have BD:=HB.drew;obtain ⟨p0',p1',p2',p3'⟩:=BD.2.1.cells;have t1:=BD.1.cell 1;obtain ⟨q0,q1,q2,q3,_⟩:=BD.2.2.2.1.four;obtain ⟨_,v0,v1,v2,v3⟩:=(HW.below BD.bel).cellsAt (aE HU.out);simp only [pg] at v0 v1 v2 v3
      go_region_with (first
       |(go_at_call 185;refine (gV n o u om _ hn HO.out oku.out HMU.out).mono ?_;rintro e w6 ⟨rfl,b6⟩;have B7:=BD.below b6;obtain ⟨z0,z1,z2,z3,z4,z5,z6,z7⟩:=B7.2.2.2.1.four)
       |fail)
      all_goals go_wp2_with fail
      all_goals go_meet
      all_goals exact B7.set om
     case rest =>
      have BX6:=zH hcut;clear hcut;obtain ⟨p0',p1',p2',p3'⟩:=BX6.out.2.1.cells;go_upto_region 10 with fail
      have BD:=BX6.drew;obtain ⟨p0'',p1'',p2'',p3''⟩:=BD.2.1.cells;have t1:=BD.1.cell 1;have t0:=BD.1.cell 0;obtain ⟨q0,q1,q2,q3,_⟩:=BD.2.2.2.1.four;obtain ⟨_,v0,v1,v2,v3⟩:=(HW.below BD.bel).cellsAt (aE HV.out);simp only [pg] at v0 v1 v2 v3
      go_region_with (first
       |(go_at_call 185;refine (gV n om v o2 _ hn OM.out okv.out HM2.out).mono ?_;rintro e w6 ⟨rfl,b6⟩;have B7:=BD.below b6;obtain ⟨z0,z1,z2,z3,z4,z5,z6,z7⟩:=B7.2.2.2.1.four)
       |fail)
      all_goals go_wp2_with fail
      all_goals go_roundg (gk - 1)
      all_goals first
       |omega
       |exact ⟨k+1,o2,zO,by go_num,HNO.out,NX.out,B7.set o2⟩
  ·obtain rfl:k=n:=zO;obtain rfl:=Du HE.out;obtain ⟨o0,o1,o2,o3,_⟩:=HB.out.2.2.2.1.four;obtain ⟨r0,r1,r2,r3,r4,r5,r6,r7⟩:=HB.out.2.2.1.four;go_wp2_with fail;have RB:=HB.out.2.2.1
   with_reducible refine dY RB ?_ ?_ ⟨rfl,?_⟩
   ·intro wS z0 z1 z2 z3;simp [results,Tryz.results215,go_sem,z0,z1,z2,z3]
   ·rfl
   ·exact cI HB.bel zO _ _ _ _
theorem RN (n m c:Nat) (A:Option Addr) (r:List Pq) (a d:Pq) (w:World) (hn:1<=n/\n<=4) (hr:RdG w A m (dP n r)) (hmc:m<=c) (hok:ed n r) (ha:ci n a=true) (hd:nY n r a=d):Calls Tryz.prog 214 #[.agg #[n,.slice A m c],.agg #[n,a.x,a.z,a.p]] w fun e w'=>e=.returned (.tuple #[.agg #[n,d.x,d.z,d.p],.bool true])/\Below w w w':=by
 have hm:m=2 * n:=by rw [<- hr.1,ep,hok.1]
 obtain ⟨b,off,rfl⟩:=hr.first zO;have HA:=zH ha;have HW:=zH hr;have HR:=zH hok;have HM:=zH hm;have hm8:m<=8:=zO;have HL:=zH (show r.length=m by rw [hok.1,hm]);have HC:=zH (show Nn n r a ((List.range n).drop 0) ⟨0,0,a.p⟩=d from hd);have okp:=zH (show ci n ⟨0,0,a.p⟩=true from okQn_iff.2 ⟨Nat.pow_pos zO,Nat.pow_pos zO,(okQn_iff.1 ha).2.2⟩);have hx4:=(bI hn.2 ha).1;have hz4:=(bI hn.2 ha).2.1;have T0:=zH (show Bx (((w.alloc (.cells #[n,.slice (some ⟨b,off,none⟩) m c] 73)).alloc (.cells #[n,a.x,a.z,a.p] 151)).alloc ZO.zQ) w.heap.size 73 _ from ((Bx.new w _ _).alloc _).alloc _);have P0:=zH (show QB w (w.heap.size+1) n a (((w.alloc (.cells #[n,.slice (some ⟨b,off,none⟩) m c] 73)).alloc (.cells #[n,a.x,a.z,a.p] 151)).alloc ZO.zQ) from ⟨(Bx.new' zI).alloc _,(((zW).alloc zR _).alloc zI _).alloc zS _,zO⟩)
 have R0:=zH (show Bx (((w.alloc (.cells #[n,.slice (some ⟨b,off,none⟩) m c] 73)).alloc (.cells #[n,a.x,a.z,a.p] 151)).alloc ZO.zQ) (w.heap.size+1+1) 151 #[(0:Int),(0:Int),(0:Int),(0:Int)] from Bx.new' zI);clear ha hr hok hm hd;go_enter Tryz.func214,Tryz.ntmps214;go_wp2_with fail;refine (nU n m c _ r _ hn (HW.below P0.out.2.1) hmc HR).mono ?_;rintro e w1 ⟨rfl,b1⟩;have T1:=zH (T0.below b1);have P1:=zH (P0.below b1);have R1:=zH (R0.below b1);clear b1 T0 P0 R0;obtain ⟨p0,p1,p2,p3⟩:=P1.cells;go_wp2_with fail;refine (nL n a _ hn HA).mono ?_;rintro e w2 ⟨rfl,b2⟩;have B0:=zH (show DBT w n (some ⟨b,off,none⟩) m c a w2.heap.size ⟨0,0,a.p⟩ (w2.alloc (.cells #[n,(0:Int),(0:Int),a.p] 151)) from ⟨(T1.below b2).alloc _,⟨(P1.below b2).1.alloc _,(P1.below b2).2.1.alloc (by have:=(R1.below b2).lt;omega) _,(P1.below b2).2.2⟩,(R1.below b2).alloc _,Bx.new _ _ _,(R1.below b2).lt⟩);clear p0 p1 p2 p3
 obtain ⟨p0,p1,p2,p3⟩:=(P1.below b2).cells;have t0:=(T1.below b2).cell 0;clear b2 T1 P1 R1;go_wp2_with fail;go_loopg [7] n (fun q i wr=>∃ (k:Nat) (o:Pq),k+q=n/\i=.int .i64 k/\ci n o=true/\Nn n r a ((List.range n).drop k) o=d/\DBT w n (some ⟨b,off,none⟩) m c a w2.heap.size o wr)
 case atStart=>exact ⟨0,⟨0,0,a.p⟩,zO,rfl,okp.out,HC.out,B0.out⟩
 case round =>
  clear B0 HC okp p0 p1 p2 p3 t0;obtain ⟨k,o,hk,rfl,ho,he,hB⟩:=hrel;have HO:=zH ho;have HE:=zH he;have HB:=zH hB;clear ho he hB;obtain ⟨p0,p1,p2,p3⟩:=HB.out.2.1.cells;by_cases hlt:k < n
  ·obtain ⟨u,hu⟩:=aV (l:=r) (k:=k) vP;obtain ⟨v,hv⟩:=aV (l:=r) (k:=k+n) vP;have HU:=zH hu;have HV:=zH hv;have oku:=zH (io HR.out hu).1;have okv:=zH (io HR.out hv).1;have NX:=zH (yK hlt HE);obtain ⟨o2,ho2⟩:∃ o2,UM n r a o k=o2:=⟨_,rfl⟩;have HS2:=zH (show o2=(if aZ a.z k=true then cn (if aZ a.x k=true then cn o u else o) v else (if aZ a.x k=true then cn o u else o)) by rw [<- ho2];unfold UM;rw [List.getD_eq_getElem?_getD,hu,List.getD_eq_getElem?_getD,hv];rfl);rw [ho2] at NX;have BX:=qp hx4 (show k < 4 by omega);have BZ:=qp hz4 (show k < 4 by omega);have NO:ci n o2=true:=by
    exact Je
   have HNO:=zH NO;have km:(k:Int) < (m:Int):=by have:=HM.out;omega
   have knm:(k:Int)+(n:Int) < (m:Int):=by have:=HM.out;omega
   have kn:IntKind.i64.wrap ((k:Int)+(n:Int))=(k:Int)+(n:Int):=E8 zO zO;clear ho2 HE hu hv NO;cases hx:aZ a.x k
   ·cases hz:aZ a.z k
    ·exact Jf
    ·have HMU:=zH (show cn o v=o2 by rw [HS2.out,hx,hz];rfl);go_upto_region 10 with fail
     have BD:=HB.drew;obtain ⟨p0',p1',p2',p3'⟩:=BD.2.1.cells;have t1:=BD.1.cell 1;have t0:=BD.1.cell 0;obtain ⟨q0,q1,q2,q3,_⟩:=BD.2.2.2.1.four;obtain ⟨_,v0,v1,v2,v3⟩:=(HW.below BD.bel).cellsAt (aE HV.out);simp only [pg] at v0 v1 v2 v3
     go_region_with (first
      |(go_at_call 195;refine (gW n o v o2 _ hn HO.out okv.out HMU.out).mono ?_;rintro e w6 ⟨rfl,b6⟩;have B7:=BD.below b6;obtain ⟨z0,z1,z2,z3,z4,z5,z6,z7⟩:=B7.2.2.2.1.four)
      |fail)
     all_goals go_wp2_with fail
     all_goals go_roundg (gk - 1)
     all_goals first
      |omega
      |exact ⟨k+1,o2,zO,by go_num,HNO.out,NX.out,B7.set o2⟩
   ·cases hz:aZ a.z k
    ·have HMU:=zH (show cn o u=o2 by rw [HS2.out,hx,hz];rfl);go_upto_region 8 with fail
     go_cut [49] (fun v wx=>DBT w n (some ⟨b,off,none⟩) m c a w2.heap.size o2 wx)
     case first =>
      have BD:=HB.drew;obtain ⟨p0',p1',p2',p3'⟩:=BD.2.1.cells;have t1:=BD.1.cell 1;obtain ⟨q0,q1,q2,q3,_⟩:=BD.2.2.2.1.four;obtain ⟨_,v0,v1,v2,v3⟩:=(HW.below BD.bel).cellsAt (aE HU.out);simp only [pg] at v0 v1 v2 v3
      go_region_with (first
       |(go_at_call 195;refine (gW n o u o2 _ hn HO.out oku.out HMU.out).mono ?_;rintro e w6 ⟨rfl,b6⟩;have B7:=BD.below b6;obtain ⟨z0,z1,z2,z3,z4,z5,z6,z7⟩:=B7.2.2.2.1.four)
       |fail)
      all_goals go_wp2_with fail
      all_goals go_meet
      all_goals exact B7.set o2
     case rest =>
      exact Jd
    ·obtain ⟨om,hom⟩:∃ m,cn o u=m:=⟨_,rfl⟩;have OM:=zH (jw HO oku);rw [hom] at OM;have HMU:=zH hom;have HM2:=zH (show cn om v=o2 by rw [HS2.out,hx,hz,<- hom];rfl);clear hom;go_upto_region 8 with fail
     go_cut [49] (fun v wx=>DBT w n (some ⟨b,off,none⟩) m c a w2.heap.size om wx)
     case first =>
      have BD:=HB.drew;obtain ⟨p0',p1',p2',p3'⟩:=BD.2.1.cells;have t1:=BD.1.cell 1;obtain ⟨q0,q1,q2,q3,_⟩:=BD.2.2.2.1.four;obtain ⟨_,v0,v1,v2,v3⟩:=(HW.below BD.bel).cellsAt (aE HU.out);simp only [pg] at v0 v1 v2 v3
      go_region_with (first
       |(go_at_call 195;refine (gW n o u om _ hn HO.out oku.out HMU.out).mono ?_;rintro e w6 ⟨rfl,b6⟩;have B7:=BD.below b6;obtain ⟨z0,z1,z2,z3,z4,z5,z6,z7⟩:=B7.2.2.2.1.four)
       |fail)
      all_goals go_wp2_with fail
      all_goals go_meet
      all_goals exact B7.set om
     case rest =>
      have BX6:=zH hcut;clear hcut;obtain ⟨p0',p1',p2',p3'⟩:=BX6.out.2.1.cells;go_upto_region 10 with fail
      have BD:=BX6.drew;obtain ⟨p0'',p1'',p2'',p3''⟩:=BD.2.1.cells;have t1:=BD.1.cell 1;have t0:=BD.1.cell 0;obtain ⟨q0,q1,q2,q3,_⟩:=BD.2.2.2.1.four;obtain ⟨_,v0,v1,v2,v3⟩:=(HW.below BD.bel).cellsAt (aE HV.out);simp only [pg] at v0 v1 v2 v3
      go_region_with (first
       |(go_at_call 195;refine (gW n om v o2 _ hn OM.out okv.out HM2.out).mono ?_;rintro e w6 ⟨rfl,b6⟩;have B7:=BD.below b6;obtain ⟨z0,z1,z2,z3,z4,z5,z6,z7⟩:=B7.2.2.2.1.four)
       |fail)
      all_goals go_wp2_with fail
      all_goals go_roundg (gk - 1)
      all_goals first
       |omega
       |exact ⟨k+1,o2,zO,by go_num,HNO.out,NX.out,B7.set o2⟩
  ·obtain rfl:k=n:=zO;obtain rfl:=Du HE.out;obtain ⟨o0,o1,o2,o3,_⟩:=HB.out.2.2.2.1.four;obtain ⟨r0,r1,r2,r3,r4,r5,r6,r7⟩:=HB.out.2.2.1.four;go_wp2_with fail;have RB:=HB.out.2.2.1
   with_reducible refine dY RB ?_ ?_ ⟨rfl,?_⟩
   ·intro wS z0 z1 z2 z3;simp [results,Tryz.results214,go_sem,z0,z1,z2,z3]
   ·rfl
   ·exact cI HB.bel zO _ _ _ _
end Go.Proofs.YtmenmibfkojnoaaGreat
