/- Contract of PhasePolynomialApplyGate (impl). At most 2^38 terms and outputs. -/
import Derived.Test.YtmenmibfkojnoaaGreatV02
import Derived.Test.YtmenmibfkojnoaaGreatV22
set_option maxHeartbeats 16000000
namespace Go.Proofs.YtmenmibfkojnoaaGreat
open Go.RowKit
set_option linter.unusedVariables false
set_option maxRecDepth 100000 in
theorem i_AG_no (N H:Int) (AT:Option Addr) (nT cT:Nat) (t:List (Int × Int)) (AO:Option Addr) (nO cO:Nat) (o:List (Int × Int)) (k a b c:Int) (w:World) (hT:RdP w AT nT t) (hO:RdP w AO nO o) (_hnT:nT<=274877906944) (_hnO:nO<=274877906944) (_hcT:nT<=cT) (hno:okP ⟨N,H,t,o⟩ ⟨k,a,b,c⟩=false) :
  Calls Tryz.prog 82 #[.agg #[.int .i64 N,.int .i64 H,.slice AT nT cT,.slice AO nO cO],.agg #[.int .i64 k,.int .i64 a,.int .i64 b,.int .i64 c]] w (RetPB (Po.zero,false) w):=by
 have hol:=hO.1
 have HT:=zH hT
 have HO:=zH hO
 clear hT hO
 have X0:=zH (show Bx (((w.alloc (.cells #[.int .i64 N,.int .i64 H,.slice AT nT cT,.slice AO nO cO] 88)).alloc (.cells #[.int .i64 k,.int .i64 a,.int .i64 b,.int .i64 c] 39)).alloc (.cells #[.int .i64 0,.int .i64 0,.slice none 0 0,.slice none 0 0] 88)) w.heap.size 88 #[.int .i64 N,.int .i64 H,.slice AT nT cT,.slice AO nO cO] from ((Bx.new w _ _).alloc _).alloc _)
 have X1:=zH (show Bx (((w.alloc (.cells #[.int .i64 N,.int .i64 H,.slice AT nT cT,.slice AO nO cO] 88)).alloc (.cells #[.int .i64 k,.int .i64 a,.int .i64 b,.int .i64 c] 39)).alloc (.cells #[.int .i64 0,.int .i64 0,.slice none 0 0,.slice none 0 0] 88)) (w.heap.size+1) 39 #[.int .i64 k,.int .i64 a,.int .i64 b,.int .i64 c] from (Bx.new' (by simp)).alloc _)
 have X2:=zH (show Bx (((w.alloc (.cells #[.int .i64 N,.int .i64 H,.slice AT nT cT,.slice AO nO cO] 88)).alloc (.cells #[.int .i64 k,.int .i64 a,.int .i64 b,.int .i64 c] 39)).alloc (.cells #[.int .i64 0,.int .i64 0,.slice none 0 0,.slice none 0 0] 88)) (w.heap.size+1+1) 88 #[.int .i64 0,.int .i64 0,.slice none 0 0,.slice none 0 0] from Bx.new' (by simp))
 have BZ:Hid (Below w.heap.size w (((w.alloc (.cells #[.int .i64 N,.int .i64 H,.slice AT nT cT,.slice AO nO cO] 88)).alloc (.cells #[.int .i64 k,.int .i64 a,.int .i64 b,.int .i64 c] 39)).alloc (.cells #[.int .i64 0,.int .i64 0,.slice none 0 0,.slice none 0 0] 88))):=zH ((((zW).alloc zR _).alloc (by simp) _).alloc (by simp<;>omega) _)
 rcases okP_no hno with hk | ⟨hk,hne⟩
 ·have HK:=zH hk
  clear hno hk hol
  go_enter Tryz.func82,Tryz.ntmps82
  go_wp2_with fail
  refine (i_IsValidGate _ _ _ _ _ _).mono ?_
  rintro e w1 ⟨rfl,b1⟩
  rw [HK.out]
  have X0a:=zH (X0.out.below b1)
  have X1a:=zH (X1.out.below b1)
  have X2a:=zH (X2.out.below b1)
  have B1:=zH (below_trans BZ.out b1)
  have hl2:w.heap.size+1+1 < w1.heap.size:=X2a.out.lt
  have hl1:w.heap.size+1 < w1.heap.size:=by omega
  have hl0:w.heap.size < w1.heap.size:=by omega
  clear b1 X0 X1 X2 BZ
  obtain ⟨p0,p1,p2,p3,pf0,pf1,pf2,pf3⟩:=X0a.out.four
  obtain ⟨q0,q1,q2,q3,qf0,qf1,qf2,qf3⟩:=X1a.out.four
  obtain ⟨r0,r1,r2,r3,rf0,rf1,rf2,rf3⟩:=X2a.out.four
  go_wp2_with fail
  refine bodyPost_ret (v:=.tuple #[.agg #[.int .i64 0,.int .i64 0,.slice none 0 0,.slice none 0 0],.bool false]) (by simp [results,Tryz.results82,go_sem,r0,r1,r2,r3]) rfl ⟨_,rfl,⟨none,0,none,0,rfl,World.ownsRow_nil _ _ _ _,World.ownsRow_nil _ _ _ _⟩,?_⟩
  exact below_set4 B1.out (by omega)
 ·have HK:=zH hk
  have hne1:((nO:Int) != N)=true:=by (rw [show o.length=nO from hol] at hne;simpa using hne)
  clear hno hk hol hne
  go_enter Tryz.func82,Tryz.ntmps82
  go_wp2_with fail
  refine (i_IsValidGate _ _ _ _ _ _).mono ?_
  rintro e w1 ⟨rfl,b1⟩
  rw [HK.out]
  have X0a:=zH (X0.out.below b1)
  have X1a:=zH (X1.out.below b1)
  have X2a:=zH (X2.out.below b1)
  have B1:=zH (below_trans BZ.out b1)
  have hl2:w.heap.size+1+1 < w1.heap.size:=X2a.out.lt
  have hl1:w.heap.size+1 < w1.heap.size:=by omega
  have hl0:w.heap.size < w1.heap.size:=by omega
  clear b1 X0 X1 X2 BZ
  obtain ⟨p0,p1,p2,p3,pf0,pf1,pf2,pf3⟩:=X0a.out.four
  obtain ⟨q0,q1,q2,q3,qf0,qf1,qf2,qf3⟩:=X1a.out.four
  obtain ⟨r0,r1,r2,r3,rf0,rf1,rf2,rf3⟩:=X2a.out.four
  go_wp2_with fail
  refine bodyPost_ret (v:=.tuple #[.agg #[.int .i64 0,.int .i64 0,.slice none 0 0,.slice none 0 0],.bool false]) (by simp [results,Tryz.results82,go_sem,r0,r1,r2,r3]) rfl ⟨_,rfl,⟨none,0,none,0,rfl,World.ownsRow_nil _ _ _ _,World.ownsRow_nil _ _ _ _⟩,?_⟩
  exact below_set4 B1.out (by omega)
set_option maxRecDepth 100000 in
theorem i_AG_x (N H:Int) (AT:Option Addr) (nT cT:Nat) (t:List (Int × Int)) (AO:Option Addr) (nO cO:Nat) (o:List (Int × Int)) (a b c:Int) (w:World) (hT:RdP w AT nT t) (hO:RdP w AO nO o) (hnT:nT<=274877906944) (hnO:nO<=274877906944) (hcT:nT<=cT) (hok:okP ⟨N,H,t,o⟩ ⟨1,a,b,c⟩=true)  :
  Calls Tryz.prog 82 #[.agg #[.int .i64 N,.int .i64 H,.slice AT nT cT,.slice AO nO cO],.agg #[.int .i64 1,.int .i64 a,.int .i64 b,.int .i64 c]] w (RetPB (actP ⟨N,H,t,o⟩ ⟨1,a,b,c⟩) w):=by
 have hol:=hO.1
 have HT:=zH hT
 have HO:=zH hO
 clear hT hO
 have X0:=zH (show Bx (((w.alloc (.cells #[.int .i64 N,.int .i64 H,.slice AT nT cT,.slice AO nO cO] 88)).alloc (.cells #[.int .i64 1,.int .i64 a,.int .i64 b,.int .i64 c] 39)).alloc (.cells #[.int .i64 0,.int .i64 0,.slice none 0 0,.slice none 0 0] 88)) w.heap.size 88 #[.int .i64 N,.int .i64 H,.slice AT nT cT,.slice AO nO cO] from ((Bx.new w _ _).alloc _).alloc _)
 have X1:=zH (show Bx (((w.alloc (.cells #[.int .i64 N,.int .i64 H,.slice AT nT cT,.slice AO nO cO] 88)).alloc (.cells #[.int .i64 1,.int .i64 a,.int .i64 b,.int .i64 c] 39)).alloc (.cells #[.int .i64 0,.int .i64 0,.slice none 0 0,.slice none 0 0] 88)) (w.heap.size+1) 39 #[.int .i64 1,.int .i64 a,.int .i64 b,.int .i64 c] from (Bx.new' (by simp)).alloc _)
 have X2:=zH (show Bx (((w.alloc (.cells #[.int .i64 N,.int .i64 H,.slice AT nT cT,.slice AO nO cO] 88)).alloc (.cells #[.int .i64 1,.int .i64 a,.int .i64 b,.int .i64 c] 39)).alloc (.cells #[.int .i64 0,.int .i64 0,.slice none 0 0,.slice none 0 0] 88)) (w.heap.size+1+1) 88 #[.int .i64 0,.int .i64 0,.slice none 0 0,.slice none 0 0] from Bx.new' (by simp))
 have BZ:Hid (Below w.heap.size w (((w.alloc (.cells #[.int .i64 N,.int .i64 H,.slice AT nT cT,.slice AO nO cO] 88)).alloc (.cells #[.int .i64 1,.int .i64 a,.int .i64 b,.int .i64 c] 39)).alloc (.cells #[.int .i64 0,.int .i64 0,.slice none 0 0,.slice none 0 0] 88))):=zH ((((zW).alloc zR _).alloc (by simp) _).alloc (by simp<;>omega) _)
 obtain ⟨hk,hN⟩:=okP_parts hok
 dsimp only at hk hN
 obtain ⟨_,hN4,ha0,haN,hb0,hbN⟩:=okG_abn hk
 have HK:=zH hk
 obtain ⟨ka,hka⟩:∃ k:Nat,a=k:=⟨a.toNat,by omega⟩
 obtain ⟨kb,hkb⟩:∃ k:Nat,b=k:=⟨b.toNat,by omega⟩
 rw [hol] at hN
 subst hN
 have HOL:=zH hol
 have hkan:ka < nO:=by omega
 have hkbn:kb < nO:=by omega
 have hka0:(0:Int)<=(ka:Int):=by omega
 have hkaI:(ka:Int) < (nO:Int):=by omega
 have hkb0:(0:Int)<=(kb:Int):=by omega
 have hkbI:(kb:Int) < (nO:Int):=by omega
 have hnOO:((nO:Int) != (nO:Int))=false:=by simp
 subst hka hkb
 clear hok hk hol ha0 haN hb0 hbN
 have HTL:Hid (t.length=nT):=zH HT.out.1
 obtain ⟨xa,ya,hxa⟩:∃ x y,o.getD ka (0,0)=(x,y):=⟨_,_,rfl⟩
 have HXA:Hid (at2 o (ka:Int)=(xa,ya)):=zH (by unfold at2;rw [Int.toNat_natCast];exact hxa)
 obtain ⟨xb,yb,hxb⟩:∃ x y,o.getD kb (0,0)=(x,y):=⟨_,_,rfl⟩
 have HXB:Hid (at2 o (kb:Int)=(xb,yb)):=zH (by unfold at2;rw [Int.toNat_natCast];exact hxb)
 have HOLL:Hid ((o.set ka (xa,wrap64 (1 - ya))).length=nO):=zH (by rw [List.length_set,HOL.out])
 have HACT:actP ⟨(nO:Int),H,t,o⟩ ⟨1,(ka:Int),(kb:Int),c⟩=(⟨(nO:Int),H,t,o.set ka (xa,wrap64 (1 - ya))⟩,true):=by
  unfold actP
  rw [if_pos (by rfl),HXA.out,Int.toNat_natCast]
 rw [HACT]
 clear HACT
 go_enter Tryz.func82,Tryz.ntmps82
 go_wp2_with fail
 refine (i_IsValidGate _ _ _ _ _ _).mono ?_
 rintro e w1 ⟨rfl,b1⟩
 rw [HK.out]
 have X0a:=zH (X0.out.below b1)
 have X1a:=zH (X1.out.below b1)
 have X2a:=zH (X2.out.below b1)
 have B1:=zH (below_trans BZ.out b1)
 have hl2:w.heap.size+1+1 < w1.heap.size:=X2a.out.lt
 have hl1:w.heap.size+1 < w1.heap.size:=by omega
 have hl0:w.heap.size < w1.heap.size:=by omega
 clear b1 X0 X1 X2 BZ
 obtain ⟨p0,p1,p2,p3,pf0,pf1,pf2,pf3⟩:=X0a.out.four
 obtain ⟨q0,q1,q2,q3,qf0,qf1,qf2,qf3⟩:=X1a.out.four
 obtain ⟨r0,r1,r2,r3,rf0,rf1,rf2,rf3⟩:=X2a.out.four
 go_wp2_with fail
 refine (i_copyPoly _ _ _ _ _ t _ _ _ o _ (HT.out.below B1.out) (HO.out.below B1.out) (by omega) (by omega)).mono ?_
 rintro e w2 ⟨v,rfl,⟨A2,c2,B2,d2,rfl,t2,o2⟩,b2⟩
 rw [HT.out.1] at t2 ⊢
 rw [HO.out.1] at o2 ⊢
 have X0b:=zH ((X0a.out.below b2).alloc (.cells #[.int .i64 (nO:Int),.int .i64 H,.slice A2 nT c2,.slice B2 nO d2] 88))
 have X1b:=zH ((X1a.out.below b2).alloc (.cells #[.int .i64 (nO:Int),.int .i64 H,.slice A2 nT c2,.slice B2 nO d2] 88))
 have X2b:=zH ((X2a.out.below b2).alloc (.cells #[.int .i64 (nO:Int),.int .i64 H,.slice A2 nT c2,.slice B2 nO d2] 88))
 have XO:=zH (Bx.new w2 88 #[.int .i64 (nO:Int),.int .i64 H,.slice A2 nT c2,.slice B2 nO d2])
 have TO:=zH (t2.alloc (.cells #[.int .i64 (nO:Int),.int .i64 H,.slice A2 nT c2,.slice B2 nO d2] 88))
 have OO:=zH (o2.alloc (.cells #[.int .i64 (nO:Int),.int .i64 H,.slice A2 nT c2,.slice B2 nO d2] 88))
 have BW2:=zH (show Below w.heap.size w (w2.alloc (.cells #[.int .i64 (nO:Int),.int .i64 H,.slice A2 nT c2,.slice B2 nO d2] 88)) from (below_trans B1.out b2).alloc (below_trans B1.out b2).size _)
 have hbg:w1.heap.size<=w2.heap.size:=b2.size
 clear p0 p1 p2 p3 pf0 pf1 pf2 pf3 q0 q1 q2 q3 qf0 qf1 qf2 qf3 r0 r1 r2 r3 rf0 rf1 rf2 rf3
 obtain ⟨p0,p1,p2,p3,_⟩:=(X0a.out.below b2).four
 obtain ⟨q0,q1,q2,q3,_⟩:=(X1a.out.below b2).four
 obtain ⟨r0,r1,r2,r3,_⟩:=(X2a.out.below b2).four
 have hv0:w.heap.size < w2.heap.size:=by omega
 have hv1:w.heap.size+1 < w2.heap.size:=by omega
 have hv2:w.heap.size+1+1 < w2.heap.size:=by omega
 clear t2 o2 b2 X0a X1a X2a
 go_upto_region 4 with fail
 clear p0 p1 p2 p3 q0 q1 q2 q3 r0 r1 r2 r3
 generalize w2.alloc (.cells #[.int .i64 (nO:Int),.int .i64 H,.slice A2 nT c2,.slice B2 nO d2] 88)=wz at X0b X1b X2b XO TO OO BW2 ⊢
 generalize w2.heap.size=gp at XO hbg ⊢
 have HOz:=zH (HO.out.below BW2.out)
 have HTz:=zH (HT.out.below BW2.out)
 obtain ⟨p0,p1,p2,p3,pf0,pf1,pf2,pf3⟩:=X0b.out.four
 obtain ⟨q0,q1,q2,q3,qf0,qf1,qf2,qf3⟩:=X1b.out.four
 obtain ⟨r0,r1,r2,r3,rf0,rf1,rf2,rf3⟩:=X2b.out.four
 obtain ⟨s0,s1,s2,s3,sf0,sf1,sf2,sf3⟩:=XO.out.four
 have hz0:=X0b.out.lt
 have hz1:=X1b.out.lt
 have hz2:=X2b.out.lt
 have hzg:=XO.out.lt
 have hz2x:w.heap.size+1+1 < wz.heap.size+1:=by omega
 have hgr:gp ≠ w.heap.size+1+1:=by omega
 have hgr':w.heap.size+1+1 ≠ gp:=by omega
 have hg0:gp ≠ w.heap.size:=by omega
 have hg1:gp ≠ w.heap.size+1:=by omega
 obtain ⟨gB,rfl,hgB0,hgBl,m0,m1,n0,n1⟩:=own2At OO.out hkan
 rw [hxa] at m0 m1
 have hngB:some gp ≠ some gB:=own_bx_ne OO.out XO.out (by decide)
 have hgB1:gB ≠ gp:=fun e=>hngB (by rw [e])
 have hgB2:gp ≠ gB:=fun e=>hngB (by rw [e])
 have hgB3:w.heap.size+1+1 ≠ gB:=by omega
 have hgB4:w.heap.size ≠ gB:=by omega
 have hgB5:w.heap.size+1 ≠ gB:=by omega
 obtain ⟨gB',hGB,_,_,m2,m3,n2,n3⟩:=own2At OO.out hkbn
 injection hGB with hGB
 injection hGB with hG1 _ _
 subst hG1
 rw [hxb] at m2 m3
 have S1:=zH (OO.out.stored (ka * 2+1) (.int .i64 (wrap64 (1 - ya))))
 have T1:=zH (TO.out.kept S1.out.2 (own_types TO.out OO.out (by decide)))
 have O1:=zH (show (wz.setCell ⟨gB,ka * 2+1,none⟩ (.int .i64 (wrap64 (1 - ya)))).ownsRow w1.heap.size 93 2 (.slice (some ⟨gB,0,none⟩) nO d2) nO (cellsP (o.set ka (xa,wrap64 (1 - ya)))) from by have e:=set_two o ka (wrap64 (1 - ya)) (by have:=HOL.out;omega);rw [hxa] at e;rw [<- e];exact S1.out.1)
 have B1w:=zH (BW2.out.setCell (p:=⟨gB,ka * 2+1,none⟩) (show w.heap.size<=gB by omega) (.int .i64 (wrap64 (1 - ya))))
 clear hxa hxb
 dsimp only at m0 m1 m2 m3
 go_wp2_with fail
 refine bodyPost_ret (v:=.tuple #[.agg #[.int .i64 (nO:Int),.int .i64 H,.slice A2 nT c2,.slice (some ⟨gB,0,none⟩) nO d2],.bool true]) (by simp [results,Tryz.results82,go_sem,r0,r1,r2,r3]) rfl ⟨_,rfl,⟨A2,c2,(some ⟨gB,0,none⟩),d2,?_,?_,?_⟩,?_⟩
 rotate_left
 ·rw [HTL.out]
  exact ownsRow_base (own_set4 (T1.out) (by omega)) (by omega)
 ·rw [HOLL.out]
  exact ownsRow_base (own_set4 (O1.out) (by omega)) (by omega)
 ·exact below_set4 (B1w.out) (by omega)
 ·rw [HTL.out,HOLL.out]
set_option maxRecDepth 100000 in
theorem i_AG_df (N H:Int) (AT:Option Addr) (nT cT:Nat) (t:List (Int × Int)) (AO:Option Addr) (nO cO:Nat) (o:List (Int × Int)) (k a b c:Int) (w:World) (hT:RdP w AT nT t) (hO:RdP w AO nO o) (hnT:nT<=274877906944) (hnO:nO<=274877906944) (hcT:nT<=cT) (hok:okP ⟨N,H,t,o⟩ ⟨k,a,b,c⟩=true) (h1:(k == 1)=false) (h9:(k == 9)=false) (h11:(k == 11)=false) (hu0:units k=0) :
  Calls Tryz.prog 82 #[.agg #[.int .i64 N,.int .i64 H,.slice AT nT cT,.slice AO nO cO],.agg #[.int .i64 k,.int .i64 a,.int .i64 b,.int .i64 c]] w (RetPB (Po.zero,false) w):=by
 have hol:=hO.1
 have HT:=zH hT
 have HO:=zH hO
 clear hT hO
 have X0:=zH (show Bx (((w.alloc (.cells #[.int .i64 N,.int .i64 H,.slice AT nT cT,.slice AO nO cO] 88)).alloc (.cells #[.int .i64 k,.int .i64 a,.int .i64 b,.int .i64 c] 39)).alloc (.cells #[.int .i64 0,.int .i64 0,.slice none 0 0,.slice none 0 0] 88)) w.heap.size 88 #[.int .i64 N,.int .i64 H,.slice AT nT cT,.slice AO nO cO] from ((Bx.new w _ _).alloc _).alloc _)
 have X1:=zH (show Bx (((w.alloc (.cells #[.int .i64 N,.int .i64 H,.slice AT nT cT,.slice AO nO cO] 88)).alloc (.cells #[.int .i64 k,.int .i64 a,.int .i64 b,.int .i64 c] 39)).alloc (.cells #[.int .i64 0,.int .i64 0,.slice none 0 0,.slice none 0 0] 88)) (w.heap.size+1) 39 #[.int .i64 k,.int .i64 a,.int .i64 b,.int .i64 c] from (Bx.new' (by simp)).alloc _)
 have X2:=zH (show Bx (((w.alloc (.cells #[.int .i64 N,.int .i64 H,.slice AT nT cT,.slice AO nO cO] 88)).alloc (.cells #[.int .i64 k,.int .i64 a,.int .i64 b,.int .i64 c] 39)).alloc (.cells #[.int .i64 0,.int .i64 0,.slice none 0 0,.slice none 0 0] 88)) (w.heap.size+1+1) 88 #[.int .i64 0,.int .i64 0,.slice none 0 0,.slice none 0 0] from Bx.new' (by simp))
 have BZ:Hid (Below w.heap.size w (((w.alloc (.cells #[.int .i64 N,.int .i64 H,.slice AT nT cT,.slice AO nO cO] 88)).alloc (.cells #[.int .i64 k,.int .i64 a,.int .i64 b,.int .i64 c] 39)).alloc (.cells #[.int .i64 0,.int .i64 0,.slice none 0 0,.slice none 0 0] 88))):=zH ((((zW).alloc zR _).alloc (by simp) _).alloc (by simp<;>omega) _)
 obtain ⟨hk,hN⟩:=okP_parts hok
 dsimp only at hk hN
 obtain ⟨_,hN4,ha0,haN,hb0,hbN⟩:=okG_abn hk
 have HK:=zH hk
 obtain ⟨ka,hka⟩:∃ k:Nat,a=k:=⟨a.toNat,by omega⟩
 obtain ⟨kb,hkb⟩:∃ k:Nat,b=k:=⟨b.toNat,by omega⟩
 rw [hol] at hN
 subst hN
 have HOL:=zH hol
 have hkan:ka < nO:=by omega
 have hkbn:kb < nO:=by omega
 have hka0:(0:Int)<=(ka:Int):=by omega
 have hkaI:(ka:Int) < (nO:Int):=by omega
 have hkb0:(0:Int)<=(kb:Int):=by omega
 have hkbI:(kb:Int) < (nO:Int):=by omega
 have hnOO:((nO:Int) != (nO:Int))=false:=by simp
 subst hka hkb
 clear hok hk hol ha0 haN hb0 hbN
 obtain ⟨xa,ya,hxa⟩:∃ x y,o.getD ka (0,0)=(x,y):=⟨_,_,rfl⟩
 have HXA:Hid (at2 o (ka:Int)=(xa,ya)):=zH (by unfold at2;rw [Int.toNat_natCast];exact hxa)
 obtain ⟨xb,yb,hxb⟩:∃ x y,o.getD kb (0,0)=(x,y):=⟨_,_,rfl⟩
 have HXB:Hid (at2 o (kb:Int)=(xb,yb)):=zH (by unfold at2;rw [Int.toNat_natCast];exact hxb)
 have HU0:=zH hu0
 clear hu0
 go_enter Tryz.func82,Tryz.ntmps82
 go_wp2_with fail
 refine (i_IsValidGate _ _ _ _ _ _).mono ?_
 rintro e w1 ⟨rfl,b1⟩
 rw [HK.out]
 have X0a:=zH (X0.out.below b1)
 have X1a:=zH (X1.out.below b1)
 have X2a:=zH (X2.out.below b1)
 have B1:=zH (below_trans BZ.out b1)
 have hl2:w.heap.size+1+1 < w1.heap.size:=X2a.out.lt
 have hl1:w.heap.size+1 < w1.heap.size:=by omega
 have hl0:w.heap.size < w1.heap.size:=by omega
 clear b1 X0 X1 X2 BZ
 obtain ⟨p0,p1,p2,p3,pf0,pf1,pf2,pf3⟩:=X0a.out.four
 obtain ⟨q0,q1,q2,q3,qf0,qf1,qf2,qf3⟩:=X1a.out.four
 obtain ⟨r0,r1,r2,r3,rf0,rf1,rf2,rf3⟩:=X2a.out.four
 go_wp2_with fail
 refine (i_copyPoly _ _ _ _ _ t _ _ _ o _ (HT.out.below B1.out) (HO.out.below B1.out) (by omega) (by omega)).mono ?_
 rintro e w2 ⟨v,rfl,⟨A2,c2,B2,d2,rfl,t2,o2⟩,b2⟩
 rw [HT.out.1] at t2 ⊢
 rw [HO.out.1] at o2 ⊢
 have X0b:=zH ((X0a.out.below b2).alloc (.cells #[.int .i64 (nO:Int),.int .i64 H,.slice A2 nT c2,.slice B2 nO d2] 88))
 have X1b:=zH ((X1a.out.below b2).alloc (.cells #[.int .i64 (nO:Int),.int .i64 H,.slice A2 nT c2,.slice B2 nO d2] 88))
 have X2b:=zH ((X2a.out.below b2).alloc (.cells #[.int .i64 (nO:Int),.int .i64 H,.slice A2 nT c2,.slice B2 nO d2] 88))
 have XO:=zH (Bx.new w2 88 #[.int .i64 (nO:Int),.int .i64 H,.slice A2 nT c2,.slice B2 nO d2])
 have TO:=zH (t2.alloc (.cells #[.int .i64 (nO:Int),.int .i64 H,.slice A2 nT c2,.slice B2 nO d2] 88))
 have OO:=zH (o2.alloc (.cells #[.int .i64 (nO:Int),.int .i64 H,.slice A2 nT c2,.slice B2 nO d2] 88))
 have BW2:=zH (show Below w.heap.size w (w2.alloc (.cells #[.int .i64 (nO:Int),.int .i64 H,.slice A2 nT c2,.slice B2 nO d2] 88)) from (below_trans B1.out b2).alloc (below_trans B1.out b2).size _)
 have hbg:w1.heap.size<=w2.heap.size:=b2.size
 clear p0 p1 p2 p3 pf0 pf1 pf2 pf3 q0 q1 q2 q3 qf0 qf1 qf2 qf3 r0 r1 r2 r3 rf0 rf1 rf2 rf3
 obtain ⟨p0,p1,p2,p3,_⟩:=(X0a.out.below b2).four
 obtain ⟨q0,q1,q2,q3,_⟩:=(X1a.out.below b2).four
 obtain ⟨r0,r1,r2,r3,_⟩:=(X2a.out.below b2).four
 have hv0:w.heap.size < w2.heap.size:=by omega
 have hv1:w.heap.size+1 < w2.heap.size:=by omega
 have hv2:w.heap.size+1+1 < w2.heap.size:=by omega
 clear t2 o2 b2 X0a X1a X2a
 go_upto_region 4 with fail
 clear p0 p1 p2 p3 q0 q1 q2 q3 r0 r1 r2 r3
 generalize w2.alloc (.cells #[.int .i64 (nO:Int),.int .i64 H,.slice A2 nT c2,.slice B2 nO d2] 88)=wz at X0b X1b X2b XO TO OO BW2 ⊢
 generalize w2.heap.size=gp at XO hbg ⊢
 have HOz:=zH (HO.out.below BW2.out)
 have HTz:=zH (HT.out.below BW2.out)
 obtain ⟨p0,p1,p2,p3,pf0,pf1,pf2,pf3⟩:=X0b.out.four
 obtain ⟨q0,q1,q2,q3,qf0,qf1,qf2,qf3⟩:=X1b.out.four
 obtain ⟨r0,r1,r2,r3,rf0,rf1,rf2,rf3⟩:=X2b.out.four
 obtain ⟨s0,s1,s2,s3,sf0,sf1,sf2,sf3⟩:=XO.out.four
 have hz0:=X0b.out.lt
 have hz1:=X1b.out.lt
 have hz2:=X2b.out.lt
 have hzg:=XO.out.lt
 have hz2x:w.heap.size+1+1 < wz.heap.size+1:=by omega
 have hgr:gp ≠ w.heap.size+1+1:=by omega
 have hgr':w.heap.size+1+1 ≠ gp:=by omega
 have hg0:gp ≠ w.heap.size:=by omega
 have hg1:gp ≠ w.heap.size+1:=by omega
 obtain ⟨gB,rfl,hgB0,hgBl,m0,m1,n0,n1⟩:=own2At OO.out hkan
 rw [hxa] at m0 m1
 have hngB:some gp ≠ some gB:=own_bx_ne OO.out XO.out (by decide)
 have hgB1:gB ≠ gp:=fun e=>hngB (by rw [e])
 have hgB2:gp ≠ gB:=fun e=>hngB (by rw [e])
 have hgB3:w.heap.size+1+1 ≠ gB:=by omega
 have hgB4:w.heap.size ≠ gB:=by omega
 have hgB5:w.heap.size+1 ≠ gB:=by omega
 obtain ⟨gB',hGB,_,_,m2,m3,n2,n3⟩:=own2At OO.out hkbn
 injection hGB with hGB
 injection hGB with hG1 _ _
 subst hG1
 rw [hxb] at m2 m3
 clear hxa hxb
 dsimp only at m0 m1 m2 m3
 go_wp2_with fail
 refine (i_RotationUnits _ _).mono ?_
 rintro e w' ⟨rfl,rfl⟩
 rw [HU0.out]
 go_wp2_with fail
 refine bodyPost_ret (v:=.tuple #[.agg #[.int .i64 0,.int .i64 0,.slice none 0 0,.slice none 0 0],.bool false]) (by simp [results,Tryz.results82,go_sem,r0,r1,r2,r3]) rfl ⟨_,rfl,⟨none,0,none,0,rfl,World.ownsRow_nil _ _ _ _,World.ownsRow_nil _ _ _ _⟩,?_⟩
 exact below_set4 BW2.out (by omega)
set_option maxRecDepth 100000 in
theorem i_AG_r (N H:Int) (AT:Option Addr) (nT cT:Nat) (t:List (Int × Int)) (AO:Option Addr) (nO cO:Nat) (o:List (Int × Int)) (k a b c:Int) (w:World) (hT:RdP w AT nT t) (hO:RdP w AO nO o) (hnT:nT<=274877906944) (hnO:nO<=274877906944) (hcT:nT<=cT) (hok:okP ⟨N,H,t,o⟩ ⟨k,a,b,c⟩=true) (h1:(k == 1)=false) (h9:(k == 9)=false) (h11:(k == 11)=false) (hu0:units k ≠ 0) :
  Calls Tryz.prog 82 #[.agg #[.int .i64 N,.int .i64 H,.slice AT nT cT,.slice AO nO cO],.agg #[.int .i64 k,.int .i64 a,.int .i64 b,.int .i64 c]] w (RetPB (actP ⟨N,H,t,o⟩ ⟨k,a,b,c⟩) w):=by
 have hol:=hO.1
 have HT:=zH hT
 have HO:=zH hO
 clear hT hO
 have X0:=zH (show Bx (((w.alloc (.cells #[.int .i64 N,.int .i64 H,.slice AT nT cT,.slice AO nO cO] 88)).alloc (.cells #[.int .i64 k,.int .i64 a,.int .i64 b,.int .i64 c] 39)).alloc (.cells #[.int .i64 0,.int .i64 0,.slice none 0 0,.slice none 0 0] 88)) w.heap.size 88 #[.int .i64 N,.int .i64 H,.slice AT nT cT,.slice AO nO cO] from ((Bx.new w _ _).alloc _).alloc _)
 have X1:=zH (show Bx (((w.alloc (.cells #[.int .i64 N,.int .i64 H,.slice AT nT cT,.slice AO nO cO] 88)).alloc (.cells #[.int .i64 k,.int .i64 a,.int .i64 b,.int .i64 c] 39)).alloc (.cells #[.int .i64 0,.int .i64 0,.slice none 0 0,.slice none 0 0] 88)) (w.heap.size+1) 39 #[.int .i64 k,.int .i64 a,.int .i64 b,.int .i64 c] from (Bx.new' (by simp)).alloc _)
 have X2:=zH (show Bx (((w.alloc (.cells #[.int .i64 N,.int .i64 H,.slice AT nT cT,.slice AO nO cO] 88)).alloc (.cells #[.int .i64 k,.int .i64 a,.int .i64 b,.int .i64 c] 39)).alloc (.cells #[.int .i64 0,.int .i64 0,.slice none 0 0,.slice none 0 0] 88)) (w.heap.size+1+1) 88 #[.int .i64 0,.int .i64 0,.slice none 0 0,.slice none 0 0] from Bx.new' (by simp))
 have BZ:Hid (Below w.heap.size w (((w.alloc (.cells #[.int .i64 N,.int .i64 H,.slice AT nT cT,.slice AO nO cO] 88)).alloc (.cells #[.int .i64 k,.int .i64 a,.int .i64 b,.int .i64 c] 39)).alloc (.cells #[.int .i64 0,.int .i64 0,.slice none 0 0,.slice none 0 0] 88))):=zH ((((zW).alloc zR _).alloc (by simp) _).alloc (by simp<;>omega) _)
 obtain ⟨hk,hN⟩:=okP_parts hok
 dsimp only at hk hN
 obtain ⟨_,hN4,ha0,haN,hb0,hbN⟩:=okG_abn hk
 have HK:=zH hk
 obtain ⟨ka,hka⟩:∃ k:Nat,a=k:=⟨a.toNat,by omega⟩
 obtain ⟨kb,hkb⟩:∃ k:Nat,b=k:=⟨b.toNat,by omega⟩
 rw [hol] at hN
 subst hN
 have HOL:=zH hol
 have hkan:ka < nO:=by omega
 have hkbn:kb < nO:=by omega
 have hka0:(0:Int)<=(ka:Int):=by omega
 have hkaI:(ka:Int) < (nO:Int):=by omega
 have hkb0:(0:Int)<=(kb:Int):=by omega
 have hkbI:(kb:Int) < (nO:Int):=by omega
 have hnOO:((nO:Int) != (nO:Int))=false:=by simp
 subst hka hkb
 clear hok hk hol ha0 haN hb0 hbN
 have HTL:Hid (t.length=nT):=zH HT.out.1
 obtain ⟨xa,ya,hxa⟩:∃ x y,o.getD ka (0,0)=(x,y):=⟨_,_,rfl⟩
 have HXA:Hid (at2 o (ka:Int)=(xa,ya)):=zH (by unfold at2;rw [Int.toNat_natCast];exact hxa)
 obtain ⟨xb,yb,hxb⟩:∃ x y,o.getD kb (0,0)=(x,y):=⟨_,_,rfl⟩
 have HXB:Hid (at2 o (kb:Int)=(xb,yb)):=zH (by unfold at2;rw [Int.toNat_natCast];exact hxb)
 obtain ⟨u,hu⟩:∃ u,units k=u:=⟨_,rfl⟩
 have hub:=units_bd k
 rw [hu] at hub hu0
 have hu1:0 < u:=by omega
 have hu8:u<=7:=hub.2
 have HU:=zH hu
 have HACT:actP ⟨(nO:Int),H,t,o⟩ ⟨k,(ka:Int),(kb:Int),c⟩=(⟨(nO:Int),rotH H (xa,ya) u,rotT t (xa,ya) u,o⟩,true):=by
  unfold actP
  rw [if_neg (by rw [h1];simp),if_neg (by rw [h9];simp),if_neg (by rw [h11];simp)]
  rw [if_neg (by show ¬ (units k == 0)=true;rw [hu];simpa using hu0),HXA.out,hu]
  unfold rotH rotT
  by_cases hya:(ya == 0)=true
  ·rw [if_pos hya,if_pos hya,if_pos hya]
  ·rw [if_neg hya,if_neg hya,if_neg hya]
 rw [HACT]
 clear HACT hu hub hu0
 go_enter Tryz.func82,Tryz.ntmps82
 go_wp2_with fail
 refine (i_IsValidGate _ _ _ _ _ _).mono ?_
 rintro e w1 ⟨rfl,b1⟩
 rw [HK.out]
 have X0a:=zH (X0.out.below b1)
 have X1a:=zH (X1.out.below b1)
 have X2a:=zH (X2.out.below b1)
 have B1:=zH (below_trans BZ.out b1)
 have hl2:w.heap.size+1+1 < w1.heap.size:=X2a.out.lt
 have hl1:w.heap.size+1 < w1.heap.size:=by omega
 have hl0:w.heap.size < w1.heap.size:=by omega
 clear b1 X0 X1 X2 BZ
 obtain ⟨p0,p1,p2,p3,pf0,pf1,pf2,pf3⟩:=X0a.out.four
 obtain ⟨q0,q1,q2,q3,qf0,qf1,qf2,qf3⟩:=X1a.out.four
 obtain ⟨r0,r1,r2,r3,rf0,rf1,rf2,rf3⟩:=X2a.out.four
 go_wp2_with fail
 refine (i_copyPoly _ _ _ _ _ t _ _ _ o _ (HT.out.below B1.out) (HO.out.below B1.out) (by omega) (by omega)).mono ?_
 rintro e w2 ⟨v,rfl,⟨A2,c2,B2,d2,rfl,t2,o2⟩,b2⟩
 rw [HT.out.1] at t2 ⊢
 rw [HO.out.1] at o2 ⊢
 have X0b:=zH ((X0a.out.below b2).alloc (.cells #[.int .i64 (nO:Int),.int .i64 H,.slice A2 nT c2,.slice B2 nO d2] 88))
 have X1b:=zH ((X1a.out.below b2).alloc (.cells #[.int .i64 (nO:Int),.int .i64 H,.slice A2 nT c2,.slice B2 nO d2] 88))
 have X2b:=zH ((X2a.out.below b2).alloc (.cells #[.int .i64 (nO:Int),.int .i64 H,.slice A2 nT c2,.slice B2 nO d2] 88))
 have XO:=zH (Bx.new w2 88 #[.int .i64 (nO:Int),.int .i64 H,.slice A2 nT c2,.slice B2 nO d2])
 have TO:=zH (t2.alloc (.cells #[.int .i64 (nO:Int),.int .i64 H,.slice A2 nT c2,.slice B2 nO d2] 88))
 have OO:=zH (o2.alloc (.cells #[.int .i64 (nO:Int),.int .i64 H,.slice A2 nT c2,.slice B2 nO d2] 88))
 have BW2:=zH (show Below w.heap.size w (w2.alloc (.cells #[.int .i64 (nO:Int),.int .i64 H,.slice A2 nT c2,.slice B2 nO d2] 88)) from (below_trans B1.out b2).alloc (below_trans B1.out b2).size _)
 have hbg:w1.heap.size<=w2.heap.size:=b2.size
 clear p0 p1 p2 p3 pf0 pf1 pf2 pf3 q0 q1 q2 q3 qf0 qf1 qf2 qf3 r0 r1 r2 r3 rf0 rf1 rf2 rf3
 obtain ⟨p0,p1,p2,p3,_⟩:=(X0a.out.below b2).four
 obtain ⟨q0,q1,q2,q3,_⟩:=(X1a.out.below b2).four
 obtain ⟨r0,r1,r2,r3,_⟩:=(X2a.out.below b2).four
 have hv0:w.heap.size < w2.heap.size:=by omega
 have hv1:w.heap.size+1 < w2.heap.size:=by omega
 have hv2:w.heap.size+1+1 < w2.heap.size:=by omega
 clear t2 o2 b2 X0a X1a X2a
 go_upto_region 4 with fail
 clear p0 p1 p2 p3 q0 q1 q2 q3 r0 r1 r2 r3
 generalize w2.alloc (.cells #[.int .i64 (nO:Int),.int .i64 H,.slice A2 nT c2,.slice B2 nO d2] 88)=wz at X0b X1b X2b XO TO OO BW2 ⊢
 generalize w2.heap.size=gp at XO hbg ⊢
 have HOz:=zH (HO.out.below BW2.out)
 have HTz:=zH (HT.out.below BW2.out)
 obtain ⟨p0,p1,p2,p3,pf0,pf1,pf2,pf3⟩:=X0b.out.four
 obtain ⟨q0,q1,q2,q3,qf0,qf1,qf2,qf3⟩:=X1b.out.four
 obtain ⟨r0,r1,r2,r3,rf0,rf1,rf2,rf3⟩:=X2b.out.four
 obtain ⟨s0,s1,s2,s3,sf0,sf1,sf2,sf3⟩:=XO.out.four
 have hz0:=X0b.out.lt
 have hz1:=X1b.out.lt
 have hz2:=X2b.out.lt
 have hzg:=XO.out.lt
 have hz2x:w.heap.size+1+1 < wz.heap.size+1:=by omega
 have hgr:gp ≠ w.heap.size+1+1:=by omega
 have hgr':w.heap.size+1+1 ≠ gp:=by omega
 have hg0:gp ≠ w.heap.size:=by omega
 have hg1:gp ≠ w.heap.size+1:=by omega
 obtain ⟨bo,off,rfl,hbo,e0,e1⟩:=rd2At HOz.out hkan
 rw [hxa] at e0 e1
 obtain ⟨gB,rfl,hgB0,hgBl,m0,m1,n0,n1⟩:=own2At OO.out hkan
 rw [hxa] at m0 m1
 have hngB:some gp ≠ some gB:=own_bx_ne OO.out XO.out (by decide)
 have hgB1:gB ≠ gp:=fun e=>hngB (by rw [e])
 have hgB2:gp ≠ gB:=fun e=>hngB (by rw [e])
 have hgB3:w.heap.size+1+1 ≠ gB:=by omega
 have hgB4:w.heap.size ≠ gB:=by omega
 have hgB5:w.heap.size+1 ≠ gB:=by omega
 obtain ⟨gB',hGB,_,_,m2,m3,n2,n3⟩:=own2At OO.out hkbn
 injection hGB with hGB
 injection hGB with hG1 _ _
 subst hG1
 rw [hxb] at m2 m3
 clear hxa hxb
 dsimp only at e0 e1 m0 m1 m2 m3
 have hune:(u != 0)=true:=by simp;omega
 go_wp2_with fail
 refine (i_RotationUnits _ _).mono ?_
 rintro e w' ⟨rfl,rfl⟩
 rw [HU.out]
 go_wp2_with fail
 have HPA:Hid (PAt wz gp w1.heap.size (nO:Int) H t o):=zH ⟨A2,c2,_,d2,by rw [HTL.out,HOL.out];exact XO.out,by rw [HTL.out];exact TO.out,by rw [HOL.out];exact OO.out⟩
 go_still_tail 9,(by kernel_rfl)
 still_call ((i_RotationUnits _ _).mono fun _ _ h=>⟨h.1,h.2.symm⟩)
 repeat still_step
 refine wpStill_nil ?_
 change wpList Tryz.prog _ _ _ _ wz.drew
 rw [HU.out]
 clear p0 p1 p2 p3 pf0 pf1 pf2 pf3 q0 q1 q2 q3 qf0 qf1 qf2 qf3 r0 r1 r2 r3 rf0 rf1 rf2 rf3 s0 s1 s2 s3 sf0 sf1 sf2 sf3 e0 e1 m0 m1 m2 m3 n0 n1 n2 n3
 go_wp2_with fail
 refine (i_rotate gp w1.heap.size (nO:Int) H t o (xa,ya) u wz.drew (show PAt wz.drew gp w1.heap.size (nO:Int) H t o from HPA.out) (show w1.heap.size<=wz.heap.size by omega) hbg (by rw [HTL.out];omega)).mono ?_
 rintro e w5 ⟨rfl,⟨A5,c5,B5,d5,x5,t5,o5⟩,b5⟩
 have b5z:Below w1.heap.size wz w5:=⟨b5.os,b5.tape,b5.output,b5.size,b5.block⟩
 have X2e:=zH (bx_b X2b.out b5z (by omega))
 have BWe:=zH (BW2.out.trans (Below.mono b5z (by omega)))
 have XOe:=zH x5
 have T5:=zH t5
 have O5:=zH o5
 clear x5 t5 o5 b5 b5z HPA
 obtain ⟨r0,r1,r2,r3,rf0,rf1,rf2,rf3⟩:=X2e.out.four
 obtain ⟨s0,s1,s2,s3,sf0,sf1,sf2,sf3⟩:=XOe.out.four
 go_wp2_with fail
 refine bodyPost_ret (v:=.tuple #[.agg #[.int .i64 (nO:Int),.int .i64 (rotH H (xa,ya) u),.slice A5 (rotT t (xa,ya) u).length c5,.slice B5 o.length d5],.bool true]) (by simp [results,Tryz.results82,go_sem,r0,r1,r2,r3]) rfl ⟨_,rfl,⟨A5,c5,B5,d5,rfl,?_,?_⟩,?_⟩
 ·exact ownsRow_base (own_set4 T5.out (by omega)) (by omega)
 ·exact ownsRow_base (own_set4 O5.out (by omega)) (by omega)
 ·exact below_set4 BWe.out (by omega)
set_option maxRecDepth 100000 in
theorem i_AG_cx (N H:Int) (AT:Option Addr) (nT cT:Nat) (t:List (Int × Int)) (AO:Option Addr) (nO cO:Nat) (o:List (Int × Int)) (a b c:Int) (w:World) (hT:RdP w AT nT t) (hO:RdP w AO nO o) (hnT:nT<=274877906944) (hnO:nO<=274877906944) (hcT:nT<=cT) (hok:okP ⟨N,H,t,o⟩ ⟨9,a,b,c⟩=true)  :
  Calls Tryz.prog 82 #[.agg #[.int .i64 N,.int .i64 H,.slice AT nT cT,.slice AO nO cO],.agg #[.int .i64 9,.int .i64 a,.int .i64 b,.int .i64 c]] w (RetPB (actP ⟨N,H,t,o⟩ ⟨9,a,b,c⟩) w):=by
 have hol:=hO.1
 have HT:=zH hT
 have HO:=zH hO
 clear hT hO
 have X0:=zH (show Bx (((w.alloc (.cells #[.int .i64 N,.int .i64 H,.slice AT nT cT,.slice AO nO cO] 88)).alloc (.cells #[.int .i64 9,.int .i64 a,.int .i64 b,.int .i64 c] 39)).alloc (.cells #[.int .i64 0,.int .i64 0,.slice none 0 0,.slice none 0 0] 88)) w.heap.size 88 #[.int .i64 N,.int .i64 H,.slice AT nT cT,.slice AO nO cO] from ((Bx.new w _ _).alloc _).alloc _)
 have X1:=zH (show Bx (((w.alloc (.cells #[.int .i64 N,.int .i64 H,.slice AT nT cT,.slice AO nO cO] 88)).alloc (.cells #[.int .i64 9,.int .i64 a,.int .i64 b,.int .i64 c] 39)).alloc (.cells #[.int .i64 0,.int .i64 0,.slice none 0 0,.slice none 0 0] 88)) (w.heap.size+1) 39 #[.int .i64 9,.int .i64 a,.int .i64 b,.int .i64 c] from (Bx.new' (by simp)).alloc _)
 have X2:=zH (show Bx (((w.alloc (.cells #[.int .i64 N,.int .i64 H,.slice AT nT cT,.slice AO nO cO] 88)).alloc (.cells #[.int .i64 9,.int .i64 a,.int .i64 b,.int .i64 c] 39)).alloc (.cells #[.int .i64 0,.int .i64 0,.slice none 0 0,.slice none 0 0] 88)) (w.heap.size+1+1) 88 #[.int .i64 0,.int .i64 0,.slice none 0 0,.slice none 0 0] from Bx.new' (by simp))
 have BZ:Hid (Below w.heap.size w (((w.alloc (.cells #[.int .i64 N,.int .i64 H,.slice AT nT cT,.slice AO nO cO] 88)).alloc (.cells #[.int .i64 9,.int .i64 a,.int .i64 b,.int .i64 c] 39)).alloc (.cells #[.int .i64 0,.int .i64 0,.slice none 0 0,.slice none 0 0] 88))):=zH ((((zW).alloc zR _).alloc (by simp) _).alloc (by simp<;>omega) _)
 obtain ⟨hk,hN⟩:=okP_parts hok
 dsimp only at hk hN
 obtain ⟨_,hN4,ha0,haN,hb0,hbN⟩:=okG_abn hk
 have HK:=zH hk
 obtain ⟨ka,hka⟩:∃ k:Nat,a=k:=⟨a.toNat,by omega⟩
 obtain ⟨kb,hkb⟩:∃ k:Nat,b=k:=⟨b.toNat,by omega⟩
 rw [hol] at hN
 subst hN
 have HOL:=zH hol
 have hkan:ka < nO:=by omega
 have hkbn:kb < nO:=by omega
 have hka0:(0:Int)<=(ka:Int):=by omega
 have hkaI:(ka:Int) < (nO:Int):=by omega
 have hkb0:(0:Int)<=(kb:Int):=by omega
 have hkbI:(kb:Int) < (nO:Int):=by omega
 have hnOO:((nO:Int) != (nO:Int))=false:=by simp
 subst hka hkb
 clear hok hk hol ha0 haN hb0 hbN
 have HTL:Hid (t.length=nT):=zH HT.out.1
 obtain ⟨xa,ya,hxa⟩:∃ x y,o.getD ka (0,0)=(x,y):=⟨_,_,rfl⟩
 have HXA:Hid (at2 o (ka:Int)=(xa,ya)):=zH (by unfold at2;rw [Int.toNat_natCast];exact hxa)
 obtain ⟨xb,yb,hxb⟩:∃ x y,o.getD kb (0,0)=(x,y):=⟨_,_,rfl⟩
 have HXB:Hid (at2 o (kb:Int)=(xb,yb)):=zH (by unfold at2;rw [Int.toNat_natCast];exact hxb)
 have HOLL:Hid ((o.set kb (bits .xor .i64 xb xa,bits .xor .i64 yb ya)).length=nO):=zH (by rw [List.length_set,HOL.out])
 have HACT:actP ⟨(nO:Int),H,t,o⟩ ⟨9,(ka:Int),(kb:Int),c⟩=(⟨(nO:Int),H,t,o.set kb (bits .xor .i64 xb xa,bits .xor .i64 yb ya)⟩,true):=by
  unfold actP
  rw [if_neg (by simp),if_pos (by rfl),HXA.out,HXB.out,Int.toNat_natCast,xor_comm64 xa,xor_comm64 ya]
 rw [HACT]
 clear HACT
 go_enter Tryz.func82,Tryz.ntmps82
 go_wp2_with fail
 refine (i_IsValidGate _ _ _ _ _ _).mono ?_
 rintro e w1 ⟨rfl,b1⟩
 rw [HK.out]
 have X0a:=zH (X0.out.below b1)
 have X1a:=zH (X1.out.below b1)
 have X2a:=zH (X2.out.below b1)
 have B1:=zH (below_trans BZ.out b1)
 have hl2:w.heap.size+1+1 < w1.heap.size:=X2a.out.lt
 have hl1:w.heap.size+1 < w1.heap.size:=by omega
 have hl0:w.heap.size < w1.heap.size:=by omega
 clear b1 X0 X1 X2 BZ
 obtain ⟨p0,p1,p2,p3,pf0,pf1,pf2,pf3⟩:=X0a.out.four
 obtain ⟨q0,q1,q2,q3,qf0,qf1,qf2,qf3⟩:=X1a.out.four
 obtain ⟨r0,r1,r2,r3,rf0,rf1,rf2,rf3⟩:=X2a.out.four
 go_wp2_with fail
 refine (i_copyPoly _ _ _ _ _ t _ _ _ o _ (HT.out.below B1.out) (HO.out.below B1.out) (by omega) (by omega)).mono ?_
 rintro e w2 ⟨v,rfl,⟨A2,c2,B2,d2,rfl,t2,o2⟩,b2⟩
 rw [HT.out.1] at t2 ⊢
 rw [HO.out.1] at o2 ⊢
 have X0b:=zH ((X0a.out.below b2).alloc (.cells #[.int .i64 (nO:Int),.int .i64 H,.slice A2 nT c2,.slice B2 nO d2] 88))
 have X1b:=zH ((X1a.out.below b2).alloc (.cells #[.int .i64 (nO:Int),.int .i64 H,.slice A2 nT c2,.slice B2 nO d2] 88))
 have X2b:=zH ((X2a.out.below b2).alloc (.cells #[.int .i64 (nO:Int),.int .i64 H,.slice A2 nT c2,.slice B2 nO d2] 88))
 have XO:=zH (Bx.new w2 88 #[.int .i64 (nO:Int),.int .i64 H,.slice A2 nT c2,.slice B2 nO d2])
 have TO:=zH (t2.alloc (.cells #[.int .i64 (nO:Int),.int .i64 H,.slice A2 nT c2,.slice B2 nO d2] 88))
 have OO:=zH (o2.alloc (.cells #[.int .i64 (nO:Int),.int .i64 H,.slice A2 nT c2,.slice B2 nO d2] 88))
 have BW2:=zH (show Below w.heap.size w (w2.alloc (.cells #[.int .i64 (nO:Int),.int .i64 H,.slice A2 nT c2,.slice B2 nO d2] 88)) from (below_trans B1.out b2).alloc (below_trans B1.out b2).size _)
 have hbg:w1.heap.size<=w2.heap.size:=b2.size
 clear p0 p1 p2 p3 pf0 pf1 pf2 pf3 q0 q1 q2 q3 qf0 qf1 qf2 qf3 r0 r1 r2 r3 rf0 rf1 rf2 rf3
 obtain ⟨p0,p1,p2,p3,_⟩:=(X0a.out.below b2).four
 obtain ⟨q0,q1,q2,q3,_⟩:=(X1a.out.below b2).four
 obtain ⟨r0,r1,r2,r3,_⟩:=(X2a.out.below b2).four
 have hv0:w.heap.size < w2.heap.size:=by omega
 have hv1:w.heap.size+1 < w2.heap.size:=by omega
 have hv2:w.heap.size+1+1 < w2.heap.size:=by omega
 clear t2 o2 b2 X0a X1a X2a
 go_upto_region 4 with fail
 clear p0 p1 p2 p3 q0 q1 q2 q3 r0 r1 r2 r3
 generalize w2.alloc (.cells #[.int .i64 (nO:Int),.int .i64 H,.slice A2 nT c2,.slice B2 nO d2] 88)=wz at X0b X1b X2b XO TO OO BW2 ⊢
 generalize w2.heap.size=gp at XO hbg ⊢
 have HOz:=zH (HO.out.below BW2.out)
 have HTz:=zH (HT.out.below BW2.out)
 obtain ⟨p0,p1,p2,p3,pf0,pf1,pf2,pf3⟩:=X0b.out.four
 obtain ⟨q0,q1,q2,q3,qf0,qf1,qf2,qf3⟩:=X1b.out.four
 obtain ⟨r0,r1,r2,r3,rf0,rf1,rf2,rf3⟩:=X2b.out.four
 obtain ⟨s0,s1,s2,s3,sf0,sf1,sf2,sf3⟩:=XO.out.four
 have hz0:=X0b.out.lt
 have hz1:=X1b.out.lt
 have hz2:=X2b.out.lt
 have hzg:=XO.out.lt
 have hz2x:w.heap.size+1+1 < wz.heap.size+1:=by omega
 have hgr:gp ≠ w.heap.size+1+1:=by omega
 have hgr':w.heap.size+1+1 ≠ gp:=by omega
 have hg0:gp ≠ w.heap.size:=by omega
 have hg1:gp ≠ w.heap.size+1:=by omega
 obtain ⟨gB,rfl,hgB0,hgBl,m0,m1,n0,n1⟩:=own2At OO.out hkan
 rw [hxa] at m0 m1
 have hngB:some gp ≠ some gB:=own_bx_ne OO.out XO.out (by decide)
 have hgB1:gB ≠ gp:=fun e=>hngB (by rw [e])
 have hgB2:gp ≠ gB:=fun e=>hngB (by rw [e])
 have hgB3:w.heap.size+1+1 ≠ gB:=by omega
 have hgB4:w.heap.size ≠ gB:=by omega
 have hgB5:w.heap.size+1 ≠ gB:=by omega
 obtain ⟨gB',hGB,_,_,m2,m3,n2,n3⟩:=own2At OO.out hkbn
 injection hGB with hGB
 injection hGB with hG1 _ _
 subst hG1
 rw [hxb] at m2 m3
 have HTN:Hid (some gB ≠ (Value.slice A2 nT c2).ownBlock):=zH (fun e=>by rcases own_types OO.out TO.out (by decide) with h | h;exact absurd h (by simp [Value.ownBlock]);exact h e)
 have X0c:=zH (Bx.drew (Bx.far (X0b.out) (p:=⟨gB,kb * 2,none⟩) hgB4 (.int .i64 (bits .xor .i64 xb xa))))
 have X1c:=zH (Bx.drew (Bx.far (X1b.out) (p:=⟨gB,kb * 2,none⟩) hgB5 (.int .i64 (bits .xor .i64 xb xa))))
 have X2c:=zH (Bx.drew (Bx.far (X2b.out) (p:=⟨gB,kb * 2,none⟩) hgB3 (.int .i64 (bits .xor .i64 xb xa))))
 have XOc:=zH (Bx.drew (Bx.far (XO.out) (p:=⟨gB,kb * 2,none⟩) hgB2 (.int .i64 (bits .xor .i64 xb xa))))
 have TOc:=zH (ownsRow_drew (own_set_ne (TO.out) (p:=⟨gB,kb * 2,none⟩) HTN.out (.int .i64 (bits .xor .i64 xb xa))))
 have OOc:=zH (ownsRow_drew ((World.ownsRow.stored (OO.out) (kb * 2) (.int .i64 (bits .xor .i64 xb xa))).1))
 have BWc:=zH (Below.drew (Below.setCell (BW2.out) (p:=⟨gB,kb * 2,none⟩) (show w.heap.size<=gB by omega) (.int .i64 (bits .xor .i64 xb xa))))
 dsimp only at m0 m1 m2 m3
 have hab:kb ≠ ka:=by have:=okG_ne HK.out (by decide);omega
 have l1:(cellsP o)[kb * 2+1]? = some (.int .i64 yb):=by rw [<- OO.out.cellAt _ (by omega)];exact m3
 have l2:(cellsP o)[ka * 2+1]? = some (.int .i64 ya):=by rw [<- OO.out.cellAt _ (by omega)];exact m1
 have L1:=zH l1
 have L2:=zH l2
 clear l1 l2
 go_wp2_with fail
 go_still_tail 12,(by kernel_rfl)
 change wpList Tryz.prog _ _ _ _ wz.drew
 go_wp2_with fail
 clear p0 p1 p2 p3 pf0 pf1 pf2 pf3 q0 q1 q2 q3 qf0 qf1 qf2 qf3 r0 r1 r2 r3 rf0 rf1 rf2 rf3 s0 s1 s2 s3 sf0 sf1 sf2 sf3 m0 m1 m2 m3 n0 n1 n2 n3
 generalize (wz.setCell ⟨gB,kb * 2,none⟩ (.int .i64 (bits .xor .i64 xb xa))).drew=wy at X0c X1c X2c XOc TOc OOc BWc ⊢
 obtain ⟨p0,p1,p2,p3,pf0,pf1,pf2,pf3⟩:=X0c.out.four
 obtain ⟨q0,q1,q2,q3,qf0,qf1,qf2,qf3⟩:=X1c.out.four
 obtain ⟨r0,r1,r2,r3,rf0,rf1,rf2,rf3⟩:=X2c.out.four
 obtain ⟨s0,s1,s2,s3,sf0,sf1,sf2,sf3⟩:=XOc.out.four
 have m3:=(OOc.out.cellAt (kb * 2+1) (by omega)).trans (show ((cellsP o).set (kb * 2) (.int .i64 (bits .xor .i64 xb xa)))[kb * 2+1]? = some (.int .i64 yb) from by rw [List.getElem?_set_ne (by omega)];exact L1.out)
 have m1:=(OOc.out.cellAt (ka * 2+1) (by omega)).trans (show ((cellsP o).set (kb * 2) (.int .i64 (bits .xor .i64 xb xa)))[ka * 2+1]? = some (.int .i64 ya) from by rw [List.getElem?_set_ne (by omega)];exact L2.out)
 have n3:=OOc.out.frozenAt (kb * 2+1)
 have S2:=zH (OOc.out.stored (kb * 2+1) (.int .i64 (bits .xor .i64 yb ya)))
 have T1:=zH (own_set_ne TOc.out (p:=⟨gB,kb * 2+1,none⟩) HTN.out (.int .i64 (bits .xor .i64 yb ya)))
 have O1:=zH (show (wy.setCell ⟨gB,kb * 2+1,none⟩ (.int .i64 (bits .xor .i64 yb ya))).ownsRow w1.heap.size 93 2 (.slice (some ⟨gB,0,none⟩) nO d2) nO (cellsP (o.set kb (bits .xor .i64 xb xa,bits .xor .i64 yb ya))) from by rw [<- set_pair _ _ _ _ (by have:=HOL.out;omega)];exact S2.out.1)
 have B1w:=zH (BWc.out.setCell (p:=⟨gB,kb * 2+1,none⟩) (show w.heap.size<=gB by omega) (.int .i64 (bits .xor .i64 yb ya)))
 clear hxa hxb
 go_still_tail 12,(by kernel_rfl)
 change wpList Tryz.prog _ _ _ _ wy.drew
 go_wp2_with fail
 refine bodyPost_ret (v:=.tuple #[.agg #[.int .i64 (nO:Int),.int .i64 H,.slice A2 nT c2,.slice (some ⟨gB,0,none⟩) nO d2],.bool true]) (by simp [results,Tryz.results82,go_sem,r0,r1,r2,r3]) rfl ⟨_,rfl,⟨A2,c2,(some ⟨gB,0,none⟩),d2,?_,?_,?_⟩,?_⟩
 rotate_left
 ·rw [HTL.out]
  refine ownsRow_drew ?_
  exact ownsRow_base (own_set4 (T1.out) (by omega)) (by omega)
 ·rw [HOLL.out]
  refine ownsRow_drew ?_
  exact ownsRow_base (own_set4 (O1.out) (by omega)) (by omega)
 ·refine Below.drew ?_
  exact below_set4 (B1w.out) (by omega)
 ·rw [HTL.out,HOLL.out]
set_option maxRecDepth 100000 in
theorem i_AG_sw (N H:Int) (AT:Option Addr) (nT cT:Nat) (t:List (Int × Int)) (AO:Option Addr) (nO cO:Nat) (o:List (Int × Int)) (a b c:Int) (w:World) (hT:RdP w AT nT t) (hO:RdP w AO nO o) (hnT:nT<=274877906944) (hnO:nO<=274877906944) (hcT:nT<=cT) (hok:okP ⟨N,H,t,o⟩ ⟨11,a,b,c⟩=true)  :
  Calls Tryz.prog 82 #[.agg #[.int .i64 N,.int .i64 H,.slice AT nT cT,.slice AO nO cO],.agg #[.int .i64 11,.int .i64 a,.int .i64 b,.int .i64 c]] w (RetPB (actP ⟨N,H,t,o⟩ ⟨11,a,b,c⟩) w):=by
 have hol:=hO.1
 have HT:=zH hT
 have HO:=zH hO
 clear hT hO
 have X0:=zH (show Bx (((w.alloc (.cells #[.int .i64 N,.int .i64 H,.slice AT nT cT,.slice AO nO cO] 88)).alloc (.cells #[.int .i64 11,.int .i64 a,.int .i64 b,.int .i64 c] 39)).alloc (.cells #[.int .i64 0,.int .i64 0,.slice none 0 0,.slice none 0 0] 88)) w.heap.size 88 #[.int .i64 N,.int .i64 H,.slice AT nT cT,.slice AO nO cO] from ((Bx.new w _ _).alloc _).alloc _)
 have X1:=zH (show Bx (((w.alloc (.cells #[.int .i64 N,.int .i64 H,.slice AT nT cT,.slice AO nO cO] 88)).alloc (.cells #[.int .i64 11,.int .i64 a,.int .i64 b,.int .i64 c] 39)).alloc (.cells #[.int .i64 0,.int .i64 0,.slice none 0 0,.slice none 0 0] 88)) (w.heap.size+1) 39 #[.int .i64 11,.int .i64 a,.int .i64 b,.int .i64 c] from (Bx.new' (by simp)).alloc _)
 have X2:=zH (show Bx (((w.alloc (.cells #[.int .i64 N,.int .i64 H,.slice AT nT cT,.slice AO nO cO] 88)).alloc (.cells #[.int .i64 11,.int .i64 a,.int .i64 b,.int .i64 c] 39)).alloc (.cells #[.int .i64 0,.int .i64 0,.slice none 0 0,.slice none 0 0] 88)) (w.heap.size+1+1) 88 #[.int .i64 0,.int .i64 0,.slice none 0 0,.slice none 0 0] from Bx.new' (by simp))
 have BZ:Hid (Below w.heap.size w (((w.alloc (.cells #[.int .i64 N,.int .i64 H,.slice AT nT cT,.slice AO nO cO] 88)).alloc (.cells #[.int .i64 11,.int .i64 a,.int .i64 b,.int .i64 c] 39)).alloc (.cells #[.int .i64 0,.int .i64 0,.slice none 0 0,.slice none 0 0] 88))):=zH ((((zW).alloc zR _).alloc (by simp) _).alloc (by simp<;>omega) _)
 obtain ⟨hk,hN⟩:=okP_parts hok
 dsimp only at hk hN
 obtain ⟨_,hN4,ha0,haN,hb0,hbN⟩:=okG_abn hk
 have HK:=zH hk
 obtain ⟨ka,hka⟩:∃ k:Nat,a=k:=⟨a.toNat,by omega⟩
 obtain ⟨kb,hkb⟩:∃ k:Nat,b=k:=⟨b.toNat,by omega⟩
 rw [hol] at hN
 subst hN
 have HOL:=zH hol
 have hkan:ka < nO:=by omega
 have hkbn:kb < nO:=by omega
 have hka0:(0:Int)<=(ka:Int):=by omega
 have hkaI:(ka:Int) < (nO:Int):=by omega
 have hkb0:(0:Int)<=(kb:Int):=by omega
 have hkbI:(kb:Int) < (nO:Int):=by omega
 have hnOO:((nO:Int) != (nO:Int))=false:=by simp
 subst hka hkb
 clear hok hk hol ha0 haN hb0 hbN
 have HTL:Hid (t.length=nT):=zH HT.out.1
 obtain ⟨xa,ya,hxa⟩:∃ x y,o.getD ka (0,0)=(x,y):=⟨_,_,rfl⟩
 have HXA:Hid (at2 o (ka:Int)=(xa,ya)):=zH (by unfold at2;rw [Int.toNat_natCast];exact hxa)
 obtain ⟨xb,yb,hxb⟩:∃ x y,o.getD kb (0,0)=(x,y):=⟨_,_,rfl⟩
 have HXB:Hid (at2 o (kb:Int)=(xb,yb)):=zH (by unfold at2;rw [Int.toNat_natCast];exact hxb)
 have HOLL:Hid (((o.set ka (xb,yb)).set kb (xa,ya)).length=nO):=zH (by rw [List.length_set,List.length_set,HOL.out])
 have HACT:actP ⟨(nO:Int),H,t,o⟩ ⟨11,(ka:Int),(kb:Int),c⟩=(⟨(nO:Int),H,t,(o.set ka (xb,yb)).set kb (xa,ya)⟩,true):=by
  unfold actP
  rw [if_neg (by simp),if_neg (by simp),if_pos (by rfl),HXA.out,HXB.out,Int.toNat_natCast,Int.toNat_natCast]
 rw [HACT]
 clear HACT
 go_enter Tryz.func82,Tryz.ntmps82
 go_wp2_with fail
 refine (i_IsValidGate _ _ _ _ _ _).mono ?_
 rintro e w1 ⟨rfl,b1⟩
 rw [HK.out]
 have X0a:=zH (X0.out.below b1)
 have X1a:=zH (X1.out.below b1)
 have X2a:=zH (X2.out.below b1)
 have B1:=zH (below_trans BZ.out b1)
 have hl2:w.heap.size+1+1 < w1.heap.size:=X2a.out.lt
 have hl1:w.heap.size+1 < w1.heap.size:=by omega
 have hl0:w.heap.size < w1.heap.size:=by omega
 clear b1 X0 X1 X2 BZ
 obtain ⟨p0,p1,p2,p3,pf0,pf1,pf2,pf3⟩:=X0a.out.four
 obtain ⟨q0,q1,q2,q3,qf0,qf1,qf2,qf3⟩:=X1a.out.four
 obtain ⟨r0,r1,r2,r3,rf0,rf1,rf2,rf3⟩:=X2a.out.four
 go_wp2_with fail
 refine (i_copyPoly _ _ _ _ _ t _ _ _ o _ (HT.out.below B1.out) (HO.out.below B1.out) (by omega) (by omega)).mono ?_
 rintro e w2 ⟨v,rfl,⟨A2,c2,B2,d2,rfl,t2,o2⟩,b2⟩
 rw [HT.out.1] at t2 ⊢
 rw [HO.out.1] at o2 ⊢
 have X0b:=zH ((X0a.out.below b2).alloc (.cells #[.int .i64 (nO:Int),.int .i64 H,.slice A2 nT c2,.slice B2 nO d2] 88))
 have X1b:=zH ((X1a.out.below b2).alloc (.cells #[.int .i64 (nO:Int),.int .i64 H,.slice A2 nT c2,.slice B2 nO d2] 88))
 have X2b:=zH ((X2a.out.below b2).alloc (.cells #[.int .i64 (nO:Int),.int .i64 H,.slice A2 nT c2,.slice B2 nO d2] 88))
 have XO:=zH (Bx.new w2 88 #[.int .i64 (nO:Int),.int .i64 H,.slice A2 nT c2,.slice B2 nO d2])
 have TO:=zH (t2.alloc (.cells #[.int .i64 (nO:Int),.int .i64 H,.slice A2 nT c2,.slice B2 nO d2] 88))
 have OO:=zH (o2.alloc (.cells #[.int .i64 (nO:Int),.int .i64 H,.slice A2 nT c2,.slice B2 nO d2] 88))
 have BW2:=zH (show Below w.heap.size w (w2.alloc (.cells #[.int .i64 (nO:Int),.int .i64 H,.slice A2 nT c2,.slice B2 nO d2] 88)) from (below_trans B1.out b2).alloc (below_trans B1.out b2).size _)
 have hbg:w1.heap.size<=w2.heap.size:=b2.size
 clear p0 p1 p2 p3 pf0 pf1 pf2 pf3 q0 q1 q2 q3 qf0 qf1 qf2 qf3 r0 r1 r2 r3 rf0 rf1 rf2 rf3
 obtain ⟨p0,p1,p2,p3,_⟩:=(X0a.out.below b2).four
 obtain ⟨q0,q1,q2,q3,_⟩:=(X1a.out.below b2).four
 obtain ⟨r0,r1,r2,r3,_⟩:=(X2a.out.below b2).four
 have hv0:w.heap.size < w2.heap.size:=by omega
 have hv1:w.heap.size+1 < w2.heap.size:=by omega
 have hv2:w.heap.size+1+1 < w2.heap.size:=by omega
 clear t2 o2 b2 X0a X1a X2a
 go_upto_region 4 with fail
 clear p0 p1 p2 p3 q0 q1 q2 q3 r0 r1 r2 r3
 generalize w2.alloc (.cells #[.int .i64 (nO:Int),.int .i64 H,.slice A2 nT c2,.slice B2 nO d2] 88)=wz at X0b X1b X2b XO TO OO BW2 ⊢
 generalize w2.heap.size=gp at XO hbg ⊢
 have HOz:=zH (HO.out.below BW2.out)
 have HTz:=zH (HT.out.below BW2.out)
 obtain ⟨p0,p1,p2,p3,pf0,pf1,pf2,pf3⟩:=X0b.out.four
 obtain ⟨q0,q1,q2,q3,qf0,qf1,qf2,qf3⟩:=X1b.out.four
 obtain ⟨r0,r1,r2,r3,rf0,rf1,rf2,rf3⟩:=X2b.out.four
 obtain ⟨s0,s1,s2,s3,sf0,sf1,sf2,sf3⟩:=XO.out.four
 have hz0:=X0b.out.lt
 have hz1:=X1b.out.lt
 have hz2:=X2b.out.lt
 have hzg:=XO.out.lt
 have hz2x:w.heap.size+1+1 < wz.heap.size+1:=by omega
 have hgr:gp ≠ w.heap.size+1+1:=by omega
 have hgr':w.heap.size+1+1 ≠ gp:=by omega
 have hg0:gp ≠ w.heap.size:=by omega
 have hg1:gp ≠ w.heap.size+1:=by omega
 obtain ⟨bo,off,rfl,hbo,e0,e1⟩:=rd2At HOz.out hkan
 rw [hxa] at e0 e1
 obtain ⟨bo',off',hAB,hbo',e2,e3⟩:=rd2At HOz.out hkbn
 injection hAB with hAB
 injection hAB with hA1 hA2 _
 subst hA1 hA2
 rw [hxb] at e2 e3
 obtain ⟨gB,rfl,hgB0,hgBl,m0,m1,n0,n1⟩:=own2At OO.out hkan
 rw [hxa] at m0 m1
 have hngB:some gp ≠ some gB:=own_bx_ne OO.out XO.out (by decide)
 have hgB1:gB ≠ gp:=fun e=>hngB (by rw [e])
 have hgB2:gp ≠ gB:=fun e=>hngB (by rw [e])
 have hgB3:w.heap.size+1+1 ≠ gB:=by omega
 have hgB4:w.heap.size ≠ gB:=by omega
 have hgB5:w.heap.size+1 ≠ gB:=by omega
 obtain ⟨gB',hGB,_,_,m2,m3,n2,n3⟩:=own2At OO.out hkbn
 injection hGB with hGB
 injection hGB with hG1 _ _
 subst hG1
 rw [hxb] at m2 m3
 have HTN:Hid (some gB ≠ (Value.slice A2 nT c2).ownBlock):=zH (fun e=>by rcases own_types OO.out TO.out (by decide) with h | h;exact absurd h (by simp [Value.ownBlock]);exact h e)
 have X0c:=zH (Bx.drew (Bx.far (Bx.far (X0b.out) (p:=⟨gB,ka * 2,none⟩) hgB4 (.int .i64 (xb))) (p:=⟨gB,ka * 2+1,none⟩) hgB4 (.int .i64 (yb))))
 have X1c:=zH (Bx.drew (Bx.far (Bx.far (X1b.out) (p:=⟨gB,ka * 2,none⟩) hgB5 (.int .i64 (xb))) (p:=⟨gB,ka * 2+1,none⟩) hgB5 (.int .i64 (yb))))
 have X2c:=zH (Bx.drew (Bx.far (Bx.far (X2b.out) (p:=⟨gB,ka * 2,none⟩) hgB3 (.int .i64 (xb))) (p:=⟨gB,ka * 2+1,none⟩) hgB3 (.int .i64 (yb))))
 have XOc:=zH (Bx.drew (Bx.far (Bx.far (XO.out) (p:=⟨gB,ka * 2,none⟩) hgB2 (.int .i64 (xb))) (p:=⟨gB,ka * 2+1,none⟩) hgB2 (.int .i64 (yb))))
 have TOc:=zH (ownsRow_drew (own_set_ne (own_set_ne (TO.out) (p:=⟨gB,ka * 2,none⟩) HTN.out (.int .i64 (xb))) (p:=⟨gB,ka * 2+1,none⟩) HTN.out (.int .i64 (yb))))
 have OOc:=zH (ownsRow_drew ((World.ownsRow.stored ((World.ownsRow.stored (OO.out) (ka * 2) (.int .i64 (xb))).1) (ka * 2+1) (.int .i64 (yb))).1))
 have BWc:=zH (Below.drew (Below.setCell (Below.setCell (BW2.out) (p:=⟨gB,ka * 2,none⟩) (show w.heap.size<=gB by omega) (.int .i64 (xb))) (p:=⟨gB,ka * 2+1,none⟩) (show w.heap.size<=gB by omega) (.int .i64 (yb))))
 dsimp only at e0 e1 e2 e3 m0 m1 m2 m3
 have hab:kb ≠ ka:=by have:=okG_ne HK.out (by decide);omega
 go_wp2_with fail
 go_still_tail 11,(by kernel_rfl)
 change wpList Tryz.prog _ _ _ _ wz.drew
 go_wp2_with fail
 clear p0 p1 p2 p3 pf0 pf1 pf2 pf3 q0 q1 q2 q3 qf0 qf1 qf2 qf3 r0 r1 r2 r3 rf0 rf1 rf2 rf3 s0 s1 s2 s3 sf0 sf1 sf2 sf3 m0 m1 m2 m3 n0 n1 n2 n3
 clear e0 e1 e2 e3
 have OOL:(cellsP o).length=nO * 2:=OO.out.1
 generalize ((wz.setCell ⟨gB,ka * 2,none⟩ (.int .i64 (xb))).setCell ⟨gB,ka * 2+1,none⟩ (.int .i64 (yb))).drew=wy at X0c X1c X2c XOc TOc OOc BWc ⊢
 obtain ⟨p0,p1,p2,p3,pf0,pf1,pf2,pf3⟩:=X0c.out.four
 obtain ⟨q0,q1,q2,q3,qf0,qf1,qf2,qf3⟩:=X1c.out.four
 obtain ⟨r0,r1,r2,r3,rf0,rf1,rf2,rf3⟩:=X2c.out.four
 obtain ⟨s0,s1,s2,s3,sf0,sf1,sf2,sf3⟩:=XOc.out.four
 obtain ⟨bo2,off2,hAA,hbo2,e0,e1⟩:=rd2At (HO.out.below BWc.out) hkan
 injection hAA with hAA
 injection hAA with hA5 hA6 _
 subst hA5 hA6
 rw [hxa] at e0 e1
 dsimp only at e0 e1
 have hyy0:=X0c.out.lt
 have m2:∃ v,wy.cell? ⟨gB,kb * 2,none⟩=some v:=⟨_,(OOc.out.cellAt (kb * 2) (by omega)).trans (List.getElem?_eq_getElem (by simp [OOL];omega))⟩
 have m3:∃ v,wy.cell? ⟨gB,kb * 2+1,none⟩=some v:=⟨_,(OOc.out.cellAt (kb * 2+1) (by omega)).trans (List.getElem?_eq_getElem (by simp [OOL];omega))⟩
 obtain ⟨v2,m2⟩:=m2
 obtain ⟨v3,m3⟩:=m3
 have n2:=OOc.out.frozenAt (kb * 2)
 have n3:=OOc.out.frozenAt (kb * 2+1)
 have S2:=zH (OOc.out.stored (kb * 2) (.int .i64 xa))
 have S3:=zH (S2.out.1.stored (kb * 2+1) (.int .i64 ya))
 have T1:=zH (own_set_ne (own_set_ne TOc.out (p:=⟨gB,kb * 2,none⟩) HTN.out (.int .i64 xa)) (p:=⟨gB,kb * 2+1,none⟩) HTN.out (.int .i64 ya))
 have O1:=zH (show ((wy.setCell ⟨gB,kb * 2,none⟩ (.int .i64 xa)).setCell ⟨gB,kb * 2+1,none⟩ (.int .i64 ya)).ownsRow w1.heap.size 93 2 (.slice (some ⟨gB,0,none⟩) nO d2) nO (cellsP ((o.set ka (xb,yb)).set kb (xa,ya))) from by rw [<- set_pair _ _ _ _ (by rw [List.length_set];have:=HOL.out;omega),<- set_pair _ _ _ _ (by have:=HOL.out;omega)];exact S3.out.1)
 have B1w:=zH ((BWc.out.setCell (p:=⟨gB,kb * 2,none⟩) (show w.heap.size<=gB by omega) (.int .i64 xa)).setCell (p:=⟨gB,kb * 2+1,none⟩) (show w.heap.size<=gB by omega) (.int .i64 ya))
 clear hxa hxb
 go_still_tail 11,(by kernel_rfl)
 change wpList Tryz.prog _ _ _ _ wy.drew
 go_wp2_with fail
 refine bodyPost_ret (v:=.tuple #[.agg #[.int .i64 (nO:Int),.int .i64 H,.slice A2 nT c2,.slice (some ⟨gB,0,none⟩) nO d2],.bool true]) (by simp [results,Tryz.results82,go_sem,r0,r1,r2,r3]) rfl ⟨_,rfl,⟨A2,c2,(some ⟨gB,0,none⟩),d2,?_,?_,?_⟩,?_⟩
 rotate_left
 ·rw [HTL.out]
  refine ownsRow_drew ?_
  exact ownsRow_base (own_set4 (T1.out) (by omega)) (by omega)
 ·rw [HOLL.out]
  refine ownsRow_drew ?_
  exact ownsRow_base (own_set4 (O1.out) (by omega)) (by omega)
 ·refine Below.drew ?_
  exact below_set4 (B1w.out) (by omega)
 ·rw [HTL.out,HOLL.out]
theorem i_ApplyP (N H:Int) (AT:Option Addr) (nT cT:Nat) (t:List (Int × Int)) (AO:Option Addr) (nO cO:Nat) (o:List (Int × Int)) (g:Gt) (w:World) (hT:RdP w AT nT t) (hO:RdP w AO nO o) (hnT:nT<=274877906944) (hnO:nO<=274877906944) (hcT:nT<=cT) :
  Calls Tryz.prog 82 #[.agg #[.int .i64 N,.int .i64 H,.slice AT nT cT,.slice AO nO cO],.agg #[.int .i64 g.k,.int .i64 g.a,.int .i64 g.b,.int .i64 g.c]] w (RetPB (applyP ⟨N,H,t,o⟩ g) w):=by
 obtain ⟨k,a,b,c⟩:=g
 cases hok:okP ⟨N,H,t,o⟩ ⟨k,a,b,c⟩
 ·rw [applyP_no hok]
  exact i_AG_no N H AT nT cT t AO nO cO o k a b c w hT hO hnT hnO hcT hok
 ·rw [applyP_yes hok]
  by_cases h1:k=1
  ·subst h1;exact i_AG_x N H AT nT cT t AO nO cO o a b c w hT hO hnT hnO hcT hok
  by_cases h9:k=9
  ·subst h9;exact i_AG_cx N H AT nT cT t AO nO cO o a b c w hT hO hnT hnO hcT hok
  by_cases h11:k=11
  ·subst h11;exact i_AG_sw N H AT nT cT t AO nO cO o a b c w hT hO hnT hnO hcT hok
  have e1:(k == 1)=false:=by simpa using h1
  have e9:(k == 9)=false:=by simpa using h9
  have e11:(k == 11)=false:=by simpa using h11
  by_cases hu:units k=0
  ·have ha:actP ⟨N,H,t,o⟩ ⟨k,a,b,c⟩=(Po.zero,false):=by
    unfold actP
    rw [if_neg (by rw [e1];simp),if_neg (by rw [e9];simp),if_neg (by rw [e11];simp),if_pos (by rw [hu];rfl)]
   rw [ha]
   exact i_AG_df N H AT nT cT t AO nO cO o k a b c w hT hO hnT hnO hcT hok e1 e9 e11 hu
  exact i_AG_r N H AT nT cT t AO nO cO o k a b c w hT hO hnT hnO hcT hok e1 e9 e11 hu
end Go.Proofs.YtmenmibfkojnoaaGreat
