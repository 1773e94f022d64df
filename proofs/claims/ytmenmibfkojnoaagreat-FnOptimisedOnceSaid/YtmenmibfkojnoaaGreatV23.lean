/- Contract of PhasePolynomialApplyGate (spec). At most 2^38 terms and outputs. -/
import Derived.Test.YtmenmibfkojnoaaGreatV02
import Derived.Test.YtmenmibfkojnoaaGreatV18
import Derived.Test.YtmenmibfkojnoaaGreatV22
import Derived.Deep.RegionHeld3
set_option maxHeartbeats 16000000
namespace Go.Proofs.YtmenmibfkojnoaaGreat
open Go.RowKit
set_option linter.unusedVariables false
set_option maxRecDepth 100000 in
theorem s_AG_no (N H:Int) (AT:Option Addr) (nT cT:Nat) (t:List (Int × Int)) (AO:Option Addr) (nO cO:Nat) (o:List (Int × Int)) (k a b c:Int) (w:World) (hT:RdP w AT nT t) (hO:RdP w AO nO o) (_hnT:nT<=274877906944) (_hnO:nO<=274877906944) (_hcT:nT<=cT) (hno:okP ⟨N,H,t,o⟩ ⟨k,a,b,c⟩=false) :
  Calls Tryz.prog 101 #[.agg #[.int .i64 N,.int .i64 H,.slice AT nT cT,.slice AO nO cO],.agg #[.int .i64 k,.int .i64 a,.int .i64 b,.int .i64 c]] w (RetPB (Po.zero,false) w):=by
 have hol:=hO.1
 have HT:=zH hT
 have HO:=zH hO
 clear hT hO
 have X0:=zH (show Bx (((w.alloc (.cells #[.int .i64 N,.int .i64 H,.slice AT nT cT,.slice AO nO cO] 88)).alloc (.cells #[.int .i64 k,.int .i64 a,.int .i64 b,.int .i64 c] 39)).alloc (.cells #[.int .i64 0,.int .i64 0,.slice none 0 0,.slice none 0 0] 88)) w.heap.size 88 #[.int .i64 N,.int .i64 H,.slice AT nT cT,.slice AO nO cO] from ((Bx.new w _ _).alloc _).alloc _)
 have X1:=zH (show Bx (((w.alloc (.cells #[.int .i64 N,.int .i64 H,.slice AT nT cT,.slice AO nO cO] 88)).alloc (.cells #[.int .i64 k,.int .i64 a,.int .i64 b,.int .i64 c] 39)).alloc (.cells #[.int .i64 0,.int .i64 0,.slice none 0 0,.slice none 0 0] 88)) (w.heap.size+1) 39 #[.int .i64 k,.int .i64 a,.int .i64 b,.int .i64 c] from (Bx.new' (by simp)).alloc _)
 have X2:=zH (show Bx (((w.alloc (.cells #[.int .i64 N,.int .i64 H,.slice AT nT cT,.slice AO nO cO] 88)).alloc (.cells #[.int .i64 k,.int .i64 a,.int .i64 b,.int .i64 c] 39)).alloc (.cells #[.int .i64 0,.int .i64 0,.slice none 0 0,.slice none 0 0] 88)) (w.heap.size+1+1) 88 #[.int .i64 0,.int .i64 0,.slice none 0 0,.slice none 0 0] from Bx.new' (by simp))
 have BZ:Hid (Below w.heap.size w (((w.alloc (.cells #[.int .i64 N,.int .i64 H,.slice AT nT cT,.slice AO nO cO] 88)).alloc (.cells #[.int .i64 k,.int .i64 a,.int .i64 b,.int .i64 c] 39)).alloc (.cells #[.int .i64 0,.int .i64 0,.slice none 0 0,.slice none 0 0] 88))):=zH ((((zW).alloc zR _).alloc (by simp) _).alloc (by simp<;>omega) _)
 rcases okP_no hno with hk | ⟨hk,hne⟩
 ·have HK:=zH hk
  clear hno hk hol
  go_enter Tryz.func101,Tryz.ntmps101
  go_wp2_with fail
  refine (s_IsValidGate _ _ _ _ _ _).mono ?_
  rintro e w1 ⟨rfl,b1⟩
  rw [HK.out]
  have X0a:=zH (X0.out.below b1)
  have X1a:=zH (X1.out.below b1)
  have X2a:=zH (X2.out.below b1)
  have B1:=zH (below_trans BZ.out b1)
  have hl2:w.heap.size+1+1 < w1.heap.size:=X2a.out.lt
  have hl1:w.heap.size+1 < w1.heap.size:=by omega
  have hl0:w.heap.size < w1.heap.size:=by omega
  clear b1 X0 X1 X2 BZ
  obtain ⟨p0,p1,p2,p3,pf0,pf1,pf2,pf3⟩:=X0a.out.four
  obtain ⟨q0,q1,q2,q3,qf0,qf1,qf2,qf3⟩:=X1a.out.four
  obtain ⟨r0,r1,r2,r3,rf0,rf1,rf2,rf3⟩:=X2a.out.four
  go_wp2_with fail
  refine bodyPost_ret (v:=.tuple #[.agg #[.int .i64 0,.int .i64 0,.slice none 0 0,.slice none 0 0],.bool false]) (by simp [results,Tryz.results101,go_sem,r0,r1,r2,r3]) rfl ⟨_,rfl,⟨none,0,none,0,rfl,World.ownsRow_nil _ _ _ _,World.ownsRow_nil _ _ _ _⟩,?_⟩
  exact below_set4 B1.out (by omega)
 ·have HK:=zH hk
  have hne1:((nO:Int) != N)=true:=by (rw [show o.length=nO from hol] at hne;simpa using hne)
  clear hno hk hol hne
  go_enter Tryz.func101,Tryz.ntmps101
  go_wp2_with fail
  refine (s_IsValidGate _ _ _ _ _ _).mono ?_
  rintro e w1 ⟨rfl,b1⟩
  rw [HK.out]
  have X0a:=zH (X0.out.below b1)
  have X1a:=zH (X1.out.below b1)
  have X2a:=zH (X2.out.below b1)
  have B1:=zH (below_trans BZ.out b1)
  have hl2:w.heap.size+1+1 < w1.heap.size:=X2a.out.lt
  have hl1:w.heap.size+1 < w1.heap.size:=by omega
  have hl0:w.heap.size < w1.heap.size:=by omega
  clear b1 X0 X1 X2 BZ
  obtain ⟨p0,p1,p2,p3,pf0,pf1,pf2,pf3⟩:=X0a.out.four
  obtain ⟨q0,q1,q2,q3,qf0,qf1,qf2,qf3⟩:=X1a.out.four
  obtain ⟨r0,r1,r2,r3,rf0,rf1,rf2,rf3⟩:=X2a.out.four
  go_wp2_with fail
  refine bodyPost_ret (v:=.tuple #[.agg #[.int .i64 0,.int .i64 0,.slice none 0 0,.slice none 0 0],.bool false]) (by simp [results,Tryz.results101,go_sem,r0,r1,r2,r3]) rfl ⟨_,rfl,⟨none,0,none,0,rfl,World.ownsRow_nil _ _ _ _,World.ownsRow_nil _ _ _ _⟩,?_⟩
  exact below_set4 B1.out (by omega)
set_option maxRecDepth 100000 in
theorem s_AG_x (N H:Int) (AT:Option Addr) (nT cT:Nat) (t:List (Int × Int)) (AO:Option Addr) (nO cO:Nat) (o:List (Int × Int)) (a b c:Int) (w:World) (hT:RdP w AT nT t) (hO:RdP w AO nO o) (hnT:nT<=274877906944) (hnO:nO<=274877906944) (hcT:nT<=cT) (hok:okP ⟨N,H,t,o⟩ ⟨1,a,b,c⟩=true)  :
  Calls Tryz.prog 101 #[.agg #[.int .i64 N,.int .i64 H,.slice AT nT cT,.slice AO nO cO],.agg #[.int .i64 1,.int .i64 a,.int .i64 b,.int .i64 c]] w (RetPB (actP ⟨N,H,t,o⟩ ⟨1,a,b,c⟩) w):=by
 have hol:=hO.1
 have HT:=zH hT
 have HO:=zH hO
 clear hT hO
 have X0:=zH (show Bx (((w.alloc (.cells #[.int .i64 N,.int .i64 H,.slice AT nT cT,.slice AO nO cO] 88)).alloc (.cells #[.int .i64 1,.int .i64 a,.int .i64 b,.int .i64 c] 39)).alloc (.cells #[.int .i64 0,.int .i64 0,.slice none 0 0,.slice none 0 0] 88)) w.heap.size 88 #[.int .i64 N,.int .i64 H,.slice AT nT cT,.slice AO nO cO] from ((Bx.new w _ _).alloc _).alloc _)
 have X1:=zH (show Bx (((w.alloc (.cells #[.int .i64 N,.int .i64 H,.slice AT nT cT,.slice AO nO cO] 88)).alloc (.cells #[.int .i64 1,.int .i64 a,.int .i64 b,.int .i64 c] 39)).alloc (.cells #[.int .i64 0,.int .i64 0,.slice none 0 0,.slice none 0 0] 88)) (w.heap.size+1) 39 #[.int .i64 1,.int .i64 a,.int .i64 b,.int .i64 c] from (Bx.new' (by simp)).alloc _)
 have X2:=zH (show Bx (((w.alloc (.cells #[.int .i64 N,.int .i64 H,.slice AT nT cT,.slice AO nO cO] 88)).alloc (.cells #[.int .i64 1,.int .i64 a,.int .i64 b,.int .i64 c] 39)).alloc (.cells #[.int .i64 0,.int .i64 0,.slice none 0 0,.slice none 0 0] 88)) (w.heap.size+1+1) 88 #[.int .i64 0,.int .i64 0,.slice none 0 0,.slice none 0 0] from Bx.new' (by simp))
 have BZ:Hid (Below w.heap.size w (((w.alloc (.cells #[.int .i64 N,.int .i64 H,.slice AT nT cT,.slice AO nO cO] 88)).alloc (.cells #[.int .i64 1,.int .i64 a,.int .i64 b,.int .i64 c] 39)).alloc (.cells #[.int .i64 0,.int .i64 0,.slice none 0 0,.slice none 0 0] 88))):=zH ((((zW).alloc zR _).alloc (by simp) _).alloc (by simp<;>omega) _)
 obtain ⟨hk,hN⟩:=okP_parts hok
 dsimp only at hk hN
 obtain ⟨_,hN4,ha0,haN,hb0,hbN⟩:=okG_abn hk
 have HK:=zH hk
 obtain ⟨ka,hka⟩:∃ k:Nat,a=k:=⟨a.toNat,by omega⟩
 obtain ⟨kb,hkb⟩:∃ k:Nat,b=k:=⟨b.toNat,by omega⟩
 rw [hol] at hN
 subst hN
 have HOL:=zH hol
 have hkan:ka < nO:=by omega
 have hkbn:kb < nO:=by omega
 have hka0:(0:Int)<=(ka:Int):=by omega
 have hkaI:(ka:Int) < (nO:Int):=by omega
 have hkb0:(0:Int)<=(kb:Int):=by omega
 have hkbI:(kb:Int) < (nO:Int):=by omega
 have hnOO:((nO:Int) != (nO:Int))=false:=by simp
 subst hka hkb
 clear hok hk hol ha0 haN hb0 hbN
 have HTL:Hid (t.length=nT):=zH HT.out.1
 obtain ⟨xa,ya,hxa⟩:∃ x y,o.getD ka (0,0)=(x,y):=⟨_,_,rfl⟩
 have HXA:Hid (at2 o (ka:Int)=(xa,ya)):=zH (by unfold at2;rw [Int.toNat_natCast];exact hxa)
 have HOLL:Hid ((o.set ka (xa,wrap64 (1 - ya))).length=nO):=zH (by rw [List.length_set,HOL.out])
 have HACT:actP ⟨(nO:Int),H,t,o⟩ ⟨1,(ka:Int),(kb:Int),c⟩=(⟨(nO:Int),H,t,o.set ka (xa,wrap64 (1 - ya))⟩,true):=by
  unfold actP
  rw [if_pos (by rfl),HXA.out,Int.toNat_natCast]
 rw [HACT]
 clear HACT
 go_enter Tryz.func101,Tryz.ntmps101
 go_wp2_with fail
 refine (s_IsValidGate _ _ _ _ _ _).mono ?_
 rintro e w1 ⟨rfl,b1⟩
 rw [HK.out]
 have X0a:=zH (X0.out.below b1)
 have X1a:=zH (X1.out.below b1)
 have X2a:=zH (X2.out.below b1)
 have B1:=zH (below_trans BZ.out b1)
 have hl2:w.heap.size+1+1 < w1.heap.size:=X2a.out.lt
 have hl1:w.heap.size+1 < w1.heap.size:=by omega
 have hl0:w.heap.size < w1.heap.size:=by omega
 clear b1 X0 X1 X2 BZ
 obtain ⟨p0,p1,p2,p3,pf0,pf1,pf2,pf3⟩:=X0a.out.four
 obtain ⟨q0,q1,q2,q3,qf0,qf1,qf2,qf3⟩:=X1a.out.four
 obtain ⟨r0,r1,r2,r3,rf0,rf1,rf2,rf3⟩:=X2a.out.four
 go_wp2_with fail
 refine (s_l32Copy _ _ _ _ _ t _ _ _ o _ (HT.out.below B1.out) (HO.out.below B1.out) (by omega) (by omega)).mono ?_
 rintro e w2 ⟨v,rfl,⟨A2,c2,B2,d2,rfl,t2,o2⟩,b2⟩
 rw [HT.out.1] at t2 ⊢
 rw [HO.out.1] at o2 ⊢
 have X0b:=zH ((X0a.out.below b2).alloc (.cells #[.int .i64 (nO:Int),.int .i64 H,.slice A2 nT c2,.slice B2 nO d2] 88))
 have X1b:=zH ((X1a.out.below b2).alloc (.cells #[.int .i64 (nO:Int),.int .i64 H,.slice A2 nT c2,.slice B2 nO d2] 88))
 have X2b:=zH ((X2a.out.below b2).alloc (.cells #[.int .i64 (nO:Int),.int .i64 H,.slice A2 nT c2,.slice B2 nO d2] 88))
 have XO:=zH (Bx.new w2 88 #[.int .i64 (nO:Int),.int .i64 H,.slice A2 nT c2,.slice B2 nO d2])
 have TO:=zH (t2.alloc (.cells #[.int .i64 (nO:Int),.int .i64 H,.slice A2 nT c2,.slice B2 nO d2] 88))
 have OO:=zH (o2.alloc (.cells #[.int .i64 (nO:Int),.int .i64 H,.slice A2 nT c2,.slice B2 nO d2] 88))
 have BW2:=zH (show Below w.heap.size w (w2.alloc (.cells #[.int .i64 (nO:Int),.int .i64 H,.slice A2 nT c2,.slice B2 nO d2] 88)) from (below_trans B1.out b2).alloc (below_trans B1.out b2).size _)
 have hbg:w1.heap.size<=w2.heap.size:=b2.size
 clear p0 p1 p2 p3 pf0 pf1 pf2 pf3 q0 q1 q2 q3 qf0 qf1 qf2 qf3 r0 r1 r2 r3 rf0 rf1 rf2 rf3
 obtain ⟨p0,p1,p2,p3,_⟩:=(X0a.out.below b2).four
 obtain ⟨q0,q1,q2,q3,_⟩:=(X1a.out.below b2).four
 obtain ⟨r0,r1,r2,r3,_⟩:=(X2a.out.below b2).four
 have hv0:w.heap.size < w2.heap.size:=by omega
 have hv1:w.heap.size+1 < w2.heap.size:=by omega
 have hv2:w.heap.size+1+1 < w2.heap.size:=by omega
 clear t2 o2 b2 X0a X1a X2a
 go_wp2_with fail
 clear p0 p1 p2 p3 q0 q1 q2 q3 r0 r1 r2 r3
 generalize w2.alloc (.cells #[.int .i64 (nO:Int),.int .i64 H,.slice A2 nT c2,.slice B2 nO d2] 88)=wz at X0b X1b X2b XO TO OO BW2 ⊢
 generalize w2.heap.size=gp at XO hbg ⊢
 have HOz:=zH (HO.out.below BW2.out)
 have HTz:=zH (HT.out.below BW2.out)
 obtain ⟨p0,p1,p2,p3,pf0,pf1,pf2,pf3⟩:=X0b.out.four
 obtain ⟨q0,q1,q2,q3,qf0,qf1,qf2,qf3⟩:=X1b.out.four
 obtain ⟨r0,r1,r2,r3,rf0,rf1,rf2,rf3⟩:=X2b.out.four
 obtain ⟨s0,s1,s2,s3,sf0,sf1,sf2,sf3⟩:=XO.out.four
 have hz0:=X0b.out.lt
 have hz1:=X1b.out.lt
 have hz2:=X2b.out.lt
 have hzg:=XO.out.lt
 have hz2x:w.heap.size+1+1 < wz.heap.size+1:=by omega
 have hgr:gp ≠ w.heap.size+1+1:=by omega
 have hgr':w.heap.size+1+1 ≠ gp:=by omega
 have hg0:gp ≠ w.heap.size:=by omega
 have hg1:gp ≠ w.heap.size+1:=by omega
 refine (s_RotationUnits _ _).mono ?_
 rintro e w' ⟨rfl,rfl⟩
 rw [show units 1=0 from rfl]
 obtain ⟨bo,off,rfl,hbo,e0,e1⟩:=rd2At HOz.out hkan
 rw [hxa] at e0 e1
 obtain ⟨gB,rfl,hgB0,hgBl,m0,m1,n0,n1⟩:=own2At OO.out hkan
 rw [hxa] at m0 m1
 have hngB:some gp ≠ some gB:=own_bx_ne OO.out XO.out (by decide)
 have hgB1:gB ≠ gp:=fun e=>hngB (by rw [e])
 have hgB2:gp ≠ gB:=fun e=>hngB (by rw [e])
 have hgB3:w.heap.size+1+1 ≠ gB:=by omega
 have hgB4:w.heap.size ≠ gB:=by omega
 have hgB5:w.heap.size+1 ≠ gB:=by omega
 have S1:=zH (OO.out.stored (ka * 2+1) (.int .i64 (wrap64 (1 - ya))))
 have T1:=zH (TO.out.kept S1.out.2 (own_types TO.out OO.out (by decide)))
 have O1:=zH (show (wz.setCell ⟨gB,ka * 2+1,none⟩ (.int .i64 (wrap64 (1 - ya)))).ownsRow w1.heap.size 93 2 (.slice (some ⟨gB,0,none⟩) nO d2) nO (cellsP (o.set ka (xa,wrap64 (1 - ya)))) from by have e:=set_two o ka (wrap64 (1 - ya)) (by have:=HOL.out;omega);rw [hxa] at e;rw [<- e];exact S1.out.1)
 have B1w:=zH (BW2.out.setCell (p:=⟨gB,ka * 2+1,none⟩) (show w.heap.size<=gB by omega) (.int .i64 (wrap64 (1 - ya))))
 clear hxa
 dsimp only at e0 e1 m0 m1
 go_wp2_with fail
 refine bodyPost_ret (v:=.tuple #[.agg #[.int .i64 (nO:Int),.int .i64 H,.slice A2 nT c2,.slice (some ⟨gB,0,none⟩) nO d2],.bool true]) (by simp [results,Tryz.results101,go_sem,r0,r1,r2,r3,hz2]) rfl ⟨_,rfl,⟨A2,c2,(some ⟨gB,0,none⟩),d2,?_,?_,?_⟩,?_⟩
 rotate_left
 ·rw [HTL.out]
  exact ownsRow_base (World.ownsRow.alloc (own_set4 (T1.out) (by omega)) _) (by omega)
 ·rw [HOLL.out]
  exact ownsRow_base (World.ownsRow.alloc (own_set4 (O1.out) (by omega)) _) (by omega)
 ·exact below_al (below_set4 (B1w.out) (by omega))
 ·rw [HTL.out,HOLL.out]
set_option maxRecDepth 100000 in
theorem s_AG_cx (N H:Int) (AT:Option Addr) (nT cT:Nat) (t:List (Int × Int)) (AO:Option Addr) (nO cO:Nat) (o:List (Int × Int)) (a b c:Int) (w:World) (hT:RdP w AT nT t) (hO:RdP w AO nO o) (hnT:nT<=274877906944) (hnO:nO<=274877906944) (hcT:nT<=cT) (hok:okP ⟨N,H,t,o⟩ ⟨9,a,b,c⟩=true)  :
  Calls Tryz.prog 101 #[.agg #[.int .i64 N,.int .i64 H,.slice AT nT cT,.slice AO nO cO],.agg #[.int .i64 9,.int .i64 a,.int .i64 b,.int .i64 c]] w (RetPB (actP ⟨N,H,t,o⟩ ⟨9,a,b,c⟩) w):=by
 have hol:=hO.1
 have HT:=zH hT
 have HO:=zH hO
 clear hT hO
 have X0:=zH (show Bx (((w.alloc (.cells #[.int .i64 N,.int .i64 H,.slice AT nT cT,.slice AO nO cO] 88)).alloc (.cells #[.int .i64 9,.int .i64 a,.int .i64 b,.int .i64 c] 39)).alloc (.cells #[.int .i64 0,.int .i64 0,.slice none 0 0,.slice none 0 0] 88)) w.heap.size 88 #[.int .i64 N,.int .i64 H,.slice AT nT cT,.slice AO nO cO] from ((Bx.new w _ _).alloc _).alloc _)
 have X1:=zH (show Bx (((w.alloc (.cells #[.int .i64 N,.int .i64 H,.slice AT nT cT,.slice AO nO cO] 88)).alloc (.cells #[.int .i64 9,.int .i64 a,.int .i64 b,.int .i64 c] 39)).alloc (.cells #[.int .i64 0,.int .i64 0,.slice none 0 0,.slice none 0 0] 88)) (w.heap.size+1) 39 #[.int .i64 9,.int .i64 a,.int .i64 b,.int .i64 c] from (Bx.new' (by simp)).alloc _)
 have X2:=zH (show Bx (((w.alloc (.cells #[.int .i64 N,.int .i64 H,.slice AT nT cT,.slice AO nO cO] 88)).alloc (.cells #[.int .i64 9,.int .i64 a,.int .i64 b,.int .i64 c] 39)).alloc (.cells #[.int .i64 0,.int .i64 0,.slice none 0 0,.slice none 0 0] 88)) (w.heap.size+1+1) 88 #[.int .i64 0,.int .i64 0,.slice none 0 0,.slice none 0 0] from Bx.new' (by simp))
 have BZ:Hid (Below w.heap.size w (((w.alloc (.cells #[.int .i64 N,.int .i64 H,.slice AT nT cT,.slice AO nO cO] 88)).alloc (.cells #[.int .i64 9,.int .i64 a,.int .i64 b,.int .i64 c] 39)).alloc (.cells #[.int .i64 0,.int .i64 0,.slice none 0 0,.slice none 0 0] 88))):=zH ((((zW).alloc zR _).alloc (by simp) _).alloc (by simp<;>omega) _)
 obtain ⟨hk,hN⟩:=okP_parts hok
 dsimp only at hk hN
 obtain ⟨_,hN4,ha0,haN,hb0,hbN⟩:=okG_abn hk
 have HK:=zH hk
 obtain ⟨ka,hka⟩:∃ k:Nat,a=k:=⟨a.toNat,by omega⟩
 obtain ⟨kb,hkb⟩:∃ k:Nat,b=k:=⟨b.toNat,by omega⟩
 rw [hol] at hN
 subst hN
 have HOL:=zH hol
 have hkan:ka < nO:=by omega
 have hkbn:kb < nO:=by omega
 have hka0:(0:Int)<=(ka:Int):=by omega
 have hkaI:(ka:Int) < (nO:Int):=by omega
 have hkb0:(0:Int)<=(kb:Int):=by omega
 have hkbI:(kb:Int) < (nO:Int):=by omega
 have hnOO:((nO:Int) != (nO:Int))=false:=by simp
 subst hka hkb
 clear hok hk hol ha0 haN hb0 hbN
 have HTL:Hid (t.length=nT):=zH HT.out.1
 obtain ⟨xa,ya,hxa⟩:∃ x y,o.getD ka (0,0)=(x,y):=⟨_,_,rfl⟩
 have HXA:Hid (at2 o (ka:Int)=(xa,ya)):=zH (by unfold at2;rw [Int.toNat_natCast];exact hxa)
 obtain ⟨xb,yb,hxb⟩:∃ x y,o.getD kb (0,0)=(x,y):=⟨_,_,rfl⟩
 have HXB:Hid (at2 o (kb:Int)=(xb,yb)):=zH (by unfold at2;rw [Int.toNat_natCast];exact hxb)
 have HOLL:Hid ((o.set kb (bits .xor .i64 xa xb,bits .xor .i64 ya yb)).length=nO):=zH (by rw [List.length_set,HOL.out])
 have HACT:actP ⟨(nO:Int),H,t,o⟩ ⟨9,(ka:Int),(kb:Int),c⟩=(⟨(nO:Int),H,t,o.set kb (bits .xor .i64 xa xb,bits .xor .i64 ya yb)⟩,true):=by
  unfold actP
  rw [if_neg (by simp),if_pos (by rfl),HXA.out,HXB.out,Int.toNat_natCast]
 rw [HACT]
 clear HACT
 go_enter Tryz.func101,Tryz.ntmps101
 go_wp2_with fail
 refine (s_IsValidGate _ _ _ _ _ _).mono ?_
 rintro e w1 ⟨rfl,b1⟩
 rw [HK.out]
 have X0a:=zH (X0.out.below b1)
 have X1a:=zH (X1.out.below b1)
 have X2a:=zH (X2.out.below b1)
 have B1:=zH (below_trans BZ.out b1)
 have hl2:w.heap.size+1+1 < w1.heap.size:=X2a.out.lt
 have hl1:w.heap.size+1 < w1.heap.size:=by omega
 have hl0:w.heap.size < w1.heap.size:=by omega
 clear b1 X0 X1 X2 BZ
 obtain ⟨p0,p1,p2,p3,pf0,pf1,pf2,pf3⟩:=X0a.out.four
 obtain ⟨q0,q1,q2,q3,qf0,qf1,qf2,qf3⟩:=X1a.out.four
 obtain ⟨r0,r1,r2,r3,rf0,rf1,rf2,rf3⟩:=X2a.out.four
 go_wp2_with fail
 refine (s_l32Copy _ _ _ _ _ t _ _ _ o _ (HT.out.below B1.out) (HO.out.below B1.out) (by omega) (by omega)).mono ?_
 rintro e w2 ⟨v,rfl,⟨A2,c2,B2,d2,rfl,t2,o2⟩,b2⟩
 rw [HT.out.1] at t2 ⊢
 rw [HO.out.1] at o2 ⊢
 have X0b:=zH ((X0a.out.below b2).alloc (.cells #[.int .i64 (nO:Int),.int .i64 H,.slice A2 nT c2,.slice B2 nO d2] 88))
 have X1b:=zH ((X1a.out.below b2).alloc (.cells #[.int .i64 (nO:Int),.int .i64 H,.slice A2 nT c2,.slice B2 nO d2] 88))
 have X2b:=zH ((X2a.out.below b2).alloc (.cells #[.int .i64 (nO:Int),.int .i64 H,.slice A2 nT c2,.slice B2 nO d2] 88))
 have XO:=zH (Bx.new w2 88 #[.int .i64 (nO:Int),.int .i64 H,.slice A2 nT c2,.slice B2 nO d2])
 have TO:=zH (t2.alloc (.cells #[.int .i64 (nO:Int),.int .i64 H,.slice A2 nT c2,.slice B2 nO d2] 88))
 have OO:=zH (o2.alloc (.cells #[.int .i64 (nO:Int),.int .i64 H,.slice A2 nT c2,.slice B2 nO d2] 88))
 have BW2:=zH (show Below w.heap.size w (w2.alloc (.cells #[.int .i64 (nO:Int),.int .i64 H,.slice A2 nT c2,.slice B2 nO d2] 88)) from (below_trans B1.out b2).alloc (below_trans B1.out b2).size _)
 have hbg:w1.heap.size<=w2.heap.size:=b2.size
 clear p0 p1 p2 p3 pf0 pf1 pf2 pf3 q0 q1 q2 q3 qf0 qf1 qf2 qf3 r0 r1 r2 r3 rf0 rf1 rf2 rf3
 obtain ⟨p0,p1,p2,p3,_⟩:=(X0a.out.below b2).four
 obtain ⟨q0,q1,q2,q3,_⟩:=(X1a.out.below b2).four
 obtain ⟨r0,r1,r2,r3,_⟩:=(X2a.out.below b2).four
 have hv0:w.heap.size < w2.heap.size:=by omega
 have hv1:w.heap.size+1 < w2.heap.size:=by omega
 have hv2:w.heap.size+1+1 < w2.heap.size:=by omega
 clear t2 o2 b2 X0a X1a X2a
 go_wp2_with fail
 clear p0 p1 p2 p3 q0 q1 q2 q3 r0 r1 r2 r3
 generalize w2.alloc (.cells #[.int .i64 (nO:Int),.int .i64 H,.slice A2 nT c2,.slice B2 nO d2] 88)=wz at X0b X1b X2b XO TO OO BW2 ⊢
 generalize w2.heap.size=gp at XO hbg ⊢
 have HOz:=zH (HO.out.below BW2.out)
 have HTz:=zH (HT.out.below BW2.out)
 obtain ⟨p0,p1,p2,p3,pf0,pf1,pf2,pf3⟩:=X0b.out.four
 obtain ⟨q0,q1,q2,q3,qf0,qf1,qf2,qf3⟩:=X1b.out.four
 obtain ⟨r0,r1,r2,r3,rf0,rf1,rf2,rf3⟩:=X2b.out.four
 obtain ⟨s0,s1,s2,s3,sf0,sf1,sf2,sf3⟩:=XO.out.four
 have hz0:=X0b.out.lt
 have hz1:=X1b.out.lt
 have hz2:=X2b.out.lt
 have hzg:=XO.out.lt
 have hz2x:w.heap.size+1+1 < wz.heap.size+1:=by omega
 have hgr:gp ≠ w.heap.size+1+1:=by omega
 have hgr':w.heap.size+1+1 ≠ gp:=by omega
 have hg0:gp ≠ w.heap.size:=by omega
 have hg1:gp ≠ w.heap.size+1:=by omega
 refine (s_RotationUnits _ _).mono ?_
 rintro e w' ⟨rfl,rfl⟩
 rw [show units 9=0 from rfl]
 obtain ⟨bo,off,rfl,hbo,e0,e1⟩:=rd2At HOz.out hkan
 rw [hxa] at e0 e1
 obtain ⟨bo',off',hAB,hbo',e2,e3⟩:=rd2At HOz.out hkbn
 injection hAB with hAB
 injection hAB with hA1 hA2 _
 subst hA1 hA2
 rw [hxb] at e2 e3
 obtain ⟨gB,rfl,hgB0,hgBl,m0,m1,n0,n1⟩:=own2At OO.out hkan
 rw [hxa] at m0 m1
 have hngB:some gp ≠ some gB:=own_bx_ne OO.out XO.out (by decide)
 have hgB1:gB ≠ gp:=fun e=>hngB (by rw [e])
 have hgB2:gp ≠ gB:=fun e=>hngB (by rw [e])
 have hgB3:w.heap.size+1+1 ≠ gB:=by omega
 have hgB4:w.heap.size ≠ gB:=by omega
 have hgB5:w.heap.size+1 ≠ gB:=by omega
 obtain ⟨gB',hGB,_,_,m2,m3,n2,n3⟩:=own2At OO.out hkbn
 injection hGB with hGB
 injection hGB with hG1 _ _
 subst hG1
 rw [hxb] at m2 m3
 have S1:=zH (OO.out.stored (kb * 2) (.int .i64 (bits .xor .i64 xa xb)))
 have S1':=zH (S1.out.1.stored (kb * 2+1) (.int .i64 (bits .xor .i64 ya yb)))
 have T1:=zH ((TO.out.kept S1.out.2 (own_types TO.out OO.out (by decide))).kept S1'.out.2 (own_types (TO.out.kept S1.out.2 (own_types TO.out OO.out (by decide))) S1.out.1 (by decide)))
 have O1:=zH (show ((wz.setCell ⟨gB,kb * 2,none⟩ (.int .i64 (bits .xor .i64 xa xb))).setCell ⟨gB,kb * 2+1,none⟩ (.int .i64 (bits .xor .i64 ya yb))).ownsRow w1.heap.size 93 2 (.slice (some ⟨gB,0,none⟩) nO d2) nO (cellsP ((o).set kb (bits .xor .i64 xa xb,bits .xor .i64 ya yb))) from by rw [<- set_pair _ _ _ _ (by first | (have:=HOL.out;omega) | (rw [List.length_set];have:=HOL.out;omega))];exact S1'.out.1)
 have B1w:=zH ((BW2.out.setCell (p:=⟨gB,kb * 2,none⟩) (show w.heap.size<=gB by omega) (.int .i64 (bits .xor .i64 xa xb))).setCell (p:=⟨gB,kb * 2+1,none⟩) (show w.heap.size<=gB by omega) (.int .i64 (bits .xor .i64 ya yb)))
 clear hxa hxb
 dsimp only at e0 e1 e2 e3 m0 m1 m2 m3
 go_wp2_with fail
 refine bodyPost_ret (v:=.tuple #[.agg #[.int .i64 (nO:Int),.int .i64 H,.slice A2 nT c2,.slice (some ⟨gB,0,none⟩) nO d2],.bool true]) (by simp [results,Tryz.results101,go_sem,r0,r1,r2,r3,hz2,hz2x]) rfl ⟨_,rfl,⟨A2,c2,(some ⟨gB,0,none⟩),d2,?_,?_,?_⟩,?_⟩
 rotate_left
 ·rw [HTL.out]
  exact ownsRow_base (World.ownsRow.alloc (World.ownsRow.alloc (own_set4 (T1.out) (by omega)) _) _) (by omega)
 ·rw [HOLL.out]
  exact ownsRow_base (World.ownsRow.alloc (World.ownsRow.alloc (own_set4 (O1.out) (by omega)) _) _) (by omega)
 ·exact below_al (below_al (below_set4 (B1w.out) (by omega)))
 ·rw [HTL.out,HOLL.out]
set_option maxRecDepth 100000 in
theorem s_AG_sw (N H:Int) (AT:Option Addr) (nT cT:Nat) (t:List (Int × Int)) (AO:Option Addr) (nO cO:Nat) (o:List (Int × Int)) (a b c:Int) (w:World) (hT:RdP w AT nT t) (hO:RdP w AO nO o) (hnT:nT<=274877906944) (hnO:nO<=274877906944) (hcT:nT<=cT) (hok:okP ⟨N,H,t,o⟩ ⟨11,a,b,c⟩=true)  :
  Calls Tryz.prog 101 #[.agg #[.int .i64 N,.int .i64 H,.slice AT nT cT,.slice AO nO cO],.agg #[.int .i64 11,.int .i64 a,.int .i64 b,.int .i64 c]] w (RetPB (actP ⟨N,H,t,o⟩ ⟨11,a,b,c⟩) w):=by
 have hol:=hO.1
 have HT:=zH hT
 have HO:=zH hO
 clear hT hO
 have X0:=zH (show Bx (((w.alloc (.cells #[.int .i64 N,.int .i64 H,.slice AT nT cT,.slice AO nO cO] 88)).alloc (.cells #[.int .i64 11,.int .i64 a,.int .i64 b,.int .i64 c] 39)).alloc (.cells #[.int .i64 0,.int .i64 0,.slice none 0 0,.slice none 0 0] 88)) w.heap.size 88 #[.int .i64 N,.int .i64 H,.slice AT nT cT,.slice AO nO cO] from ((Bx.new w _ _).alloc _).alloc _)
 have X1:=zH (show Bx (((w.alloc (.cells #[.int .i64 N,.int .i64 H,.slice AT nT cT,.slice AO nO cO] 88)).alloc (.cells #[.int .i64 11,.int .i64 a,.int .i64 b,.int .i64 c] 39)).alloc (.cells #[.int .i64 0,.int .i64 0,.slice none 0 0,.slice none 0 0] 88)) (w.heap.size+1) 39 #[.int .i64 11,.int .i64 a,.int .i64 b,.int .i64 c] from (Bx.new' (by simp)).alloc _)
 have X2:=zH (show Bx (((w.alloc (.cells #[.int .i64 N,.int .i64 H,.slice AT nT cT,.slice AO nO cO] 88)).alloc (.cells #[.int .i64 11,.int .i64 a,.int .i64 b,.int .i64 c] 39)).alloc (.cells #[.int .i64 0,.int .i64 0,.slice none 0 0,.slice none 0 0] 88)) (w.heap.size+1+1) 88 #[.int .i64 0,.int .i64 0,.slice none 0 0,.slice none 0 0] from Bx.new' (by simp))
 have BZ:Hid (Below w.heap.size w (((w.alloc (.cells #[.int .i64 N,.int .i64 H,.slice AT nT cT,.slice AO nO cO] 88)).alloc (.cells #[.int .i64 11,.int .i64 a,.int .i64 b,.int .i64 c] 39)).alloc (.cells #[.int .i64 0,.int .i64 0,.slice none 0 0,.slice none 0 0] 88))):=zH ((((zW).alloc zR _).alloc (by simp) _).alloc (by simp<;>omega) _)
 obtain ⟨hk,hN⟩:=okP_parts hok
 dsimp only at hk hN
 obtain ⟨_,hN4,ha0,haN,hb0,hbN⟩:=okG_abn hk
 have HK:=zH hk
 obtain ⟨ka,hka⟩:∃ k:Nat,a=k:=⟨a.toNat,by omega⟩
 obtain ⟨kb,hkb⟩:∃ k:Nat,b=k:=⟨b.toNat,by omega⟩
 rw [hol] at hN
 subst hN
 have HOL:=zH hol
 have hkan:ka < nO:=by omega
 have hkbn:kb < nO:=by omega
 have hka0:(0:Int)<=(ka:Int):=by omega
 have hkaI:(ka:Int) < (nO:Int):=by omega
 have hkb0:(0:Int)<=(kb:Int):=by omega
 have hkbI:(kb:Int) < (nO:Int):=by omega
 have hnOO:((nO:Int) != (nO:Int))=false:=by simp
 subst hka hkb
 clear hok hk hol ha0 haN hb0 hbN
 have HTL:Hid (t.length=nT):=zH HT.out.1
 obtain ⟨xa,ya,hxa⟩:∃ x y,o.getD ka (0,0)=(x,y):=⟨_,_,rfl⟩
 have HXA:Hid (at2 o (ka:Int)=(xa,ya)):=zH (by unfold at2;rw [Int.toNat_natCast];exact hxa)
 obtain ⟨xb,yb,hxb⟩:∃ x y,o.getD kb (0,0)=(x,y):=⟨_,_,rfl⟩
 have HXB:Hid (at2 o (kb:Int)=(xb,yb)):=zH (by unfold at2;rw [Int.toNat_natCast];exact hxb)
 have HOLL:Hid (((o.set ka (xb,yb)).set kb (xa,ya)).length=nO):=zH (by rw [List.length_set,List.length_set,HOL.out])
 have HACT:actP ⟨(nO:Int),H,t,o⟩ ⟨11,(ka:Int),(kb:Int),c⟩=(⟨(nO:Int),H,t,(o.set ka (xb,yb)).set kb (xa,ya)⟩,true):=by
  unfold actP
  rw [if_neg (by simp),if_neg (by simp),if_pos (by rfl),HXA.out,HXB.out,Int.toNat_natCast,Int.toNat_natCast]
 rw [HACT]
 clear HACT
 go_enter Tryz.func101,Tryz.ntmps101
 go_wp2_with fail
 refine (s_IsValidGate _ _ _ _ _ _).mono ?_
 rintro e w1 ⟨rfl,b1⟩
 rw [HK.out]
 have X0a:=zH (X0.out.below b1)
 have X1a:=zH (X1.out.below b1)
 have X2a:=zH (X2.out.below b1)
 have B1:=zH (below_trans BZ.out b1)
 have hl2:w.heap.size+1+1 < w1.heap.size:=X2a.out.lt
 have hl1:w.heap.size+1 < w1.heap.size:=by omega
 have hl0:w.heap.size < w1.heap.size:=by omega
 clear b1 X0 X1 X2 BZ
 obtain ⟨p0,p1,p2,p3,pf0,pf1,pf2,pf3⟩:=X0a.out.four
 obtain ⟨q0,q1,q2,q3,qf0,qf1,qf2,qf3⟩:=X1a.out.four
 obtain ⟨r0,r1,r2,r3,rf0,rf1,rf2,rf3⟩:=X2a.out.four
 go_wp2_with fail
 refine (s_l32Copy _ _ _ _ _ t _ _ _ o _ (HT.out.below B1.out) (HO.out.below B1.out) (by omega) (by omega)).mono ?_
 rintro e w2 ⟨v,rfl,⟨A2,c2,B2,d2,rfl,t2,o2⟩,b2⟩
 rw [HT.out.1] at t2 ⊢
 rw [HO.out.1] at o2 ⊢
 have X0b:=zH ((X0a.out.below b2).alloc (.cells #[.int .i64 (nO:Int),.int .i64 H,.slice A2 nT c2,.slice B2 nO d2] 88))
 have X1b:=zH ((X1a.out.below b2).alloc (.cells #[.int .i64 (nO:Int),.int .i64 H,.slice A2 nT c2,.slice B2 nO d2] 88))
 have X2b:=zH ((X2a.out.below b2).alloc (.cells #[.int .i64 (nO:Int),.int .i64 H,.slice A2 nT c2,.slice B2 nO d2] 88))
 have XO:=zH (Bx.new w2 88 #[.int .i64 (nO:Int),.int .i64 H,.slice A2 nT c2,.slice B2 nO d2])
 have TO:=zH (t2.alloc (.cells #[.int .i64 (nO:Int),.int .i64 H,.slice A2 nT c2,.slice B2 nO d2] 88))
 have OO:=zH (o2.alloc (.cells #[.int .i64 (nO:Int),.int .i64 H,.slice A2 nT c2,.slice B2 nO d2] 88))
 have BW2:=zH (show Below w.heap.size w (w2.alloc (.cells #[.int .i64 (nO:Int),.int .i64 H,.slice A2 nT c2,.slice B2 nO d2] 88)) from (below_trans B1.out b2).alloc (below_trans B1.out b2).size _)
 have hbg:w1.heap.size<=w2.heap.size:=b2.size
 clear p0 p1 p2 p3 pf0 pf1 pf2 pf3 q0 q1 q2 q3 qf0 qf1 qf2 qf3 r0 r1 r2 r3 rf0 rf1 rf2 rf3
 obtain ⟨p0,p1,p2,p3,_⟩:=(X0a.out.below b2).four
 obtain ⟨q0,q1,q2,q3,_⟩:=(X1a.out.below b2).four
 obtain ⟨r0,r1,r2,r3,_⟩:=(X2a.out.below b2).four
 have hv0:w.heap.size < w2.heap.size:=by omega
 have hv1:w.heap.size+1 < w2.heap.size:=by omega
 have hv2:w.heap.size+1+1 < w2.heap.size:=by omega
 clear t2 o2 b2 X0a X1a X2a
 go_wp2_with fail
 clear p0 p1 p2 p3 q0 q1 q2 q3 r0 r1 r2 r3
 generalize w2.alloc (.cells #[.int .i64 (nO:Int),.int .i64 H,.slice A2 nT c2,.slice B2 nO d2] 88)=wz at X0b X1b X2b XO TO OO BW2 ⊢
 generalize w2.heap.size=gp at XO hbg ⊢
 have HOz:=zH (HO.out.below BW2.out)
 have HTz:=zH (HT.out.below BW2.out)
 obtain ⟨p0,p1,p2,p3,pf0,pf1,pf2,pf3⟩:=X0b.out.four
 obtain ⟨q0,q1,q2,q3,qf0,qf1,qf2,qf3⟩:=X1b.out.four
 obtain ⟨r0,r1,r2,r3,rf0,rf1,rf2,rf3⟩:=X2b.out.four
 obtain ⟨s0,s1,s2,s3,sf0,sf1,sf2,sf3⟩:=XO.out.four
 have hz0:=X0b.out.lt
 have hz1:=X1b.out.lt
 have hz2:=X2b.out.lt
 have hzg:=XO.out.lt
 have hz2x:w.heap.size+1+1 < wz.heap.size+1:=by omega
 have hgr:gp ≠ w.heap.size+1+1:=by omega
 have hgr':w.heap.size+1+1 ≠ gp:=by omega
 have hg0:gp ≠ w.heap.size:=by omega
 have hg1:gp ≠ w.heap.size+1:=by omega
 refine (s_RotationUnits _ _).mono ?_
 rintro e w' ⟨rfl,rfl⟩
 rw [show units 11=0 from rfl]
 obtain ⟨bo,off,rfl,hbo,e0,e1⟩:=rd2At HOz.out hkan
 rw [hxa] at e0 e1
 dsimp only at e0 e1
 go_wp2_with fail
 have OOz:=zH OO.out
 have X0c:=zH (X0b.out.alloc (.cells #[.int .i64 xa,.int .i64 ya] 93))
 have X1c:=zH (X1b.out.alloc (.cells #[.int .i64 xa,.int .i64 ya] 93))
 have X2c:=zH (X2b.out.alloc (.cells #[.int .i64 xa,.int .i64 ya] 93))
 have XOc:=zH (XO.out.alloc (.cells #[.int .i64 xa,.int .i64 ya] 93))
 have TOc:=zH (TO.out.alloc (.cells #[.int .i64 xa,.int .i64 ya] 93))
 have OOc:=zH (OO.out.alloc (.cells #[.int .i64 xa,.int .i64 ya] 93))
 have HOc:=zH (HOz.out.alloc (.cells #[.int .i64 xa,.int .i64 ya] 93))
 have HTc:=zH (HTz.out.alloc (.cells #[.int .i64 xa,.int .i64 ya] 93))
 have BWc:=zH (BW2.out.alloc BW2.out.size (.cells #[.int .i64 xa,.int .i64 ya] 93))
 have XAc:=zH (Bx.new wz 93 #[.int .i64 xa,.int .i64 ya])
 clear p0 p1 p2 p3 pf0 pf1 pf2 pf3 q0 q1 q2 q3 qf0 qf1 qf2 qf3 r0 r1 r2 r3 rf0 rf1 rf2 rf3 s0 s1 s2 s3 sf0 sf1 sf2 sf3 X0b X1b X2b XO TO OO HOz HTz BW2
 generalize wz.alloc (.cells #[.int .i64 xa,.int .i64 ya] 93)=wy at X0c X1c X2c XOc TOc OOc HOc HTc BWc XAc ⊢
 have hga:gp < wz.heap.size:=hzg
 have hgz:w.heap.size+1+1 < wz.heap.size:=hz2
 clear hz0 hz1 hz2 hzg hz2x
 obtain ⟨p0,p1,p2,p3,pf0,pf1,pf2,pf3⟩:=X0c.out.four
 obtain ⟨q0,q1,q2,q3,qf0,qf1,qf2,qf3⟩:=X1c.out.four
 obtain ⟨r0,r1,r2,r3,rf0,rf1,rf2,rf3⟩:=X2c.out.four
 obtain ⟨s0,s1,s2,s3,sf0,sf1,sf2,sf3⟩:=XOc.out.four
 obtain ⟨a0,a1,af0,af1⟩:=XAc.out.two
 have hz0:=X0c.out.lt
 have hz1:=X1c.out.lt
 have hz2:=X2c.out.lt
 have hzg:=XOc.out.lt
 clear e0 e1
 obtain ⟨bo,off,hAA,hbo'',e0,e1⟩:=rd2At HOc.out hkan
 injection hAA with hAA
 injection hAA with hA5 hA6 _
 subst hA5 hA6
 rw [hxa] at e0 e1
 obtain ⟨bo',off',hAB,hbo',e2,e3⟩:=rd2At HOc.out hkbn
 injection hAB with hAB
 injection hAB with hA1 hA2 _
 subst hA1 hA2
 rw [hxb] at e2 e3
 obtain ⟨gB,rfl,hgB0,hgBl,m0,m1,n0,n1⟩:=own2At OOc.out hkan
 rw [hxa] at m0 m1
 have hngB:some gp ≠ some gB:=own_bx_ne OOc.out XOc.out (by decide)
 have hgB1:gB ≠ gp:=fun e=>hngB (by rw [e])
 have hgB2:gp ≠ gB:=fun e=>hngB (by rw [e])
 have hgB3:w.heap.size+1+1 ≠ gB:=by omega
 have hgB4:w.heap.size ≠ gB:=by omega
 have hgB5:w.heap.size+1 ≠ gB:=by omega
 have hgl:=(OOz.out.lt gB rfl).2
 have hgB6:wz.heap.size ≠ gB:=by omega
 have hgB7:gB ≠ wz.heap.size:=by omega
 have hab:kb ≠ ka:=by have:=okG_ne HK.out (by decide);omega
 have hn1:kb * 2 ≠ ka * 2:=by omega
 have hn2:kb * 2 ≠ ka * 2+1:=by omega
 have hn3:kb * 2+1 ≠ ka * 2:=by omega
 obtain ⟨gB',hGB,_,_,m2,m3,n2,n3⟩:=own2At OOc.out hkbn
 injection hGB with hGB
 injection hGB with hG1 _ _
 subst hG1
 rw [hxb] at m2 m3
 have S1:=zH (OOc.out.stored (ka * 2) (.int .i64 (xb)))
 have S1':=zH (S1.out.1.stored (ka * 2+1) (.int .i64 (yb)))
 have T1:=zH ((TOc.out.kept S1.out.2 (own_types TOc.out OOc.out (by decide))).kept S1'.out.2 (own_types (TOc.out.kept S1.out.2 (own_types TOc.out OOc.out (by decide))) S1.out.1 (by decide)))
 have O1:=zH (show ((wy.setCell ⟨gB,ka * 2,none⟩ (.int .i64 (xb))).setCell ⟨gB,ka * 2+1,none⟩ (.int .i64 (yb))).ownsRow w1.heap.size 93 2 (.slice (some ⟨gB,0,none⟩) nO d2) nO (cellsP ((o).set ka (xb,yb))) from by rw [<- set_pair _ _ _ _ (by first | (have:=HOL.out;omega) | (rw [List.length_set];have:=HOL.out;omega))];exact S1'.out.1)
 have B1w:=zH ((BWc.out.setCell (p:=⟨gB,ka * 2,none⟩) (show w.heap.size<=gB by omega) (.int .i64 (xb))).setCell (p:=⟨gB,ka * 2+1,none⟩) (show w.heap.size<=gB by omega) (.int .i64 (yb)))
 have S2:=zH (O1.out.stored (kb * 2) (.int .i64 (xa)))
 have S2':=zH (S2.out.1.stored (kb * 2+1) (.int .i64 (ya)))
 have T2:=zH ((T1.out.kept S2.out.2 (own_types T1.out O1.out (by decide))).kept S2'.out.2 (own_types (T1.out.kept S2.out.2 (own_types T1.out O1.out (by decide))) S2.out.1 (by decide)))
 have O2:=zH (show ((((wy.setCell ⟨gB,ka * 2,none⟩ (.int .i64 (xb))).setCell ⟨gB,ka * 2+1,none⟩ (.int .i64 (yb))).setCell ⟨gB,kb * 2,none⟩ (.int .i64 (xa))).setCell ⟨gB,kb * 2+1,none⟩ (.int .i64 (ya))).ownsRow w1.heap.size 93 2 (.slice (some ⟨gB,0,none⟩) nO d2) nO (cellsP ((o.set ka (xb,yb)).set kb (xa,ya))) from by rw [<- set_pair _ _ _ _ (by first | (have:=HOL.out;omega) | (rw [List.length_set];have:=HOL.out;omega))];exact S2'.out.1)
 have B2w:=zH ((B1w.out.setCell (p:=⟨gB,kb * 2,none⟩) (show w.heap.size<=gB by omega) (.int .i64 (xa))).setCell (p:=⟨gB,kb * 2+1,none⟩) (show w.heap.size<=gB by omega) (.int .i64 (ya)))
 clear hxa hxb
 dsimp only at e0 e1 e2 e3 m0 m1 m2 m3
 go_still_tail 11,(by kernel_rfl)
 change wpList Tryz.prog _ _ _ _ wy.drew
 go_wp2_with fail
 refine bodyPost_ret (v:=.tuple #[.agg #[.int .i64 (nO:Int),.int .i64 H,.slice A2 nT c2,.slice (some ⟨gB,0,none⟩) nO d2],.bool true]) (by simp [results,Tryz.results101,go_sem,r0,r1,r2,r3]) rfl ⟨_,rfl,⟨A2,c2,(some ⟨gB,0,none⟩),d2,?_,?_,?_⟩,?_⟩
 rotate_left
 ·rw [HTL.out]
  refine ownsRow_drew ?_
  exact ownsRow_base (own_set4 (T2.out) (by omega)) (by omega)
 ·rw [HOLL.out]
  refine ownsRow_drew ?_
  exact ownsRow_base (own_set4 (O2.out) (by omega)) (by omega)
 ·refine Below.drew ?_
  exact below_set4 (B2w.out) (by omega)
 ·rw [HTL.out,HOLL.out]
set_option maxRecDepth 100000 in
theorem s_AG_df (N H:Int) (AT:Option Addr) (nT cT:Nat) (t:List (Int × Int)) (AO:Option Addr) (nO cO:Nat) (o:List (Int × Int)) (k a b c:Int) (w:World) (hT:RdP w AT nT t) (hO:RdP w AO nO o) (hnT:nT<=274877906944) (hnO:nO<=274877906944) (hcT:nT<=cT) (hok:okP ⟨N,H,t,o⟩ ⟨k,a,b,c⟩=true) (h1:(k == 1)=false) (h9:(k == 9)=false) (h11:(k == 11)=false) (hu0:units k=0) :
  Calls Tryz.prog 101 #[.agg #[.int .i64 N,.int .i64 H,.slice AT nT cT,.slice AO nO cO],.agg #[.int .i64 k,.int .i64 a,.int .i64 b,.int .i64 c]] w (RetPB (Po.zero,false) w):=by
 have hol:=hO.1
 have HT:=zH hT
 have HO:=zH hO
 clear hT hO
 have X0:=zH (show Bx (((w.alloc (.cells #[.int .i64 N,.int .i64 H,.slice AT nT cT,.slice AO nO cO] 88)).alloc (.cells #[.int .i64 k,.int .i64 a,.int .i64 b,.int .i64 c] 39)).alloc (.cells #[.int .i64 0,.int .i64 0,.slice none 0 0,.slice none 0 0] 88)) w.heap.size 88 #[.int .i64 N,.int .i64 H,.slice AT nT cT,.slice AO nO cO] from ((Bx.new w _ _).alloc _).alloc _)
 have X1:=zH (show Bx (((w.alloc (.cells #[.int .i64 N,.int .i64 H,.slice AT nT cT,.slice AO nO cO] 88)).alloc (.cells #[.int .i64 k,.int .i64 a,.int .i64 b,.int .i64 c] 39)).alloc (.cells #[.int .i64 0,.int .i64 0,.slice none 0 0,.slice none 0 0] 88)) (w.heap.size+1) 39 #[.int .i64 k,.int .i64 a,.int .i64 b,.int .i64 c] from (Bx.new' (by simp)).alloc _)
 have X2:=zH (show Bx (((w.alloc (.cells #[.int .i64 N,.int .i64 H,.slice AT nT cT,.slice AO nO cO] 88)).alloc (.cells #[.int .i64 k,.int .i64 a,.int .i64 b,.int .i64 c] 39)).alloc (.cells #[.int .i64 0,.int .i64 0,.slice none 0 0,.slice none 0 0] 88)) (w.heap.size+1+1) 88 #[.int .i64 0,.int .i64 0,.slice none 0 0,.slice none 0 0] from Bx.new' (by simp))
 have BZ:Hid (Below w.heap.size w (((w.alloc (.cells #[.int .i64 N,.int .i64 H,.slice AT nT cT,.slice AO nO cO] 88)).alloc (.cells #[.int .i64 k,.int .i64 a,.int .i64 b,.int .i64 c] 39)).alloc (.cells #[.int .i64 0,.int .i64 0,.slice none 0 0,.slice none 0 0] 88))):=zH ((((zW).alloc zR _).alloc (by simp) _).alloc (by simp<;>omega) _)
 obtain ⟨hk,hN⟩:=okP_parts hok
 dsimp only at hk hN
 obtain ⟨_,hN4,ha0,haN,hb0,hbN⟩:=okG_abn hk
 have HK:=zH hk
 obtain ⟨ka,hka⟩:∃ k:Nat,a=k:=⟨a.toNat,by omega⟩
 obtain ⟨kb,hkb⟩:∃ k:Nat,b=k:=⟨b.toNat,by omega⟩
 rw [hol] at hN
 subst hN
 have HOL:=zH hol
 have hkan:ka < nO:=by omega
 have hkbn:kb < nO:=by omega
 have hka0:(0:Int)<=(ka:Int):=by omega
 have hkaI:(ka:Int) < (nO:Int):=by omega
 have hkb0:(0:Int)<=(kb:Int):=by omega
 have hkbI:(kb:Int) < (nO:Int):=by omega
 have hnOO:((nO:Int) != (nO:Int))=false:=by simp
 subst hka hkb
 clear hok hk hol ha0 haN hb0 hbN
 obtain ⟨xa,ya,hxa⟩:∃ x y,o.getD ka (0,0)=(x,y):=⟨_,_,rfl⟩
 have HXA:Hid (at2 o (ka:Int)=(xa,ya)):=zH (by unfold at2;rw [Int.toNat_natCast];exact hxa)
 have HU0:=zH hu0
 clear hu0
 go_enter Tryz.func101,Tryz.ntmps101
 go_wp2_with fail
 refine (s_IsValidGate _ _ _ _ _ _).mono ?_
 rintro e w1 ⟨rfl,b1⟩
 rw [HK.out]
 have X0a:=zH (X0.out.below b1)
 have X1a:=zH (X1.out.below b1)
 have X2a:=zH (X2.out.below b1)
 have B1:=zH (below_trans BZ.out b1)
 have hl2:w.heap.size+1+1 < w1.heap.size:=X2a.out.lt
 have hl1:w.heap.size+1 < w1.heap.size:=by omega
 have hl0:w.heap.size < w1.heap.size:=by omega
 clear b1 X0 X1 X2 BZ
 obtain ⟨p0,p1,p2,p3,pf0,pf1,pf2,pf3⟩:=X0a.out.four
 obtain ⟨q0,q1,q2,q3,qf0,qf1,qf2,qf3⟩:=X1a.out.four
 obtain ⟨r0,r1,r2,r3,rf0,rf1,rf2,rf3⟩:=X2a.out.four
 go_wp2_with fail
 refine (s_l32Copy _ _ _ _ _ t _ _ _ o _ (HT.out.below B1.out) (HO.out.below B1.out) (by omega) (by omega)).mono ?_
 rintro e w2 ⟨v,rfl,⟨A2,c2,B2,d2,rfl,t2,o2⟩,b2⟩
 rw [HT.out.1] at t2 ⊢
 rw [HO.out.1] at o2 ⊢
 have X0b:=zH ((X0a.out.below b2).alloc (.cells #[.int .i64 (nO:Int),.int .i64 H,.slice A2 nT c2,.slice B2 nO d2] 88))
 have X1b:=zH ((X1a.out.below b2).alloc (.cells #[.int .i64 (nO:Int),.int .i64 H,.slice A2 nT c2,.slice B2 nO d2] 88))
 have X2b:=zH ((X2a.out.below b2).alloc (.cells #[.int .i64 (nO:Int),.int .i64 H,.slice A2 nT c2,.slice B2 nO d2] 88))
 have XO:=zH (Bx.new w2 88 #[.int .i64 (nO:Int),.int .i64 H,.slice A2 nT c2,.slice B2 nO d2])
 have TO:=zH (t2.alloc (.cells #[.int .i64 (nO:Int),.int .i64 H,.slice A2 nT c2,.slice B2 nO d2] 88))
 have OO:=zH (o2.alloc (.cells #[.int .i64 (nO:Int),.int .i64 H,.slice A2 nT c2,.slice B2 nO d2] 88))
 have BW2:=zH (show Below w.heap.size w (w2.alloc (.cells #[.int .i64 (nO:Int),.int .i64 H,.slice A2 nT c2,.slice B2 nO d2] 88)) from (below_trans B1.out b2).alloc (below_trans B1.out b2).size _)
 have hbg:w1.heap.size<=w2.heap.size:=b2.size
 clear p0 p1 p2 p3 pf0 pf1 pf2 pf3 q0 q1 q2 q3 qf0 qf1 qf2 qf3 r0 r1 r2 r3 rf0 rf1 rf2 rf3
 obtain ⟨p0,p1,p2,p3,_⟩:=(X0a.out.below b2).four
 obtain ⟨q0,q1,q2,q3,_⟩:=(X1a.out.below b2).four
 obtain ⟨r0,r1,r2,r3,_⟩:=(X2a.out.below b2).four
 have hv0:w.heap.size < w2.heap.size:=by omega
 have hv1:w.heap.size+1 < w2.heap.size:=by omega
 have hv2:w.heap.size+1+1 < w2.heap.size:=by omega
 clear t2 o2 b2 X0a X1a X2a
 go_wp2_with fail
 clear p0 p1 p2 p3 q0 q1 q2 q3 r0 r1 r2 r3
 generalize w2.alloc (.cells #[.int .i64 (nO:Int),.int .i64 H,.slice A2 nT c2,.slice B2 nO d2] 88)=wz at X0b X1b X2b XO TO OO BW2 ⊢
 generalize w2.heap.size=gp at XO hbg ⊢
 have HOz:=zH (HO.out.below BW2.out)
 have HTz:=zH (HT.out.below BW2.out)
 obtain ⟨p0,p1,p2,p3,pf0,pf1,pf2,pf3⟩:=X0b.out.four
 obtain ⟨q0,q1,q2,q3,qf0,qf1,qf2,qf3⟩:=X1b.out.four
 obtain ⟨r0,r1,r2,r3,rf0,rf1,rf2,rf3⟩:=X2b.out.four
 obtain ⟨s0,s1,s2,s3,sf0,sf1,sf2,sf3⟩:=XO.out.four
 have hz0:=X0b.out.lt
 have hz1:=X1b.out.lt
 have hz2:=X2b.out.lt
 have hzg:=XO.out.lt
 have hz2x:w.heap.size+1+1 < wz.heap.size+1:=by omega
 have hgr:gp ≠ w.heap.size+1+1:=by omega
 have hgr':w.heap.size+1+1 ≠ gp:=by omega
 have hg0:gp ≠ w.heap.size:=by omega
 have hg1:gp ≠ w.heap.size+1:=by omega
 have hbx:=BW2.out.size
 refine (s_RotationUnits _ _).mono ?_
 rintro e w' ⟨rfl,rfl⟩
 rw [HU0.out]
 obtain ⟨bo,off,rfl,hbo,e0,e1⟩:=rd2At HOz.out hkan
 rw [hxa] at e0 e1
 clear hxa
 dsimp only at e0 e1
 go_wp2_with fail
 refine bodyPost_ret (v:=.tuple #[.agg #[.int .i64 0,.int .i64 0,.slice none 0 0,.slice none 0 0],.bool false]) (by simp [results,Tryz.results101,go_sem,r0,r1,r2,r3,hz2]) rfl ⟨_,rfl,⟨none,0,none,0,rfl,World.ownsRow_nil _ _ _ _,World.ownsRow_nil _ _ _ _⟩,?_⟩
 exact below_al (below_set4 BW2.out (by omega))
set_option maxRecDepth 100000 in
theorem s_AG_r0 (N H:Int) (AT:Option Addr) (nT cT:Nat) (t:List (Int × Int)) (AO:Option Addr) (nO cO:Nat) (o:List (Int × Int)) (k a b c:Int) (w:World) (hT:RdP w AT nT t) (hO:RdP w AO nO o) (hnT:nT<=274877906944) (hnO:nO<=274877906944) (hcT:nT<=cT) (hok:okP ⟨N,H,t,o⟩ ⟨k,a,b,c⟩=true) (h1:(k == 1)=false) (h9:(k == 9)=false) (h11:(k == 11)=false) (hu0:units k ≠ 0) (hf:(at2 o a).2=0) :
  Calls Tryz.prog 101 #[.agg #[.int .i64 N,.int .i64 H,.slice AT nT cT,.slice AO nO cO],.agg #[.int .i64 k,.int .i64 a,.int .i64 b,.int .i64 c]] w (RetPB (actP ⟨N,H,t,o⟩ ⟨k,a,b,c⟩) w):=by
 have hol:=hO.1
 have HT:=zH hT
 have HO:=zH hO
 clear hT hO
 have X0:=zH (show Bx (((w.alloc (.cells #[.int .i64 N,.int .i64 H,.slice AT nT cT,.slice AO nO cO] 88)).alloc (.cells #[.int .i64 k,.int .i64 a,.int .i64 b,.int .i64 c] 39)).alloc (.cells #[.int .i64 0,.int .i64 0,.slice none 0 0,.slice none 0 0] 88)) w.heap.size 88 #[.int .i64 N,.int .i64 H,.slice AT nT cT,.slice AO nO cO] from ((Bx.new w _ _).alloc _).alloc _)
 have X1:=zH (show Bx (((w.alloc (.cells #[.int .i64 N,.int .i64 H,.slice AT nT cT,.slice AO nO cO] 88)).alloc (.cells #[.int .i64 k,.int .i64 a,.int .i64 b,.int .i64 c] 39)).alloc (.cells #[.int .i64 0,.int .i64 0,.slice none 0 0,.slice none 0 0] 88)) (w.heap.size+1) 39 #[.int .i64 k,.int .i64 a,.int .i64 b,.int .i64 c] from (Bx.new' (by simp)).alloc _)
 have X2:=zH (show Bx (((w.alloc (.cells #[.int .i64 N,.int .i64 H,.slice AT nT cT,.slice AO nO cO] 88)).alloc (.cells #[.int .i64 k,.int .i64 a,.int .i64 b,.int .i64 c] 39)).alloc (.cells #[.int .i64 0,.int .i64 0,.slice none 0 0,.slice none 0 0] 88)) (w.heap.size+1+1) 88 #[.int .i64 0,.int .i64 0,.slice none 0 0,.slice none 0 0] from Bx.new' (by simp))
 have BZ:Hid (Below w.heap.size w (((w.alloc (.cells #[.int .i64 N,.int .i64 H,.slice AT nT cT,.slice AO nO cO] 88)).alloc (.cells #[.int .i64 k,.int .i64 a,.int .i64 b,.int .i64 c] 39)).alloc (.cells #[.int .i64 0,.int .i64 0,.slice none 0 0,.slice none 0 0] 88))):=zH ((((zW).alloc zR _).alloc (by simp) _).alloc (by simp<;>omega) _)
 obtain ⟨hk,hN⟩:=okP_parts hok
 dsimp only at hk hN
 obtain ⟨_,hN4,ha0,haN,hb0,hbN⟩:=okG_abn hk
 have HK:=zH hk
 obtain ⟨ka,hka⟩:∃ k:Nat,a=k:=⟨a.toNat,by omega⟩
 obtain ⟨kb,hkb⟩:∃ k:Nat,b=k:=⟨b.toNat,by omega⟩
 rw [hol] at hN
 subst hN
 have HOL:=zH hol
 have hkan:ka < nO:=by omega
 have hkbn:kb < nO:=by omega
 have hka0:(0:Int)<=(ka:Int):=by omega
 have hkaI:(ka:Int) < (nO:Int):=by omega
 have hkb0:(0:Int)<=(kb:Int):=by omega
 have hkbI:(kb:Int) < (nO:Int):=by omega
 have hnOO:((nO:Int) != (nO:Int))=false:=by simp
 subst hka hkb
 clear hok hk hol ha0 haN hb0 hbN
 obtain ⟨xa,ya,hxa⟩:∃ x y,o.getD ka (0,0)=(x,y):=⟨_,_,rfl⟩
 have HXA:Hid (at2 o (ka:Int)=(xa,ya)):=zH (by unfold at2;rw [Int.toNat_natCast];exact hxa)
 obtain ⟨u,hu⟩:∃ u,units k=u:=⟨_,rfl⟩
 have hub:=units_bd k
 rw [hu] at hub hu0
 have hu1:0 < u:=by omega
 have hu8:u<=7:=hub.2
 have HU:=zH hu
 obtain rfl:ya=0:=by rw [HXA.out] at hf;exact hf
 have HOLL:=HOL
 have HACT:actP ⟨(nO:Int),H,t,o⟩ ⟨k,(ka:Int),(kb:Int),c⟩=(⟨(nO:Int),H,addT t xa u,o⟩,true):=by
  unfold actP
  rw [if_neg (by rw [h1];simp),if_neg (by rw [h9];simp),if_neg (by rw [h11];simp)]
  rw [if_neg (by show ¬ (units k == 0)=true;rw [hu];simpa using hu0),HXA.out,hu]
  rfl
 rw [HACT]
 clear HACT hu hub hu0 hf
 go_enter Tryz.func101,Tryz.ntmps101
 go_wp2_with fail
 refine (s_IsValidGate _ _ _ _ _ _).mono ?_
 rintro e w1 ⟨rfl,b1⟩
 rw [HK.out]
 have X0a:=zH (X0.out.below b1)
 have X1a:=zH (X1.out.below b1)
 have X2a:=zH (X2.out.below b1)
 have B1:=zH (below_trans BZ.out b1)
 have hl2:w.heap.size+1+1 < w1.heap.size:=X2a.out.lt
 have hl1:w.heap.size+1 < w1.heap.size:=by omega
 have hl0:w.heap.size < w1.heap.size:=by omega
 clear b1 X0 X1 X2 BZ
 obtain ⟨p0,p1,p2,p3,pf0,pf1,pf2,pf3⟩:=X0a.out.four
 obtain ⟨q0,q1,q2,q3,qf0,qf1,qf2,qf3⟩:=X1a.out.four
 obtain ⟨r0,r1,r2,r3,rf0,rf1,rf2,rf3⟩:=X2a.out.four
 go_wp2_with fail
 refine (s_l32Copy _ _ _ _ _ t _ _ _ o _ (HT.out.below B1.out) (HO.out.below B1.out) (by omega) (by omega)).mono ?_
 rintro e w2 ⟨v,rfl,⟨A2,c2,B2,d2,rfl,t2,o2⟩,b2⟩
 rw [HT.out.1] at t2 ⊢
 rw [HO.out.1] at o2 ⊢
 have X0b:=zH ((X0a.out.below b2).alloc (.cells #[.int .i64 (nO:Int),.int .i64 H,.slice A2 nT c2,.slice B2 nO d2] 88))
 have X1b:=zH ((X1a.out.below b2).alloc (.cells #[.int .i64 (nO:Int),.int .i64 H,.slice A2 nT c2,.slice B2 nO d2] 88))
 have X2b:=zH ((X2a.out.below b2).alloc (.cells #[.int .i64 (nO:Int),.int .i64 H,.slice A2 nT c2,.slice B2 nO d2] 88))
 have XO:=zH (Bx.new w2 88 #[.int .i64 (nO:Int),.int .i64 H,.slice A2 nT c2,.slice B2 nO d2])
 have TO:=zH (t2.alloc (.cells #[.int .i64 (nO:Int),.int .i64 H,.slice A2 nT c2,.slice B2 nO d2] 88))
 have OO:=zH (o2.alloc (.cells #[.int .i64 (nO:Int),.int .i64 H,.slice A2 nT c2,.slice B2 nO d2] 88))
 have BW2:=zH (show Below w.heap.size w (w2.alloc (.cells #[.int .i64 (nO:Int),.int .i64 H,.slice A2 nT c2,.slice B2 nO d2] 88)) from (below_trans B1.out b2).alloc (below_trans B1.out b2).size _)
 have hbg:w1.heap.size<=w2.heap.size:=b2.size
 clear p0 p1 p2 p3 pf0 pf1 pf2 pf3 q0 q1 q2 q3 qf0 qf1 qf2 qf3 r0 r1 r2 r3 rf0 rf1 rf2 rf3
 obtain ⟨p0,p1,p2,p3,_⟩:=(X0a.out.below b2).four
 obtain ⟨q0,q1,q2,q3,_⟩:=(X1a.out.below b2).four
 obtain ⟨r0,r1,r2,r3,_⟩:=(X2a.out.below b2).four
 have hv0:w.heap.size < w2.heap.size:=by omega
 have hv1:w.heap.size+1 < w2.heap.size:=by omega
 have hv2:w.heap.size+1+1 < w2.heap.size:=by omega
 clear t2 o2 b2 X0a X1a X2a
 go_wp2_with fail
 clear p0 p1 p2 p3 q0 q1 q2 q3 r0 r1 r2 r3
 generalize w2.alloc (.cells #[.int .i64 (nO:Int),.int .i64 H,.slice A2 nT c2,.slice B2 nO d2] 88)=wz at X0b X1b X2b XO TO OO BW2 ⊢
 generalize w2.heap.size=gp at XO hbg ⊢
 have HOz:=zH (HO.out.below BW2.out)
 have HTz:=zH (HT.out.below BW2.out)
 obtain ⟨p0,p1,p2,p3,pf0,pf1,pf2,pf3⟩:=X0b.out.four
 obtain ⟨q0,q1,q2,q3,qf0,qf1,qf2,qf3⟩:=X1b.out.four
 obtain ⟨r0,r1,r2,r3,rf0,rf1,rf2,rf3⟩:=X2b.out.four
 obtain ⟨s0,s1,s2,s3,sf0,sf1,sf2,sf3⟩:=XO.out.four
 have hz0:=X0b.out.lt
 have hz1:=X1b.out.lt
 have hz2:=X2b.out.lt
 have hzg:=XO.out.lt
 have hz2x:w.heap.size+1+1 < wz.heap.size+1:=by omega
 have hgr:gp ≠ w.heap.size+1+1:=by omega
 have hgr':w.heap.size+1+1 ≠ gp:=by omega
 have hg0:gp ≠ w.heap.size:=by omega
 have hg1:gp ≠ w.heap.size+1:=by omega
 refine (s_RotationUnits _ _).mono ?_
 rintro e w' ⟨rfl,rfl⟩
 rw [HU.out]
 obtain ⟨bo,off,rfl,hbo,e0,e1⟩:=rd2At HOz.out hkan
 rw [hxa] at e0 e1
 dsimp only at e0 e1
 go_wp2_with fail
 refine (s_l32Add AT nT cT t xa u _ (HTz.out.alloc _) (by omega) hcT).mono ?_
 rintro e w5 ⟨A5,c5,rfl,o5,b5'⟩
 have b5:=below_alloc b5'
 have X2e:=zH (X2b.out.below b5)
 have XOe:=zH (XO.out.below b5)
 have OOe:=zH (ownsRow_below OO.out b5)
 have BWe:=zH (below_trans BW2.out b5)
 have hs5:=b5.size
 clear p0 p1 p2 p3 pf0 pf1 pf2 pf3 q0 q1 q2 q3 qf0 qf1 qf2 qf3 r0 r1 r2 r3 rf0 rf1 rf2 rf3 s0 s1 s2 s3 sf0 sf1 sf2 sf3 e0 e1
 obtain ⟨r0,r1,r2,r3,rf0,rf1,rf2,rf3⟩:=X2e.out.four
 obtain ⟨s0,s1,s2,s3,sf0,sf1,sf2,sf3⟩:=XOe.out.four
 have T1:=zH (ownsRow_base (own_set o5 (p:=⟨gp,2,none⟩) (by show gp < _;simp;omega) (.slice A5 (addT t xa u).length c5)) (show w1.heap.size<=_ by simp;omega))
 have O1:=zH (own_set_ne OOe.out (p:=⟨gp,2,none⟩) (own_bx_ne OOe.out XOe.out (by decide)) (.slice A5 (addT t xa u).length c5))
 have B1w:=zH (BWe.out.setCell (p:=⟨gp,2,none⟩) (show w.heap.size<=gp by omega) (.slice A5 (addT t xa u).length c5))
 go_wp2_with fail
 refine bodyPost_ret (v:=.tuple #[.agg #[.int .i64 (nO:Int),.int .i64 H,.slice A5 (addT t xa u).length c5,.slice B2 nO d2],.bool true]) (by simp [results,Tryz.results101,go_sem,r0,r1,r2,r3]) rfl ⟨_,rfl,⟨A5,c5,B2,d2,?_,?_,?_⟩,?_⟩
 rotate_left
 ·skip
  exact ownsRow_base (own_set4 (T1.out) (by omega)) (by omega)
 ·rw [HOLL.out]
  exact ownsRow_base (own_set4 (O1.out) (by omega)) (by omega)
 ·exact below_set4 (B1w.out) (by omega)
 ·rw [HOLL.out]
set_option maxRecDepth 100000 in
theorem s_AG_r1 (N H:Int) (AT:Option Addr) (nT cT:Nat) (t:List (Int × Int)) (AO:Option Addr) (nO cO:Nat) (o:List (Int × Int)) (k a b c:Int) (w:World) (hT:RdP w AT nT t) (hO:RdP w AO nO o) (hnT:nT<=274877906944) (hnO:nO<=274877906944) (hcT:nT<=cT) (hok:okP ⟨N,H,t,o⟩ ⟨k,a,b,c⟩=true) (h1:(k == 1)=false) (h9:(k == 9)=false) (h11:(k == 11)=false) (hu0:units k ≠ 0) (hf:(at2 o a).2 ≠ 0) :
  Calls Tryz.prog 101 #[.agg #[.int .i64 N,.int .i64 H,.slice AT nT cT,.slice AO nO cO],.agg #[.int .i64 k,.int .i64 a,.int .i64 b,.int .i64 c]] w (RetPB (actP ⟨N,H,t,o⟩ ⟨k,a,b,c⟩) w):=by
 have hol:=hO.1
 have HT:=zH hT
 have HO:=zH hO
 clear hT hO
 have X0:=zH (show Bx (((w.alloc (.cells #[.int .i64 N,.int .i64 H,.slice AT nT cT,.slice AO nO cO] 88)).alloc (.cells #[.int .i64 k,.int .i64 a,.int .i64 b,.int .i64 c] 39)).alloc (.cells #[.int .i64 0,.int .i64 0,.slice none 0 0,.slice none 0 0] 88)) w.heap.size 88 #[.int .i64 N,.int .i64 H,.slice AT nT cT,.slice AO nO cO] from ((Bx.new w _ _).alloc _).alloc _)
 have X1:=zH (show Bx (((w.alloc (.cells #[.int .i64 N,.int .i64 H,.slice AT nT cT,.slice AO nO cO] 88)).alloc (.cells #[.int .i64 k,.int .i64 a,.int .i64 b,.int .i64 c] 39)).alloc (.cells #[.int .i64 0,.int .i64 0,.slice none 0 0,.slice none 0 0] 88)) (w.heap.size+1) 39 #[.int .i64 k,.int .i64 a,.int .i64 b,.int .i64 c] from (Bx.new' (by simp)).alloc _)
 have X2:=zH (show Bx (((w.alloc (.cells #[.int .i64 N,.int .i64 H,.slice AT nT cT,.slice AO nO cO] 88)).alloc (.cells #[.int .i64 k,.int .i64 a,.int .i64 b,.int .i64 c] 39)).alloc (.cells #[.int .i64 0,.int .i64 0,.slice none 0 0,.slice none 0 0] 88)) (w.heap.size+1+1) 88 #[.int .i64 0,.int .i64 0,.slice none 0 0,.slice none 0 0] from Bx.new' (by simp))
 have BZ:Hid (Below w.heap.size w (((w.alloc (.cells #[.int .i64 N,.int .i64 H,.slice AT nT cT,.slice AO nO cO] 88)).alloc (.cells #[.int .i64 k,.int .i64 a,.int .i64 b,.int .i64 c] 39)).alloc (.cells #[.int .i64 0,.int .i64 0,.slice none 0 0,.slice none 0 0] 88))):=zH ((((zW).alloc zR _).alloc (by simp) _).alloc (by simp<;>omega) _)
 obtain ⟨hk,hN⟩:=okP_parts hok
 dsimp only at hk hN
 obtain ⟨_,hN4,ha0,haN,hb0,hbN⟩:=okG_abn hk
 have HK:=zH hk
 obtain ⟨ka,hka⟩:∃ k:Nat,a=k:=⟨a.toNat,by omega⟩
 obtain ⟨kb,hkb⟩:∃ k:Nat,b=k:=⟨b.toNat,by omega⟩
 rw [hol] at hN
 subst hN
 have HOL:=zH hol
 have hkan:ka < nO:=by omega
 have hkbn:kb < nO:=by omega
 have hka0:(0:Int)<=(ka:Int):=by omega
 have hkaI:(ka:Int) < (nO:Int):=by omega
 have hkb0:(0:Int)<=(kb:Int):=by omega
 have hkbI:(kb:Int) < (nO:Int):=by omega
 have hnOO:((nO:Int) != (nO:Int))=false:=by simp
 subst hka hkb
 clear hok hk hol ha0 haN hb0 hbN
 obtain ⟨xa,ya,hxa⟩:∃ x y,o.getD ka (0,0)=(x,y):=⟨_,_,rfl⟩
 have HXA:Hid (at2 o (ka:Int)=(xa,ya)):=zH (by unfold at2;rw [Int.toNat_natCast];exact hxa)
 obtain ⟨u,hu⟩:∃ u,units k=u:=⟨_,rfl⟩
 have hub:=units_bd k
 rw [hu] at hub hu0
 have hu1:0 < u:=by omega
 have hu8:u<=7:=hub.2
 have HU:=zH hu
 have hya:(ya == 0)=false:=by rw [HXA.out] at hf;simpa using hf
 have HYA:=zH hya
 have HOLL:=HOL
 have HACT:actP ⟨(nO:Int),H,t,o⟩ ⟨k,(ka:Int),(kb:Int),c⟩=(⟨(nO:Int),(H+u) % 8,addT t xa (-u),o⟩,true):=by
  unfold actP
  rw [if_neg (by rw [h1];simp),if_neg (by rw [h9];simp),if_neg (by rw [h11];simp)]
  rw [if_neg (by show ¬ (units k == 0)=true;rw [hu];simpa using hu0),HXA.out,hu]
  rw [if_neg (by rw [hya];simp)]
 rw [HACT]
 clear HACT hu hub hu0 hf
 go_enter Tryz.func101,Tryz.ntmps101
 go_wp2_with fail
 refine (s_IsValidGate _ _ _ _ _ _).mono ?_
 rintro e w1 ⟨rfl,b1⟩
 rw [HK.out]
 have X0a:=zH (X0.out.below b1)
 have X1a:=zH (X1.out.below b1)
 have X2a:=zH (X2.out.below b1)
 have B1:=zH (below_trans BZ.out b1)
 have hl2:w.heap.size+1+1 < w1.heap.size:=X2a.out.lt
 have hl1:w.heap.size+1 < w1.heap.size:=by omega
 have hl0:w.heap.size < w1.heap.size:=by omega
 clear b1 X0 X1 X2 BZ
 obtain ⟨p0,p1,p2,p3,pf0,pf1,pf2,pf3⟩:=X0a.out.four
 obtain ⟨q0,q1,q2,q3,qf0,qf1,qf2,qf3⟩:=X1a.out.four
 obtain ⟨r0,r1,r2,r3,rf0,rf1,rf2,rf3⟩:=X2a.out.four
 go_wp2_with fail
 refine (s_l32Copy _ _ _ _ _ t _ _ _ o _ (HT.out.below B1.out) (HO.out.below B1.out) (by omega) (by omega)).mono ?_
 rintro e w2 ⟨v,rfl,⟨A2,c2,B2,d2,rfl,t2,o2⟩,b2⟩
 rw [HT.out.1] at t2 ⊢
 rw [HO.out.1] at o2 ⊢
 have X0b:=zH ((X0a.out.below b2).alloc (.cells #[.int .i64 (nO:Int),.int .i64 H,.slice A2 nT c2,.slice B2 nO d2] 88))
 have X1b:=zH ((X1a.out.below b2).alloc (.cells #[.int .i64 (nO:Int),.int .i64 H,.slice A2 nT c2,.slice B2 nO d2] 88))
 have X2b:=zH ((X2a.out.below b2).alloc (.cells #[.int .i64 (nO:Int),.int .i64 H,.slice A2 nT c2,.slice B2 nO d2] 88))
 have XO:=zH (Bx.new w2 88 #[.int .i64 (nO:Int),.int .i64 H,.slice A2 nT c2,.slice B2 nO d2])
 have TO:=zH (t2.alloc (.cells #[.int .i64 (nO:Int),.int .i64 H,.slice A2 nT c2,.slice B2 nO d2] 88))
 have OO:=zH (o2.alloc (.cells #[.int .i64 (nO:Int),.int .i64 H,.slice A2 nT c2,.slice B2 nO d2] 88))
 have BW2:=zH (show Below w.heap.size w (w2.alloc (.cells #[.int .i64 (nO:Int),.int .i64 H,.slice A2 nT c2,.slice B2 nO d2] 88)) from (below_trans B1.out b2).alloc (below_trans B1.out b2).size _)
 have hbg:w1.heap.size<=w2.heap.size:=b2.size
 clear p0 p1 p2 p3 pf0 pf1 pf2 pf3 q0 q1 q2 q3 qf0 qf1 qf2 qf3 r0 r1 r2 r3 rf0 rf1 rf2 rf3
 obtain ⟨p0,p1,p2,p3,_⟩:=(X0a.out.below b2).four
 obtain ⟨q0,q1,q2,q3,_⟩:=(X1a.out.below b2).four
 obtain ⟨r0,r1,r2,r3,_⟩:=(X2a.out.below b2).four
 have hv0:w.heap.size < w2.heap.size:=by omega
 have hv1:w.heap.size+1 < w2.heap.size:=by omega
 have hv2:w.heap.size+1+1 < w2.heap.size:=by omega
 clear t2 o2 b2 X0a X1a X2a
 go_wp2_with fail
 clear p0 p1 p2 p3 q0 q1 q2 q3 r0 r1 r2 r3
 generalize w2.alloc (.cells #[.int .i64 (nO:Int),.int .i64 H,.slice A2 nT c2,.slice B2 nO d2] 88)=wz at X0b X1b X2b XO TO OO BW2 ⊢
 generalize w2.heap.size=gp at XO hbg ⊢
 have HOz:=zH (HO.out.below BW2.out)
 have HTz:=zH (HT.out.below BW2.out)
 obtain ⟨p0,p1,p2,p3,pf0,pf1,pf2,pf3⟩:=X0b.out.four
 obtain ⟨q0,q1,q2,q3,qf0,qf1,qf2,qf3⟩:=X1b.out.four
 obtain ⟨r0,r1,r2,r3,rf0,rf1,rf2,rf3⟩:=X2b.out.four
 obtain ⟨s0,s1,s2,s3,sf0,sf1,sf2,sf3⟩:=XO.out.four
 have hz0:=X0b.out.lt
 have hz1:=X1b.out.lt
 have hz2:=X2b.out.lt
 have hzg:=XO.out.lt
 have hz2x:w.heap.size+1+1 < wz.heap.size+1:=by omega
 have hgr:gp ≠ w.heap.size+1+1:=by omega
 have hgr':w.heap.size+1+1 ≠ gp:=by omega
 have hg0:gp ≠ w.heap.size:=by omega
 have hg1:gp ≠ w.heap.size+1:=by omega
 refine (s_RotationUnits _ _).mono ?_
 rintro e w' ⟨rfl,rfl⟩
 rw [HU.out]
 obtain ⟨bo,off,rfl,hbo,e0,e1⟩:=rd2At HOz.out hkan
 rw [hxa] at e0 e1
 dsimp only at e0 e1
 go_wp2_with fail
 refine (s_l32Rest _ _).mono ?_
 rintro e w' ⟨rfl,rfl⟩
 rw [wrap_mod8]
 go_wp2_with fail
 have X0c:=zH ((X0b.out.far (p:=⟨gp,1,none⟩) (by show w.heap.size ≠ gp;omega) (.int .i64 ((H+u) % 8))).alloc (.cells #[.int .i64 xa,.int .i64 ya] 93))
 have X2c:=zH ((X2b.out.far (p:=⟨gp,1,none⟩) (by show w.heap.size+1+1 ≠ gp;omega) (.int .i64 ((H+u) % 8))).alloc (.cells #[.int .i64 xa,.int .i64 ya] 93))
 have XOc:=zH ((XO.out.s1 (.int .i64 ((H+u) % 8))).alloc (.cells #[.int .i64 xa,.int .i64 ya] 93))
 have OOc:=zH ((own_set_ne OO.out (p:=⟨gp,1,none⟩) (own_bx_ne OO.out XO.out (by decide)) (.int .i64 ((H+u) % 8))).alloc (.cells #[.int .i64 xa,.int .i64 ya] 93))
 have BWc:=zH ((BW2.out.setCell (p:=⟨gp,1,none⟩) (show w.heap.size<=gp by omega) (.int .i64 ((H+u) % 8))).alloc (by simp [World.setCell];omega) (.cells #[.int .i64 xa,.int .i64 ya] 93))
 have XAc:=zH (show Bx ((wz.setCell ⟨gp,1,none⟩ (.int .i64 ((H+u) % 8))).alloc (.cells #[.int .i64 xa,.int .i64 ya] 93)) wz.heap.size 93 #[.int .i64 xa,.int .i64 ya] from Bx.new' (by simp [World.setCell]))
 have HTc:=zH (HT.out.below BWc.out)
 have hsz:((wz.setCell ⟨gp,1,none⟩ (.int .i64 ((H+u) % 8))).alloc (.cells #[.int .i64 xa,.int .i64 ya] 93)).heap.size=wz.heap.size+1:=by simp [World.setCell]
 clear p0 p1 p2 p3 pf0 pf1 pf2 pf3 q0 q1 q2 q3 qf0 qf1 qf2 qf3 r0 r1 r2 r3 rf0 rf1 rf2 rf3 s0 s1 s2 s3 sf0 sf1 sf2 sf3 e0 e1 X0b X1b X2b XO TO OO HOz HTz BW2
 generalize (wz.setCell ⟨gp,1,none⟩ (.int .i64 ((H+u) % 8))).alloc (.cells #[.int .i64 xa,.int .i64 ya] 93)=wy at X0c X2c XOc OOc HTc BWc XAc hsz ⊢
 have hga:gp < wz.heap.size:=hzg
 have hgz:w.heap.size+1+1 < wz.heap.size:=hz2
 have hw0:w.heap.size < wz.heap.size:=hz0
 clear hz0 hz1 hz2 hzg hz2x
 generalize wz.heap.size=ga at XAc hga hgz hw0 hsz ⊢
 obtain ⟨p0,p1,p2,p3,_⟩:=X0c.out.four
 obtain ⟨a0,a1,_⟩:=XAc.out.two
 have hzz0:=X0c.out.lt
 have hzza:=XAc.out.lt
 have hzzg:=XOc.out.lt
 have hwu:IntKind.i64.wrap (-u) = -u:=IntWalk.i64_in _ (by omega)
 have hwu':wrap64 (-u) = -u:=by unfold wrap64;omega
 have hne1:w.heap.size ≠ gp:=by omega
 have hne2:ga ≠ gp:=by omega
 go_region_held3 (fun w'=>w'.cell? ⟨w.heap.size,2,none⟩=some (.slice AT nT cT)/\w'.cell? ⟨ga,0,none⟩=some (.int .i64 xa))
  (first | exact ⟨y2,ya0⟩ | exact ⟨p2,a0⟩ | exact ⟨((X0c.out.below b5).far (p:=⟨gp,2,none⟩) hne1 _).four.2.2.1,((XAc.out.below b5).far (p:=⟨gp,2,none⟩) hne2 _).two.1⟩ | go_keep)
  (first
   |(go_at_call 58;(with_reducible refine (s_l32Rest _ _).mono ?_);rintro e w' ⟨rfl,rfl⟩)
   |(go_at_call 140;(with_reducible refine (s_l32Add AT nT cT t xa _ _ (RdP.drew HTc.out) (by omega) hcT).mono ?_);rintro e w5 ⟨A5,c5,rfl,o5,b5'⟩;have b5:=below_drew b5';have ⟨_,_,y2,_,_⟩:=(X0c.out.below b5).four;have ⟨ya0,_⟩:=(XAc.out.below b5).two;have ⟨s0,s1,s2,s3,sf0,sf1,sf2,sf3⟩:=(XOc.out.below b5).four;have ⟨r0,r1,r2,r3,rf0,rf1,rf2,rf3⟩:=(X2c.out.below b5).four)
   |fail)
 have XOe:=zH (XOc.out.below b5)
 have OOe:=zH (ownsRow_below OOc.out b5)
 have BWe:=zH (below_trans BWc.out b5)
 have hs5:=b5.size
 rw [addT_mod t xa ((-u) % 8) (-u) (by omega)] at o5 ⊢
 have T1:=zH (ownsRow_base (own_set o5 (p:=⟨gp,2,none⟩) (by show gp < wy.heap.size;omega) (.slice A5 (addT t xa (-u)).length c5)) (show w1.heap.size<=wy.heap.size by omega))
 have O1:=zH (own_set_ne OOe.out (p:=⟨gp,2,none⟩) (own_bx_ne OOe.out XOe.out (by decide)) (.slice A5 (addT t xa (-u)).length c5))
 have B1w:=zH (BWe.out.setCell (p:=⟨gp,2,none⟩) (show w.heap.size<=gp by omega) (.slice A5 (addT t xa (-u)).length c5))
 go_wp2_with fail
 refine bodyPost_ret (v:=.tuple #[.agg #[.int .i64 (nO:Int),.int .i64 ((H+u) % 8),.slice A5 (addT t xa (-u)).length c5,.slice B2 nO d2],.bool true]) (by simp [results,Tryz.results101,go_sem,r0,r1,r2,r3]) rfl ⟨_,rfl,⟨A5,c5,B2,d2,?_,?_,?_⟩,?_⟩
 rotate_left
 ·skip
  exact ownsRow_base (own_set4 (T1.out) (by omega)) (by omega)
 ·rw [HOLL.out]
  exact ownsRow_base (own_set4 (O1.out) (by omega)) (by omega)
 ·exact below_set4 (B1w.out) (by omega)
 ·rw [HOLL.out]
theorem s_ApplyP (N H:Int) (AT:Option Addr) (nT cT:Nat) (t:List (Int × Int)) (AO:Option Addr) (nO cO:Nat) (o:List (Int × Int)) (g:Gt) (w:World) (hT:RdP w AT nT t) (hO:RdP w AO nO o) (hnT:nT<=274877906944) (hnO:nO<=274877906944) (hcT:nT<=cT) :
  Calls Tryz.prog 101 #[.agg #[.int .i64 N,.int .i64 H,.slice AT nT cT,.slice AO nO cO],.agg #[.int .i64 g.k,.int .i64 g.a,.int .i64 g.b,.int .i64 g.c]] w (RetPB (applyP ⟨N,H,t,o⟩ g) w):=by
 obtain ⟨k,a,b,c⟩:=g
 cases hok:okP ⟨N,H,t,o⟩ ⟨k,a,b,c⟩
 ·rw [applyP_no hok]
  exact s_AG_no N H AT nT cT t AO nO cO o k a b c w hT hO hnT hnO hcT hok
 ·rw [applyP_yes hok]
  by_cases h1:k=1
  ·subst h1;exact s_AG_x N H AT nT cT t AO nO cO o a b c w hT hO hnT hnO hcT hok
  by_cases h9:k=9
  ·subst h9;exact s_AG_cx N H AT nT cT t AO nO cO o a b c w hT hO hnT hnO hcT hok
  by_cases h11:k=11
  ·subst h11;exact s_AG_sw N H AT nT cT t AO nO cO o a b c w hT hO hnT hnO hcT hok
  have e1:(k == 1)=false:=by simpa using h1
  have e9:(k == 9)=false:=by simpa using h9
  have e11:(k == 11)=false:=by simpa using h11
  by_cases hu:units k=0
  ·have ha:actP ⟨N,H,t,o⟩ ⟨k,a,b,c⟩=(Po.zero,false):=by
    unfold actP
    rw [if_neg (by rw [e1];simp),if_neg (by rw [e9];simp),if_neg (by rw [e11];simp),if_pos (by rw [hu];rfl)]
   rw [ha]
   exact s_AG_df N H AT nT cT t AO nO cO o k a b c w hT hO hnT hnO hcT hok e1 e9 e11 hu
  by_cases hf:(at2 o a).2=0
  ·exact s_AG_r0 N H AT nT cT t AO nO cO o k a b c w hT hO hnT hnO hcT hok e1 e9 e11 hu hf
  ·exact s_AG_r1 N H AT nT cT t AO nO cO o k a b c w hT hO hnT hnO hcT hok e1 e9 e11 hu hf
end Go.Proofs.YtmenmibfkojnoaaGreat
