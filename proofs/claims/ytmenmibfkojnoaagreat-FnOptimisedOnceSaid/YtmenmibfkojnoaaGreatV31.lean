/- Contracts of the drawing of Clifford gates and of l35Args: l25Cliff, l26Circ, l35Args, DrawGateCost. Contracts of l11Inverse (spec) and inverted (impl): the inverse gates, last first. Contracts of Peephole (spec and impl). Plain: the best of the ways to rewrite a list, and rewriting till nothing is gained. No program in sight; nothing is asked. How the arguments of the laws read as lists of ... -/
import Derived.Test.YtmenmibfkojnoaaGreatV29
import Derived.Test.YtmenmibfkojnoaaGreatV27
import Derived.Test.YtmenmibfkojnoaaGreatV22
import Derived.Test.YtmenmibfkojnoaaGreatV30
import Derived.Test.YtmenmibfkojnoaaGreatV10
import Derived.Test.YtmenmibfkojnoaaGreatV01
import Derived.ProofKit
import Derived.OpenShut
import Derived.Lib.SmallJoins
import Derived.Deep.Slices
import Derived.Deep.Fields
set_option maxHeartbeats 16000000
namespace Go.Proofs.YtmenmibfkojnoaaGreat
open Go.RowKit
set_option linter.unusedVariables false
theorem cl_pick {y:Int} (h:y ∈ [(1:Int),2,3,4,5,6,9,10,11,4,9]):1<=arity y:=by
 have h2:y=1 ∨ y=2 ∨ y=3 ∨ y=4 ∨ y=5 ∨ y=6 ∨ y=9 ∨ y=10 ∨ y=11:=by simp at h;omega
 rcases h2 with h | h | h | h | h | h | h | h | h<;>subst h<;>decide
set_option maxRecDepth 100000 in
theorem s_l25Cliff (g n:Nat) (w:World) (h:Cur w g) (h1:1<=n) (h4:n<=4) :
  Calls Tryz.prog 118 #[.pointer (some ⟨g,0,none⟩),.int .i64 n] w (DrawnG (fun x=>okG x.k x.a x.b x.c n=true) g w):=by
 have hg:=h.lt
 obtain ⟨W1,hW1⟩:∃ W1,W1=(w.alloc (.cells #[.int .i64 0,.int .i64 0,.int .i64 0,.int .i64 0] 39)).alloc (.cells #[.int .i64 1,.int .i64 2,.int .i64 3,.int .i64 4,.int .i64 5,.int .i64 6,.int .i64 9,.int .i64 10,.int .i64 11,.int .i64 4,.int .i64 9] 3):=⟨_,rfl⟩
 have C1:=zH (show Cur W1 g from hW1 ▸ cur_alloc (cur_alloc h _) _)
 have X1:=zH (show Bx W1 w.heap.size 39 #[.int .i64 0,.int .i64 0,.int .i64 0,.int .i64 0] from hW1 ▸ (Bx.new w _ _).alloc _)
 have G1:=zH (show w.grownBy W1 (some g) from hW1 ▸ dr_alloc (dr_alloc (dr_refl w g) _) _)
 have OL:=zH (show W1.ownsRow (g+1) 3 1 (.slice (some ⟨w.heap.size+1,0,none⟩) 11 11) 11 (cellsI [1,2,3,4,5,6,9,10,11,4,9]) from by
  have:((w.alloc (.cells #[.int .i64 0,.int .i64 0,.int .i64 0,.int .i64 0] 39)).alloc (.cells #[.int .i64 1,.int .i64 2,.int .i64 3,.int .i64 4,.int .i64 5,.int .i64 6,.int .i64 9,.int .i64 10,.int .i64 11,.int .i64 4,.int .i64 9] 3)).ownsRow (g+1) 3 1 (.slice (some ⟨(w.alloc (.cells #[.int .i64 0,.int .i64 0,.int .i64 0,.int .i64 0] 39)).heap.size,0,none⟩) 11 11) 11 (cellsI [1,2,3,4,5,6,9,10,11,4,9]):=World.ownsRow_lit (w.alloc (.cells #[.int .i64 0,.int .i64 0,.int .i64 0,.int .i64 0] 39)) #[.int .i64 1,.int .i64 2,.int .i64 3,.int .i64 4,.int .i64 5,.int .i64 6,.int .i64 9,.int .i64 10,.int .i64 11,.int .i64 4,.int .i64 9] 11 (by simp;omega) (by simp [maxLen]) rfl
  rw [World.size_alloc] at this
  rw [hW1];exact this)
 have HW:=zH hW1
 clear h hW1
 go_enter Tryz.func118,Tryz.ntmps118
 go_wp2_with fail
 rw [<- HW.out]
 refine (s_l1PickInt g _ 11 11 [1,2,3,4,5,6,9,10,11,4,9] _ C1.out OL.out (by omega) (by omega)).mono ?_
 rintro e w5 ⟨y,rfl,hy,hc5,g5⟩
 have hk1:=cl_pick hy
 have C5:=zH hc5
 have X5:=zH (dr_bx g5 X1.out (show w.heap.size ≠ g by omega))
 have G5:=zH (dr_trans G1.out g5)
 clear hy hc5 g5 X1 C1 G1 OL HW
 obtain ⟨ar,har⟩:∃ a,arity y=a:=⟨_,rfl⟩
 rw [har] at hk1
 have HAR:=zH har
 have HA7:=zH (show arity 4=1 by decide)
 clear har
 by_cases ht:(n:Int) < ar
 ·go_wp2_with fail
  refine (s_Arity _ _).mono ?_
  rintro e w' ⟨rfl,rfl⟩
  rw [HAR.out]
  go_wp2_with fail
  refine (s_l9On g n 4 _ C5.out h1 h4 (by rw [HA7.out];omega) (by rw [HA7.out];omega)).mono ?_
  rintro e w9 ⟨k,a,b,c,rfl,⟨hk',hok⟩,hc9,g9⟩
  have HOK:=zH hok
  have C9:=zH hc9
  have X9:=zH (dr_bx g9 X5.out (show w.heap.size ≠ g by omega))
  have G9:=zH (dr_trans G5.out g9)
  obtain ⟨q0,q1,q2,q3,f0,f1,f2,f3⟩:=X9.out.four
  have l9:=X9.out.lt
  clear hk' hok hc9 g9 ht hk1
  go_wp2_with fail
  exact bodyPost_ret (v:=.agg #[.int .i64 k,.int .i64 a,.int .i64 b,.int .i64 c]) (by simp [results,Tryz.results118,go_sem,q0,q1,q2,q3]) rfl ⟨k,a,b,c,rfl,HOK.out,cur4 C9.out hg,dr4 G9.out zR⟩
 ·go_wp2_with fail
  refine (s_Arity _ _).mono ?_
  rintro e w' ⟨rfl,rfl⟩
  rw [HAR.out]
  go_wp2_with fail
  refine (s_l9On g n y _ C5.out h1 h4 (by rw [HAR.out];omega) (by rw [HAR.out];omega)).mono ?_
  rintro e w9 ⟨k,a,b,c,rfl,⟨hk',hok⟩,hc9,g9⟩
  have HOK:=zH hok
  have C9:=zH hc9
  have X9:=zH (dr_bx g9 X5.out (show w.heap.size ≠ g by omega))
  have G9:=zH (dr_trans G5.out g9)
  obtain ⟨q0,q1,q2,q3,f0,f1,f2,f3⟩:=X9.out.four
  have l9:=X9.out.lt
  clear hk' hok hc9 g9 ht hk1
  go_wp2_with fail
  exact bodyPost_ret (v:=.agg #[.int .i64 k,.int .i64 a,.int .i64 b,.int .i64 c]) (by simp [results,Tryz.results118,go_sem,q0,q1,q2,q3]) rfl ⟨k,a,b,c,rfl,HOK.out,cur4 C9.out hg,dr4 G9.out zR⟩
set_option maxRecDepth 100000 in
theorem s_l26Circ (g n:Nat) (most:Nat) (w:World) (h:Cur w g) (h1:1<=n) (h4:n<=4) (hm:most<=60) :
  Calls Tryz.prog 73 #[.pointer (some ⟨g,0,none⟩),.int .i64 n,.int .i64 most] w (DrawnC (fun N=>N=n) most g w):=by
 have hg:=h.lt
 have hz4:(Value.agg #[.int .i64 0,.int .i64 0,.int .i64 0,.int .i64 0]).cells.size=4:=rfl
 obtain ⟨W1,hW1⟩:∃ W1,W1=(w.alloc (.cells #[.int .i64 0,.slice none 0 0] 45)).alloc (.cells #[.int .i64 n,.slice none 0 0] 45):=⟨_,rfl⟩
 have C1:=zH (show Cur W1 g from hW1 ▸ cur_alloc (cur_alloc h _) _)
 have R1:=zH (show Bx W1 w.heap.size 45 #[.int .i64 0,.slice none 0 0] from hW1 ▸ (Bx.new w _ _).alloc _)
 have E1:=zH (show Bx W1 (w.heap.size+1) 45 #[.int .i64 n,.slice none 0 0] from hW1 ▸ Bx.new' (by simp))
 have G1:=zH (show w.grownBy W1 (some g) from hW1 ▸ dr_alloc (dr_alloc (dr_refl w g) _) _)
 have HW:=zH hW1
 clear h hW1
 go_enter Tryz.func73,Tryz.ntmps73
 go_wp2_with fail
 rw [<- HW.out]
 refine (s_l1Below g _ _ C1.out (by omega)).mono ?_
 rintro e w2 ⟨y,rfl,⟨hy,_⟩,hc,gg⟩
 obtain ⟨hy0,hy1⟩:=hy (by omega)
 obtain ⟨m,rfl⟩:∃ m:Nat,y=m:=⟨y.toNat,by omega⟩
 have C2:=zH hc
 have R2:=zH (dr_bx gg R1.out (show w.heap.size ≠ g by omega))
 have E2:=zH (dr_bx gg E1.out (show w.heap.size+1 ≠ g by omega))
 have G2:=zH (dr_trans G1.out gg)
 clear hy hc gg C1 R1 E1 G1 HW
 go_wp2_with fail
 go_loopg [9] m (fun r i wr=>∃ (k:Nat) (A:Option Addr) (c:Nat) (gs:List Gt),k+r=m/\i=.int .i64 k/\gs.length=k/\Bx wr w.heap.size 45 #[.int .i64 0,.slice none 0 0]/\Bx wr (w.heap.size+1) 45 #[.int .i64 n,.slice A k c]/\wr.ownsRow w.heap.size 39 4 (.slice A k c) k (cellsG gs)/\Cur wr g/\w.grownBy wr (some g))
 case atStart=>exact ⟨0,none,0,[],by omega,rfl,rfl,R2.out,E2.out,World.ownsRow_nil _ _ _ _,C2.out,G2.out⟩
 case round =>
  clear C2 R2 E2 G2
  obtain ⟨k,A,c,gs,hk,rfl,hl,hr,he,ho,hc,hgr⟩:=hrel
  have HL:=zH hl
  have HR:=zH hr
  have HE:=zH he
  have HO:=zH ho
  have HC:=zH hc
  have HG:=zH hgr
  have lr:=hr.lt
  have le:=he.lt
  clear hl hr he ho hc hgr
  obtain ⟨q0,q1,f0,f1⟩:=HE.out.two
  by_cases hlt:k < m
  ·have CD:=zH (show Cur wr.drew g from HC.out)
   go_wp2_with fail
   go_region_law (first
    |(go_simp;go_at_call 118;(with_reducible refine (s_l25Cliff g n _ (by first | exact CD.out | exact HC.out) h1 h4).mono ?_);rintro e w5 ⟨k5,a5,b5,c5,rfl,_,hc5,g5⟩;have g5:=und_grownD g5;have E5:=dr_bx g5 HE.out (show w.heap.size+1 ≠ g by omega);have R5:=dr_bx g5 HR.out (show w.heap.size ≠ g by omega);have O5:=dr_own g5 HC.out HO.out (by decide);have s5:=g5.size;have ⟨p0,p1,p2,p3⟩:=E5.two;have e5:=E5.lt;have OA:=O5.alloc (.cells #[.int .i64 k5,.int .i64 a5,.int .i64 b5,.int .i64 c5] 39);have CA:=cur_alloc hc5 (.cells #[.int .i64 k5,.int .i64 a5,.int .i64 b5,.int .i64 c5] 39);have GA:=dr_alloc (dr_trans HG.out g5) (.cells #[.int .i64 k5,.int .i64 a5,.int .i64 b5,.int .i64 c5] 39))
    |(refine step_app (by rfl) (.tmp 22) (.tmp 26) 24 (by rfl) Tryz.underlying24 infoGate hz4 (by decide) (by simp [Act.eval]<;>rfl) OA (by simp [Act.eval]<;>rfl) (Rd.lit w5 39 #[.int .i64 k5,.int .i64 a5,.int .i64 b5,.int .i64 c5] 1 4 rfl) (by simp [Value.oneCell']) (by omega) (by decide) (by simp<;>omega) ?_;intro A7 c7 w7 o7 g7;have E7:=kept_app OA g7 (E5.alloc _) (by decide);have R7:=kept_app OA g7 (R5.alloc _) (by decide);have C7:=CA.row g7 (fun q hq=>(by have:=(OA.lt q hq).1;omega));have G7:=dr_row GA g7 (fun q hq=>(OA.lt q hq).1);have ⟨t0,t1,t2,t3⟩:=E7.two;have e7:=E7.lt)
    |fail)
   all_goals go_wp2_with fail
   all_goals go_roundg (gk - 1)
   all_goals first
    |omega
    |exact ⟨k+1,A7,c7,gs++[⟨k5,a5,b5,c5⟩],by omega,by go_num,by simp [HL.out],R7.far (show w.heap.size ≠ w.heap.size+1 by omega) _,E7.t1 _,by rw [cellsG_append];exact own_set_neD o7 (own_bx_ne o7 E7 (by decide)) _,C7.setCell (by show g < w.heap.size+1;omega) _,dr_set G7 (by show w.heap.size<=w.heap.size+1;omega) _⟩
  ·obtain rfl:k=m:=by omega
   obtain ⟨r0,r1,g0,g1⟩:=HR.out.two
   go_wp2_with fail
   refine bodyPost_ret (v:=.agg #[.int .i64 n,.slice A k c]) (by simp [results,Tryz.results73,go_sem,r0,r1]) rfl ⟨n,A,k,c,gs,rfl,HL.out,by omega,rfl,own_set2 HO.out (own_bx_ne HO.out HR.out (by decide)),cur2 HC.out hg,dr2 HG.out zR⟩
def RetAR (w:World) (e:Ending) (w':World):Prop:=∃ (A:Option Addr) (n c:Nat) (gs:List Gt) (N:Int),e=.returned (.tuple #[.slice A n c,.int .i64 N])/\gs.length=n/\n<=64/\w'.ownsRow w.heap.size 39 4 (.slice A n c) n (cellsG gs)/\Below w.heap.size w w'
set_option maxRecDepth 100000 in
theorem s_l35Args (A:Option Addr) (n cap most:Nat) (zs:List Int) (w:World) (h:RdB w A n zs) (hz:∀ z ∈ zs,0<=z/\z<=255) (hn:n<=1048576) (hm:most<=58) :
  Calls Tryz.prog 40 #[.slice A n cap,.int .i64 most] w (RetAR w):=by
 have H:=zH h
 have HZ:=zH hz
 clear h hz
 go_enter Tryz.func40,Tryz.ntmps40
 go_wp2_with fail
 refine (s_l1New _ _ _ _ _ H.out HZ.out hn).mono ?_
 rintro e w1 ⟨g,rfl,hc1,hg,b1⟩
 have B1:=zH b1
 clear b1
 go_wp2_with fail
 refine (s_l1Once g 3 _ hc1 (by omega)).mono ?_
 rintro e w2 ⟨bb,rfl,hc2,g2⟩
 cases bb
 ·go_wp2_with fail
  refine (s_l11Bent g most _ hc2 hm).mono ?_
  rintro e w3 ⟨N,A2,n2,c2,gs,rfl,hl,h5,_,o3,hc3,g3⟩
  have hs1:=B1.out.size
  have hs2:=g2.size
  have OO:=zH ((ownsRow_base o3 (show w.heap.size<=w2.heap.size by omega)).alloc (.cells #[.int .i64 N,.slice A2 n2 c2] 45))
  have BB:=zH (B1.out.trans (below_of_grown (dr_trans g2 g3) hs1 (fun k hk=>(by injection hk with hk;omega))))
  have B3:=zH (BB.out.alloc BB.out.size (.cells #[.int .i64 N,.slice A2 n2 c2] 45))
  have HL:=zH hl
  clear hc3 g3 o3 hl g2 hc2 hc1
  go_wp2_with fail
  go_quiet (fail)
  go_wp2_with fail
  go_ret2
  exact ⟨A2,n2,c2,gs,N,rfl,HL.out,by omega,OO.out,below_drewN B3.out _⟩
 ·go_wp2_with fail
  refine (s_l1Below g 3 _ hc2 (by omega)).mono ?_
  rintro e w3 ⟨y,rfl,⟨hy,_⟩,hc3,g3⟩
  obtain ⟨hy0,hy1⟩:=hy (by omega)
  obtain ⟨q,hq⟩:∃ q:Nat,1+y=q:=⟨(1+y).toNat,by omega⟩
  have hq1:1<=q:=by omega
  have hq4:q<=3:=by omega
  clear hy
  go_wp2_with fail
  clear hq hy0 hy1
  refine (s_l26Circ g q most _ hc3 hq1 (by omega) (by omega)).mono ?_
  rintro e w4 ⟨N,A2,n2,c2,gs,rfl,hl,h5,rfl,o4,hc4,g4⟩
  have hs1:=B1.out.size
  have hs2:=(dr_trans g2 g3).size
  have OO:=zH ((ownsRow_base o4 (show w.heap.size<=w3.heap.size by omega)).alloc (.cells #[.int .i64 (q:Int),.slice A2 n2 c2] 45))
  have BB:=zH (B1.out.trans (below_of_grown (dr_trans (dr_trans g2 g3) g4) hs1 (fun k hk=>(by injection hk with hk;omega))))
  have B3:=zH (BB.out.alloc BB.out.size (.cells #[.int .i64 (q:Int),.slice A2 n2 c2] 45))
  have HL:=zH hl
  clear hc4 g4 o4 hl g2 g3 hc3 hc2 hc1
  go_wp2_with fail
  go_quiet (fail)
  go_wp2_with fail
  go_ret2
  exact ⟨A2,n2,c2,gs,(q:Int),rfl,HL.out,by omega,OO.out,below_drewN B3.out _⟩
def GrB (w:World) (A0:Option Addr) (c0:Nat) (l:List Gt) (wx:World):Prop :=
 wx.ownsRow w.heap.size 39 4 (.slice A0 l.length c0) l.length (cellsG l)/\Below w.heap.size w wx
section
variable {w wx w':World} {A0:Option Addr} {c0:Nat} {l:List Gt}
theorem GrB.below (h:GrB w A0 c0 l wx) (hb:Below wx.heap.size wx w'):GrB w A0 c0 l w':=⟨ownsRow_below h.1 hb,below_trans h.2 hb⟩
theorem GrB.alloc (h:GrB w A0 c0 l wx) (o:Obj):GrB w A0 c0 l (wx.alloc o):=h.below ((zW).alloc zR _)
theorem GrB.drew (h:GrB w A0 c0 l wx):GrB w A0 c0 l wx.drew:=h.below (zW).drew
theorem GrB.new (w:World):GrB w (some ⟨w.heap.size,0,none⟩) 0 [] (w.alloc (.cells #[] 39)):=⟨World.ownsRow_lit w #[] 0 zR (by simp [maxLen]) rfl,(zW).alloc zR _⟩
theorem GrB.new' (h:Below w.heap.size w wx):GrB w (some ⟨wx.heap.size,0,none⟩) 0 [] (wx.alloc (.cells #[] 39)):=⟨World.ownsRow_lit wx #[] 0 h.size (by simp [maxLen]) rfl,h.alloc h.size _⟩
theorem GrB.push {A5:Option Addr} {c5 m:Nat} {ms:List Gt} {w5:World} (h:GrB w A0 c0 l wx) (hg:wx.grownBy w5 (Value.slice A0 l.length c0).ownBlock) (hm:ms.length=m) (ho:w5.ownsRow w.heap.size 39 4 (.slice A5 (l.length+m) c5) (l.length+m) (cellsG l++cellsG ms)):GrB w A5 c5 (l++ms) w5:=by
 subst hm
 refine ⟨by rw [cellsG_append,List.length_append];exact ho,below_grown h.2 h.2.size h.1 zR hg⟩
end
theorem invL_len (l:List Gt):(invL l).length=l.length:=by unfold invL;simp
theorem invL_step {l:List Gt} {k j:Nat} {g:Gt} (hk:k+(j+1)=l.length) (hg:l[j]? = some g):(invL l).take (k+1)=(invL l).take k++[⟨invK g.k,g.a,g.b,g.c⟩]:=by
 refine take_snocT ?_
 unfold invL
 rw [List.getElem?_map,List.getElem?_reverse (by omega),show l.length - 1 - k=j by omega,hg]
 rfl
set_option maxRecDepth 100000 in
theorem s_Inv (m c:Nat) (A:Option Addr) (l:List Gt) (w:World) (hr:RdG w A m l) (hm:m<=1000) :
  Calls Tryz.prog 113 #[.slice A m c] w (Ret 39 4 (cellsG (invL l)) m w):=by
 have HW:=zH hr
 have HL:=zH hr.1
 have G0:=zH (GrB.new w)
 have m0:(0:Int)<=(m:Int):=by omega
 clear hr
 go_enter Tryz.func113,Tryz.ntmps113
 go_wp2_with fail
 go_loopg [3,4] m (fun q v i wr=>∃ (k:Nat) (A0:Option Addr) (c0:Nat),k+q=m/\v=.slice A0 k c0/\i=.int .i64 ((q:Int) - 1)/\GrB w A0 c0 ((invL l).take k) wr)
 case atStart=>exact ⟨0,_,_,by omega,rfl,rfl,G0.out⟩
 case round =>
  clear G0
  obtain ⟨k,A0,c0,hk,rfl,rfl,hG⟩:=hrel
  have HG:=zH hG
  have HK:=zH (show ((invL l).take k).length=k by rw [List.length_take,invL_len,HL.out];omega)
  clear hG
  by_cases hlt:gk=0
  ·subst hlt
   obtain rfl:m=k:=by omega
   have hd:((0:Nat):Int) - 1 = -1:=by omega
   rw [hd]
   go_wp2_with fail
   go_ret
   have hf:(invL l).take m=invL l:=List.take_of_length_le (by rw [invL_len,HL.out];exact zR)
   have H:=HG.out
   unfold GrB at H
   rw [HK.out,hf] at H
   exact ⟨_,_,rfl,H.1,H.2⟩
  ·obtain ⟨j,rfl⟩:∃ j,gk=j+1:=⟨gk - 1,by omega⟩
   have hd:((j+1:Nat):Int) - 1=(j:Int):=by omega
   rw [hd]
   obtain ⟨b,off,g,rfl,hB,hdr,y0,y1,y2,y3⟩:=(HW.out.below HG.out.2).at_ (k:=j) (by omega)
   have hgj:l[j]? = some g:=by have:=congrArg List.head? hdr;rw [List.head?_drop] at this;exact this
   have HS:=zH (invL_step (k:=k) (by rw [HL.out];exact hk) hgj)
   have hj0:(0:Int)<=(j:Int):=by omega
   have hj1:(j:Int) < (m:Int):=by omega
   have hjm:(j:Int)<=1000:=by omega
   clear hdr hgj
   go_wp2_with (first
    |(go_at_call 154;refine (s_InverseGate _ _ _ _ _).mono ?_;rintro e w5 ⟨rfl,b5⟩;have G5:=zH ((HG.out.below b5).alloc (.cells #[.int .i64 (invK g.k),.int .i64 g.a,.int .i64 g.b,.int .i64 g.c] 39));have O5:=G5.out.1;rw [HK.out] at O5;have O5:=zH O5)
    |(at_builtin;refine wpList_app rfl (.tmp 13) (.tmp 19) 24 rfl Tryz.underlying24 infoGate rfl (by decide) rfl O5.out rfl (Rd.lit w5 39 #[.int .i64 (invK g.k),.int .i64 g.a,.int .i64 g.b,.int .i64 g.c] 1 4 rfl) (by simp [Value.oneCell']) (by omega) (by decide) (by have:=b5.size;have:=HG.out.2.size;simp<;>omega) ?_;intro A7 c7 w7 o7 g7;have G7:=zH (show GrB w A7 c7 ((invL l).take (k+1)) w7 from by rw [HS.out];exact G5.out.push (ms:=[⟨invK g.k,g.a,g.b,g.c⟩]) (m:=1) (by rw [HK.out];exact g7) rfl (by rw [HK.out];exact o7))))
   go_roundg j
   all_goals first
    |omega
    |exact ⟨k+1,A7,c7,by omega,rfl,by first | rfl | (congr 1;omega),G7.out⟩
set_option maxRecDepth 100000 in
theorem i_Inv (m c:Nat) (A:Option Addr) (l:List Gt) (w:World) (hr:RdG w A m l) (hm:m<=1000) :
  Calls Tryz.prog 117 #[.slice A m c] w (Ret 39 4 (cellsG (invL l)) m w):=by
 have HW:=zH hr
 have HL:=zH hr.1
 have G0:=zH (GrB.new w)
 have m0:(0:Int)<=(m:Int):=by omega
 clear hr
 go_enter Tryz.func117,Tryz.ntmps117
 go_wp2_with fail
 go_loopg [3,4] m (fun q v i wr=>∃ (k:Nat) (A0:Option Addr) (c0:Nat),k+q=m/\v=.slice A0 k c0/\i=.int .i64 ((q:Int) - 1)/\GrB w A0 c0 ((invL l).take k) wr)
 case atStart=>exact ⟨0,_,_,by omega,rfl,rfl,G0.out⟩
 case round =>
  clear G0
  obtain ⟨k,A0,c0,hk,rfl,rfl,hG⟩:=hrel
  have HG:=zH hG
  have HK:=zH (show ((invL l).take k).length=k by rw [List.length_take,invL_len,HL.out];omega)
  clear hG
  by_cases hlt:gk=0
  ·subst hlt
   obtain rfl:m=k:=by omega
   have hd:((0:Nat):Int) - 1 = -1:=by omega
   rw [hd]
   go_wp2_with fail
   go_ret
   have hf:(invL l).take m=invL l:=List.take_of_length_le (by rw [invL_len,HL.out];exact zR)
   have H:=HG.out
   unfold GrB at H
   rw [HK.out,hf] at H
   exact ⟨_,_,rfl,H.1,H.2⟩
  ·obtain ⟨j,rfl⟩:∃ j,gk=j+1:=⟨gk - 1,by omega⟩
   have hd:((j+1:Nat):Int) - 1=(j:Int):=by omega
   rw [hd]
   obtain ⟨b,off,g,rfl,hB,hdr,y0,y1,y2,y3⟩:=(HW.out.below HG.out.2).at_ (k:=j) (by omega)
   have hgj:l[j]? = some g:=by have:=congrArg List.head? hdr;rw [List.head?_drop] at this;exact this
   have HS:=zH (invL_step (k:=k) (by rw [HL.out];exact hk) hgj)
   have hj0:(0:Int)<=(j:Int):=by omega
   have hj1:(j:Int) < (m:Int):=by omega
   have hjm:(j:Int)<=1000:=by omega
   clear hdr hgj
   go_wp2_with (first
    |(go_at_call 126;refine (i_InverseGate _ _ _ _ _).mono ?_;rintro e w5 ⟨rfl,b5⟩;have G5:=zH ((HG.out.below b5).alloc (.cells #[.int .i64 (invK g.k),.int .i64 g.a,.int .i64 g.b,.int .i64 g.c] 39));have O5:=G5.out.1;rw [HK.out] at O5;have O5:=zH O5)
    |(at_builtin;refine wpList_app rfl (.tmp 13) (.tmp 19) 24 rfl Tryz.underlying24 infoGate rfl (by decide) rfl O5.out rfl (Rd.lit w5 39 #[.int .i64 (invK g.k),.int .i64 g.a,.int .i64 g.b,.int .i64 g.c] 1 4 rfl) (by simp [Value.oneCell']) (by omega) (by decide) (by have:=b5.size;have:=HG.out.2.size;simp<;>omega) ?_;intro A7 c7 w7 o7 g7;have G7:=zH (show GrB w A7 c7 ((invL l).take (k+1)) w7 from by rw [HS.out];exact G5.out.push (ms:=[⟨invK g.k,g.a,g.b,g.c⟩]) (m:=1) (by rw [HK.out];exact g7) rfl (by rw [HK.out];exact o7))))
   go_roundg j
   all_goals first
    |omega
    |exact ⟨k+1,A7,c7,by omega,rfl,by first | rfl | (congr 1;omega),G7.out⟩
def peepN:Nat->List Gt->List Gt
 |0,l=>l
 |f+1,l=>if stepOk l then peepN f (stepL l) else l
def peepL (l:List Gt):List Gt:=peepN l.length l
theorem stepOk_nil {l:List Gt} (h:stepOk l=true):1<=l.length:=by have:=step_len h;omega
theorem peepN_no {l:List Gt} (m:Nat) (h:stepOk l=false):peepN m l=l:=by cases m<;>simp [peepN,h]
theorem peepN_len:∀ (m:Nat) (l:List Gt),(peepN m l).length<=l.length
 |0,l=>by simp [peepN]
 |m+1,l=>by
  unfold peepN
  split
  ·rename_i h;have:=peepN_len m (stepL l);have:=step_len h;omega
  ·exact zR
theorem s_Peephole (A:Option Addr) (n c:Nat) (l:List Gt) (w:World) (h:RdG w A n l) (hn:n<=1099511627776) :
  Calls Tryz.prog 29 #[.slice A n c] w (Ret 39 4 (cellsG (peepL l)) (peepL l).length w):=by
 have H:=zH h
 have hl:=h.1
 have HR:Hid (peepN n l=peepL l):=zH (by rw [<- hl];rfl)
 have HL:=zH hl
 clear h hl
 have OWN0:=zH (World.ownsRow_lit w #[] 0 (size:=4) (e:=39) zR (by simp [maxLen]) rfl)
 go_enter Tryz.func29,Tryz.ntmps29
 go_wp2_with (at_builtin;refine wpList_app0 rfl (.tmp 6) (.tmp 7) 24 rfl Tryz.underlying24 infoGate rfl (by decide) rfl OWN0.out rfl (H.out.2.alloc _) one_cellsG (by omega) (by decide) (by simp) ?_;intro A2 c2 w2 o2 g2)
 have b2:Below w.heap.size w w2:=below_grown ((zW).alloc zR _) (by simp) OWN0.out zR g2
 go_loopg [3] n (fun m v wr=>∃ (k:Nat) (x:List Gt) (A:Option Addr) (ca:Nat),x.length=k/\k<=m/\k<=n/\peepN m x=peepL l/\v=.slice A k ca/\wr.ownsRow w.heap.size 39 4 (.slice A k ca) k (cellsG x)/\Below w.heap.size w wr)
 case atStart=>exact ⟨n,l,A2,c2,HL.out,zR,zR,HR.out,rfl,o2,b2⟩
 case round =>
  obtain ⟨k,x,A3,c3,hk,hkm,hkn,hp,rfl,o3,b3⟩:=hrel
  have HK:=zH hk
  have HP:=zH hp
  have O3:=zH o3
  clear hk hp o3 o2 b2 g2
  go_wp2_with fail
  refine (s_PeepholeStep _ _ _ x _ (RdG.own O3.out) (ownsRow_cap O3.out) (by omega)).mono ?_
  rintro e w4 ⟨A4,c4,rfl,o4,b4⟩
  have b04:=b3.trans (b4.mono b3.size)
  cases hs:stepOk x
  ·have HS:=zH (show x=peepL l by rw [<- HP.out,peepN_no _ hs])
   have FIN:=zH (show Ret 39 4 (cellsG (peepL l)) (peepL l).length w (.returned (.slice A3 k c3)) w4 from by
    rw [<- HS.out,HK.out];exact ⟨A3,c3,rfl,ownsRow_below O3.out b4,b04⟩)
   clear hs
   go_wp2_with fail
   go_ret
   exact FIN.out
  ·have h1:=stepOk_nil hs
   have h2:=step_len hs
   have h3:=HK.out
   obtain ⟨m',rfl⟩:∃ m',gk=m'+1:=⟨gk - 1,by omega⟩
   have FIN:=zH (show peepN m' (stepL x)=peepL l by rw [<- HP.out,peepN,if_pos hs])
   have hle:(stepL x).length<=m'/\(stepL x).length<=n:=by omega
   obtain ⟨j,hj⟩:∃ j,(stepL x).length=j:=⟨_,rfl⟩
   have HJ:=zH hj
   rw [hj] at o4 hle
   rw [hj]
   clear hs h1 h2 h3 hj
   go_wp2_with fail
   go_roundg m'
   case measure=>omega
   case rel=>exact ⟨j,stepL x,A4,c4,HJ.out,hle.1,hle.2,FIN.out,rfl,ownsRow_base o4 b3.size,b04⟩
theorem i_Peephole (A:Option Addr) (n c:Nat) (l:List Gt) (w:World) (h:RdG w A n l) (hn:n<=1099511627776) :
  Calls Tryz.prog 22 #[.slice A n c] w (Ret 39 4 (cellsG (peepL l)) (peepL l).length w):=by
 have H:=zH h
 have hl:=h.1
 have HR:Hid (peepN n l=peepL l):=zH (by rw [<- hl];rfl)
 have HL:=zH hl
 clear h hl
 go_enter Tryz.func22,Tryz.ntmps22
 go_wp2_with fail
 refine (i_copyGates _ _ _ _ _ H.out hn).mono ?_
 rintro e w2 ⟨A2,c2,rfl,o2,b2⟩
 go_wp2_with fail
 go_loopg [3] n (fun m v wr=>∃ (k:Nat) (x:List Gt) (A:Option Addr) (ca:Nat),x.length=k/\k<=m/\k<=n/\peepN m x=peepL l/\v=.slice A k ca/\wr.ownsRow w.heap.size 39 4 (.slice A k ca) k (cellsG x)/\Below w.heap.size w wr)
 case atStart=>exact ⟨n,l,A2,c2,HL.out,zR,zR,HR.out,rfl,o2,b2⟩
 case round =>
  obtain ⟨k,x,A3,c3,hk,hkm,hkn,hp,rfl,o3,b3⟩:=hrel
  have HK:=zH hk
  have HP:=zH hp
  have O3:=zH o3
  clear hk hp o3 o2 b2
  go_wp2_with fail
  refine (i_PeepholeStep _ _ _ x _ (RdG.own O3.out) (ownsRow_cap O3.out) (by omega)).mono ?_
  rintro e w4 ⟨A4,c4,rfl,o4,b4⟩
  have b04:=b3.trans (b4.mono b3.size)
  cases hs:stepOk x
  ·have HS:=zH (show x=peepL l by rw [<- HP.out,peepN_no _ hs])
   have FIN:=zH (show Ret 39 4 (cellsG (peepL l)) (peepL l).length w (.returned (.slice A3 k c3)) w4 from by
    rw [<- HS.out,HK.out];exact ⟨A3,c3,rfl,ownsRow_below O3.out b4,b04⟩)
   clear hs
   go_wp2_with fail
   go_ret
   exact FIN.out
  ·have h1:=stepOk_nil hs
   have h2:=step_len hs
   have h3:=HK.out
   obtain ⟨m',rfl⟩:∃ m',gk=m'+1:=⟨gk - 1,by omega⟩
   have FIN:=zH (show peepN m' (stepL x)=peepL l by rw [<- HP.out,peepN,if_pos hs])
   have hle:(stepL x).length<=m'/\(stepL x).length<=n:=by omega
   obtain ⟨j,hj⟩:∃ j,(stepL x).length=j:=⟨_,rfl⟩
   have HJ:=zH hj
   rw [hj] at o4 hle
   rw [hj]
   clear hs h1 h2 h3 hj
   go_wp2_with fail
   go_roundg m'
   case measure=>omega
   case rel=>exact ⟨j,stepL x,A4,c4,HJ.out,hle.1,hle.2,FIN.out,rfl,ownsRow_base o4 b3.size,b04⟩
def okAll (l:List Gt) (n:Int):Bool:=l.all fun g=>okG g.k g.a g.b g.c n
def wayC (l:List Gt) (n:Int):List (List Gt) :=
 if allCl l && (okAll l n && (inB n 1 4 && (decide (l.length<=60) && decide ((synL l n.toNat).length<=60)))) then [peepL (synL l n.toNat)] else []
def ways (l:List Gt) (n:Int):List (List Gt):=[peepL l,peepL (foldAllP l n).1,peepL (shortRs l n)]++wayC l n
def leastL:List (List Gt)->List Gt->List Gt
 |[],b=>b
 |w :: r,b=>leastL r (if cost w < cost b then w else b)
def best (l:List Gt) (n:Int):List Gt:=leastL (ways l n) l
theorem leastL_le:∀ (ws:List (List Gt)) (b:List Gt),cost (leastL ws b)<=cost b/\∀ w ∈ ws,cost (leastL ws b)<=cost w
 |[],b=>⟨Int.le_refl _,by simp⟩
 |w :: r,b=>by
  obtain ⟨i1,i2⟩:=leastL_le r (if cost w < cost b then w else b)
  rw [leastL]
  have hm:cost (if cost w < cost b then w else b)<=cost b/\cost (if cost w < cost b then w else b)<=cost w:=by
   split
   ·exact ⟨by omega,Int.le_refl _⟩
   ·exact ⟨Int.le_refl _,by omega⟩
  refine ⟨by omega,fun v hv=>?_⟩
  rcases List.mem_cons.1 hv with rfl | hv
  ·omega
  ·exact i2 v hv
theorem best_law (l:List Gt) (n:Int):cost (best l n)<=cost l/\cost (best l n)<=cost (peepL l)/\cost (best l n)<=cost (peepL (foldAllP l n).1)/\cost (best l n)<=cost (peepL (shortRs l n)):=by
 obtain ⟨h1,h2⟩:=leastL_le (ways l n) l
 exact ⟨h1,h2 _ (by simp [ways]),h2 _ (by simp [ways]),h2 _ (by simp [ways])⟩
def optN (n:Int):Nat->List Gt->List Gt
 |0,l=>l
 |m+1,l=>if cost l<=cost (best l n) then l else optN n m (best l n)
def opt (l:List Gt) (n:Int):List Gt:=if okAll l n=true then optN n ((cost l).toNat+1) l else l
theorem optN_stop (n:Int):∀ (m:Nat) (l:List Gt),cost l < m->cost (optN n m l)<=cost (best (optN n m l) n)
 |0,l,h=>by have:=(cost_bd l).1;omega
 |m+1,l,h=>by
  rw [optN]
  split
  ·assumption
  ·exact optN_stop n m _ (by omega)
theorem optN_same {n:Int} {l:List Gt} (h:cost l<=cost (best l n)) (m:Nat):optN n m l=l:=by
 cases m with
 |zero=>rfl
 |succ m=>rw [optN,if_pos h]
theorem opt_once (l:List Gt) (n:Int):opt (opt l n) n=opt l n:=by
 by_cases h:okAll l n=true
 ·have e:opt l n=optN n ((cost l).toNat+1) l:=by unfold opt;rw [if_pos h]
  have hs:=optN_stop n ((cost l).toNat+1) l (by have:=(cost_bd l).1;omega)
  rw [<- e] at hs
  unfold opt at hs ⊢
  by_cases h2:okAll (if okAll l n=true then optN n ((cost l).toNat+1) l else l) n=true
  ·rw [if_pos h2]
   exact optN_same hs _
  ·rw [if_neg h2]
 ·have e:opt l n=l:=by unfold opt;rw [if_neg h]
  rw [e,e]
end Go.Proofs.YtmenmibfkojnoaaGreat
namespace Go.Proofs.YtmenmibfkojnoaaGreat
open Go.ChangeShapes Go.WideShapes Go.ChangeAt Go.RowKit Go.Deep
def I64 (n:Int):Prop:=-9223372036854775808<=n/\n<=9223372036854775807
theorem i64_of_wf {n:Int} (h:(Lit.int .i64 n).wf=true):I64 n:=by
 simpa [Lit.wf,IntKind.min,IntKind.max,IntKind.signed,IntKind.bits,I64] using h
def Gt.ok (g:Gt):Prop:=I64 g.k/\I64 g.a/\I64 g.b/\I64 g.c
theorem addr_plain {w:World} {a:Addr} {v:Value} (h:w.cell? (a.add 0)=some v):∃ b off,a=⟨b,off,none⟩/\b < w.heap.size:=by
 obtain ⟨b,off,spot⟩:=a
 have e:spot=none:=by simpa [Addr.add] using World.cell?_spot h
 subst e
 exact ⟨b,off,rfl,by simpa [Addr.add] using World.block_lt_of_cell? w _ h⟩
theorem add_lit (b off j:Nat):(⟨b,off,none⟩:Addr).add j=⟨b,off+j,none⟩:=by
 unfold Addr.add
 split
 ·subst j;rfl
 ·rfl
section
variable {H:Type} {enc:TypeId × Value->H} {P:Program} {w:World} {base:Nat} {spare:Nat->Bool} {held:Bool}
theorem choose_list {α:Type} (n:Nat) (p:Nat->α->Prop) (h:∀ i,i < n->∃ x,p i x):∃ l:List α,l.length=n/\∀ i x,l[i]? = some x->p i x:=by
 induction n with
 |zero=>exact ⟨[],rfl,fun i x hx=>by simp at hx⟩
 |succ n ih =>
  obtain ⟨l,hl,hp⟩:=ih fun i hi=>h i (by omega)
  obtain ⟨x,hx⟩:=h n (by omega)
  refine ⟨l++[x],by simp [hl],fun i y hy=>?_⟩
  rw [List.getElem?_append] at hy
  split at hy
  ·exact hp i y hy
  ·rename_i hge
   have:i - l.length=0:=by
    rcases Nat.eq_zero_or_pos (i - l.length) with h0 | h0
    ·exact h0
    ·rw [List.getElem?_eq_none (by simp;omega)] at hy;cases hy
   rw [this] at hy
   simp at hy
   subst hy
   obtain rfl:i=n:=by omega
   exact hx
theorem open_rows {t e:TypeId} {fuel sz:Nat} {v:Value} {x:DataW H × List MemPlace} (hC:P.cellsOf e=sz) (hsz:0 < sz) (ht:P.underlying t=some (.slice e)) (h:DataW.trod enc P w base spare held fuel t [v]=some x) :
  ∃ A n cap,v=.slice A n cap/\n<=cap/\cap<=maxLen/\(A=none->n=0/\cap=0) ∧
   ∃ l:List (List Value),l.length=n/\(∀ c ∈ l,c.length=sz/\∃ m y,DataW.trod enc P w base spare held m e c=some y) ∧
    (0 < n->∃ b off,A=some ⟨b,off,none⟩/\b < w.heap.size/\∀ i c j u,l[i]? = some c->c[j]? = some u->w.cell? ⟨b,off+(i * sz+j),none⟩=some u):=by
 rcases open_slice ht h with ⟨h0,_⟩ | ⟨a,len,cap,m,n,D,Pl,hcs,hb,hl,hm,hmm,hx,hi⟩
 ·simp at h0
  subst h0
  exact ⟨none,0,0,rfl,by omega,by simp [maxLen],fun _=>⟨rfl,rfl⟩,[],rfl,fun c hc=>by simp at hc,fun h=>absurd h (by omega)⟩
 ·simp at hcs
  subst hcs
  refine ⟨some a,len,cap,rfl,hl,hm,(fun h=>by simp at h),?_⟩
  have hle:len<=m:=by rw [hmm];split<;>omega
  obtain ⟨l,hll,hp⟩:=choose_list len (fun i c=>c.length=sz/\(∃ m y,DataW.trod enc P w base spare held m e c=some y)/\∀ j u,c[j]? = some u->w.cell? (a.add (i * sz+j))=some u) (fun i hi'=>by
   obtain ⟨cs',hc,ht'⟩:=hi i (by omega)
   rw [hC] at hc
   obtain ⟨_,hcl,hat⟩:=World.cells?_some hc
   refine ⟨cs',hcl,⟨_,_,ht'⟩,fun j u hu=>?_⟩
   have hjl:j < sz:=by
    rcases Nat.lt_or_ge j cs'.length with h | h
    ·omega
    ·rw [List.getElem?_eq_none h] at hu;cases hu
   have:=hat j hjl
   rw [hu] at this
   rw [<- Go.Deep.add_add]
   exact this)
  refine ⟨l,hll,fun c hc=>?_,fun hn=>?_⟩
  ·obtain ⟨i,hi1,rfl⟩:=List.getElem_of_mem hc
   obtain ⟨h1,h2,_⟩:=hp i l[i] (List.getElem?_eq_getElem hi1)
   exact ⟨h1,h2⟩
  ·have h0:l[0]? = some (l[0]'(by omega)):=List.getElem?_eq_getElem (by omega)
   obtain ⟨g1,_,g3⟩:=hp 0 _ h0
   have h00:(l[0]'(by omega))[0]? = some ((l[0]'(by omega))[0]'(by omega)):=List.getElem?_eq_getElem (by omega)
   have hc0:=g3 0 _ h00
   simp only [Nat.zero_mul,Nat.add_zero] at hc0
   obtain ⟨b,off,rfl,hlt⟩:=addr_plain hc0
   refine ⟨b,off,rfl,hlt,fun i c j u hc hu=>?_⟩
   obtain ⟨_,_,k3⟩:=hp i c hc
   rw [<- add_lit]
   exact k3 j u hu
theorem flat_at (sz:Nat):∀ (l:List (List Value)) (j:Nat) (u:Value),(∀ c ∈ l,c.length=sz)->l.flatten[j]? = some u->∃ i c k,l[i]? = some c/\c[k]? = some u/\j=i * sz+k
 |[],j,u,_,h=>by simp at h
 |c :: r,j,u,hl,h=>by
  have hc:=hl c (by simp)
  rw [List.flatten_cons,List.getElem?_append] at h
  split at h
  ·exact ⟨0,c,j,by simp,h,by omega⟩
  ·obtain ⟨i,c',k,h1,h2,h3⟩:=flat_at sz r (j - c.length) u (fun c hc=>hl c (by simp [hc])) h
   refine ⟨i+1,c',k,by simpa using h1,h2,?_⟩
   rw [Nat.add_mul];omega
theorem rd_rows {A:Option Addr} {n sz:Nat} {l:List (List Value)} (hl:l.length=n) (hc:∀ c ∈ l,c.length=sz)
  (h:0 < n->∃ b off,A=some ⟨b,off,none⟩/\b < w.heap.size/\∀ i c j u,l[i]? = some c->c[j]? = some u->w.cell? ⟨b,off+(i * sz+j),none⟩=some u):Rd w sz A n l.flatten:=by
 refine ⟨?_,fun hn=>?_⟩
 ·subst hl
  clear h
  induction l with
  |nil=>simp
  |cons c r ih =>
   rw [List.flatten_cons,List.length_append,ih fun c hc'=>hc c (by simp [hc']),hc c (by simp),List.length_cons,Nat.add_mul];omega
 ·obtain ⟨b,off,e,hb,hh⟩:=h hn
  refine ⟨b,off,e,hb,fun j u hu=>?_⟩
  obtain ⟨i,c,k,h1,h2,rfl⟩:=flat_at sz l j u hc hu
  exact hh i c k u h1 h2
theorem map_of {α:Type} (f:α->List Value) (ok:α->Prop) (l:List (List Value)) (h:∀ c ∈ l,∃ g,c=f g/\ok g):∃ gs:List α,l=gs.map f/\∀ g ∈ gs,ok g:=by
 induction l with
 |nil=>exact ⟨[],rfl,fun g hg=>by simp at hg⟩
 |cons c r ih =>
  obtain ⟨gs,e,hk⟩:=ih fun c hc=>h c (by simp [hc])
  obtain ⟨g,rfl,hg⟩:=h c (by simp)
  exact ⟨g :: gs,by simp [e],fun x hx=>by
   rcases List.mem_cons.1 hx with rfl | hx
   ·exact hg
   ·exact hk x hx⟩
theorem open_gates {t e:TypeId} {fuel:Nat} {v:Value} {x:DataW H × List MemPlace} {f0 f1 f2 f3:Field} (ht:P.underlying t=some (.slice e)) (he:P.underlying e=some (.struct #[f0,f1,f2,f3]))
  (hone:oneCellFields P #[f0,f1,f2,f3]=true) (hC:P.cellsOf e=4) (h0:P.underlying f0.type=some (.int .i64)) (h1:P.underlying f1.type=some (.int .i64)) (h2:P.underlying f2.type=some (.int .i64)) (h3:P.underlying f3.type=some (.int .i64))
  (h:DataW.trod enc P w base spare held fuel t [v]=some x) :
  ∃ A n cap gs,v=.slice A n cap/\RdG w A n gs/\n<=cap/\cap<=maxLen/\∀ g ∈ gs,g.ok:=by
 obtain ⟨A,n,cap,rfl,h4,h5,_,l,hl,hc,hr⟩:=open_rows hC (by omega) ht h
 obtain ⟨gs,rfl,hok⟩:=map_of Gt.cells Gt.ok l (fun c hcm=>by
  obtain ⟨hlen,m,y,hy⟩:=hc c hcm
  obtain ⟨ys,n',_,_,_,_,hf⟩:=DataW.trod_struct he hy
  obtain ⟨c0,c1,c2,c3,rfl⟩:∃ c0 c1 c2 c3,c=[c0,c1,c2,c3]:=by
   match c,hlen with
   |[c0,c1,c2,c3],_=>exact ⟨c0,c1,c2,c3,rfl⟩
  have g:∀ (i:Nat) (f:Field) (u:Value),#[f0,f1,f2,f3][i]? = some f->[c0,c1,c2,c3][i]? = some u->P.underlying f.type=some (.int .i64)->∃ z,u=.int .i64 z/\I64 z:=by
   intro i f u hi hu hi64
   obtain ⟨ho,hk⟩:=hone_of hone i f hi
   have hyi:=hf i f hi
   rw [ho,hk] at hyi
   have hil:i < 4:=by have:=(Array.getElem?_eq_some_iff.1 hi).1;simpa using this
   have hil':i < [c0,c1,c2,c3].length:=by simpa using hil
   have e1:([c0,c1,c2,c3].drop i).take 1=[u]:=by
    rw [List.drop_eq_getElem_cons hil']
    rw [List.getElem?_eq_getElem hil'] at hu
    simp at hu
    simp [hu]
   rw [e1] at hyi
   have hys:∃ y,ys[i]? = some y:=by
    have:i < ys.length:=by simp_all
    exact ⟨_,List.getElem?_eq_getElem this⟩
   obtain ⟨y',hy'⟩:=hys
   rw [hy'] at hyi
   obtain ⟨z,hz,_,hw⟩:=DataW.trod_int hi64 hyi
   simp at hz
   exact ⟨z,hz,i64_of_wf hw⟩
  obtain ⟨z0,rfl,b0⟩:=g 0 f0 c0 rfl rfl h0
  obtain ⟨z1,rfl,b1⟩:=g 1 f1 c1 rfl rfl h1
  obtain ⟨z2,rfl,b2⟩:=g 2 f2 c2 rfl rfl h2
  obtain ⟨z3,rfl,b3⟩:=g 3 f3 c3 rfl rfl h3
  exact ⟨⟨z0,z1,z2,z3⟩,rfl,b0,b1,b2,b3⟩)
 refine ⟨A,n,cap,gs,rfl,⟨by simpa using hl,?_⟩,h4,h5,hok⟩
 have:=rd_rows hl (fun c hcm=>(hc c hcm).1) hr
 rwa [<- List.flatMap_def] at this
theorem open_pairs {t e:TypeId} {fuel:Nat} {v:Value} {x:DataW H × List MemPlace} {f0 f1:Field} (ht:P.underlying t=some (.slice e)) (he:P.underlying e=some (.struct #[f0,f1]))
  (hone:oneCellFields P #[f0,f1]=true) (hC:P.cellsOf e=2) (h0:P.underlying f0.type=some (.int .i64)) (h1:P.underlying f1.type=some (.int .i64))
  (h:DataW.trod enc P w base spare held fuel t [v]=some x) :
  ∃ A n cap ps,v=.slice A n cap/\RdP w A n ps/\n<=cap/\cap<=maxLen/\∀ g ∈ ps,I64 g.1/\I64 g.2:=by
 obtain ⟨A,n,cap,rfl,h4,h5,_,l,hl,hc,hr⟩:=open_rows hC (by omega) ht h
 obtain ⟨gs,rfl,hok⟩:=map_of (fun p:Int × Int=>[Value.int .i64 p.1,.int .i64 p.2]) (fun p=>I64 p.1/\I64 p.2) l (fun c hcm=>by
  obtain ⟨hlen,m,y,hy⟩:=hc c hcm
  obtain ⟨ys,n',_,_,_,_,hf⟩:=DataW.trod_struct he hy
  obtain ⟨c0,c1,rfl⟩:∃ c0 c1,c=[c0,c1]:=by
   match c,hlen with
   |[c0,c1],_=>exact ⟨c0,c1,rfl⟩
  have g:∀ (i:Nat) (f:Field) (u:Value),#[f0,f1][i]? = some f->[c0,c1][i]? = some u->P.underlying f.type=some (.int .i64)->∃ z,u=.int .i64 z/\I64 z:=by
   intro i f u hi hu hi64
   obtain ⟨ho,hk⟩:=hone_of hone i f hi
   have hyi:=hf i f hi
   rw [ho,hk] at hyi
   have hil:i < 2:=by have:=(Array.getElem?_eq_some_iff.1 hi).1;simpa using this
   have hil':i < [c0,c1].length:=by simpa using hil
   have e1:([c0,c1].drop i).take 1=[u]:=by
    rw [List.drop_eq_getElem_cons hil']
    rw [List.getElem?_eq_getElem hil'] at hu
    simp at hu
    simp [hu]
   rw [e1] at hyi
   have hys:∃ y,ys[i]? = some y:=by
    have:i < ys.length:=by simp_all
    exact ⟨_,List.getElem?_eq_getElem this⟩
   obtain ⟨y',hy'⟩:=hys
   rw [hy'] at hyi
   obtain ⟨z,hz,_,hw⟩:=DataW.trod_int hi64 hyi
   simp at hz
   exact ⟨z,hz,i64_of_wf hw⟩
  obtain ⟨z0,rfl,b0⟩:=g 0 f0 c0 rfl rfl h0
  obtain ⟨z1,rfl,b1⟩:=g 1 f1 c1 rfl rfl h1
  exact ⟨(z0,z1),rfl,b0,b1⟩)
 refine ⟨A,n,cap,gs,rfl,⟨by simpa using hl,?_⟩,h4,h5,hok⟩
 have:=rd_rows hl (fun c hcm=>(hc c hcm).1) hr
 rwa [<- List.flatMap_def] at this
theorem flat_ones (k:IntKind) (gs:List Int):gs.map (Value.int k)=(gs.map fun z:Int=>[Value.int k z]).flatten:=by
 induction gs with
 |nil=>rfl
 |cons a r ih=>simp only [List.map_cons,List.flatten_cons,ih,List.singleton_append]
theorem open_nums {t e:TypeId} {fuel:Nat} {v:Value} {x:DataW H × List MemPlace} (ht:P.underlying t=some (.slice e)) (he:P.underlying e=some (.int .i64)) (hC:P.cellsOf e=1)
  (h:DataW.trod enc P w base spare held fuel t [v]=some x) :
  ∃ A n cap zs,v=.slice A n cap/\RdI w A n zs/\n<=cap/\cap<=maxLen/\∀ z ∈ zs,I64 z:=by
 obtain ⟨A,n,cap,rfl,h4,h5,_,l,hl,hc,hr⟩:=open_rows hC (by omega) ht h
 obtain ⟨gs,rfl,hok⟩:=map_of (fun z:Int=>[Value.int .i64 z]) I64 l (fun c hcm=>by
  obtain ⟨hlen,m,y,hy⟩:=hc c hcm
  obtain ⟨z,hz,_,hw⟩:=DataW.trod_int he hy
  exact ⟨z,hz,i64_of_wf hw⟩)
 refine ⟨A,n,cap,gs,rfl,⟨by simpa using hl,?_⟩,h4,h5,hok⟩
 have:=rd_rows hl (fun c hcm=>(hc c hcm).1) hr
 rwa [<- flat_ones] at this
theorem open_bytes {t e:TypeId} {fuel:Nat} {v:Value} {x:DataW H × List MemPlace} (ht:P.underlying t=some (.slice e)) (he:P.underlying e=some (.int .u8)) (hC:P.cellsOf e=1)
  (h:DataW.trod enc P w base spare held fuel t [v]=some x) :
  ∃ (A:Option Addr) (n cap:Nat) (zs:List Int),v=.slice A n cap/\(zs.length=n/\Rd w 1 A n (zs.map (Value.int .u8)))/\n<=cap/\cap<=maxLen/\∀ z ∈ zs,0<=z/\z<=255:=by
 obtain ⟨A,n,cap,rfl,h4,h5,_,l,hl,hc,hr⟩:=open_rows hC (by omega) ht h
 obtain ⟨gs,rfl,hok⟩:=map_of (fun z:Int=>[Value.int .u8 z]) (fun z=>0<=z/\z<=255) l (fun c hcm=>by
  obtain ⟨hlen,m,y,hy⟩:=hc c hcm
  obtain ⟨z,hz,_,hw⟩:=DataW.trod_int he hy
  exact ⟨z,hz,by simpa [Lit.wf,IntKind.min,IntKind.max,IntKind.signed,IntKind.bits] using hw⟩)
 refine ⟨A,n,cap,gs,rfl,⟨by simpa using hl,?_⟩,h4,h5,hok⟩
 have:=rd_rows hl (fun c hcm=>(hc c hcm).1) hr
 rwa [<- flat_ones] at this
end
end Go.Proofs.YtmenmibfkojnoaaGreat
