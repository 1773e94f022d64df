/- Contracts of the drawing of gates: l9On,. -/
import Derived.Test.YtmenmibfkojnoaaGreatY18
set_option maxHeartbeats 16000000
set_option maxRecDepth 100000
namespace Go.Proofs.YtmenmibfkojnoaaGreat
open Go.RowKit
set_option linter.unusedVariables false
def vQ (P:Gt->Prop) (g:Nat) (w:World) (e:Ending) (w':World):Prop :=
 ∃ k a b c:Int,e=.returned (.agg #[k,a,b,c])/\P ⟨k,a,b,c⟩/\Cur w' g/\w.grownBy w' (some g)
theorem tX {w':World} {g R:Nat} {a b c d:Value} (h:Cur w' g) (hR:g < R):Cur ((((w'.setCell ⟨R,0,none⟩ a).setCell ⟨R,1,none⟩ b).setCell ⟨R,2,none⟩ c).setCell ⟨R,3,none⟩ d) g :=
 (((h.setCell (by exact hR) _).setCell (by exact hR) _).setCell (by exact hR) _).setCell (by exact hR) _
theorem L9 {a b:World} {g R:Nat} {p q r s:Value} (h:a.grownBy b (some g)) (hR:a.heap.size<=R):a.grownBy ((((b.setCell ⟨R,0,none⟩ p).setCell ⟨R,1,none⟩ q).setCell ⟨R,2,none⟩ r).setCell ⟨R,3,none⟩ s) (some g) :=
 eS (eS (eS (eS h (by exact hR) _) (by exact hR) _) (by exact hR) _) (by exact hR) _
theorem a9 {w:World} {g:Nat} (h:Cur w g) (o:Obj):Cur (w.alloc o) g:=h.below ((zW).alloc zR _)
theorem bJ {a b:World} {g:Nat} (h:a.grownBy b (some g)) (o:Obj):a.grownBy (b.alloc o) (some g):=yy h ((zW).alloc zR _)
theorem mA (a:World) (g:Nat):a.grownBy a (some g):=World.grownBy.refl _ _
theorem Jg {a b:World} {o:Obj} {g:Nat} (h:(a.alloc o).grownBy b (some g)):a.grownBy b (some g):=a7 (bJ (mA a g) o) h
theorem PY {k x n:Int} (hk:aA k=1) (h1:1<=n) (h4:n<=4) (hx:0<=x) (hx2:x<=n - 1):fJ k x 0 0 n=true:=by
 have e1:ee n 1 4=true:=bG h1 h4;have e2:ee x 0 (n - 1)=true:=bG hx hx2;simp [fJ,tZ,jL,gH,e1,e2,hk]
theorem UN {k x y n:Int} (hk:aA k=2) (h1:1<=n) (h4:n<=4) (hx:0<=x) (hx2:x<=n - 1) (hy:0<=y) (hy2:y<=n - 1) (hne:x ≠ y):fJ k x y 0 n=true:=by
 have e1:ee n 1 4=true:=bG h1 h4;have e2:ee x 0 (n - 1)=true:=bG hx hx2;have e3:ee y 0 (n - 1)=true:=bG hy hy2;simp [fJ,tZ,jL,gH,e1,e2,e3,hk,hne]
theorem UO {k x y z n:Int} (hk:aA k=3) (h1:1<=n) (h4:n<=4) (hx:0<=x) (hx2:x<=n - 1) (hy:0<=y) (hy2:y<=n - 1) (hz:0<=z) (hz2:z<=n - 1) (hne:x ≠ y) (hne2:x ≠ z) (hne3:y ≠ z):fJ k x y z n=true:=by
 have e1:ee n 1 4=true:=bG h1 h4;have e2:ee x 0 (n - 1)=true:=bG hx hx2;have e3:ee y 0 (n - 1)=true:=bG hy hy2;have e4:ee z 0 (n - 1)=true:=bG hz hz2;simp [fJ,tZ,jL,gH,e1,e2,e3,e4,hk,hne,hne2,hne3]
theorem Bi {p:Prop} (h:p:=by simp [results,Tryz.results158,go_sem,q0,q1,q2,q3,l2]):p:=h
theorem pf (g n:Nat) (kind:Int) (w:World) (h:Cur w g) (h1:1<=n) (h4:n<=4) (ha:aA kind<=n) (hk:1<=aA kind) :
  Calls Tryz.prog 158 #[.pointer (some ⟨g,0,none⟩),kind,n] w (vQ (fun x=>x.k=kind/\fJ x.k x.a x.b x.c n=true) g w):=by
 have H:=zH (a9 h ZO.zG);have hg:=h.lt;have X0:=zH (Bx.new w 39 #[(0:Int),(0:Int),(0:Int),(0:Int)]);clear h;go_enter Tryz.func158,Tryz.ntmps158;go_wp2_with fail;refine (IM g n _ H h1 h4).mono ?_;rintro e w2 ⟨A,nn,c,zs,rfl,hl,⟨hl2,hp⟩,o,hc,g2⟩;obtain rfl:nn=n:=by rw [<- hl,hl2]
 have X2:=zH (cl g2 X0.out (show w.heap.size ≠ g by omega));have G2:=zH (Jg g2);have C2:=zH hc;have l2:=X2.lt;obtain ⟨hb,hnd,_,_⟩:=(isPerm_iff zs).1 hp;obtain ⟨ar,har⟩:∃ a,aA kind=a:=⟨_,rfl⟩;rw [har] at ha hk;have har3:ar<=3:=by rw [<- har];exact (ev kind).2
 have HAR:=zH har;obtain ⟨b,hA⟩:∃ b,A=some ⟨b,0,none⟩:=by
  rcases o.2 with ⟨_,h0⟩ | ⟨b,cap,cur,hv,_⟩
  ·omega
  ·injection hv with hv _ _;exact ⟨b,hv⟩
 subst hA;obtain ⟨z0,r0,rfl⟩:∃ z r,zs=z :: r:=by cases zs with | nil=>simp at hl;omega | cons z r=>exact ⟨z,r,rfl⟩
 have k0:w2.cell? ⟨b,0,none⟩=some (.int .i64 z0):=(o.cellAt 0 zO).trans rfl;have hb0:=hb z0 zI;obtain ⟨q0,q1,q2,q3,f0,f1,f2,f3⟩:=X2.four;have hlb:=(o.lt b rfl).2;rw [hl] at hb0;have hcase:ar=1\/ar=2\/ar=3:=zO;clear hc g2 har hp X0 H;rcases hcase with rfl | rfl | rfl
 ·have HO:=zH (PY (n:=nn) HAR zO zO hb0.1 hb0.2);clear hb hnd hb0 hl hl2 o
  go_wp2_with (go_at_call 60;refine (bX _ _).mono ?_;rintro e w' ⟨rfl,rfl⟩;rw [HAR.out])
  refine bodyPost_ret (v:=.agg #[kind,z0,(0:Int),(0:Int)]) Bi rfl ⟨kind,z0,0,0,rfl,⟨rfl,HO.out⟩,?_,?_⟩
  ·exact a9 (tX C2.out hg) _
  ·exact bJ (L9 G2.out zR) _
 ·obtain ⟨z1,r1,rfl⟩:∃ z r,r0=z :: r:=by cases r0 with | nil=>simp at hl;omega | cons z r=>exact ⟨z,r,rfl⟩
  have k1:w2.cell? ⟨b,1,none⟩=some (.int .i64 z1):=(o.cellAt 1 zO).trans rfl;have hb1:=hb z1 zI;rw [hl] at hb1;have hne:z0 ≠ z1:=by intro e;subst e;simp at hnd
  have HO:=zH (UN (n:=nn) HAR zO zO hb0.1 hb0.2 hb1.1 hb1.2 hne);clear hb hnd hb0 hb1 hl hl2 o hne
  go_wp2_with (go_at_call 60;refine (bX _ _).mono ?_;rintro e w' ⟨rfl,rfl⟩;rw [HAR.out])
  refine bodyPost_ret (v:=.agg #[kind,z0,z1,(0:Int)]) Bi rfl ⟨kind,z0,z1,0,rfl,⟨rfl,HO.out⟩,?_,?_⟩
  ·exact a9 (tX C2.out hg) _
  ·exact bJ (L9 G2.out zR) _
 ·obtain ⟨z1,r1,rfl⟩:∃ z r,r0=z :: r:=by cases r0 with | nil=>simp at hl;omega | cons z r=>exact ⟨z,r,rfl⟩
  obtain ⟨z2,r2,rfl⟩:∃ z r,r1=z :: r:=by cases r1 with | nil=>simp at hl;omega | cons z r=>exact ⟨z,r,rfl⟩
  have k1:w2.cell? ⟨b,1,none⟩=some (.int .i64 z1):=(o.cellAt 1 zO).trans rfl;have k2:w2.cell? ⟨b,2,none⟩=some (.int .i64 z2):=(o.cellAt 2 zO).trans rfl;have hb1:=hb z1 zI;have hb2:=hb z2 zI;rw [hl] at hb1 hb2;have hne:z0 ≠ z1:=by intro e;subst e;simp at hnd
  have hne2:z0 ≠ z2:=by intro e;subst e;simp at hnd
  have hne3:z1 ≠ z2:=by intro e;subst e;simp at hnd
  have HO:=zH (UO (n:=nn) HAR zO zO hb0.1 hb0.2 hb1.1 hb1.2 hb2.1 hb2.2 hne hne2 hne3);clear hb hnd hb0 hb1 hb2 hl hl2 o hne hne2 hne3
  go_wp2_with (go_at_call 60;refine (bX _ _).mono ?_;rintro e w' ⟨rfl,rfl⟩;rw [HAR.out])
  refine bodyPost_ret (v:=.agg #[kind,z0,z1,z2]) Bi rfl ⟨kind,z0,z1,z2,rfl,⟨rfl,HO.out⟩,?_,?_⟩
  ·exact a9 (tX C2.out hg) _
  ·exact bJ (L9 G2.out zR) _
theorem RU {p:Prop} (h:p:=by simp [results,Tryz.results159,go_sem,q0,q1,q2,q3]):p:=h
theorem vR {p:Prop} (h:p:=by rw [HA4.out];omega):p:=h
theorem vS {p:Prop} (h:p:=by rw [HAR.out];omega):p:=h
theorem Jh {p:Prop} (h:p:=by
  obtain ⟨q0,q1,q2,q3,f0,f1,f2,f3⟩:=X9.four;have l9:=X9.lt;clear hk' hok hc9 g9 ht hk1;go_wp2_with fail;exact bodyPost_ret (v:=.agg #[k,a,b,c]) RU rfl ⟨k,a,b,c,rfl,HOK.out,tX C9.out hg,L9 G9.out zR⟩):p:=h
theorem Ji {p:Prop} (h:p:=by
  rintro e w9 ⟨k,a,b,c,rfl,⟨hk',hok⟩,hc9,g9⟩;have HOK:=zH hok;have C9:=zH hc9;have X9:=zH (cl g9 X3.out (show w.heap.size ≠ g by omega));have G9:=zH (a7 G3 g9);exact Jh):p:=h
theorem Jj {p:Prop} (h:p:=by
  rintro e w9 ⟨k,a,b,c,rfl,⟨hk',hok⟩,hc9,g9⟩;have HOK:=zH hok;have C9:=zH hc9;have X9:=zH (cl g9 X5.out (show w.heap.size ≠ g by omega));have G9:=zH (a7 G5 g9);exact Jh):p:=h
theorem yL (g n:Nat) (w:World) (h:Cur w g) (h1:1<=n) (h4:n<=4) :
  Calls Tryz.prog 159 #[.pointer (some ⟨g,0,none⟩),n] w (vQ (fun x=>fJ x.k x.a x.b x.c n=true) g w):=by
 have hg:=h.lt;obtain ⟨W1,hW1⟩:∃ W1,W1=(w.alloc ZO.zG).alloc (.cells #[(0:Int),(8:Int),(11:Int),(12:Int),(12:Int)] 3):=⟨_,rfl⟩;have C1:=zH (show Cur W1 g from hW1 ▸ a9 (a9 h _) _);have X1:=zH (show Bx W1 w 39 #[(0:Int),(0:Int),(0:Int),(0:Int)] from hW1 ▸ (Bx.new w _ _).alloc _);have G1:=zH (show w.grownBy W1 (some g) from hW1 ▸ bJ (bJ (mA w g) _) _);have HW:=zH hW1;clear h hW1;obtain ⟨mo,hmo⟩:∃ m:Nat,([0,8,11,12,12]:List Nat)[n]? = some m/\8<=m/\m<=12/\(n=1->m=8)/\(n=2->m=11):=by
  obtain h | h | h | h:n=1\/n=2\/n=3\/n=4:=zO
  all_goals subst h;exact ⟨_,rfl,zO,zO,zO,zO⟩
 obtain ⟨hm1,hm2,hm3,hm4,hm5⟩:=hmo;have hlit:([.int .i64 0,.int .i64 8,.int .i64 11,.int .i64 12,.int .i64 12]:List Value)[n]? = some (.int .i64 mo):=by
  obtain h | h | h | h:n=1\/n=2\/n=3\/n=4:=zO
  all_goals subst h;simp at hm1 ⊢;omega
 have hnI:(n:Int) < 5:=zO;have hn0:(0:Int)<=(n:Int):=zO;clear hm1;have hnI4:(n:Int)<=4:=zO;go_enter Tryz.func159,Tryz.ntmps159;go_wp2_with fail;rw [<- HW.out];clear hlit hnI hn0;refine (dz g mo _ C1 zO).mono ?_;rintro e w2 ⟨x,rfl,⟨hx,_⟩,hc2,g2⟩;obtain ⟨hx0,hx1⟩:=hx zO;clear hx;go_wp2_with fail;refine (rX g 2 _ hc2 zO).mono ?_;rintro e w3 ⟨bb,rfl,hc3,g3⟩;have C3:=zH hc3;have G3:=zH (a7 (a7 G1 g2) g3);have X3:=zH (cl g3 (cl g2 X1.out zO) (show w.heap.size ≠ g by omega));have hgs:g+1<=w3.heap.size:=hc3.lt;have l3:=X3.lt;clear hc2 hc3 g2 g3 X1 G1 C1;cases bb
 ·have hk1:1<=aA (1+x):=by rcases bd (1+x) with h | h | h | h<;>omega
  obtain ⟨ar,har⟩:∃ a,aA (1+x)=a:=⟨_,rfl⟩;rw [har] at hk1;have HAR:=zH har;have ha4:aA 4=1:=zD;have HA4:=zH ha4;clear har ha4;by_cases ht:(n:Int) < ar
  ·skip;go_wp2_with fail;refine (bX _ _).mono ?_;rintro e w' ⟨rfl,rfl⟩;rw [HAR.out];go_wp2_with fail;refine (pf g n (4) _ C3.out h1 h4 vR vR).mono ?_;exact Ji
  ·skip;go_wp2_with fail;refine (bX _ _).mono ?_;rintro e w' ⟨rfl,rfl⟩;rw [HAR.out];go_wp2_with fail;refine (pf g n ((1+x)) _ C3.out h1 h4 vS vS).mono ?_;exact Ji
 ·have OL:=zH (show (w3.alloc (.cells #[(4:Int),(7:Int),(5:Int),(8:Int),(9:Int),(9:Int),(9:Int),(9:Int)] 3)).ownsRow (g+1) 3 1 (.slice (some ⟨w3,0,none⟩) 8 8) 8 (aB [4,7,5,8,9,9,9,9]) from World.ownsRow_lit w3 #[(4:Int),(7:Int),(5:Int),(8:Int),(9:Int),(9:Int),(9:Int),(9:Int)] 8 hgs zM rfl);have C4:=zH (a9 C3 (.cells #[(4:Int),(7:Int),(5:Int),(8:Int),(9:Int),(9:Int),(9:Int),(9:Int)] 3));have X4:=zH (X3.alloc (.cells #[(4:Int),(7:Int),(5:Int),(8:Int),(9:Int),(9:Int),(9:Int),(9:Int)] 3));have G4:=zH (bJ G3 (.cells #[(4:Int),(7:Int),(5:Int),(8:Int),(9:Int),(9:Int),(9:Int),(9:Int)] 3));go_wp2_with fail;refine (fM g _ 8 8 [4,7,5,8,9,9,9,9] _ C4 OL zO zO).mono ?_;rintro e w5 ⟨y,rfl,hy,hc5,g5⟩;have hk1:1<=aA y:=by simp at hy;rcases bd y with h | h | h | h<;>omega
  have C5:=zH hc5;have X5:=zH (cl g5 X4.out (show w.heap.size ≠ g by omega));have G5:=zH (a7 G4 g5);clear hy hc5 g5 C3 C4 X3 X4 G3 G4 OL;obtain ⟨ar,har⟩:∃ a,aA y=a:=⟨_,rfl⟩;rw [har] at hk1;have HAR:=zH har;have ha4:aA 4=1:=zD;have HA4:=zH ha4;clear har ha4;by_cases ht:(n:Int) < ar
  ·skip;go_wp2_with fail;refine (bX _ _).mono ?_;rintro e w' ⟨rfl,rfl⟩;rw [HAR.out];go_wp2_with fail;refine (pf g n (4) _ C5.out h1 h4 vR vR).mono ?_;exact Jj
  ·skip;go_wp2_with fail;refine (bX _ _).mono ?_;rintro e w' ⟨rfl,rfl⟩;rw [HAR.out];go_wp2_with fail;refine (pf g n (y) _ C5.out h1 h4 vS vS).mono ?_;exact Jj
theorem sm {p:Prop} (h:p:=by simp [results,Tryz.results122,go_sem,q0,q1,q2,q3]):p:=h
theorem vT {p:Prop} (h:p:=by show w.heap.size<=w2.heap.size;omega):p:=h
theorem vU {p:Prop} (h:p:=by show g < w2.heap.size;omega):p:=h
theorem Jk (g n:Nat) (w:World) (h:Cur w g) (h1:1<=n) (h4:n<=4) :
  Calls Tryz.prog 122 #[.pointer (some ⟨g,0,none⟩),n] w (vQ (fun _=>True) g w):=by
 have hg:=h.lt;have H:=zH (a9 h ZO.zG);have X0:=zH (Bx.new w 39 #[(0:Int),(0:Int),(0:Int),(0:Int)]);clear h;go_enter Tryz.func122,Tryz.ntmps122;go_wp2_with fail;refine (yL g n _ H h1 h4).mono ?_;rintro e w2 ⟨k,a,b,c,rfl,hok,hc2,g2⟩;have G2:=zH (Jg g2);have X2:=zH (cl g2 X0.out (show w.heap.size ≠ g by omega));have C2:=zH hc2;clear hok hc2 g2 X0 H;have hs2:w.heap.size < w2.heap.size:=X2.lt;have C3:=zH (a9 C2 (.cells #[k,a,b,c] 39));have X3:=zH (X2.alloc (.cells #[k,a,b,c] 39));have E3:=zH (Bx.new w2 39 #[k,a,b,c]);have G3:=zH (bJ G2 (.cells #[k,a,b,c] 39));clear C2 X2 G2;go_wp2_with fail;refine (dz g 10 _ C3 zO).mono ?_;rintro e w4 ⟨z,rfl,_,hc4,g4⟩;have C4:=zH hc4;have X4:=zH (cl g4 X3.out (show w.heap.size ≠ g by omega));have E4:=zH (cl g4 E3.out (show w2.heap.size ≠ g by omega));have G4:=zH (a7 G3 g4);have l4:=E4.lt
 have hgs:g+1<=w4.heap.size:=hc4.lt;clear hc4 g4 C3 X3 E3 G3;by_cases z0:z=0
 ·subst z0;go_wp2_with fail;refine (dz g 15 _ C4 zO).mono ?_;rintro e w5 ⟨y,rfl,⟨hy,_⟩,hc,gg⟩;have C5:=zH hc;have X5:=zH (cl gg X4.out (show w.heap.size ≠ g by omega));have E5:=zH (cl gg E4.out (show w2.heap.size ≠ g by omega));have G5:=zH (a7 G4 gg);clear hc gg;obtain ⟨hy0,hy1⟩:=hy zO;clear hy;obtain ⟨q0,q1,q2,q3,f0,f1,f2,f3⟩:=X5.four;obtain ⟨u0,u1,u2,u3,v0,v1,v2,v3⟩:=E5.four;have le5:=E5.lt;go_wp2_with fail;exact bodyPost_ret (v:=.agg #[.int .i64 (y - 1),a,b,c]) sm rfl ⟨(y - 1),a,b,c,rfl,trivial,tX (C5.setCell vU _) hg,L9 (eS G5.out vT _) zR⟩
 ·by_cases z1:z=1
  ·subst z1;obtain ⟨u0,u1,u2,u3,_⟩:=E4.four;have OL:=zH (show (w4.alloc (.cells #[(0:Int),n,.int .i64 (-1),b] 3)).ownsRow (g+1) 3 1 (.slice (some ⟨w4,0,none⟩) 4 4) 4 (aB [0,(n:Int),(-1),b]) from World.ownsRow_lit w4 #[(0:Int),n,.int .i64 (-1),b] 4 hgs zM rfl);go_wp2_with fail;refine (fM g _ 4 4 [0,(n:Int),(-1),b] _ (a9 C4 (.cells #[(0:Int),n,.int .i64 (-1),b] 3)) OL zO zO).mono ?_;rintro e w5 ⟨y,rfl,_,hc,gg⟩;have C5:=zH hc;have X5:=zH (cl gg (X4.alloc (.cells #[(0:Int),n,.int .i64 (-1),b] 3)) (show w.heap.size ≠ g by omega));have E5:=zH (cl gg (E4.alloc (.cells #[(0:Int),n,.int .i64 (-1),b] 3)) (show w2.heap.size ≠ g by omega));have G5:=zH (a7 (bJ G4 (.cells #[(0:Int),n,.int .i64 (-1),b] 3)) gg);clear hc gg;clear u0 u1 u2 u3;obtain ⟨q0,q1,q2,q3,f0,f1,f2,f3⟩:=X5.four;obtain ⟨u0,u1,u2,u3,v0,v1,v2,v3⟩:=E5.four;have le5:=E5.lt;go_wp2_with fail
   exact bodyPost_ret (v:=.agg #[k,y,b,c]) sm rfl ⟨k,y,b,c,rfl,trivial,tX (C5.setCell vU _) hg,L9 (eS G5.out vT _) zR⟩
  ·by_cases z2:z=2
   ·subst z2;obtain ⟨u0,u1,u2,u3,_⟩:=E4.four;have OL:=zH (show (w4.alloc (.cells #[(0:Int),n,.int .i64 (-1),a] 3)).ownsRow (g+1) 3 1 (.slice (some ⟨w4,0,none⟩) 4 4) 4 (aB [0,(n:Int),(-1),a]) from World.ownsRow_lit w4 #[(0:Int),n,.int .i64 (-1),a] 4 hgs zM rfl);go_wp2_with fail;refine (fM g _ 4 4 [0,(n:Int),(-1),a] _ (a9 C4 (.cells #[(0:Int),n,.int .i64 (-1),a] 3)) OL zO zO).mono ?_;rintro e w5 ⟨y,rfl,_,hc,gg⟩;have C5:=zH hc;have X5:=zH (cl gg (X4.alloc (.cells #[(0:Int),n,.int .i64 (-1),a] 3)) (show w.heap.size ≠ g by omega));have E5:=zH (cl gg (E4.alloc (.cells #[(0:Int),n,.int .i64 (-1),a] 3)) (show w2.heap.size ≠ g by omega));have G5:=zH (a7 (bJ G4 (.cells #[(0:Int),n,.int .i64 (-1),a] 3)) gg);clear hc gg;clear u0 u1 u2 u3;obtain ⟨q0,q1,q2,q3,f0,f1,f2,f3⟩:=X5.four;obtain ⟨u0,u1,u2,u3,v0,v1,v2,v3⟩:=E5.four;have le5:=E5.lt;go_wp2_with fail
    exact bodyPost_ret (v:=.agg #[k,a,y,c]) sm rfl ⟨k,a,y,c,rfl,trivial,tX (C5.setCell vU _) hg,L9 (eS G5.out vT _) zR⟩
   ·by_cases z3:z=3
    ·subst z3;have OL:=zH (show (w4.alloc (.cells #[(0:Int),(1:Int),n,.int .i64 (-1)] 3)).ownsRow (g+1) 3 1 (.slice (some ⟨w4,0,none⟩) 4 4) 4 (aB [0,1,(n:Int),(-1)]) from World.ownsRow_lit w4 #[(0:Int),(1:Int),n,.int .i64 (-1)] 4 hgs zM rfl);go_wp2_with fail;refine (fM g _ 4 4 [0,1,(n:Int),(-1)] _ (a9 C4 (.cells #[(0:Int),(1:Int),n,.int .i64 (-1)] 3)) OL zO zO).mono ?_;rintro e w5 ⟨y,rfl,_,hc,gg⟩;have C5:=zH hc;have X5:=zH (cl gg (X4.alloc (.cells #[(0:Int),(1:Int),n,.int .i64 (-1)] 3)) (show w.heap.size ≠ g by omega));have E5:=zH (cl gg (E4.alloc (.cells #[(0:Int),(1:Int),n,.int .i64 (-1)] 3)) (show w2.heap.size ≠ g by omega));have G5:=zH (a7 (bJ G4 (.cells #[(0:Int),(1:Int),n,.int .i64 (-1)] 3)) gg);clear hc gg;obtain ⟨q0,q1,q2,q3,f0,f1,f2,f3⟩:=X5.four;obtain ⟨u0,u1,u2,u3,v0,v1,v2,v3⟩:=E5.four;have le5:=E5.lt;go_wp2_with fail
     exact bodyPost_ret (v:=.agg #[k,a,b,y]) sm rfl ⟨k,a,b,y,rfl,trivial,tX (C5.setCell vU _) hg,L9 (eS G5.out vT _) zR⟩
    ·have e0:(z == 0)=false:=by simpa using z0
     have e1:(z == 1)=false:=by simpa using z1
     have e2:(z == 2)=false:=by simpa using z2
     have e3:(z == 3)=false:=by simpa using z3
     clear z0 z1 z2 z3;obtain ⟨q0,q1,q2,q3,f0,f1,f2,f3⟩:=X4.four;obtain ⟨u0,u1,u2,u3,v0,v1,v2,v3⟩:=E4.four;have le4:=E4.lt;go_wp2_with fail;exact bodyPost_ret (v:=.agg #[k,a,b,c]) sm rfl ⟨k,a,b,c,rfl,trivial,tX C4.out hg,L9 G4.out zR⟩
theorem kC {W w':World} {r:Option Nat} (h:W.drew.grownBy w' r):W.grownBy w' r:=⟨h.os,h.tape,h.output,h.size,h.block⟩
theorem eW {w:World} {base:Nat} {e:TypeId} {sz n:Nat} {v:Value} {xs:List Value} (h:w.ownsRow base e sz v n xs) {p:Addr} (hp:some p.block ≠ v.ownBlock) (u:Value):(w.setCell p u).ownsRow base e sz v n xs:=by
 have hg:w.grownBy (w.setCell p u) (some p.block):=⟨rfl,rfl,rfl,by simp [World.setCell],fun k hk hne=>Below.heap_setCell w _ _ k (fun e=>hne (by rw [e]))⟩;exact h.kept hg (.inr (fun e=>hp e.symm))
def Jl (P:Int->Prop) (B:Nat) (g:Nat) (w:World) (e:Ending) (w':World):Prop :=
 ∃ (N:Int) (A:Option Addr) (n c:Nat) (gs:List Gt),e=.returned (.agg #[N,.slice A n c])/\gs.length=n/\n<=B/\P N/\w'.ownsRow w 39 4 (.slice A n c) n (af gs)/\Cur w' g/\w.grownBy w' (some g)
theorem tY {w':World} {g R:Nat} {a b:Value} (h:Cur w' g) (hR:g < R):Cur ((w'.setCell ⟨R,0,none⟩ a).setCell ⟨R,1,none⟩ b) g :=
 (h.setCell (by exact hR) _).setCell (by exact hR) _
theorem RV {a b:World} {g R:Nat} {p q:Value} (h:a.grownBy b (some g)) (hR:a.heap.size<=R):a.grownBy ((b.setCell ⟨R,0,none⟩ p).setCell ⟨R,1,none⟩ q) (some g) :=
 eS (eS h (by exact hR) _) (by exact hR) _
theorem i5 {w':World} {base R:Nat} {e:TypeId} {sz n:Nat} {v:Value} {xs:List Value} {a b:Value} (h:w'.ownsRow base e sz v n xs) (hR:some R ≠ v.ownBlock):((w'.setCell ⟨R,0,none⟩ a).setCell ⟨R,1,none⟩ b).ownsRow base e sz v n xs :=
 eW (eW h (by exact hR) _) (by exact hR) _
theorem Bx.t1 {w:World} {g t:Nat} {a b:Value} (h:Bx w g t #[a,b]) (x:Value):Bx (w.setCell ⟨g,1,none⟩ x) g t #[a,x]:=by simpa using h.set_ 1 x
theorem Bj (g n:Nat) (most:Nat) (w:World) (h:Cur w g) (h1:1<=n) (h4:n<=4) (hm:most<=60) :
  Calls Tryz.prog 120 #[.pointer (some ⟨g,0,none⟩),n,most] w (Jl (fun N=>N=n) most g w):=by
 have hg:=h.lt;have hz4:(Value.agg #[(0:Int),(0:Int),(0:Int),(0:Int)]).cells.size=4:=rfl;obtain ⟨W1,hW1⟩:∃ W1,W1=(w.alloc (.cells #[(0:Int),.slice none 0 0] 45)).alloc (.cells #[n,.slice none 0 0] 45):=⟨_,rfl⟩;have C1:=zH (show Cur W1 g from hW1 ▸ a9 (a9 h _) _);have R1:=zH (show Bx W1 w 45 #[(0:Int),.slice none 0 0] from hW1 ▸ (Bx.new w _ _).alloc _);have E1:=zH (show Bx W1 (w.heap.size+1) 45 #[n,.slice none 0 0] from hW1 ▸ Bx.new' zI);have G1:=zH (show w.grownBy W1 (some g) from hW1 ▸ bJ (bJ (mA w g) _) _);have HW:=zH hW1;clear h hW1;go_enter Tryz.func120,Tryz.ntmps120;go_wp2_with fail;rw [<- HW.out];refine (dz g _ _ C1 zO).mono ?_;rintro e w2 ⟨y,rfl,⟨hy,_⟩,hc,gg⟩;obtain ⟨hy0,hy1⟩:=hy zO;obtain ⟨m,rfl⟩:∃ m:Nat,y=m:=⟨y.toNat,zO⟩;have C2:=zH hc;have R2:=zH (cl gg R1.out (show w.heap.size ≠ g by omega))
 have E2:=zH (cl gg E1.out (show w.heap.size+1 ≠ g by omega));have G2:=zH (a7 G1 gg);clear hy hc gg C1 R1 E1 G1 HW;go_wp2_with fail;go_loopg [9] m (fun r i wr=>∃ (k:Nat) (A:Option Addr) (c:Nat) (gs:List Gt),k+r=m/\i=.int .i64 k/\gs.length=k/\Bx wr w 45 #[(0:Int),.slice none 0 0]/\Bx wr (w.heap.size+1) 45 #[n,.slice A k c]/\wr.ownsRow w 39 4 (.slice A k c) k (af gs)/\Cur wr g/\w.grownBy wr (some g))
 case atStart=>exact ⟨0,none,0,[],zO,rfl,rfl,R2.out,E2.out,World.ownsRow_nil _ _ _ _,C2.out,G2.out⟩
 case round =>
  clear C2 R2 E2 G2;obtain ⟨k,A,c,gs,hk,rfl,hl,hr,he,ho,hc,hgr⟩:=hrel;have HL:=zH hl;have HR:=zH hr;have HE:=zH he;have HO:=zH ho;have HC:=zH hc;have HG:=zH hgr;have lr:=hr.lt;have le:=he.lt;clear hl hr he ho hc hgr;obtain ⟨q0,q1,f0,f1⟩:=HE.two;by_cases hlt:k < m
  ·have CD:=zH (show Cur wr.drew g from HC.out);go_wp2_with fail
   go_region_law (first
    |(go_simp;go_at_call 159;(with_reducible refine (yL g n _ (by first | exact CD.out | exact HC.out) h1 h4).mono ?_);rintro e w5 ⟨k5,a5,b5,c5,rfl,_,hc5,g5⟩;have g5:=kC g5;have E5:=cl g5 HE.out (show w.heap.size+1 ≠ g by omega);have R5:=cl g5 HR.out (show w.heap.size ≠ g by omega);have O5:=kv g5 HC.out HO.out zD;have s5:=g5.size;have ⟨p0,p1,p2,p3⟩:=E5.two;have e5:=E5.lt;have OA:=O5.alloc (.cells #[k5,a5,b5,c5] 39);have CA:=a9 hc5 (.cells #[k5,a5,b5,c5] 39);have GA:=bJ (a7 HG.out g5) (.cells #[k5,a5,b5,c5] 39))
    |(refine bv zF (.tmp 22) (.tmp 26) 24 zF Tryz.underlying24 ak hz4 zD zA OA zA (Rd.lit w5 39 #[k5,a5,b5,c5] 1 4 rfl) zV zO zD zS ?_;intro A7 c7 w7 o7 g7;have E7:=az OA g7 (E5.alloc _) zD;have R7:=az OA g7 (R5.alloc _) zD;have C7:=CA.row g7 (fun q hq=>(by have:=(OA.lt q hq).1;omega));have G7:=rW GA g7 (fun q hq=>(OA.lt q hq).1);have ⟨t0,t1,t2,t3⟩:=E7.two;have e7:=E7.lt)
    |fail)
   all_goals go_wp2_with fail
   all_goals go_roundg (gk - 1)
   all_goals first
    |omega
    |exact ⟨k+1,A7,c7,gs++[⟨k5,a5,b5,c5⟩],zO,by go_num,by simp [HL.out],R7.far (show w.heap.size ≠ w.heap.size+1 by omega) _,E7.t1 _,by rw [av];exact eW o7 (am o7 E7 zD) _,C7.setCell (by show g < w.heap.size+1;omega) _,eS G7 (by show w.heap.size<=w.heap.size+1;omega) _⟩
  ·obtain rfl:k=m:=zO;obtain ⟨r0,r1,g0,g1⟩:=HR.two;go_wp2_with fail;refine bodyPost_ret (v:=.agg #[n,.slice A k c]) (by simp [results,Tryz.results120,go_sem,r0,r1]) rfl ⟨n,A,k,c,gs,rfl,HL.out,zO,rfl,i5 HO.out (am HO.out HR.out zD),tY HC.out hg,RV HG.out zR⟩
theorem Ns (a b:Int) (w:World):Calls Tryz.prog 123 #[a,b] w fun e w'=>e=.returned (.int .i64 (if a > b then a else b))/\w=w':=by
 by_cases h:a > b
 ·go_enter Tryz.func123,Tryz.ntmps123;go_wp2_with fail;go_ret;exact ⟨rfl,rfl⟩
 ·go_enter Tryz.func123,Tryz.ntmps123;go_wp2_with fail;go_ret;exact ⟨rfl,rfl⟩
theorem mB {W w':World} {r:Option Nat} (h:W.drew.grownBy w' r):W.grownBy w' r:=⟨h.os,h.tape,h.output,h.size,h.block⟩
theorem Jm {p:Prop} (h:p:=by repeat (first | exact zW | assumption | refine Below.drew ?_ | refine Below.alloc ?_ zS _)):p:=h
theorem Jn {p:Prop} (h:p:=by
  rintro v w5 A5 c5 rfl o5 g5;have oa:=HO.alloc (.cells #[.int .i64 (2 ^ k),(0:Int)] 93);have y1:=az oa g5 (HX1.alloc _) zD;have y2:=az oa g5 (HX2.alloc _) zD;have hs:=g5.size;simp only [World.size_alloc] at hs;refine ⟨zH y2,zH ⟨y1.far zI _,y2.s3 _,fZ (by rw [IR,dM];exact o5) (by show w.heap.size+1 < _;omega) _,(ag (HB.alloc zO _) zJ oa zO g5).setCell zI _,by simp [World.setCell];omega⟩⟩):p:=h
theorem PZ (n:Int) (w:World):Calls Tryz.prog 100 #[n] w (qM (cg n).N (cg n).H (cg n).t (cg n).o w):=by
 cases hin:ee n 1 4
 ·have HI:=zH hin;have he:cg n=Po.zero:=by unfold cg;rw [hin];rfl
  rw [he];clear he hin;go_enter Tryz.func100,Tryz.ntmps100;go_wp2_with fail;refine (el _ _ _ _).mono ?_;rintro e w' ⟨rfl,rfl⟩;rw [HI.out];go_wp2_with fail;refine bodyPost_ret (v:=.agg #[(0:Int),(0:Int),.slice none 0 0,.slice none 0 0]) (by simp [results,Tryz.results100,go_sem]) rfl ⟨_,rfl,⟨none,0,none,0,rfl,World.ownsRow_nil _ _ _ _,World.ownsRow_nil _ _ _ _⟩,?_⟩;exact Jm
 ·obtain ⟨h1,h4⟩:=inB_iff.1 hin;obtain ⟨m,rfl⟩:∃ m:Nat,n=m:=⟨n.toNat,zO⟩;have HI:=zH hin;have he:cg m=⟨m,0,[],mw m⟩:=by unfold cg;rw [hin];rfl
  rw [he];clear he hin;have X1:=zH (show Bx ((w.alloc ZO.zP).alloc (.cells #[m,(0:Int),.slice none 0 0,.slice none 0 0] 88)) w.heap.size 88 _ from (Bx.new w _ _).alloc _);have X2:=zH (show Bx ((w.alloc ZO.zP).alloc (.cells #[m,(0:Int),.slice none 0 0,.slice none 0 0] 88)) (w.heap.size+1) 88 _ from Bx.new' zI);have BZ:Hid (Below w w ((w.alloc ZO.zP).alloc (.cells #[m,(0:Int),.slice none 0 0,.slice none 0 0] 88))):=zH (((zW).alloc zR _).alloc zI _);have hz2:(Value.agg #[(0:Int),(0:Int)]).cells.size=2:=rfl;go_enter Tryz.func100,Tryz.ntmps100;go_wp2_with fail;refine (el _ _ _ _).mono ?_;rintro e w' ⟨rfl,rfl⟩;rw [HI.out];go_wp2_with fail
  go_loopg [4] m (fun r i wr=>∃ (k:Nat) (A0:Option Addr) (c0:Nat),k+r=m/\i=.int .i64 k/\Bx wr w 88 #[(0:Int),(0:Int),.slice none 0 0,.slice none 0 0]/\Bx wr (w.heap.size+1) 88 #[m,(0:Int),.slice none 0 0,.slice A0 k c0]/\wr.ownsRow (w.heap.size+1+1) 93 2 (.slice A0 k c0) k (aj (mw k))/\Below w w wr/\w.heap.size+1+1<=wr.heap.size)
  case atStart=>exact ⟨0,none,0,zO,rfl,X1.out,X2.out,World.ownsRow_nil _ _ _ _,BZ.out,X2.lt⟩
  case round =>
   clear X1 X2 BZ;obtain ⟨k,A0,c0,hk,rfl,hx1,hx2,ho,hb,hsz⟩:=hrel;have HX1:=zH hx1;have HX2:=zH hx2;have HO:=zH ho;have HB:=zH hb;clear hx1 hx2 ho hb;obtain ⟨p0,p1,p2,p3,f0,f1,f2,f3⟩:=HX2.four;have n0:w.heap.size+1 < wr.heap.size:=HX2.lt;by_cases hlt:k < m
   ·have hcase:k=0\/k=1\/k=2\/k=3:=zO
    have END:∀ (v:Int) (w5:World) (A5:Option Addr) (c5:Nat),v=2 ^ k->w5.ownsRow (w.heap.size+1+1) 93 2 (.slice A5 (k+1) c5) (k+1) (aj (mw k)++[.int .i64 v,.int .i64 0])->(wr.alloc (.cells #[v,(0:Int)] 93)).grownBy w5 (Value.slice A0 k c0).ownBlock->Hid (Bx w5 (w.heap.size+1) 88 #[m,(0:Int),.slice none 0 0,.slice A0 k c0])/\Hid (Bx (w5.setCell ⟨w.heap.size+1,3,none⟩ (.slice A5 (k+1) c5)) w 88 #[(0:Int),(0:Int),.slice none 0 0,.slice none 0 0]/\Bx (w5.setCell ⟨w.heap.size+1,3,none⟩ (.slice A5 (k+1) c5)) (w.heap.size+1) 88 #[m,(0:Int),.slice none 0 0,.slice A5 (k+1) c5]/\(w5.setCell ⟨w.heap.size+1,3,none⟩ (.slice A5 (k+1) c5)).ownsRow (w.heap.size+1+1) 93 2 (.slice A5 (k+1) c5) (k+1) (aj (mw (k+1)))/\Below w w (w5.setCell ⟨w.heap.size+1,3,none⟩ (.slice A5 (k+1) c5))/\w.heap.size+1+1<=(w5.setCell ⟨w.heap.size+1,3,none⟩ (.slice A5 (k+1) c5)).heap.size):=by
     exact Jn
    have OA:∀ v:Int,Hid ((wr.alloc (.cells #[v,(0:Int)] 93)).ownsRow (w.heap.size+1+1) 93 2 (.slice A0 k c0) k (aj (mw k))):=fun v=>zH (HO.alloc _)
    have EN:=zH END;clear END;rcases hcase with rfl | rfl | rfl | rfl
    ·have OV:=OA 1;clear OA
     go_wp2_with (at_builtin;refine ah rfl (.tmp 17) (.tmp 22) 86 rfl Tryz.underlying86 cd rfl zD rfl OV.out rfl (Rd.lit _ 93 #[(1:Int),(0:Int)] 1 2 rfl) zV zO zD zS ?_;intro A5 c5 w5 o5 g5;have ⟨Y2,YE⟩:=EN.out 1 w5 A5 c5 rfl o5 g5;have ⟨q0,q1,q2,q3,e0,e1,e2,e3⟩:=Y2.four)
     go_roundg (gk - 1)
     all_goals first
      |omega
      |exact ⟨1,A5,c5,zO,by go_num,YE.out⟩
    ·have OV:=OA 2;clear OA
     go_wp2_with (at_builtin;refine ah rfl (.tmp 17) (.tmp 22) 86 rfl Tryz.underlying86 cd rfl zD rfl OV.out rfl (Rd.lit _ 93 #[(2:Int),(0:Int)] 1 2 rfl) zV zO zD zS ?_;intro A5 c5 w5 o5 g5;have ⟨Y2,YE⟩:=EN.out 2 w5 A5 c5 rfl o5 g5;have ⟨q0,q1,q2,q3,e0,e1,e2,e3⟩:=Y2.four)
     go_roundg (gk - 1)
     all_goals first
      |omega
      |exact ⟨2,A5,c5,zO,by go_num,YE.out⟩
    ·have OV:=OA 4;clear OA
     go_wp2_with (at_builtin;refine ah rfl (.tmp 17) (.tmp 22) 86 rfl Tryz.underlying86 cd rfl zD rfl OV.out rfl (Rd.lit _ 93 #[(4:Int),(0:Int)] 1 2 rfl) zV zO zD zS ?_;intro A5 c5 w5 o5 g5;have ⟨Y2,YE⟩:=EN.out 4 w5 A5 c5 rfl o5 g5;have ⟨q0,q1,q2,q3,e0,e1,e2,e3⟩:=Y2.four)
     go_roundg (gk - 1)
     all_goals first
      |omega
      |exact ⟨3,A5,c5,zO,by go_num,YE.out⟩
    ·have OV:=OA 8;clear OA
     go_wp2_with (at_builtin;refine ah rfl (.tmp 17) (.tmp 22) 86 rfl Tryz.underlying86 cd rfl zD rfl OV.out rfl (Rd.lit _ 93 #[(8:Int),(0:Int)] 1 2 rfl) zV zO zD zS ?_;intro A5 c5 w5 o5 g5;have ⟨Y2,YE⟩:=EN.out 8 w5 A5 c5 rfl o5 g5;have ⟨q0,q1,q2,q3,e0,e1,e2,e3⟩:=Y2.four)
     go_roundg (gk - 1)
     all_goals first
      |omega
      |exact ⟨4,A5,c5,zO,by go_num,YE.out⟩
   ·obtain rfl:k=m:=zO;obtain ⟨q0,q1,q2,q3,e0,e1,e2,e3⟩:=HX1.four;go_wp2_with fail;refine bodyPost_ret (v:=.agg #[k,(0:Int),.slice none 0 0,.slice A0 k c0]) (by simp [results,Tryz.results100,go_sem,q0,q1,q2,q3]) rfl ⟨_,rfl,⟨none,0,A0,c0,by rw [fx];rfl,World.ownsRow_nil _ _ _ _,?_⟩,?_⟩
    ·rw [fx];exact ae (aW HO.out zO) zO
    ·exact aF HB.out zR
theorem P7 (n:Int) (w:World):Calls Tryz.prog 78 #[n] w (qM (cg n).N (cg n).H (cg n).t (cg n).o w):=by
 cases hin:ee n 1 4
 ·have HI:=zH hin;have he:cg n=Po.zero:=by unfold cg;rw [hin];rfl
  rw [he];clear he hin;go_enter Tryz.func78,Tryz.ntmps78;go_wp2_with fail;refine (eK _ _ _ _).mono ?_;rintro e w' ⟨rfl,rfl⟩;rw [HI.out];go_wp2_with fail;refine bodyPost_ret (v:=.agg #[(0:Int),(0:Int),.slice none 0 0,.slice none 0 0]) (by simp [results,Tryz.results78,go_sem]) rfl ⟨_,rfl,⟨none,0,none,0,rfl,World.ownsRow_nil _ _ _ _,World.ownsRow_nil _ _ _ _⟩,?_⟩;exact Jm
 ·obtain ⟨h1,h4⟩:=inB_iff.1 hin;obtain ⟨m,rfl⟩:∃ m:Nat,n=m:=⟨n.toNat,zO⟩;have HI:=zH hin;have he:cg m=⟨m,0,[],mw m⟩:=by unfold cg;rw [hin];rfl
  rw [he];clear he hin;have X1:=zH (show Bx ((w.alloc ZO.zP).alloc (.cells #[m,(0:Int),.slice none 0 0,.slice none 0 0] 88)) w.heap.size 88 _ from (Bx.new w _ _).alloc _);have X2:=zH (show Bx ((w.alloc ZO.zP).alloc (.cells #[m,(0:Int),.slice none 0 0,.slice none 0 0] 88)) (w.heap.size+1) 88 _ from Bx.new' zI);have BZ:Hid (Below w w ((w.alloc ZO.zP).alloc (.cells #[m,(0:Int),.slice none 0 0,.slice none 0 0] 88))):=zH (((zW).alloc zR _).alloc zI _);have hz2:(Value.agg #[(0:Int),(0:Int)]).cells.size=2:=rfl;go_enter Tryz.func78,Tryz.ntmps78;go_wp2_with fail;refine (eK _ _ _ _).mono ?_;rintro e w' ⟨rfl,rfl⟩;rw [HI.out];go_wp2_with fail
  go_loopg [4] m (fun r i wr=>∃ (k:Nat) (A0:Option Addr) (c0:Nat),k+r=m/\i=.int .i64 k/\Bx wr w 88 #[(0:Int),(0:Int),.slice none 0 0,.slice none 0 0]/\Bx wr (w.heap.size+1) 88 #[m,(0:Int),.slice none 0 0,.slice A0 k c0]/\wr.ownsRow (w.heap.size+1+1) 93 2 (.slice A0 k c0) k (aj (mw k))/\Below w w wr/\w.heap.size+1+1<=wr.heap.size)
  case atStart=>exact ⟨0,none,0,zO,rfl,X1.out,X2.out,World.ownsRow_nil _ _ _ _,BZ.out,X2.lt⟩
  case round =>
   clear X1 X2 BZ;obtain ⟨k,A0,c0,hk,rfl,hx1,hx2,ho,hb,hsz⟩:=hrel;have HX1:=zH hx1;have HX2:=zH hx2;have HO:=zH ho;have HB:=zH hb;clear hx1 hx2 ho hb;obtain ⟨p0,p1,p2,p3,f0,f1,f2,f3⟩:=HX2.four;have n0:w.heap.size+1 < wr.heap.size:=HX2.lt;by_cases hlt:k < m
   ·have hcase:k=0\/k=1\/k=2\/k=3:=zO
    have END:∀ (v:Int) (w5:World) (A5:Option Addr) (c5:Nat),v=2 ^ k->w5.ownsRow (w.heap.size+1+1) 93 2 (.slice A5 (k+1) c5) (k+1) (aj (mw k)++[.int .i64 v,.int .i64 0])->(wr.alloc (.cells #[v,(0:Int)] 93)).grownBy w5 (Value.slice A0 k c0).ownBlock->Hid (Bx w5 (w.heap.size+1) 88 #[m,(0:Int),.slice none 0 0,.slice A0 k c0])/\Hid (Bx (w5.setCell ⟨w.heap.size+1,3,none⟩ (.slice A5 (k+1) c5)) w 88 #[(0:Int),(0:Int),.slice none 0 0,.slice none 0 0]/\Bx (w5.setCell ⟨w.heap.size+1,3,none⟩ (.slice A5 (k+1) c5)) (w.heap.size+1) 88 #[m,(0:Int),.slice none 0 0,.slice A5 (k+1) c5]/\(w5.setCell ⟨w.heap.size+1,3,none⟩ (.slice A5 (k+1) c5)).ownsRow (w.heap.size+1+1) 93 2 (.slice A5 (k+1) c5) (k+1) (aj (mw (k+1)))/\Below w w (w5.setCell ⟨w.heap.size+1,3,none⟩ (.slice A5 (k+1) c5))/\w.heap.size+1+1<=(w5.setCell ⟨w.heap.size+1,3,none⟩ (.slice A5 (k+1) c5)).heap.size):=by
     exact Jn
    have OA:∀ v:Int,Hid ((wr.alloc (.cells #[v,(0:Int)] 93)).drew.ownsRow (w.heap.size+1+1) 93 2 (.slice A0 k c0) k (aj (mw k))):=fun v=>zH (HO.alloc _)
    have EN:=zH END;clear END;rcases hcase with rfl | rfl | rfl | rfl
    ·have OV:=OA 1;clear OA;have hw:IntKind.i64.wrap 1=1:=zD;go_wp2_with fail
     go_region_law (first
      |(refine bv zF (.tmp 17) (.tmp 21) 86 zF Tryz.underlying86 cd hz2 zD zA OV.out zA (Rd.drew (Rd.lit wr 93 #[(1:Int),(0:Int)] 1 2 rfl)) zV zO zD zS ?_;intro A5 c5 w5 o5 g5;have ⟨Y2,YE⟩:=EN.out 1 w5 A5 c5 rfl o5 (mB g5);have ⟨q0,q1,q2,q3,e0,e1,e2,e3⟩:=Y2.four))
     all_goals go_wp2_with fail
     all_goals go_roundg (gk - 1)
     all_goals first
      |omega
      |exact ⟨1,A5,c5,zO,by go_num,YE.out⟩
    ·have OV:=OA 2;clear OA;have hw:IntKind.i64.wrap 2=2:=zD;go_wp2_with fail
     go_region_law (first
      |(refine bv zF (.tmp 17) (.tmp 21) 86 zF Tryz.underlying86 cd hz2 zD zA OV.out zA (Rd.drew (Rd.lit wr 93 #[(2:Int),(0:Int)] 1 2 rfl)) zV zO zD zS ?_;intro A5 c5 w5 o5 g5;have ⟨Y2,YE⟩:=EN.out 2 w5 A5 c5 rfl o5 (mB g5);have ⟨q0,q1,q2,q3,e0,e1,e2,e3⟩:=Y2.four))
     all_goals go_wp2_with fail
     all_goals go_roundg (gk - 1)
     all_goals first
      |omega
      |exact ⟨2,A5,c5,zO,by go_num,YE.out⟩
    ·have OV:=OA 4;clear OA;have hw:IntKind.i64.wrap 4=4:=zD;go_wp2_with fail
     go_region_law (first
      |(refine bv zF (.tmp 17) (.tmp 21) 86 zF Tryz.underlying86 cd hz2 zD zA OV.out zA (Rd.drew (Rd.lit wr 93 #[(4:Int),(0:Int)] 1 2 rfl)) zV zO zD zS ?_;intro A5 c5 w5 o5 g5;have ⟨Y2,YE⟩:=EN.out 4 w5 A5 c5 rfl o5 (mB g5);have ⟨q0,q1,q2,q3,e0,e1,e2,e3⟩:=Y2.four))
     all_goals go_wp2_with fail
     all_goals go_roundg (gk - 1)
     all_goals first
      |omega
      |exact ⟨3,A5,c5,zO,by go_num,YE.out⟩
    ·have OV:=OA 8;clear OA;have hw:IntKind.i64.wrap 8=8:=zD;go_wp2_with fail
     go_region_law (first
      |(refine bv zF (.tmp 17) (.tmp 21) 86 zF Tryz.underlying86 cd hz2 zD zA OV.out zA (Rd.drew (Rd.lit wr 93 #[(8:Int),(0:Int)] 1 2 rfl)) zV zO zD zS ?_;intro A5 c5 w5 o5 g5;have ⟨Y2,YE⟩:=EN.out 8 w5 A5 c5 rfl o5 (mB g5);have ⟨q0,q1,q2,q3,e0,e1,e2,e3⟩:=Y2.four))
     all_goals go_wp2_with fail
     all_goals go_roundg (gk - 1)
     all_goals first
      |omega
      |exact ⟨4,A5,c5,zO,by go_num,YE.out⟩
   ·obtain rfl:k=m:=zO;obtain ⟨q0,q1,q2,q3,e0,e1,e2,e3⟩:=HX1.four;go_wp2_with fail;refine bodyPost_ret (v:=.agg #[k,(0:Int),.slice none 0 0,.slice A0 k c0]) (by simp [results,Tryz.results78,go_sem,q0,q1,q2,q3]) rfl ⟨_,rfl,⟨none,0,A0,c0,by rw [fx];rfl,World.ownsRow_nil _ _ _ _,?_⟩,?_⟩
    ·rw [fx];exact ae (aW HO.out zO) zO
    ·exact aF HB.out zR
end Go.Proofs.YtmenmibfkojnoaaGreat
