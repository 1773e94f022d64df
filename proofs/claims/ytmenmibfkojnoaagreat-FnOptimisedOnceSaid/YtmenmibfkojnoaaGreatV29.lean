/- Contracts of the drawing of gates: l9On, l9Gate, l9Bent. The cursor stands; 1 to 4 qubits. Contracts of the drawing of circuits: l11Right, l11Bent. The cursor stands; at most 64 gates. Contract of MergeGates (impl). -/
import Derived.Test.YtmenmibfkojnoaaGreatV22
import Derived.Test.YtmenmibfkojnoaaGreatV05
import Derived.Test.YtmenmibfkojnoaaGreatV02
import Derived.Test.YtmenmibfkojnoaaGreatV19
import Derived.Deep.RegionLaw
import Derived.Deep.RegionHeld3
set_option maxHeartbeats 16000000
namespace Go.Proofs.YtmenmibfkojnoaaGreat
open Go.RowKit
set_option linter.unusedVariables false
def DrawnG (P:Gt->Prop) (g:Nat) (w:World) (e:Ending) (w':World):Prop :=
 ∃ k a b c:Int,e=.returned (.agg #[.int .i64 k,.int .i64 a,.int .i64 b,.int .i64 c])/\P ⟨k,a,b,c⟩/\Cur w' g/\w.grownBy w' (some g)
theorem cur4 {w':World} {g R:Nat} {a b c d:Value} (h:Cur w' g) (hR:g < R):Cur ((((w'.setCell ⟨R,0,none⟩ a).setCell ⟨R,1,none⟩ b).setCell ⟨R,2,none⟩ c).setCell ⟨R,3,none⟩ d) g :=
 (((h.setCell (by exact hR) _).setCell (by exact hR) _).setCell (by exact hR) _).setCell (by exact hR) _
theorem dr4 {a b:World} {g R:Nat} {p q r s:Value} (h:a.grownBy b (some g)) (hR:a.heap.size<=R):a.grownBy ((((b.setCell ⟨R,0,none⟩ p).setCell ⟨R,1,none⟩ q).setCell ⟨R,2,none⟩ r).setCell ⟨R,3,none⟩ s) (some g) :=
 dr_set (dr_set (dr_set (dr_set h (by exact hR) _) (by exact hR) _) (by exact hR) _) (by exact hR) _
theorem cur_alloc {w:World} {g:Nat} (h:Cur w g) (o:Obj):Cur (w.alloc o) g:=h.below ((zW).alloc zR _)
theorem dr_alloc {a b:World} {g:Nat} (h:a.grownBy b (some g)) (o:Obj):a.grownBy (b.alloc o) (some g):=dr_below h ((zW).alloc zR _)
theorem dr_refl (a:World) (g:Nat):a.grownBy a (some g):=World.grownBy.refl _ _
theorem dr_un {a b:World} {o:Obj} {g:Nat} (h:(a.alloc o).grownBy b (some g)):a.grownBy b (some g):=dr_trans (dr_alloc (dr_refl a g) o) h
theorem okG_1 {k x n:Int} (hk:arity k=1) (h1:1<=n) (h4:n<=4) (hx:0<=x) (hx2:x<=n - 1):okG k x 0 0 n=true:=by
 have e1:inB n 1 4=true:=inB_t h1 h4
 have e2:inB x 0 (n - 1)=true:=inB_t hx hx2
 simp [okG,okQ,badQ,hasI,e1,e2,hk]
theorem okG_2 {k x y n:Int} (hk:arity k=2) (h1:1<=n) (h4:n<=4) (hx:0<=x) (hx2:x<=n - 1) (hy:0<=y) (hy2:y<=n - 1) (hne:x ≠ y):okG k x y 0 n=true:=by
 have e1:inB n 1 4=true:=inB_t h1 h4
 have e2:inB x 0 (n - 1)=true:=inB_t hx hx2
 have e3:inB y 0 (n - 1)=true:=inB_t hy hy2
 simp [okG,okQ,badQ,hasI,e1,e2,e3,hk,hne]
theorem okG_3 {k x y z n:Int} (hk:arity k=3) (h1:1<=n) (h4:n<=4) (hx:0<=x) (hx2:x<=n - 1) (hy:0<=y) (hy2:y<=n - 1) (hz:0<=z) (hz2:z<=n - 1) (hne:x ≠ y) (hne2:x ≠ z) (hne3:y ≠ z):okG k x y z n=true:=by
 have e1:inB n 1 4=true:=inB_t h1 h4
 have e2:inB x 0 (n - 1)=true:=inB_t hx hx2
 have e3:inB y 0 (n - 1)=true:=inB_t hy hy2
 have e4:inB z 0 (n - 1)=true:=inB_t hz hz2
 simp [okG,okQ,badQ,hasI,e1,e2,e3,e4,hk,hne,hne2,hne3]
set_option maxRecDepth 100000 in
theorem s_l9On (g n:Nat) (kind:Int) (w:World) (h:Cur w g) (h1:1<=n) (h4:n<=4) (ha:arity kind<=n) (hk:1<=arity kind) :
  Calls Tryz.prog 158 #[.pointer (some ⟨g,0,none⟩),.int .i64 kind,.int .i64 n] w (DrawnG (fun x=>x.k=kind/\okG x.k x.a x.b x.c n=true) g w):=by
 have H:=zH (cur_alloc h (.cells #[.int .i64 0,.int .i64 0,.int .i64 0,.int .i64 0] 39))
 have hg:=h.lt
 have X0:=zH (Bx.new w 39 #[.int .i64 0,.int .i64 0,.int .i64 0,.int .i64 0])
 clear h
 go_enter Tryz.func158,Tryz.ntmps158
 go_wp2_with fail
 refine (s_l8Perm g n _ H.out h1 h4).mono ?_
 rintro e w2 ⟨A,nn,c,zs,rfl,hl,⟨hl2,hp⟩,o,hc,g2⟩
 obtain rfl:nn=n:=by rw [<- hl,hl2]
 have X2:=zH (dr_bx g2 X0.out (show w.heap.size ≠ g by omega))
 have G2:=zH (dr_un g2)
 have C2:=zH hc
 have l2:=X2.out.lt
 obtain ⟨hb,hnd,_,_⟩:=(isPerm_iff zs).1 hp
 obtain ⟨ar,har⟩:∃ a,arity kind=a:=⟨_,rfl⟩
 rw [har] at ha hk
 have har3:ar<=3:=by rw [<- har];exact (arity_bd kind).2
 have HAR:=zH har
 obtain ⟨b,hA⟩:∃ b,A=some ⟨b,0,none⟩:=by
  rcases o.2 with ⟨_,h0⟩ | ⟨b,cap,cur,hv,_⟩
  ·omega
  ·injection hv with hv _ _;exact ⟨b,hv⟩
 subst hA
 obtain ⟨z0,r0,rfl⟩:∃ z r,zs=z :: r:=by cases zs with | nil=>simp at hl;omega | cons z r=>exact ⟨z,r,rfl⟩
 have k0:w2.cell? ⟨b,0,none⟩=some (.int .i64 z0):=(o.cellAt 0 (by omega)).trans rfl
 have hb0:=hb z0 (by simp)
 obtain ⟨q0,q1,q2,q3,f0,f1,f2,f3⟩:=X2.out.four
 have hlb:=(o.lt b rfl).2
 rw [hl] at hb0
 have hcase:ar=1 ∨ ar=2 ∨ ar=3:=by omega
 clear hc g2 har hp X0 H
 rcases hcase with rfl | rfl | rfl
 ·have HO:=zH (okG_1 (n:=nn) HAR.out (by omega) (by omega) hb0.1 hb0.2)
  clear hb hnd hb0 hl hl2 o
  go_wp2_with (go_at_call 60;refine (s_Arity _ _).mono ?_;rintro e w' ⟨rfl,rfl⟩;rw [HAR.out])
  refine bodyPost_ret (v:=.agg #[.int .i64 kind,.int .i64 z0,.int .i64 0,.int .i64 0]) (by simp [results,Tryz.results158,go_sem,q0,q1,q2,q3,l2]) rfl ⟨kind,z0,0,0,rfl,⟨rfl,HO.out⟩,?_,?_⟩
  ·exact cur_alloc (cur4 C2.out hg) _
  ·exact dr_alloc (dr4 G2.out zR) _
 ·obtain ⟨z1,r1,rfl⟩:∃ z r,r0=z :: r:=by cases r0 with | nil=>simp at hl;omega | cons z r=>exact ⟨z,r,rfl⟩
  have k1:w2.cell? ⟨b,1,none⟩=some (.int .i64 z1):=(o.cellAt 1 (by omega)).trans rfl
  have hb1:=hb z1 (by simp)
  rw [hl] at hb1
  have hne:z0 ≠ z1:=by intro e;subst e;simp at hnd
  have HO:=zH (okG_2 (n:=nn) HAR.out (by omega) (by omega) hb0.1 hb0.2 hb1.1 hb1.2 hne)
  clear hb hnd hb0 hb1 hl hl2 o hne
  go_wp2_with (go_at_call 60;refine (s_Arity _ _).mono ?_;rintro e w' ⟨rfl,rfl⟩;rw [HAR.out])
  refine bodyPost_ret (v:=.agg #[.int .i64 kind,.int .i64 z0,.int .i64 z1,.int .i64 0]) (by simp [results,Tryz.results158,go_sem,q0,q1,q2,q3,l2]) rfl ⟨kind,z0,z1,0,rfl,⟨rfl,HO.out⟩,?_,?_⟩
  ·exact cur_alloc (cur4 C2.out hg) _
  ·exact dr_alloc (dr4 G2.out zR) _
 ·obtain ⟨z1,r1,rfl⟩:∃ z r,r0=z :: r:=by cases r0 with | nil=>simp at hl;omega | cons z r=>exact ⟨z,r,rfl⟩
  obtain ⟨z2,r2,rfl⟩:∃ z r,r1=z :: r:=by cases r1 with | nil=>simp at hl;omega | cons z r=>exact ⟨z,r,rfl⟩
  have k1:w2.cell? ⟨b,1,none⟩=some (.int .i64 z1):=(o.cellAt 1 (by omega)).trans rfl
  have k2:w2.cell? ⟨b,2,none⟩=some (.int .i64 z2):=(o.cellAt 2 (by omega)).trans rfl
  have hb1:=hb z1 (by simp)
  have hb2:=hb z2 (by simp)
  rw [hl] at hb1 hb2
  have hne:z0 ≠ z1:=by intro e;subst e;simp at hnd
  have hne2:z0 ≠ z2:=by intro e;subst e;simp at hnd
  have hne3:z1 ≠ z2:=by intro e;subst e;simp at hnd
  have HO:=zH (okG_3 (n:=nn) HAR.out (by omega) (by omega) hb0.1 hb0.2 hb1.1 hb1.2 hb2.1 hb2.2 hne hne2 hne3)
  clear hb hnd hb0 hb1 hb2 hl hl2 o hne hne2 hne3
  go_wp2_with (go_at_call 60;refine (s_Arity _ _).mono ?_;rintro e w' ⟨rfl,rfl⟩;rw [HAR.out])
  refine bodyPost_ret (v:=.agg #[.int .i64 kind,.int .i64 z0,.int .i64 z1,.int .i64 z2]) (by simp [results,Tryz.results158,go_sem,q0,q1,q2,q3,l2]) rfl ⟨kind,z0,z1,z2,rfl,⟨rfl,HO.out⟩,?_,?_⟩
  ·exact cur_alloc (cur4 C2.out hg) _
  ·exact dr_alloc (dr4 G2.out zR) _
set_option maxRecDepth 100000 in
theorem s_l9Gate (g n:Nat) (w:World) (h:Cur w g) (h1:1<=n) (h4:n<=4) :
  Calls Tryz.prog 159 #[.pointer (some ⟨g,0,none⟩),.int .i64 n] w (DrawnG (fun x=>okG x.k x.a x.b x.c n=true) g w):=by
 have hg:=h.lt
 obtain ⟨W1,hW1⟩:∃ W1,W1=(w.alloc (.cells #[.int .i64 0,.int .i64 0,.int .i64 0,.int .i64 0] 39)).alloc (.cells #[.int .i64 0,.int .i64 8,.int .i64 11,.int .i64 12,.int .i64 12] 3):=⟨_,rfl⟩
 have C1:=zH (show Cur W1 g from hW1 ▸ cur_alloc (cur_alloc h _) _)
 have X1:=zH (show Bx W1 w.heap.size 39 #[.int .i64 0,.int .i64 0,.int .i64 0,.int .i64 0] from hW1 ▸ (Bx.new w _ _).alloc _)
 have G1:=zH (show w.grownBy W1 (some g) from hW1 ▸ dr_alloc (dr_alloc (dr_refl w g) _) _)
 have HW:=zH hW1
 clear h hW1
 obtain ⟨mo,hmo⟩:∃ m:Nat,([0,8,11,12,12]:List Nat)[n]? = some m/\8<=m/\m<=12/\(n=1->m=8)/\(n=2->m=11):=by
  obtain h | h | h | h:n=1 ∨ n=2 ∨ n=3 ∨ n=4:=by omega
  all_goals subst h;exact ⟨_,rfl,by omega,by omega,by omega,by omega⟩
 obtain ⟨hm1,hm2,hm3,hm4,hm5⟩:=hmo
 have hlit:([.int .i64 0,.int .i64 8,.int .i64 11,.int .i64 12,.int .i64 12]:List Value)[n]? = some (.int .i64 mo):=by
  obtain h | h | h | h:n=1 ∨ n=2 ∨ n=3 ∨ n=4:=by omega
  all_goals subst h;simp at hm1 ⊢;omega
 have hnI:(n:Int) < 5:=by omega
 have hn0:(0:Int)<=(n:Int):=by omega
 clear hm1
 have hnI4:(n:Int)<=4:=by omega
 go_enter Tryz.func159,Tryz.ntmps159
 go_wp2_with fail
 rw [<- HW.out]
 clear hlit hnI hn0
 refine (s_l1Below g mo _ C1.out (by omega)).mono ?_
 rintro e w2 ⟨x,rfl,⟨hx,_⟩,hc2,g2⟩
 obtain ⟨hx0,hx1⟩:=hx (by omega)
 clear hx
 go_wp2_with fail
 refine (s_l1Once g 2 _ hc2 (by omega)).mono ?_
 rintro e w3 ⟨bb,rfl,hc3,g3⟩
 have C3:=zH hc3
 have G3:=zH (dr_trans (dr_trans G1.out g2) g3)
 have X3:=zH (dr_bx g3 (dr_bx g2 X1.out (by omega)) (show w.heap.size ≠ g by omega))
 have hgs:g+1<=w3.heap.size:=hc3.lt
 have l3:=X3.out.lt
 clear hc2 hc3 g2 g3 X1 G1 C1
 cases bb
 ·have hk1:1<=arity (1+x):=by rcases arity_cases (1+x) with h | h | h | h<;>omega
  obtain ⟨ar,har⟩:∃ a,arity (1+x)=a:=⟨_,rfl⟩
  rw [har] at hk1
  have HAR:=zH har
  have ha4:arity 4=1:=by decide
  have HA4:=zH ha4
  clear har ha4
  by_cases ht:(n:Int) < ar
  ·skip
   go_wp2_with fail
   refine (s_Arity _ _).mono ?_
   rintro e w' ⟨rfl,rfl⟩
   rw [HAR.out]
   go_wp2_with fail
   refine (s_l9On g n (4) _ C3.out h1 h4 (by rw [HA4.out];omega) (by rw [HA4.out];omega)).mono ?_
   rintro e w9 ⟨k,a,b,c,rfl,⟨hk',hok⟩,hc9,g9⟩
   have HOK:=zH hok
   have C9:=zH hc9
   have X9:=zH (dr_bx g9 X3.out (show w.heap.size ≠ g by omega))
   have G9:=zH (dr_trans G3.out g9)
   obtain ⟨q0,q1,q2,q3,f0,f1,f2,f3⟩:=X9.out.four
   have l9:=X9.out.lt
   clear hk' hok hc9 g9 ht hk1
   go_wp2_with fail
   exact bodyPost_ret (v:=.agg #[.int .i64 k,.int .i64 a,.int .i64 b,.int .i64 c]) (by simp [results,Tryz.results159,go_sem,q0,q1,q2,q3]) rfl ⟨k,a,b,c,rfl,HOK.out,cur4 C9.out hg,dr4 G9.out zR⟩
  ·skip
   go_wp2_with fail
   refine (s_Arity _ _).mono ?_
   rintro e w' ⟨rfl,rfl⟩
   rw [HAR.out]
   go_wp2_with fail
   refine (s_l9On g n ((1+x)) _ C3.out h1 h4 (by rw [HAR.out];omega) (by rw [HAR.out];omega)).mono ?_
   rintro e w9 ⟨k,a,b,c,rfl,⟨hk',hok⟩,hc9,g9⟩
   have HOK:=zH hok
   have C9:=zH hc9
   have X9:=zH (dr_bx g9 X3.out (show w.heap.size ≠ g by omega))
   have G9:=zH (dr_trans G3.out g9)
   obtain ⟨q0,q1,q2,q3,f0,f1,f2,f3⟩:=X9.out.four
   have l9:=X9.out.lt
   clear hk' hok hc9 g9 ht hk1
   go_wp2_with fail
   exact bodyPost_ret (v:=.agg #[.int .i64 k,.int .i64 a,.int .i64 b,.int .i64 c]) (by simp [results,Tryz.results159,go_sem,q0,q1,q2,q3]) rfl ⟨k,a,b,c,rfl,HOK.out,cur4 C9.out hg,dr4 G9.out zR⟩
 ·have OL:=zH (show (w3.alloc (.cells #[.int .i64 4,.int .i64 7,.int .i64 5,.int .i64 8,.int .i64 9,.int .i64 9,.int .i64 9,.int .i64 9] 3)).ownsRow (g+1) 3 1 (.slice (some ⟨w3.heap.size,0,none⟩) 8 8) 8 (cellsI [4,7,5,8,9,9,9,9]) from World.ownsRow_lit w3 #[.int .i64 4,.int .i64 7,.int .i64 5,.int .i64 8,.int .i64 9,.int .i64 9,.int .i64 9,.int .i64 9] 8 hgs (by simp [maxLen]) rfl)
  have C4:=zH (cur_alloc C3.out (.cells #[.int .i64 4,.int .i64 7,.int .i64 5,.int .i64 8,.int .i64 9,.int .i64 9,.int .i64 9,.int .i64 9] 3))
  have X4:=zH (X3.out.alloc (.cells #[.int .i64 4,.int .i64 7,.int .i64 5,.int .i64 8,.int .i64 9,.int .i64 9,.int .i64 9,.int .i64 9] 3))
  have G4:=zH (dr_alloc G3.out (.cells #[.int .i64 4,.int .i64 7,.int .i64 5,.int .i64 8,.int .i64 9,.int .i64 9,.int .i64 9,.int .i64 9] 3))
  go_wp2_with fail
  refine (s_l1PickInt g _ 8 8 [4,7,5,8,9,9,9,9] _ C4.out OL.out (by omega) (by omega)).mono ?_
  rintro e w5 ⟨y,rfl,hy,hc5,g5⟩
  have hk1:1<=arity y:=by simp at hy;rcases arity_cases y with h | h | h | h<;>omega
  have C5:=zH hc5
  have X5:=zH (dr_bx g5 X4.out (show w.heap.size ≠ g by omega))
  have G5:=zH (dr_trans G4.out g5)
  clear hy hc5 g5 C3 C4 X3 X4 G3 G4 OL
  obtain ⟨ar,har⟩:∃ a,arity y=a:=⟨_,rfl⟩
  rw [har] at hk1
  have HAR:=zH har
  have ha4:arity 4=1:=by decide
  have HA4:=zH ha4
  clear har ha4
  by_cases ht:(n:Int) < ar
  ·skip
   go_wp2_with fail
   refine (s_Arity _ _).mono ?_
   rintro e w' ⟨rfl,rfl⟩
   rw [HAR.out]
   go_wp2_with fail
   refine (s_l9On g n (4) _ C5.out h1 h4 (by rw [HA4.out];omega) (by rw [HA4.out];omega)).mono ?_
   rintro e w9 ⟨k,a,b,c,rfl,⟨hk',hok⟩,hc9,g9⟩
   have HOK:=zH hok
   have C9:=zH hc9
   have X9:=zH (dr_bx g9 X5.out (show w.heap.size ≠ g by omega))
   have G9:=zH (dr_trans G5.out g9)
   obtain ⟨q0,q1,q2,q3,f0,f1,f2,f3⟩:=X9.out.four
   have l9:=X9.out.lt
   clear hk' hok hc9 g9 ht hk1
   go_wp2_with fail
   exact bodyPost_ret (v:=.agg #[.int .i64 k,.int .i64 a,.int .i64 b,.int .i64 c]) (by simp [results,Tryz.results159,go_sem,q0,q1,q2,q3]) rfl ⟨k,a,b,c,rfl,HOK.out,cur4 C9.out hg,dr4 G9.out zR⟩
  ·skip
   go_wp2_with fail
   refine (s_Arity _ _).mono ?_
   rintro e w' ⟨rfl,rfl⟩
   rw [HAR.out]
   go_wp2_with fail
   refine (s_l9On g n (y) _ C5.out h1 h4 (by rw [HAR.out];omega) (by rw [HAR.out];omega)).mono ?_
   rintro e w9 ⟨k,a,b,c,rfl,⟨hk',hok⟩,hc9,g9⟩
   have HOK:=zH hok
   have C9:=zH hc9
   have X9:=zH (dr_bx g9 X5.out (show w.heap.size ≠ g by omega))
   have G9:=zH (dr_trans G5.out g9)
   obtain ⟨q0,q1,q2,q3,f0,f1,f2,f3⟩:=X9.out.four
   have l9:=X9.out.lt
   clear hk' hok hc9 g9 ht hk1
   go_wp2_with fail
   exact bodyPost_ret (v:=.agg #[.int .i64 k,.int .i64 a,.int .i64 b,.int .i64 c]) (by simp [results,Tryz.results159,go_sem,q0,q1,q2,q3]) rfl ⟨k,a,b,c,rfl,HOK.out,cur4 C9.out hg,dr4 G9.out zR⟩
set_option maxRecDepth 100000 in
theorem s_l9Bent (g n:Nat) (w:World) (h:Cur w g) (h1:1<=n) (h4:n<=4) :
  Calls Tryz.prog 122 #[.pointer (some ⟨g,0,none⟩),.int .i64 n] w (DrawnG (fun _=>True) g w):=by
 have hg:=h.lt
 have H:=zH (cur_alloc h (.cells #[.int .i64 0,.int .i64 0,.int .i64 0,.int .i64 0] 39))
 have X0:=zH (Bx.new w 39 #[.int .i64 0,.int .i64 0,.int .i64 0,.int .i64 0])
 clear h
 go_enter Tryz.func122,Tryz.ntmps122
 go_wp2_with fail
 refine (s_l9Gate g n _ H.out h1 h4).mono ?_
 rintro e w2 ⟨k,a,b,c,rfl,hok,hc2,g2⟩
 have G2:=zH (dr_un g2)
 have X2:=zH (dr_bx g2 X0.out (show w.heap.size ≠ g by omega))
 have C2:=zH hc2
 clear hok hc2 g2 X0 H
 have hs2:w.heap.size < w2.heap.size:=X2.out.lt
 have C3:=zH (cur_alloc C2.out (.cells #[.int .i64 k,.int .i64 a,.int .i64 b,.int .i64 c] 39))
 have X3:=zH (X2.out.alloc (.cells #[.int .i64 k,.int .i64 a,.int .i64 b,.int .i64 c] 39))
 have E3:=zH (Bx.new w2 39 #[.int .i64 k,.int .i64 a,.int .i64 b,.int .i64 c])
 have G3:=zH (dr_alloc G2.out (.cells #[.int .i64 k,.int .i64 a,.int .i64 b,.int .i64 c] 39))
 clear C2 X2 G2
 go_wp2_with fail
 refine (s_l1Below g 10 _ C3.out (by omega)).mono ?_
 rintro e w4 ⟨z,rfl,_,hc4,g4⟩
 have C4:=zH hc4
 have X4:=zH (dr_bx g4 X3.out (show w.heap.size ≠ g by omega))
 have E4:=zH (dr_bx g4 E3.out (show w2.heap.size ≠ g by omega))
 have G4:=zH (dr_trans G3.out g4)
 have l4:=E4.out.lt
 have hgs:g+1<=w4.heap.size:=hc4.lt
 clear hc4 g4 C3 X3 E3 G3
 by_cases z0:z=0
 ·subst z0
  go_wp2_with fail
  refine (s_l1Below g 15 _ C4.out (by omega)).mono ?_
  rintro e w5 ⟨y,rfl,⟨hy,_⟩,hc,gg⟩
  have C5:=zH hc
  have X5:=zH (dr_bx gg X4.out (show w.heap.size ≠ g by omega))
  have E5:=zH (dr_bx gg E4.out (show w2.heap.size ≠ g by omega))
  have G5:=zH (dr_trans G4.out gg)
  clear hc gg
  obtain ⟨hy0,hy1⟩:=hy (by omega)
  clear hy
  obtain ⟨q0,q1,q2,q3,f0,f1,f2,f3⟩:=X5.out.four
  obtain ⟨u0,u1,u2,u3,v0,v1,v2,v3⟩:=E5.out.four
  have le5:=E5.out.lt
  go_wp2_with fail
  exact bodyPost_ret (v:=.agg #[.int .i64 (y - 1),.int .i64 a,.int .i64 b,.int .i64 c]) (by simp [results,Tryz.results122,go_sem,q0,q1,q2,q3]) rfl ⟨(y - 1),a,b,c,rfl,trivial,cur4 (C5.out.setCell (by show g < w2.heap.size;omega) _) hg,dr4 (dr_set G5.out (by show w.heap.size<=w2.heap.size;omega) _) zR⟩
 ·by_cases z1:z=1
  ·subst z1
   obtain ⟨u0,u1,u2,u3,_⟩:=E4.out.four
   have OL:=zH (show (w4.alloc (.cells #[.int .i64 0,.int .i64 (n:Int),.int .i64 (-1),.int .i64 b] 3)).ownsRow (g+1) 3 1 (.slice (some ⟨w4.heap.size,0,none⟩) 4 4) 4 (cellsI [0,(n:Int),(-1),b]) from World.ownsRow_lit w4 #[.int .i64 0,.int .i64 (n:Int),.int .i64 (-1),.int .i64 b] 4 hgs (by simp [maxLen]) rfl)
   go_wp2_with fail
   refine (s_l1PickInt g _ 4 4 [0,(n:Int),(-1),b] _ (cur_alloc C4.out (.cells #[.int .i64 0,.int .i64 (n:Int),.int .i64 (-1),.int .i64 b] 3)) OL.out (by omega) (by omega)).mono ?_
   rintro e w5 ⟨y,rfl,_,hc,gg⟩
   have C5:=zH hc
   have X5:=zH (dr_bx gg (X4.out.alloc (.cells #[.int .i64 0,.int .i64 (n:Int),.int .i64 (-1),.int .i64 b] 3)) (show w.heap.size ≠ g by omega))
   have E5:=zH (dr_bx gg (E4.out.alloc (.cells #[.int .i64 0,.int .i64 (n:Int),.int .i64 (-1),.int .i64 b] 3)) (show w2.heap.size ≠ g by omega))
   have G5:=zH (dr_trans (dr_alloc G4.out (.cells #[.int .i64 0,.int .i64 (n:Int),.int .i64 (-1),.int .i64 b] 3)) gg)
   clear hc gg
   clear u0 u1 u2 u3
   obtain ⟨q0,q1,q2,q3,f0,f1,f2,f3⟩:=X5.out.four
   obtain ⟨u0,u1,u2,u3,v0,v1,v2,v3⟩:=E5.out.four
   have le5:=E5.out.lt
   go_wp2_with fail
   exact bodyPost_ret (v:=.agg #[.int .i64 k,.int .i64 y,.int .i64 b,.int .i64 c]) (by simp [results,Tryz.results122,go_sem,q0,q1,q2,q3]) rfl ⟨k,y,b,c,rfl,trivial,cur4 (C5.out.setCell (by show g < w2.heap.size;omega) _) hg,dr4 (dr_set G5.out (by show w.heap.size<=w2.heap.size;omega) _) zR⟩
  ·by_cases z2:z=2
   ·subst z2
    obtain ⟨u0,u1,u2,u3,_⟩:=E4.out.four
    have OL:=zH (show (w4.alloc (.cells #[.int .i64 0,.int .i64 (n:Int),.int .i64 (-1),.int .i64 a] 3)).ownsRow (g+1) 3 1 (.slice (some ⟨w4.heap.size,0,none⟩) 4 4) 4 (cellsI [0,(n:Int),(-1),a]) from World.ownsRow_lit w4 #[.int .i64 0,.int .i64 (n:Int),.int .i64 (-1),.int .i64 a] 4 hgs (by simp [maxLen]) rfl)
    go_wp2_with fail
    refine (s_l1PickInt g _ 4 4 [0,(n:Int),(-1),a] _ (cur_alloc C4.out (.cells #[.int .i64 0,.int .i64 (n:Int),.int .i64 (-1),.int .i64 a] 3)) OL.out (by omega) (by omega)).mono ?_
    rintro e w5 ⟨y,rfl,_,hc,gg⟩
    have C5:=zH hc
    have X5:=zH (dr_bx gg (X4.out.alloc (.cells #[.int .i64 0,.int .i64 (n:Int),.int .i64 (-1),.int .i64 a] 3)) (show w.heap.size ≠ g by omega))
    have E5:=zH (dr_bx gg (E4.out.alloc (.cells #[.int .i64 0,.int .i64 (n:Int),.int .i64 (-1),.int .i64 a] 3)) (show w2.heap.size ≠ g by omega))
    have G5:=zH (dr_trans (dr_alloc G4.out (.cells #[.int .i64 0,.int .i64 (n:Int),.int .i64 (-1),.int .i64 a] 3)) gg)
    clear hc gg
    clear u0 u1 u2 u3
    obtain ⟨q0,q1,q2,q3,f0,f1,f2,f3⟩:=X5.out.four
    obtain ⟨u0,u1,u2,u3,v0,v1,v2,v3⟩:=E5.out.four
    have le5:=E5.out.lt
    go_wp2_with fail
    exact bodyPost_ret (v:=.agg #[.int .i64 k,.int .i64 a,.int .i64 y,.int .i64 c]) (by simp [results,Tryz.results122,go_sem,q0,q1,q2,q3]) rfl ⟨k,a,y,c,rfl,trivial,cur4 (C5.out.setCell (by show g < w2.heap.size;omega) _) hg,dr4 (dr_set G5.out (by show w.heap.size<=w2.heap.size;omega) _) zR⟩
   ·by_cases z3:z=3
    ·subst z3
     have OL:=zH (show (w4.alloc (.cells #[.int .i64 0,.int .i64 1,.int .i64 (n:Int),.int .i64 (-1)] 3)).ownsRow (g+1) 3 1 (.slice (some ⟨w4.heap.size,0,none⟩) 4 4) 4 (cellsI [0,1,(n:Int),(-1)]) from World.ownsRow_lit w4 #[.int .i64 0,.int .i64 1,.int .i64 (n:Int),.int .i64 (-1)] 4 hgs (by simp [maxLen]) rfl)
     go_wp2_with fail
     refine (s_l1PickInt g _ 4 4 [0,1,(n:Int),(-1)] _ (cur_alloc C4.out (.cells #[.int .i64 0,.int .i64 1,.int .i64 (n:Int),.int .i64 (-1)] 3)) OL.out (by omega) (by omega)).mono ?_
     rintro e w5 ⟨y,rfl,_,hc,gg⟩
     have C5:=zH hc
     have X5:=zH (dr_bx gg (X4.out.alloc (.cells #[.int .i64 0,.int .i64 1,.int .i64 (n:Int),.int .i64 (-1)] 3)) (show w.heap.size ≠ g by omega))
     have E5:=zH (dr_bx gg (E4.out.alloc (.cells #[.int .i64 0,.int .i64 1,.int .i64 (n:Int),.int .i64 (-1)] 3)) (show w2.heap.size ≠ g by omega))
     have G5:=zH (dr_trans (dr_alloc G4.out (.cells #[.int .i64 0,.int .i64 1,.int .i64 (n:Int),.int .i64 (-1)] 3)) gg)
     clear hc gg
     obtain ⟨q0,q1,q2,q3,f0,f1,f2,f3⟩:=X5.out.four
     obtain ⟨u0,u1,u2,u3,v0,v1,v2,v3⟩:=E5.out.four
     have le5:=E5.out.lt
     go_wp2_with fail
     exact bodyPost_ret (v:=.agg #[.int .i64 k,.int .i64 a,.int .i64 b,.int .i64 y]) (by simp [results,Tryz.results122,go_sem,q0,q1,q2,q3]) rfl ⟨k,a,b,y,rfl,trivial,cur4 (C5.out.setCell (by show g < w2.heap.size;omega) _) hg,dr4 (dr_set G5.out (by show w.heap.size<=w2.heap.size;omega) _) zR⟩
    ·have e0:(z == 0)=false:=by simpa using z0
     have e1:(z == 1)=false:=by simpa using z1
     have e2:(z == 2)=false:=by simpa using z2
     have e3:(z == 3)=false:=by simpa using z3
     clear z0 z1 z2 z3
     obtain ⟨q0,q1,q2,q3,f0,f1,f2,f3⟩:=X4.out.four
     obtain ⟨u0,u1,u2,u3,v0,v1,v2,v3⟩:=E4.out.four
     have le4:=E4.out.lt
     go_wp2_with fail
     exact bodyPost_ret (v:=.agg #[.int .i64 k,.int .i64 a,.int .i64 b,.int .i64 c]) (by simp [results,Tryz.results122,go_sem,q0,q1,q2,q3]) rfl ⟨k,a,b,c,rfl,trivial,cur4 C4.out hg,dr4 G4.out zR⟩
theorem und_grownD {W w':World} {r:Option Nat} (h:W.drew.grownBy w' r):W.grownBy w' r:=⟨h.os,h.tape,h.output,h.size,h.block⟩
theorem own_set_neD {w:World} {base:Nat} {e:TypeId} {sz n:Nat} {v:Value} {xs:List Value} (h:w.ownsRow base e sz v n xs) {p:Addr} (hp:some p.block ≠ v.ownBlock) (u:Value):(w.setCell p u).ownsRow base e sz v n xs:=by
 have hg:w.grownBy (w.setCell p u) (some p.block):=⟨rfl,rfl,rfl,by simp [World.setCell],fun k hk hne=>Below.heap_setCell w _ _ k (fun e=>hne (by rw [e]))⟩
 exact h.kept hg (.inr (fun e=>hp e.symm))
def DrawnC (P:Int->Prop) (B:Nat) (g:Nat) (w:World) (e:Ending) (w':World):Prop :=
 ∃ (N:Int) (A:Option Addr) (n c:Nat) (gs:List Gt),e=.returned (.agg #[.int .i64 N,.slice A n c])/\gs.length=n/\n<=B/\P N/\w'.ownsRow w.heap.size 39 4 (.slice A n c) n (cellsG gs)/\Cur w' g/\w.grownBy w' (some g)
theorem cur2 {w':World} {g R:Nat} {a b:Value} (h:Cur w' g) (hR:g < R):Cur ((w'.setCell ⟨R,0,none⟩ a).setCell ⟨R,1,none⟩ b) g :=
 (h.setCell (by exact hR) _).setCell (by exact hR) _
theorem dr2 {a b:World} {g R:Nat} {p q:Value} (h:a.grownBy b (some g)) (hR:a.heap.size<=R):a.grownBy ((b.setCell ⟨R,0,none⟩ p).setCell ⟨R,1,none⟩ q) (some g) :=
 dr_set (dr_set h (by exact hR) _) (by exact hR) _
theorem own_set2 {w':World} {base R:Nat} {e:TypeId} {sz n:Nat} {v:Value} {xs:List Value} {a b:Value} (h:w'.ownsRow base e sz v n xs) (hR:some R ≠ v.ownBlock):((w'.setCell ⟨R,0,none⟩ a).setCell ⟨R,1,none⟩ b).ownsRow base e sz v n xs :=
 own_set_neD (own_set_neD h (by exact hR) _) (by exact hR) _
theorem Bx.t1 {w:World} {g t:Nat} {a b:Value} (h:Bx w g t #[a,b]) (x:Value):Bx (w.setCell ⟨g,1,none⟩ x) g t #[a,x]:=by simpa using h.set_ 1 x
set_option maxRecDepth 100000 in
theorem s_l11Right (g n:Nat) (most:Nat) (w:World) (h:Cur w g) (h1:1<=n) (h4:n<=4) (hm:most<=60) :
  Calls Tryz.prog 120 #[.pointer (some ⟨g,0,none⟩),.int .i64 n,.int .i64 most] w (DrawnC (fun N=>N=n) most g w):=by
 have hg:=h.lt
 have hz4:(Value.agg #[.int .i64 0,.int .i64 0,.int .i64 0,.int .i64 0]).cells.size=4:=rfl
 obtain ⟨W1,hW1⟩:∃ W1,W1=(w.alloc (.cells #[.int .i64 0,.slice none 0 0] 45)).alloc (.cells #[.int .i64 n,.slice none 0 0] 45):=⟨_,rfl⟩
 have C1:=zH (show Cur W1 g from hW1 ▸ cur_alloc (cur_alloc h _) _)
 have R1:=zH (show Bx W1 w.heap.size 45 #[.int .i64 0,.slice none 0 0] from hW1 ▸ (Bx.new w _ _).alloc _)
 have E1:=zH (show Bx W1 (w.heap.size+1) 45 #[.int .i64 n,.slice none 0 0] from hW1 ▸ Bx.new' (by simp))
 have G1:=zH (show w.grownBy W1 (some g) from hW1 ▸ dr_alloc (dr_alloc (dr_refl w g) _) _)
 have HW:=zH hW1
 clear h hW1
 go_enter Tryz.func120,Tryz.ntmps120
 go_wp2_with fail
 rw [<- HW.out]
 refine (s_l1Below g _ _ C1.out (by omega)).mono ?_
 rintro e w2 ⟨y,rfl,⟨hy,_⟩,hc,gg⟩
 obtain ⟨hy0,hy1⟩:=hy (by omega)
 obtain ⟨m,rfl⟩:∃ m:Nat,y=m:=⟨y.toNat,by omega⟩
 have C2:=zH hc
 have R2:=zH (dr_bx gg R1.out (show w.heap.size ≠ g by omega))
 have E2:=zH (dr_bx gg E1.out (show w.heap.size+1 ≠ g by omega))
 have G2:=zH (dr_trans G1.out gg)
 clear hy hc gg C1 R1 E1 G1 HW
 go_wp2_with fail
 go_loopg [9] m (fun r i wr=>∃ (k:Nat) (A:Option Addr) (c:Nat) (gs:List Gt),k+r=m/\i=.int .i64 k/\gs.length=k/\Bx wr w.heap.size 45 #[.int .i64 0,.slice none 0 0]/\Bx wr (w.heap.size+1) 45 #[.int .i64 n,.slice A k c]/\wr.ownsRow w.heap.size 39 4 (.slice A k c) k (cellsG gs)/\Cur wr g/\w.grownBy wr (some g))
 case atStart=>exact ⟨0,none,0,[],by omega,rfl,rfl,R2.out,E2.out,World.ownsRow_nil _ _ _ _,C2.out,G2.out⟩
 case round =>
  clear C2 R2 E2 G2
  obtain ⟨k,A,c,gs,hk,rfl,hl,hr,he,ho,hc,hgr⟩:=hrel
  have HL:=zH hl
  have HR:=zH hr
  have HE:=zH he
  have HO:=zH ho
  have HC:=zH hc
  have HG:=zH hgr
  have lr:=hr.lt
  have le:=he.lt
  clear hl hr he ho hc hgr
  obtain ⟨q0,q1,f0,f1⟩:=HE.out.two
  by_cases hlt:k < m
  ·have CD:=zH (show Cur wr.drew g from HC.out)
   go_wp2_with fail
   go_region_law (first
    |(go_simp;go_at_call 159;(with_reducible refine (s_l9Gate g n _ (by first | exact CD.out | exact HC.out) h1 h4).mono ?_);rintro e w5 ⟨k5,a5,b5,c5,rfl,_,hc5,g5⟩;have g5:=und_grownD g5;have E5:=dr_bx g5 HE.out (show w.heap.size+1 ≠ g by omega);have R5:=dr_bx g5 HR.out (show w.heap.size ≠ g by omega);have O5:=dr_own g5 HC.out HO.out (by decide);have s5:=g5.size;have ⟨p0,p1,p2,p3⟩:=E5.two;have e5:=E5.lt;have OA:=O5.alloc (.cells #[.int .i64 k5,.int .i64 a5,.int .i64 b5,.int .i64 c5] 39);have CA:=cur_alloc hc5 (.cells #[.int .i64 k5,.int .i64 a5,.int .i64 b5,.int .i64 c5] 39);have GA:=dr_alloc (dr_trans HG.out g5) (.cells #[.int .i64 k5,.int .i64 a5,.int .i64 b5,.int .i64 c5] 39))
    |(refine step_app (by rfl) (.tmp 22) (.tmp 26) 24 (by rfl) Tryz.underlying24 infoGate hz4 (by decide) (by simp [Act.eval]<;>rfl) OA (by simp [Act.eval]<;>rfl) (Rd.lit w5 39 #[.int .i64 k5,.int .i64 a5,.int .i64 b5,.int .i64 c5] 1 4 rfl) (by simp [Value.oneCell']) (by omega) (by decide) (by simp<;>omega) ?_;intro A7 c7 w7 o7 g7;have E7:=kept_app OA g7 (E5.alloc _) (by decide);have R7:=kept_app OA g7 (R5.alloc _) (by decide);have C7:=CA.row g7 (fun q hq=>(by have:=(OA.lt q hq).1;omega));have G7:=dr_row GA g7 (fun q hq=>(OA.lt q hq).1);have ⟨t0,t1,t2,t3⟩:=E7.two;have e7:=E7.lt)
    |fail)
   all_goals go_wp2_with fail
   all_goals go_roundg (gk - 1)
   all_goals first
    |omega
    |exact ⟨k+1,A7,c7,gs++[⟨k5,a5,b5,c5⟩],by omega,by go_num,by simp [HL.out],R7.far (show w.heap.size ≠ w.heap.size+1 by omega) _,E7.t1 _,by rw [cellsG_append];exact own_set_neD o7 (own_bx_ne o7 E7 (by decide)) _,C7.setCell (by show g < w.heap.size+1;omega) _,dr_set G7 (by show w.heap.size<=w.heap.size+1;omega) _⟩
  ·obtain rfl:k=m:=by omega
   obtain ⟨r0,r1,g0,g1⟩:=HR.out.two
   go_wp2_with fail
   refine bodyPost_ret (v:=.agg #[.int .i64 n,.slice A k c]) (by simp [results,Tryz.results120,go_sem,r0,r1]) rfl ⟨n,A,k,c,gs,rfl,HL.out,by omega,rfl,own_set2 HO.out (own_bx_ne HO.out HR.out (by decide)),cur2 HC.out hg,dr2 HG.out zR⟩
theorem s_l1Max (a b:Int) (w:World):Calls Tryz.prog 123 #[.int .i64 a,.int .i64 b] w fun e w'=>e=.returned (.int .i64 (if a > b then a else b))/\w=w':=by
 by_cases h:a > b
 ·go_enter Tryz.func123,Tryz.ntmps123
  go_wp2_with fail
  go_ret
  exact ⟨rfl,rfl⟩
 ·go_enter Tryz.func123,Tryz.ntmps123
  go_wp2_with fail
  go_ret
  exact ⟨rfl,rfl⟩
set_option maxRecDepth 100000 in
theorem s_l11Bent (g:Nat) (most:Nat) (w:World) (h:Cur w g) (hm:most<=58) :
  Calls Tryz.prog 75 #[.pointer (some ⟨g,0,none⟩),.int .i64 most] w (DrawnC (fun _=>True) 64 g w):=by
 have hg:=h.lt
 have hz4:(Value.agg #[.int .i64 0,.int .i64 0,.int .i64 0,.int .i64 0]).cells.size=4:=rfl
 have C1:=zH (cur_alloc h (.cells #[.int .i64 0,.slice none 0 0] 45))
 have R1:=zH (Bx.new w 45 #[.int .i64 0,.slice none 0 0])
 have G1:=zH (dr_alloc (dr_refl w g) (.cells #[.int .i64 0,.slice none 0 0] 45))
 clear h
 go_enter Tryz.func75,Tryz.ntmps75
 go_wp2_with fail
 refine (s_l1Below g 3 _ C1.out (by omega)).mono ?_
 rintro e w2 ⟨y,rfl,⟨hy,_⟩,hc,gg⟩
 obtain ⟨hy0,hy1⟩:=hy (by omega)
 obtain ⟨q,hq⟩:∃ q:Nat,1+y=q:=⟨(1+y).toNat,by omega⟩
 have hq1:1<=q:=by omega
 have hq4:q<=3:=by omega
 have C2:=zH hc
 have R2:=zH (dr_bx gg R1.out (show w.heap.size ≠ g by omega))
 have G2:=zH (dr_trans G1.out gg)
 have hs2:=(dr_un gg).size
 clear hy hc gg C1 R1 G1
 go_wp2_with fail
 clear hq hy0 hy1
 refine (s_l11Right g q most _ C2.out hq1 (by omega) (by omega)).mono ?_
 rintro e w3 ⟨N,A,n,c,gs,rfl,hl,hn,rfl,o3,hc,gg⟩
 have hs3:=gg.size
 have HL:=zH hl
 have OB:=zH (show (w3.alloc (.cells #[.int .i64 (q:Int),.slice A n c] 45)).ownsRow w.heap.size 39 4 (.slice A n c) n (cellsG gs) from (ownsRow_base o3 (by omega)).alloc _)
 have CB:=zH (cur_alloc hc (.cells #[.int .i64 (q:Int),.slice A n c] 45))
 have RB:=zH ((dr_bx gg R2.out (show w.heap.size ≠ g by omega)).alloc (.cells #[.int .i64 (q:Int),.slice A n c] 45))
 have EB:=zH (Bx.new w3 45 #[.int .i64 (q:Int),.slice A n c])
 have GB:=zH (dr_alloc (dr_trans G2.out gg) (.cells #[.int .i64 (q:Int),.slice A n c] 45))
 have hR3:w.heap.size < w3.heap.size:=(dr_bx gg R2.out (show w.heap.size ≠ g by omega)).lt
 clear hl o3 hc gg C2 R2 G2
 go_wp2_with fail
 refine (s_l1Below g 12 _ CB.out (by omega)).mono ?_
 rintro e w4 ⟨z,rfl,_,hc,gg⟩
 have HO:=zH (dr_own gg CB.out OB.out (by decide))
 have HC:=zH hc
 have HR:=zH (dr_bx gg RB.out (show w.heap.size ≠ g by omega))
 have HE:=zH (dr_bx gg EB.out (show w3.heap.size ≠ g by omega))
 have HG:=zH (dr_trans GB.out gg)
 have lr:=HR.out.lt
 have le:=HE.out.lt
 have hgs:g+1<=w4.heap.size:=hc.lt
 clear hc gg OB CB RB EB GB
 generalize hgE:w3.heap.size=ge at HE hR3 le ⊢
 clear hgE hs3
 by_cases z0:z=0
 ·subst z0
  have OL:=zH (show (w4.alloc (.cells #[.int .i64 0,.int .i64 1,.int .i64 4,.int .i64 5,.int .i64 (-1)] 3)).ownsRow (g+1) 3 1 (.slice (some ⟨w4.heap.size,0,none⟩) 5 5) 5 (cellsI [0,1,4,5, -1]) from World.ownsRow_lit w4 #[.int .i64 0,.int .i64 1,.int .i64 4,.int .i64 5,.int .i64 (-1)] 5 hgs (by simp [maxLen]) rfl)
  have CA:=zH (cur_alloc HC.out (.cells #[.int .i64 0,.int .i64 1,.int .i64 4,.int .i64 5,.int .i64 (-1)] 3))
  go_wp2_with fail
  refine (s_l1PickInt g _ 5 5 [0,1,4,5, -1] _ CA.out OL.out (by omega) (by omega)).mono ?_
  rintro e w5 ⟨x,rfl,_,hc,gg⟩
  have O5:=zH (dr_own gg CA.out (HO.out.alloc _) (by decide))
  have C5:=zH hc
  have R5:=zH (dr_bx gg (HR.out.alloc _) (show w.heap.size ≠ g by omega))
  have E5:=zH (dr_bx gg (HE.out.alloc _) (show ge ≠ g by omega))
  have G5:=zH (dr_trans (dr_alloc HG.out _) gg)
  have l5:=E5.out.lt
  clear hc gg OL CA
  obtain ⟨r0,r1,_,_⟩:=R5.out.two
  obtain ⟨u0,u1,v0,v1⟩:=E5.out.two
  go_wp2_with fail
  refine bodyPost_ret (v:=.agg #[.int .i64 x,.slice A n c]) (by simp [results,Tryz.results75,go_sem,r0,r1]) rfl ⟨x,A,n,c,gs,rfl,HL.out,by omega,trivial,own_set2 (own_set_neD O5.out (own_bx_ne O5.out E5.out (by decide)) _) (own_bx_ne O5.out R5.out (by decide)),cur2 (C5.out.setCell (by show g < ge;omega) _) hg,dr2 (dr_set G5.out (by show w.heap.size<=ge;omega) _) zR⟩
 ·by_cases z1:z=1
  ·subst z1
   obtain ⟨u0,u1,v0,v1⟩:=HE.out.two
   have CD:=zH (show Cur w4.drew g from HC.out)
   have hmx:(if (1:Int) > (q:Int) then (1:Int) else (q:Int))=q:=by split<;>omega
   have HMX:=zH hmx
   clear hmx
   go_wp2_with fail
   go_region_law (first
    |(go_simp;go_at_call 123;(with_reducible refine (s_l1Max _ _ _).mono ?_);rintro e w5 ⟨rfl,rfl⟩;rw [HMX.out])
    |(go_simp;go_at_call 122;(with_reducible refine (s_l9Bent g q _ (by first | exact CD.out | exact HC.out) hq1 (by omega)).mono ?_);rintro e w5 ⟨k5,a5,b5,c5,rfl,_,hc5,g5⟩;have g5:=und_grownD g5;have E5:=dr_bx g5 HE.out (show ge ≠ g by omega);have R5:=dr_bx g5 HR.out (show w.heap.size ≠ g by omega);have O5:=dr_own g5 HC.out HO.out (by decide);have s5:=g5.size;have ⟨p0,p1,p2,p3⟩:=E5.two;have e5:=E5.lt;have OA:=O5.alloc (.cells #[.int .i64 k5,.int .i64 a5,.int .i64 b5,.int .i64 c5] 39);have CA:=cur_alloc hc5 (.cells #[.int .i64 k5,.int .i64 a5,.int .i64 b5,.int .i64 c5] 39);have GA:=dr_alloc (dr_trans HG.out g5) (.cells #[.int .i64 k5,.int .i64 a5,.int .i64 b5,.int .i64 c5] 39))
    |(refine step_app (by rfl) (.tmp 23) (.tmp 29) 24 (by rfl) Tryz.underlying24 infoGate hz4 (by decide) (by simp [Act.eval]<;>rfl) OA (by simp [Act.eval]<;>rfl) (Rd.lit w5 39 #[.int .i64 k5,.int .i64 a5,.int .i64 b5,.int .i64 c5] 1 4 rfl) (by simp [Value.oneCell']) (by omega) (by decide) (by simp<;>omega) ?_;intro A7 c7 w7 o7 g7;have E7:=kept_app OA g7 (E5.alloc _) (by decide);have R7:=kept_app OA g7 (R5.alloc _) (by decide);have C7:=CA.row g7 (fun q hq=>(by have:=(OA.lt q hq).1;omega));have G7:=dr_row GA g7 (fun q hq=>(OA.lt q hq).1);have ⟨t0,t1,t2,t3⟩:=E7.two;have e7:=E7.lt;have ⟨r0,r1,r2,r3⟩:=R7.two)
    |fail)
   all_goals go_wp2_with fail
   all_goals refine bodyPost_ret (v:=.agg #[.int .i64 (q:Int),.slice A7 (n+1) c7]) (by simp [results,Tryz.results75,go_sem,r0,r1]) rfl ⟨q,A7,n+1,c7,gs++[⟨k5,a5,b5,c5⟩],rfl,by simp [HL.out],by omega,trivial,own_set2 (by rw [cellsG_append];exact own_set_neD o7 (own_bx_ne o7 E7 (by decide)) _) (own_bx_ne o7 R7 (by decide)),cur2 (C7.setCell (by show g < ge;omega) _) hg,dr2 (dr_set G7 (by show w.heap.size<=ge;omega) _) zR⟩
  ·by_cases z2:z=2
   ·subst z2
    go_wp2_with fail
    refine (s_l1Once g 6 _ HC.out (by omega)).mono ?_
    rintro e w5 ⟨bb,rfl,hc,gg⟩
    have O5:=zH (dr_own gg HC.out HO.out (by decide))
    have C5:=zH hc
    have R5:=zH (dr_bx gg HR.out (show w.heap.size ≠ g by omega))
    have E5:=zH (dr_bx gg HE.out (show ge ≠ g by omega))
    have G5:=zH (dr_trans HG.out gg)
    clear hc gg HO HC HR HE HG
    cases bb
    ·obtain ⟨r0,r1,_,_⟩:=R5.out.two
     obtain ⟨u0,u1,v0,v1⟩:=E5.out.two
     go_wp2_with fail
     refine bodyPost_ret (v:=.agg #[.int .i64 (q:Int),.slice A n c]) (by simp [results,Tryz.results75,go_sem,r0,r1]) rfl ⟨q,A,n,c,gs,rfl,HL.out,by omega,trivial,own_set2 O5.out (own_bx_ne O5.out R5.out (by decide)),cur2 C5.out hg,dr2 G5.out zR⟩
    ·go_wp2_with fail
     go_loopg [38] 100 (fun r s wr=>∃ (k:Nat) (A:Option Addr) (c:Nat) (gs:List Gt),k+r=n+100/\k<=62/\gs.length=k/\Bx wr w.heap.size 45 #[.int .i64 0,.slice none 0 0]/\Bx wr ge 45 #[.int .i64 (q:Int),.slice A k c]/\wr.ownsRow w.heap.size 39 4 (.slice A k c) k (cellsG gs)/\Cur wr g/\w.grownBy wr (some g))
     case atStart=>exact ⟨n,A,c,gs,by omega,by omega,HL.out,R5.out,E5.out,O5.out,C5.out,G5.out⟩
     case round =>
      clear R5 E5 O5 C5 G5
      obtain ⟨k,A,c,gs,hk,hk62,hl,hr,he,ho,hc,hgr⟩:=hrel
      have HL:=zH hl
      have HR:=zH hr
      have HE:=zH he
      have HO:=zH ho
      have HC:=zH hc
      have HG:=zH hgr
      have lr:=hr.lt
      have le:=he.lt
      clear hl hr he ho hc hgr
      obtain ⟨q0,q1,f0,f1⟩:=HE.out.two
      have CD:=zH (show Cur wr.drew g from HC.out)
      go_wp2_with fail
      go_region_law (first
       |(go_simp;go_at_call 74;(with_reducible refine (s_l1Below g 3 _ (by first | exact CD.out | exact HC.out) (by omega)).mono ?_);rintro e w5 ⟨y5,rfl,⟨hy5,_⟩,hc5,g5⟩;have g5:=und_grownD g5;have E5:=dr_bx g5 HE.out (show ge ≠ g by omega);have R5:=dr_bx g5 HR.out (show w.heap.size ≠ g by omega);have O5:=dr_own g5 HC.out HO.out (by decide);have s5:=g5.size;have ⟨p0,p1,p2,p3⟩:=E5.two;have e5:=E5.lt;have ⟨hy50,hy51⟩:=hy5 (by omega);clear hy5;have hw5:IntKind.i64.wrap (59+y5)=59+y5:=(by rw [IntKind.wrap_i64];omega))
       |fail)
      all_goals clear hw5
      all_goals by_cases ht:(k:Int) < 59+y5
      all_goals first
       |(have hd:decide ((k:Int) < 59+y5)=true:=by simpa using ht
         have hk61:k<=60:=by omega
         have OA:=zH (O5.alloc (.cells #[.int .i64 1,.int .i64 0,.int .i64 0,.int .i64 0] 39));have CA:=zH (cur_alloc hc5 (.cells #[.int .i64 1,.int .i64 0,.int .i64 0,.int .i64 0] 39));have GA:=zH (dr_alloc (dr_trans HG.out g5) (.cells #[.int .i64 1,.int .i64 0,.int .i64 0,.int .i64 0] 39))
         go_wp2_with (at_builtin;refine wpList_app rfl (.tmp 44) (.tmp 46) 24 rfl Tryz.underlying24 infoGate hz4 (by decide) rfl OA.out rfl (Rd.lit w5 39 #[.int .i64 1,.int .i64 0,.int .i64 0,.int .i64 0] 1 4 rfl) (by simp [Value.oneCell']) (by omega) (by decide) (by simp<;>omega) ?_;intro A7 c7 w7 o7 g7;have E7:=kept_app OA.out g7 (E5.alloc _) (by decide);have R7:=kept_app OA.out g7 (R5.alloc _) (by decide);have C7:=CA.out.row g7 (fun q hq=>(by have:=(OA.out.lt q hq).1;omega));have G7:=dr_row GA.out g7 (fun q hq=>(OA.out.lt q hq).1);have ⟨t0,t1,t2,t3⟩:=E7.two;have e7:=E7.lt)
         go_roundg (gk - 1)
         case measure=>omega
         case rel=>exact ⟨k+1,A7,c7,gs++[⟨1,0,0,0⟩],by omega,by omega,by simp [HL.out],R7.far (show w.heap.size ≠ ge by omega) _,E7.t1 _,by rw [cellsG_append];exact own_set_neD o7 (own_bx_ne o7 E7 (by decide)) _,C7.setCell (by show g < ge;omega) _,dr_set G7 (by show w.heap.size<=ge;omega) _⟩)
       |(have ht':¬ ((k:Int) < 59+y5):=ht
         have hd:decide ((k:Int) < 59+y5)=false:=by simpa using ht
         have ⟨r0,r1,r2,r3⟩:=R5.two
         have l5:=R5.lt
         have CC:=zH hc5
         have GG:=zH (dr_trans HG.out g5)
         have OO:=zH O5
         have NE:=zH (own_bx_ne O5 R5 (by decide))
         go_wp2_with fail
         refine bodyPost_ret (v:=.agg #[.int .i64 (q:Int),.slice A k c]) (by simp [results,Tryz.results75,go_sem,r0,r1]) rfl ⟨q,A,k,c,gs,rfl,HL.out,by omega,trivial,own_set2 OO.out NE.out,cur2 CC.out hg,dr2 GG.out zR⟩)
   ·have e0:(z == 0)=false:=by simpa using z0
    have e1:(z == 1)=false:=by simpa using z1
    have e2:(z == 2)=false:=by simpa using z2
    clear z0 z1 z2
    obtain ⟨r0,r1,_,_⟩:=HR.out.two
    obtain ⟨u0,u1,v0,v1⟩:=HE.out.two
    go_wp2_with fail
    refine bodyPost_ret (v:=.agg #[.int .i64 (q:Int),.slice A n c]) (by simp [results,Tryz.results75,go_sem,r0,r1]) rfl ⟨q,A,n,c,gs,rfl,HL.out,by omega,trivial,own_set2 HO.out (own_bx_ne HO.out HR.out (by decide)),cur2 HC.out hg,dr2 HG.out zR⟩
set_option maxRecDepth 100000 in
theorem i_MergeGates (g h:Gt) (w:World):Calls Tryz.prog 83 #[.agg #[.int .i64 g.k,.int .i64 g.a,.int .i64 g.b,.int .i64 g.c],.agg #[.int .i64 h.k,.int .i64 h.a,.int .i64 h.b,.int .i64 h.c]] w (RetGB (mergeL g h) (mergeOk g h) w):=by
 have ST:=zH (mg_start w g h)
 have hM:Tryz.prog.eqGuardType Tryz.prog.depth 39=false:=by kernel_rfl
 have none_:∀ wx:World,mergeL g h=[]/\mergeOk g h=false->Below w.heap.size w wx->RetGB (mergeL g h) (mergeOk g h) w (.returned (.tuple #[.slice none 0 0,.bool false])) wx:=fun wx h1 h2=>by
  rw [h1.1,h1.2]
  exact ⟨_,_,rfl,World.ownsRow_nil _ _ _ _,h2⟩
 have some_:∀ wx:World,mergeB g h=true->Below w.heap.size w wx->RetGB (mergeL g h) (mergeOk g h) w (.returned (.tuple #[.slice (some ⟨wx.heap.size,0,none⟩) 0 0,.bool true])) (wx.alloc (.cells #[] 39)):=fun wx h1 h2=>by
  rw [(merge_yes h1).1,(merge_yes h1).2]
  exact ⟨_,_,rfl,World.ownsRow_lit wx #[] 0 h2.size (by simp [maxLen]) rfl |> fun o=>ownsRow_base o zR,h2.alloc h2.size _⟩
 have NO:=zH none_
 have YES:=zH some_
 clear none_ some_
 have hbd:=arity_bd g.k
 by_cases h0:arity g.k=0
 ·have e0:(arity g.k == 0)=true:=by simpa using h0
  have FIN:=zH (NO.out _ (merge_no (mergeB_0 (h:=h) h0) (rotB_0 h0)) ST.out.2.2)
  clear h0 hbd
  go_enter Tryz.func83,Tryz.ntmps83
  go_wp2_with (go_at_call 44;(with_reducible refine (i_Arity _ _).mono ?_);rintro e w' ⟨rfl,rfl⟩)
  go_ret2
  exact FIN.out
 have e0:(arity g.k == 0)=false:=by simpa using h0
 have hpos:0 < arity g.k:=by omega
 have HP:=zH (show mergeB g h=(isInv g h || alikeG g h) by simp [mergeB,hpos])
 clear h0 hbd hpos
 go_enter Tryz.func83,Tryz.ntmps83
 go_upto_region 3 with (go_at_call 44;(with_reducible refine (i_Arity _ _).mono ?_);rintro e w' ⟨rfl,rfl⟩)
 obtain ⟨w0,hw0⟩:∃ w0,w0=(w.alloc (.cells #[.int .i64 g.k,.int .i64 g.a,.int .i64 g.b,.int .i64 g.c] 39)).alloc (.cells #[.int .i64 h.k,.int .i64 h.a,.int .i64 h.b,.int .i64 h.c] 39):=⟨_,rfl⟩
 rw [<- hw0] at ST ⊢
 clear hw0
 obtain ⟨p0,p1,p2,p3,q0,q1,q2,q3⟩:=ST.out.cells
 go_cut [14] (fun v wx=>v=.bool (isInv g h)/\MgSt w w.heap.size g h wx)
 case first =>
  have hE:∀ w,(Op.equalIn 10000 39 (.agg #[.int .i64 h.k,.int .i64 h.a,.int .i64 h.b,.int .i64 h.c]) (.agg #[.int .i64 (invK g.k),.int .i64 g.a,.int .i64 g.b,.int .i64 g.c])).run Tryz.prog w=.ok (isInv g h) w:=fun w=>eqGV _ _ _ _ _ _ _ _ w
  have U0:=ST.out.drew
  go_region_with (first
    |(go_at_call 126;(with_reducible refine (i_InverseGate _ _ _ _ _).mono ?_);rintro e w1 ⟨rfl,b1⟩;have U1:=U0.below b1;obtain ⟨u0,u1,u2,u3,v0,v1,v2,v3⟩:=U1.cells))
  all_goals go_wp2_with fail
  all_goals go_meet
  all_goals exact ⟨rfl,U1⟩
 case rest =>
  obtain ⟨rfl,T1⟩:=hcut
  obtain ⟨wd,rfl⟩:∃ wd,wd=wc:=⟨_,rfl⟩
  have XT:=zH T1
  clear T1 ST p0 p1 p2 p3 q0 q1 q2 q3
  obtain ⟨p0,p1,p2,p3,q0,q1,q2,q3⟩:=XT.out.cells
  cases hi:isInv g h
  ·have HI:=zH hi
   clear hi
   go_upto_region 5 with fail
   go_cut [58] (fun v wx=>v=.bool (alikeG g h)/\wd=wx)
   case first =>
    go_wp2_with fail
    all_goals go_meet
    all_goals exact ⟨by unfold alikeG alike;simp [*]<;>(intros;omega),rfl⟩
   case rest =>
    obtain ⟨rfl,rfl⟩:=hcut
    have hg0:=units_bd g.k
    have hh0:=units_bd h.k
    cases hb:alikeG g h
    ·have HB:=zH (show mergeB g h=false by rw [HP.out,HI.out,hb];rfl)
     clear hb
     cases hr:rotB g h
     ·have FIN:=zH (NO.out wd (merge_no HB.out hr) XT.out.2.2)
      by_cases h1:0 < units g.k
      ·have d1:(units g.k != 0)=true:=by simp;omega
       by_cases h2:0 < units h.k
       ·have d2:(units h.k != 0)=true:=by simp;omega
        have e3:(g.a == h.a)=false:=by simpa [rotB,h1,h2] using hr
        clear hr
        go_wp2_with (go_at_call 79;(with_reducible refine (i_RotationUnits _ _).mono ?_);rintro e w' ⟨rfl,rfl⟩)
        go_ret2
        exact FIN.out
       ·have d2:(units h.k != 0)=false:=by simp;omega
        clear hr
        go_wp2_with (go_at_call 79;(with_reducible refine (i_RotationUnits _ _).mono ?_);rintro e w' ⟨rfl,rfl⟩)
        go_ret2
        exact FIN.out
      ·have d1:(units g.k != 0)=false:=by simp;omega
       clear hr
       go_wp2_with (go_at_call 79;(with_reducible refine (i_RotationUnits _ _).mono ?_);rintro e w' ⟨rfl,rfl⟩)
       go_ret2
       exact FIN.out
     ·have hr':0 < units g.k/\0 < units h.k/\g.a=h.a:=by simpa [rotB,and_assoc] using hr
      obtain ⟨h1,h2,h3⟩:=hr'
      have d1:(units g.k != 0)=true:=by simp;omega
      have d2:(units h.k != 0)=true:=by simp;omega
      have e3:(g.a == h.a)=true:=by simpa using h3
      have HR:=zH hr
      have hwr:IntKind.i64.wrap (units g.k+units h.k)=units g.k+units h.k:=by rw [IntKind.wrap_i64];omega
      have HS:Hid ((units g.k+units h.k) % 8=sumU g h):=rfl
      clear hr h3
      go_upto_region 8 with (go_at_call 79;(with_reducible refine (i_RotationUnits _ _).mono ?_);rintro e w' ⟨rfl,rfl⟩)
      go_cut [6] (fun v wx=>MgRot w g h v wx)
      case first =>
       have U0:=XT.out.drew
       have hs0:=XT.out.2.2.size
       go_region_held3 (fun w'=>w'.cell? ⟨w.heap.size,0,none⟩=some (.int .i64 g.k)/\w'.cell? ⟨w.heap.size,1,none⟩=some (.int .i64 g.a)/\w'.cell? ⟨w.heap.size+1,0,none⟩=some (.int .i64 h.k))
        (first | go_keep | exact ⟨U1.cells.1,U1.cells.2.1,U1.cells.2.2.2.2.1⟩)
        (first
         |(go_at_call 79;(with_reducible refine (i_RotationUnits _ _).mono ?_);rintro e w' ⟨rfl,rfl⟩)
         |(go_at_call 43;(with_reducible refine (i_mod8 _ _).mono ?_);rintro e w' ⟨rfl,rfl⟩;rw [HS.out])
         |(go_at_call 81;(with_reducible refine (i_RotationGates _ _ _).mono ?_);rintro e w1 ⟨A1,c1,rfl,o1,b1⟩;have U1:=U0.below b1))
       all_goals go_wp2_with fail
       all_goals go_meet
       all_goals exact ⟨A1,c1,rfl,ownsRow_base o1 hs0,U1⟩
      case rest =>
       obtain ⟨A,c,rfl,own,T2⟩:=hcut
       have hl:=rotK_len (sumU g h)
       have hlG:=rotG_len (sumU g h) g.a
       obtain ⟨m,hm⟩:∃ m,(rotK (sumU g h)).length=m:=⟨_,rfl⟩
       have HM:=zH hm
       rw [hm] at hl own hlG
       rw [HM.out]
       have HL:=zH hlG
       have OWN:=zH own
       have TT:=zH T2
       clear hm own T2 hlG
       by_cases hm1:m<=1
       ·have hlt:(m:Int)<=1:=by omega
        have FIN:=zH (show RetGB (mergeL g h) (mergeOk g h) w (.returned (.tuple #[.slice A m c,.bool true])) wc from by
         obtain ⟨e1,e2⟩:=merge_rot HB.out HR.out (by rw [HM.out];exact hm1)
         rw [e1,e2]
         refine ⟨A,c,?_,?_,TT.out.2.2⟩
         ·rw [HL.out]
         ·rw [HL.out];exact OWN.out)
        go_wp2_with fail
        go_ret2
        exact FIN.out
       ·have hlt:¬ (m:Int)<=1:=by omega
        have FIN:=zH (NO.out wc (merge_two HB.out (by rw [HM.out];exact hm1)) TT.out.2.2)
        go_wp2_with fail
        go_ret2
        exact FIN.out
    ·have FIN:=zH (YES.out wd (by rw [HP.out,hb];simp) XT.out.2.2)
     clear hb
     go_wp2_with fail
     go_ret2
     exact FIN.out
  ·have FIN:=zH (YES.out wd (by rw [HP.out,hi];rfl) XT.out.2.2)
   clear hi
   go_wp2_with fail
   go_ret2
   exact FIN.out
end Go.Proofs.YtmenmibfkojnoaaGreat
