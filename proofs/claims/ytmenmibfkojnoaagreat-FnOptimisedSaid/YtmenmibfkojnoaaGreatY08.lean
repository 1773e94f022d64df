/- Contracts of PhaseFactor, InvSqrt2Power,. -/
import Derived.Test.YtmenmibfkojnoaaGreatY03
import Derived.Deep.RegionLaw
set_option maxHeartbeats 16000000
set_option maxRecDepth 100000
namespace Go.Proofs.YtmenmibfkojnoaaGreat
open Go.RowKit
set_option linter.unusedVariables false
theorem fC:(Tryz.prog.info? 110).map (fun i=>(i.zero,i.size,i.bytes))=some (some (.agg #[(0:Int),(0:Int),(0:Int),(0:Int),(0:Int)]),5,40):=zK
theorem lF {p:Prop} (h:p:=by simp [results,Tryz.results95,go_sem,cV,fw]):p:=h
theorem jt (k:Nat) (w:World) (h:k < 8):Calls Tryz.prog 95 #[k] w fun e w'=>e=.returned (.agg #[.int .i64 (cV k).n.a,.int .i64 (cV k).n.b,.int .i64 (cV k).n.c,.int .i64 (cV k).n.d,.int .i64 (cV k).e])/\Below w w w':=by
 obtain rfl | rfl | rfl | rfl | rfl | rfl | rfl | rfl:k=0\/k=1\/k=2\/k=3\/k=4\/k=5\/k=6\/k=7:=zO
 all_goals
  have hB2:∀ o o':Obj,Below w w ((w.alloc o).alloc o'):=fun o o'=>by
   have h1:Below w w (w.alloc o):=(zW).alloc zR _;exact h1.alloc h1.size _
  go_enter Tryz.func95,Tryz.ntmps95;go_wp2_with fail
 ·exact bodyPost_ret (v:=.agg #[.int .i64 (cV 0).n.a,.int .i64 (cV 0).n.b,.int .i64 (cV 0).n.c,.int .i64 (cV 0).n.d,.int .i64 (cV 0).e]) lF rfl ⟨rfl,hB2 _ _⟩
 ·exact bodyPost_ret (v:=.agg #[.int .i64 (cV 1).n.a,.int .i64 (cV 1).n.b,.int .i64 (cV 1).n.c,.int .i64 (cV 1).n.d,.int .i64 (cV 1).e]) lF rfl ⟨rfl,hB2 _ _⟩
 ·exact bodyPost_ret (v:=.agg #[.int .i64 (cV 2).n.a,.int .i64 (cV 2).n.b,.int .i64 (cV 2).n.c,.int .i64 (cV 2).n.d,.int .i64 (cV 2).e]) lF rfl ⟨rfl,hB2 _ _⟩
 ·exact bodyPost_ret (v:=.agg #[.int .i64 (cV 3).n.a,.int .i64 (cV 3).n.b,.int .i64 (cV 3).n.c,.int .i64 (cV 3).n.d,.int .i64 (cV 3).e]) lF rfl ⟨rfl,hB2 _ _⟩
 ·exact bodyPost_ret (v:=.agg #[.int .i64 (cV 4).n.a,.int .i64 (cV 4).n.b,.int .i64 (cV 4).n.c,.int .i64 (cV 4).n.d,.int .i64 (cV 4).e]) lF rfl ⟨rfl,hB2 _ _⟩
 ·exact bodyPost_ret (v:=.agg #[.int .i64 (cV 5).n.a,.int .i64 (cV 5).n.b,.int .i64 (cV 5).n.c,.int .i64 (cV 5).n.d,.int .i64 (cV 5).e]) lF rfl ⟨rfl,hB2 _ _⟩
 ·exact bodyPost_ret (v:=.agg #[.int .i64 (cV 6).n.a,.int .i64 (cV 6).n.b,.int .i64 (cV 6).n.c,.int .i64 (cV 6).n.d,.int .i64 (cV 6).e]) lF rfl ⟨rfl,hB2 _ _⟩
 ·exact bodyPost_ret (v:=.agg #[.int .i64 (cV 7).n.a,.int .i64 (cV 7).n.b,.int .i64 (cV 7).n.c,.int .i64 (cV 7).n.d,.int .i64 (cV 7).e]) lF rfl ⟨rfl,hB2 _ _⟩
theorem PN (w:World):Calls Tryz.prog 170 #[(1:Int)] w fun e w'=>e=.returned (.agg #[(1:Int),(0:Int),(0:Int),(0:Int),(1:Int)])/\Below w w w':=by
 go_enter Tryz.func170,Tryz.ntmps170;go_wp2_with fail;refine (el _ _ _ _).mono ?_;rintro e w1 ⟨rfl,rfl⟩;rw [show ee 1 0 60=true by decide];go_wp2_with fail;exact bodyPost_ret (v:=.agg #[(1:Int),(0:Int),(0:Int),(0:Int),(1:Int)]) (by simp [results,Tryz.results170,go_sem]) rfl ⟨rfl,(zW).alloc zR _⟩
theorem Uw (w:World):Calls Tryz.prog 92 #[] w fun e w'=>e=.returned (.agg #[(1:Int),(0:Int),(0:Int),(0:Int),(0:Int)])/\Below w w w':=by
 go_enter Tryz.func92,Tryz.ntmps92;go_wp2_with fail;exact bodyPost_ret (v:=.agg #[(1:Int),(0:Int),(0:Int),(0:Int),(0:Int)]) (by simp [results,Tryz.results92,go_sem]) rfl ⟨rfl,(zW).alloc zR _⟩
theorem Mw (w:World):Calls Tryz.prog 204 #[.agg #[(1:Int),(0:Int),(0:Int),(0:Int)]] w fun e w'=>e=.returned (.agg #[.int .i64 (-1),(0:Int),(0:Int),(0:Int)])/\Below w w w':=by
 have Z0:=zH (Z2.new w ⟨1,0,0,0⟩);go_enter Tryz.func204,Tryz.ntmps204;go_wp2_with fail;refine (em ⟨1,0,0,0⟩ _).mono ?_;rintro e w1 ⟨rfl,b1⟩;rw [show mj ⟨1,0,0,0⟩=true by decide];have Z1:=zH (Z0.below b1);obtain ⟨p0,p1,p2,p3,_⟩:=Z1.out.1.cells;obtain ⟨r0,r1,r2,r3,f0,f1,f2,f3⟩:=Z1.out.2.cells;go_wp2_with fail;obtain ⟨c0,c1,c2,c3,_⟩:=(Z1.out.2.set ⟨-1,0,0,0⟩).cells;simp only [set4] at c0 c1 c2 c3;exact bodyPost_ret (v:=.agg #[.int .i64 (-1),(0:Int),(0:Int),(0:Int)]) (by simp [results,Tryz.results204,go_sem,c0,c1,c2,c3]) rfl ⟨rfl,(Z1.out.2.set ⟨-1,0,0,0⟩).2.1⟩
end Go.Proofs.YtmenmibfkojnoaaGreat
namespace Go.Proofs.YtmenmibfkojnoaaGreat
open Go.RowKit
set_option linter.unusedVariables false
theorem Mx (w:World):Calls Tryz.prog 171 #[.agg #[(1:Int),(0:Int),(0:Int),(0:Int),(1:Int)]] w fun e w'=>e=.returned (.agg #[.int .i64 (-1),(0:Int),(0:Int),(0:Int),(1:Int)])/\Below w w w':=by
 have h1:Below w w (w.alloc (.cells #[(1:Int),(0:Int),(0:Int),(0:Int),(1:Int)] 110)):=(zW).alloc zR _;have hb:=h1.alloc h1.size (.cells #[(0:Int),(0:Int),(0:Int),(0:Int),(0:Int)] 110);have X0:=zH (show DB w w.heap.size ⟨1,0,0,0⟩ 1 ((w.alloc (.cells #[(1:Int),(0:Int),(0:Int),(0:Int),(1:Int)] 110)).alloc (.cells #[(0:Int),(0:Int),(0:Int),(0:Int),(0:Int)] 110)) from ⟨(Bx.new w _ _).alloc _,hb,zR⟩);have R0:=zH (show DB w (w.heap.size+1) ⟨0,0,0,0⟩ 0 ((w.alloc (.cells #[(1:Int),(0:Int),(0:Int),(0:Int),(1:Int)] 110)).alloc (.cells #[(0:Int),(0:Int),(0:Int),(0:Int),(0:Int)] 110)) from ⟨Bx.new' zI,hb,zO⟩);clear h1 hb;go_enter Tryz.func171,Tryz.ntmps171;go_wp2_with fail;refine (gI ⟨1,0,0,0⟩ 1 _ zD).mono ?_;rintro e w1 ⟨rfl,b1⟩;have X1:=zH (X0.below b1);have R1:=zH (R0.below b1);clear b1 X0 R0;go_upto_region 3 with fail
 have XD:=zH (X1.below (w':=w1.drew) (zW).drew);have RD:=zH (R1.below (w':=w1.drew) (zW).drew);obtain ⟨p0,p1,p2,p3,p4,pl⟩:=XD.cells
 go_region_law (first
  |(go_simp;go_at_call 204;(with_reducible refine (Mw _).mono ?_);rintro e w2 ⟨rfl,b2⟩;have X2:=XD.out.below b2;have R2:=RD.out.below b2;have ⟨q0,q1,q2,q3,q4,ql⟩:=X2.cells;have ⟨r0,r1,r2,r3,r4,rl⟩:=R2.cells;have ⟨f0,f1,f2,f3,f4⟩:=R2.free)
  |fail)
 all_goals go_wp2_with fail
 all_goals
  obtain ⟨c0,c1,c2,c3,c4,_⟩:=(R2.set ⟨-1,0,0,0⟩ 1).cells;simp only [Ud] at c0 c1 c2 c3 c4;exact bodyPost_ret (v:=.agg #[.int .i64 (-1),(0:Int),(0:Int),(0:Int),(1:Int)]) (by simp [results,Tryz.results171,go_sem,c0,c1,c2,c3,c4]) rfl ⟨rfl,(R2.set ⟨-1,0,0,0⟩ 1).2.1⟩
theorem AG {p:Prop} (h:p:=by
  go_wp2_with fail;go_roundg (gk - 1)
  case measure=>omega
  case rel=>exact ⟨2,zO,zO,zO,by go_num,rfl⟩):p:=h
theorem vn {p:Prop} (h:p:=by
  go_wp2_with fail;go_ret;exact ⟨rfl,rfl⟩):p:=h
theorem H3 {p:Prop} (h:p:=by
  go_wp2_with fail;go_roundg (gk - 1)
  case measure=>omega
  case rel=>exact ⟨3,zO,zO,zO,by go_num,rfl⟩):p:=h
theorem xW (A:Option Addr) (n cap q:Nat) (w:World) (h1:1<=q) (h4:q<=4) (hn:n=2 ^ q):Calls Tryz.prog 135 #[.slice A n cap] w fun e w'=>e=.returned (.int .i64 q)/\w=w':=by
 obtain rfl | rfl | rfl | rfl:q=1\/q=2\/q=3\/q=4:=zO
 all_goals
  simp only [Nat.reducePow] at hn;subst hn;go_enter Tryz.func135,Tryz.ntmps135;go_wp2_with fail
 ·go_loopg [3] 4 (fun r v wr=>∃ i:Nat,1<=i/\i<=1/\i+r=5/\v=.int .i64 i/\w=wr)
  case atStart=>exact ⟨1,zO,zO,zO,rfl,rfl⟩
  case round =>
   obtain ⟨i,hi1,hi2,hir,rfl,rfl⟩:=hrel;obtain rfl:i=1:=zO;exact vn
 ·go_loopg [3] 4 (fun r v wr=>∃ i:Nat,1<=i/\i<=2/\i+r=5/\v=.int .i64 i/\w=wr)
  case atStart=>exact ⟨1,zO,zO,zO,rfl,rfl⟩
  case round =>
   obtain ⟨i,hi1,hi2,hir,rfl,rfl⟩:=hrel;obtain rfl | rfl:i=1\/i=2:=zO
   ·exact AG
   ·exact vn
 ·go_loopg [3] 4 (fun r v wr=>∃ i:Nat,1<=i/\i<=3/\i+r=5/\v=.int .i64 i/\w=wr)
  case atStart=>exact ⟨1,zO,zO,zO,rfl,rfl⟩
  case round =>
   obtain ⟨i,hi1,hi2,hir,rfl,rfl⟩:=hrel;obtain rfl | rfl | rfl:i=1\/i=2\/i=3:=zO
   ·exact AG
   ·exact H3
   ·exact vn
 ·go_loopg [3] 4 (fun r v wr=>∃ i:Nat,1<=i/\i<=4/\i+r=5/\v=.int .i64 i/\w=wr)
  case atStart=>exact ⟨1,zO,zO,zO,rfl,rfl⟩
  case round =>
   obtain ⟨i,hi1,hi2,hir,rfl,rfl⟩:=hrel;obtain rfl | rfl | rfl | rfl:i=1\/i=2\/i=3\/i=4:=zO
   ·exact AG
   ·exact H3
   ·go_wp2_with fail;go_roundg (gk - 1)
    case measure=>omega
    case rel=>exact ⟨4,zO,zO,zO,by go_num,rfl⟩
   ·exact vn
theorem ng {q:Nat} (h1:1<=q) (h4:q<=4):2 ^ q<=16/\2<=2 ^ q:=by
 obtain rfl | rfl | rfl | rfl:q=1\/q=2\/q=3\/q=4:=zO
 all_goals decide
theorem jW (A:Option Addr) (n cap q:Nat) (vs:List Dw) (w:World) (h:RdD w A n vs) (h1:1<=q) (h4:q<=4) (hn:n=2 ^ q) (hv:∀ x ∈ vs,lm x=true):Calls Tryz.prog 89 #[.slice A n cap] w fun e w'=>e=.returned (.bool true)/\Below w w w':=by
 have H:=zH h;have HN:=zH hn;have HV:=zH hv;have hn16:n<=16:=by rw [hn];exact (ng h1 h4).1
 clear h hn hv;go_enter Tryz.func89,Tryz.ntmps89;go_wp2_with fail;go_loopg [3] n (fun r v wr=>∃ k:Nat,k+r=n/\v=.int .i64 k/\Below w w wr)
 case atStart=>exact ⟨0,zO,rfl,zW⟩
 case round =>
  obtain ⟨k,hk,rfl,hb⟩:=hrel;by_cases hlt:k < n
  ·obtain ⟨b,off,x,rfl,hB,hd,c0,c1,c2,c3,c4⟩:=(H.below hb).at_ hlt;have HX:=zH (HV.out x (List.mem_of_mem_drop (i:=k) (by rw [hd];simp)));clear hd;have hi0:(0:Int)<=(k:Int):=zO;have hi1:(k:Int) < (n:Int):=zO;go_wp2_with fail;refine (gI x.n x.e _ HX).mono ?_;rintro e w1 ⟨rfl,b1⟩;have hb2:=hb.trans (b1.mono hb.size);clear c0 c1 c2 c3 c4 hb b1;go_wp2_with fail;go_roundg (gk - 1)
   case measure=>omega
   case rel=>exact ⟨k+1,zO,by go_num,hb2⟩
  ·go_wp2_with fail;refine (xW _ n _ q _ h1 h4 HN).mono ?_;rintro e w1 ⟨rfl,rfl⟩;go_wp2_with fail;go_ret;exact ⟨aw zJ,hb⟩
theorem My (A:Option Addr) (n cap:Nat) (vs:List Dw) (w:World) (h:RdD w A n vs) (hn:n<=1048576) :
  Calls Tryz.prog 90 #[.slice A n cap] w (jl 110 5 (bL vs) n w):=by
 have H:=zH h;clear h;go_enter Tryz.func90,Tryz.ntmps90
 go_wp2_with (at_builtin;refine ah rfl (.tmp 3) (.tmp 4) 64 rfl Tryz.underlying64 fC rfl zD rfl (World.ownsRow_lit w #[] 0 zR zM rfl) rfl (H.out.2.alloc _) Au zO zD zI ?_;intro A2 c2 w2 o2 g2)
 go_ret
 try rw [Nat.zero_add] at o2
 refine ⟨A2,c2,rfl,by simpa using o2,?_⟩;exact ag (a:=w) ((zW).alloc zR _) zI (World.ownsRow_lit w #[] 0 (size:=5) (e:=110) zR zM rfl) zR g2
end Go.Proofs.YtmenmibfkojnoaaGreat
namespace Go.Proofs.YtmenmibfkojnoaaGreat
open Go.RowKit
set_option linter.unusedVariables false
theorem Ux {w:World} {base:Nat} {e:TypeId} {g n c:Nat} {xs:List Value} (h:w.ownsRow base e 5 (.slice (some ⟨g,0,none⟩) n c) n xs) {k:Nat} (hk:k < n) :
  ((∃ v,w.cell? ⟨g,k * 5,none⟩=some v)/\(∃ v,w.cell? ⟨g,k * 5+1,none⟩=some v)/\(∃ v,w.cell? ⟨g,k * 5+2,none⟩=some v)/\(∃ v,w.cell? ⟨g,k * 5+3,none⟩=some v)/\(∃ v,w.cell? ⟨g,k * 5+4,none⟩=some v)) ∧
  w.frozen? ⟨g,k * 5,none⟩=false/\w.frozen? ⟨g,k * 5+1,none⟩=false/\w.frozen? ⟨g,k * 5+2,none⟩=false/\w.frozen? ⟨g,k * 5+3,none⟩=false/\w.frozen? ⟨g,k * 5+4,none⟩=false:=by
 have hl:=h.1;have f:∀ j,j < n * 5->∃ v,w.cell? ⟨g,j,none⟩=some v:=fun j hj=>⟨_,(h.cellAt j hj).trans (List.getElem?_eq_getElem zO)⟩
 exact ⟨⟨f _ zO,f _ zO,f _ zO,f _ zO,f _ zO⟩,h.frozenAt _,h.frozenAt _,h.frozenAt _,h.frozenAt _,h.frozenAt _⟩
abbrev Mz (w:World) (g o:Nat) (y:Dw):World:=((((w.setCell ⟨g,o,none⟩ (.int .i64 y.n.a)).setCell ⟨g,o+1,none⟩ (.int .i64 y.n.b)).setCell ⟨g,o+2,none⟩ (.int .i64 y.n.c)).setCell ⟨g,o+3,none⟩ (.int .i64 y.n.d)).setCell ⟨g,o+4,none⟩ (.int .i64 y.e)
theorem xX {w:World} {base:Nat} {g n c:Nat} {vs:List Dw} (h:w.ownsRow base 110 5 (.slice (some ⟨g,0,none⟩) n c) n (bL vs)) {k:Nat} (hk:k < vs.length) (y:Dw):(Mz w g (k * 5) y).ownsRow base 110 5 (.slice (some ⟨g,0,none⟩) n c) n (bL (vs.set k y)):=by
 have s1:=h.stored (k * 5) (.int .i64 y.n.a);have s2:=s1.1.stored (k * 5+1) (.int .i64 y.n.b);have s3:=s2.1.stored (k * 5+2) (.int .i64 y.n.c);have s4:=s3.1.stored (k * 5+3) (.int .i64 y.n.d);have s5:=s4.1.stored (k * 5+4) (.int .i64 y.e);rw [<- V7 hk y];exact s5.1
theorem rE {B:Nat} {a w:World} {g o:Nat} (h:Below B a w) (hg:B<=g) (y:Dw):Below B a (Mz w g o y):=((((h.setCell hg _).setCell hg _).setCell hg _).setCell hg _).setCell hg _
theorem Rb {q:Nat} (h1:1<=q) (h4:q<=4):(madeCells (Value.agg #[(0:Int),(0:Int),(0:Int),(0:Int),(0:Int)]).cells (2 ^ q * 5)).toList=bL (List.replicate (2 ^ q) Dw.zero):=by
 obtain rfl | rfl | rfl | rfl:q=1\/q=2\/q=3\/q=4:=zO
 all_goals kernel_rfl
theorem lH (w:World) {q n:Nat} (h1:1<=q) (h4:q<=4) (hn:n=2 ^ q):(w.alloc (.cells (madeCells (Value.agg #[(0:Int),(0:Int),(0:Int),(0:Int),(0:Int)]).cells (n * 5)) 110)).ownsRow w 110 5 (.slice (some ⟨w,0,none⟩) n n) n (bL (List.replicate n Dw.zero)):=by
 have h:=World.ownsRow_lit w (e:=110) (size:=5) (madeCells (Value.agg #[(0:Int),(0:Int),(0:Int),(0:Int),(0:Int)]).cells (n * 5)) n zR (by have:=(ng h1 h4).1;unfold maxLen;omega) (by rw [size_madeCells]);subst hn;rw [Rb h1 h4] at h;exact h
theorem vq {p:Prop} (h:p:=by
  go_enter Tryz.func53,Tryz.ntmps53;go_wp2_with fail;refine (el _ _ _ _).mono ?_;rintro e w1 ⟨rfl,rfl⟩;rw [I1.out];go_wp2_with fail;refine (el _ _ _ _).mono ?_;rintro e w1 ⟨rfl,rfl⟩;rw [I2.out];go_wp2_with fail;refine (Uw _).mono ?_;rintro e w2 ⟨rfl,b2⟩;have O2:=zH (ab O0 b2);have B2:=zH (aD b2);clear b2 O0;obtain ⟨⟨⟨x0,c0⟩,⟨x1,c1⟩,⟨x2,c2⟩,⟨x3,c3⟩,⟨x4,c4⟩⟩,f0,f1,f2,f3,f4⟩:=Ux O2.out hi;go_wp2_with fail;go_ret;rw [HB.out];exact ⟨_,_,rfl,xX O2.out (by simpa using hi) ⟨⟨1,0,0,0⟩,0⟩,rE B2.out zR ⟨⟨1,0,0,0⟩,0⟩⟩):p:=h
theorem ju (q i:Nat) (w:World) (h1:1<=q) (h4:q<=4) (hi:i < 2 ^ q):Calls Tryz.prog 53 #[q,i] w (jl 110 5 (bL (iS q i)) (2 ^ q) w):=by
 have hb:(iS q i)=(List.replicate (2 ^ q) Dw.zero).set i ⟨⟨1,0,0,0⟩,0⟩:=rfl;have HB:=zH hb;clear hb;obtain rfl | rfl | rfl | rfl:q=1\/q=2\/q=3\/q=4:=zO
 ·have hn:2 ^ 1=2:=zD;rw [hn] at hi HB ⊢;have O0:=zH (lH w h1 h4 hn.symm);have hmk:∀ w:World,(Instr.makeSlice 64 (.int .i64 2) (.int .i64 2)).run Tryz.prog w=.ok (.slice (some ⟨w,0,none⟩) 2 2) (w.alloc (.cells (madeCells (Value.agg #[(0:Int),(0:Int),(0:Int),(0:Int),(0:Int)]).cells (2 * 5)) 110)):=fun w=>iF (P:=Tryz.prog) Tryz.underlying64 fC 2 zO zO w
  have I1:=zH (show ee 1 1 4=true by decide);have I2:=zH (show ee (i:Int) 0 1=true from bG zO zO);clear hn;have hi0:(0:Int)<=(i:Int):=zO;have hi1:(i:Int) < 2:=zO;exact vq
 ·have hn:2 ^ 2=4:=zD;rw [hn] at hi HB ⊢;have O0:=zH (lH w h1 h4 hn.symm);have hmk:∀ w:World,(Instr.makeSlice 64 (.int .i64 4) (.int .i64 4)).run Tryz.prog w=.ok (.slice (some ⟨w,0,none⟩) 4 4) (w.alloc (.cells (madeCells (Value.agg #[(0:Int),(0:Int),(0:Int),(0:Int),(0:Int)]).cells (4 * 5)) 110)):=fun w=>iF (P:=Tryz.prog) Tryz.underlying64 fC 4 zO zO w
  have I1:=zH (show ee 2 1 4=true by decide);have I2:=zH (show ee (i:Int) 0 3=true from bG zO zO);clear hn;have hi0:(0:Int)<=(i:Int):=zO;have hi1:(i:Int) < 4:=zO;exact vq
 ·have hn:2 ^ 3=8:=zD;rw [hn] at hi HB ⊢;have O0:=zH (lH w h1 h4 hn.symm);have hmk:∀ w:World,(Instr.makeSlice 64 (.int .i64 8) (.int .i64 8)).run Tryz.prog w=.ok (.slice (some ⟨w,0,none⟩) 8 8) (w.alloc (.cells (madeCells (Value.agg #[(0:Int),(0:Int),(0:Int),(0:Int),(0:Int)]).cells (8 * 5)) 110)):=fun w=>iF (P:=Tryz.prog) Tryz.underlying64 fC 8 zO zO w
  have I1:=zH (show ee 3 1 4=true by decide);have I2:=zH (show ee (i:Int) 0 7=true from bG zO zO);clear hn;have hi0:(0:Int)<=(i:Int):=zO;have hi1:(i:Int) < 8:=zO;exact vq
 ·have hn:2 ^ 4=16:=zD;rw [hn] at hi HB ⊢;have O0:=zH (lH w h1 h4 hn.symm);have hmk:∀ w:World,(Instr.makeSlice 64 (.int .i64 16) (.int .i64 16)).run Tryz.prog w=.ok (.slice (some ⟨w,0,none⟩) 16 16) (w.alloc (.cells (madeCells (Value.agg #[(0:Int),(0:Int),(0:Int),(0:Int),(0:Int)]).cells (16 * 5)) 110)):=fun w=>iF (P:=Tryz.prog) Tryz.underlying64 fC 16 zO zO w
  have I1:=zH (show ee 4 1 4=true by decide);have I2:=zH (show ee (i:Int) 0 15=true from bG zO zO);clear hn;have hi0:(0:Int)<=(i:Int):=zO;have hi1:(i:Int) < 16:=zO;exact vq
end Go.Proofs.YtmenmibfkojnoaaGreat
