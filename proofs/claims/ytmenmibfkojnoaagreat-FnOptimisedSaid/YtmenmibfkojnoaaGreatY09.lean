/- Contracts of l10Phase, l10Flip, l10Goes . -/
import Derived.Test.YtmenmibfkojnoaaGreatY08
set_option maxHeartbeats 16000000
set_option maxRecDepth 100000
namespace Go.Proofs.YtmenmibfkojnoaaGreat
open Go.RowKit
set_option linter.unusedVariables false
theorem MA:∀ i:Fin 16,∀ q:Fin 4,bits .xor .i64 ((i:Nat):Int) (wrap64 (2 ^ (q:Nat)))=((cU i q:Nat):Int):=by decide +kernel
theorem lI {i q:Nat} (hi:i < 16) (hq:q < 4):bits .xor .i64 (i:Int) (wrap64 (2 ^ q))=(cU i q:Nat):=MA ⟨i,hi⟩ ⟨q,hq⟩
theorem MC:∀ i:Fin 16,∀ q:Fin 4,(bits .and .i64 (((i:Nat):Int) / 2 ^ (q:Nat)) 1 == 1)=aZ i q:=by decide +kernel
theorem C0 {i q:Nat} (hi:i < 16) (hq:q < 4):(bits .and .i64 ((i:Int) / 2 ^ q) 1 == 1)=aZ i q:=MC ⟨i,hi⟩ ⟨q,hq⟩
theorem en (w:World) {base k:Nat} {e:TypeId} {size:Nat} (cs:Array Value) (n:Nat) {l:List Value} (hb:base<=w.heap.size) (hk:k=w.heap.size) (hn:n<=maxLen) (hs:cs.size=n * size) (hl:cs.toList=l):(w.alloc (.cells cs e)).ownsRow base e size (.slice (some ⟨k,0,none⟩) n n) n l:=by
 subst hk hl;exact World.ownsRow_lit w cs n hb hn hs
theorem ME:GF=⟨⟨1,0,0,0⟩,1⟩:=rfl
theorem H4:Um ⟨⟨1,0,0,0⟩,1⟩=⟨⟨-1,0,0,0⟩,1⟩:=zD
theorem MF:∀ q:Fin 4,IntKind.i64.wrap (2 ^ min (IntKind.u64.wrap ((q:Nat):Int)).toNat 64)=wrap64 (2 ^ (q:Nat)):=by decide +kernel
theorem C8 {q:Nat} (hq:q < 4):IntKind.i64.wrap (2 ^ min (IntKind.u64.wrap (q:Int)).toNat 64)=wrap64 (2 ^ q):=MF ⟨q,hq⟩
theorem MG:∀ i:Fin 16,∀ q:Fin 4,bits .andNot .i64 ((i:Nat):Int) (wrap64 (2 ^ (q:Nat)))=((if aZ i q then cU i q else i:Nat):Int)/\bits .or .i64 ((if aZ i q then cU i q else i:Nat):Int) (wrap64 (2 ^ (q:Nat)))=((if aZ i q then i else cU i q:Nat):Int):=by decide +kernel
theorem MH {i q:Nat} (hi:i < 16) (hq:q < 4):bits .andNot .i64 (i:Int) (wrap64 (2 ^ q))=((if aZ i q then cU i q else i:Nat):Int)/\bits .or .i64 ((if aZ i q then cU i q else i:Nat):Int) (wrap64 (2 ^ q))=((if aZ i q then i else cU i q:Nat):Int):=MG ⟨i,hi⟩ ⟨q,hq⟩
theorem xY:∀ i:Fin 16,∀ q:Fin 4,cU i q < 16:=by decide +kernel
theorem MJ {i q:Nat} (hi:i < 16) (hq:q < 4):cU i q < 16:=xY ⟨i,hi⟩ ⟨q,hq⟩
theorem H5 {p:Prop} (h:p:=by
  go_wp2_with fail;refine (jt 0 _ zO).mono ?_;rintro e w1 ⟨rfl,b1⟩;go_wp2_with fail;go_ret;exact ⟨_,_,rfl,World.ownsRow_lit w1 #[i,.int .i64 (cV 0).n.a,.int .i64 (cV 0).n.b,.int .i64 (cV 0).n.c,.int .i64 (cV 0).n.d,.int .i64 (cV 0).e] 1 b1.size zM rfl,b1.alloc b1.size _⟩):p:=h
theorem fD (i k:Nat) (t:Bool) (w:World) (hk:k < 8):Calls Tryz.prog 169 #[i,.bool t,k] w (jl 147 6 (lp (As i t k)) 1 w):=by
 cases t
 ·go_enter Tryz.func169,Tryz.ntmps169;exact H5
 ·go_enter Tryz.func169,Tryz.ntmps169;go_wp2_with fail;refine (jt k _ zO).mono ?_;rintro e w1 ⟨rfl,b1⟩;go_wp2_with fail;go_ret;exact ⟨_,_,rfl,World.ownsRow_lit w1 #[i,.int .i64 (cV k).n.a,.int .i64 (cV k).n.b,.int .i64 (cV k).n.c,.int .i64 (cV k).n.d,.int .i64 (cV k).e] 1 b1.size zM rfl,b1.alloc b1.size _⟩
theorem mp (i q:Nat) (t:Bool) (w:World) (hi:i < 16) (hq:q < 4):Calls Tryz.prog 168 #[i,q,.bool t] w (jl 147 6 (lp (Mf i q t)) 1 w):=by
 cases t
 ·go_enter Tryz.func168,Tryz.ntmps168;exact H5
 ·go_enter Tryz.func168,Tryz.ntmps168;go_wp2_with fail;rw [lI hi hq];refine (jt 0 _ zO).mono ?_;rintro e w1 ⟨rfl,b1⟩;go_wp2_with fail;go_ret;exact ⟨_,_,rfl,World.ownsRow_lit w1 #[.int .i64 (cU i q:Nat),.int .i64 (cV 0).n.a,.int .i64 (cV 0).n.b,.int .i64 (cV 0).n.c,.int .i64 (cV 0).n.d,.int .i64 (cV 0).e] 1 b1.size zM rfl,b1.alloc b1.size _⟩
theorem iT {p:Prop} (h:p:=by
  rintro e w1 ⟨A,c',rfl,o1,b1⟩;go_wp2_with fail;go_ret;rw [E1.out];exact ⟨A,c',rfl,ae o1 zI,hB.trans (b1.mono hB.size)⟩):p:=h
theorem H7 {p:Prop} (h:p:=by
  obtain rfl:z=true:=hz.symm;clear hz hz2;go_wp2_with fail;rw [lI hi hp,lI (MJ hi hp) hq];refine (jt 0 _ zO).mono ?_;rintro e w1 ⟨rfl,b1⟩;go_wp2_with fail;go_ret;rw [E1.out];exact ⟨_,_,rfl,World.ownsRow_lit w1 #[.int .i64 (cU (cU i p) q:Nat),.int .i64 (cV 0).n.a,.int .i64 (cV 0).n.b,.int .i64 (cV 0).n.c,.int .i64 (cV 0).n.d,.int .i64 (cV 0).e] 1 (aD b1).size zM rfl,(aD b1).alloc (aD b1).size _⟩):p:=h
theorem H8 {p:Prop} (h:p:=by
  obtain rfl:z=false:=hz.symm;clear hz hz2;go_wp2_with fail;refine (jt 0 _ zO).mono ?_;rintro e w1 ⟨rfl,b1⟩;go_wp2_with fail;go_ret;rw [E1.out];exact ⟨_,_,rfl,World.ownsRow_lit w1 #[i,.int .i64 (cV 0).n.a,.int .i64 (cV 0).n.b,.int .i64 (cV 0).n.c,.int .i64 (cV 0).n.d,.int .i64 (cV 0).e] 1 (aD b1).size zM rfl,(aD b1).alloc (aD b1).size _⟩):p:=h
theorem H9 {p:Prop} (h:p:=by
  obtain ⟨A,c',rfl,o1,bb⟩:=hcut;go_wp2_with fail;go_ret;rw [E1.out];exact ⟨A,c',rfl,o1,bb⟩):p:=h
theorem E9 (g:Gt) (p q r i:Nat) (w:World) (ha:g.a=p) (hb:g.b=q) (hc:g.c=r) (hp:p < 4) (hq:q < 4) (hr:r < 4) (hi:i < 16) (hk:1<=g.k/\g.k<=12):Calls Tryz.prog 136 #[.agg #[g.k,g.a,g.b,g.c],i] w (jl 147 6 (lp (bU g i)) (bU g i).length w):=by
 obtain ⟨k,a,b,c⟩:=g;simp only at ha hb hc hk;subst ha hb hc;go_enter Tryz.func136,Tryz.ntmps136;go_upto_region 3 with fail
 rw [C0 hi hp,C0 hi hq];obtain ⟨x,hx⟩:∃ x,aZ i p=x:=⟨_,rfl⟩;obtain ⟨y,hy⟩:∃ y,aZ i q=y:=⟨_,rfl⟩;rw [hx,hy];have HX:=zH hx;have HY:=zH hy;have X0:=zH (show Bx (w.alloc (.cells #[k,p,q,r] 39)) w 39 #[k,p,q,r] from Bx.new w _ _);have hB:Hid (Below w w (w.alloc (.cells #[k,p,q,r] 39))):=zH ((zW).alloc zR _);clear hx hy;obtain rfl | rfl | rfl | rfl | rfl | rfl | rfl | rfl | rfl | rfl | rfl | rfl:k=1\/k=2\/k=3\/k=4\/k=5\/k=6\/k=7\/k=8\/k=9\/k=10\/k=11\/k=12:=zO
 ·have e1:bU ⟨1,p,q,r⟩ i=Mf i p true:=by simp [bU]
  have E1:=zH e1;clear e1;go_wp2_with fail;refine (mp i p true _ hi hp).mono ?_;exact iT
 ·have e1:bU ⟨2,p,q,r⟩ i=[(cU i p,cV (if x then 6 else 2))]:=by simp [bU,HX.out]
  have E1:=zH e1;clear e1;cases x
  ·go_upto_region 10 with fail
   go_cut [4] (fun v wx=>∃ A c',v=.slice A 1 c'/\wx.ownsRow w 147 6 (.slice A 1 c') 1 (lp [(cU i p,cV 2)])/\Below w w wx)
   case first =>
    have XD:=X0.drew;have BD:=hB.drew;obtain ⟨p0,p1,p2,p3,_⟩:=XD.four
    go_region_held3 (fun w'=>w'.cell? ⟨w,1,none⟩=some (.int .i64 p)) (first | exact r1 | go_keep)
     (first
      |(go_at_call 95;refine (jt 2 _ zO).mono ?_;rintro e w1 ⟨rfl,b1⟩;have B1:=BD.trans (b1.mono (Below.size BD));have ⟨r0,r1,r2,r3,_⟩:=(XD.below b1).four)
      |fail)
    all_goals go_wp2_with fail
    all_goals go_meet
    all_goals rw [C8 hp,lI hi hp]
    all_goals exact ⟨_,_,rfl,World.ownsRow_lit w1 #[.int .i64 (cU i p:Nat),.int .i64 (cV 2).n.a,.int .i64 (cV 2).n.b,.int .i64 (cV 2).n.c,.int .i64 (cV 2).n.d,.int .i64 (cV 2).e] 1 (Below.size B1) zM rfl,B1.alloc (Below.size B1) _⟩
   case rest =>
    exact H9
  ·go_upto_region 10 with fail
   go_cut [4] (fun v wx=>∃ A c',v=.slice A 1 c'/\wx.ownsRow w 147 6 (.slice A 1 c') 1 (lp [(cU i p,cV 6)])/\Below w w wx)
   case first =>
    have XD:=X0.drew;have BD:=hB.drew;obtain ⟨p0,p1,p2,p3,_⟩:=XD.four
    go_region_held3 (fun w'=>w'.cell? ⟨w,1,none⟩=some (.int .i64 p)) (first | exact r1 | go_keep)
     (first
      |(go_at_call 95;refine (jt 6 _ zO).mono ?_;rintro e w1 ⟨rfl,b1⟩;have B1:=BD.trans (b1.mono (Below.size BD));have ⟨r0,r1,r2,r3,_⟩:=(XD.below b1).four)
      |fail)
    all_goals go_wp2_with fail
    all_goals go_meet
    all_goals rw [C8 hp,lI hi hp]
    all_goals exact ⟨_,_,rfl,World.ownsRow_lit w1 #[.int .i64 (cU i p:Nat),.int .i64 (cV 6).n.a,.int .i64 (cV 6).n.b,.int .i64 (cV 6).n.c,.int .i64 (cV 6).n.d,.int .i64 (cV 6).e] 1 (Below.size B1) zM rfl,B1.alloc (Below.size B1) _⟩
   case rest =>
    exact H9
 ·have e1:bU ⟨3,p,q,r⟩ i=As i x 4:=by simp [bU,HX.out]
  have E1:=zH e1;clear e1;go_wp2_with fail;refine (fD i 4 x _ zO).mono ?_;exact iT
 ·have LO:=zH (MH hi hp);rw [HX.out] at LO;cases x
  ·have E1:=zH (show bU ⟨4,p,q,r⟩ i=[(i,⟨⟨1,0,0,0⟩,1⟩),(cU i p,⟨⟨1,0,0,0⟩,1⟩)] by simp [bU,HX.out,GF]);have L1:=zH (show bits .andNot .i64 (i:Int) (wrap64 (2 ^ p))=((i:Nat):Int) from LO.out.1);have L2:=zH (show bits .or .i64 ((i:Nat):Int) (wrap64 (2 ^ p))=((cU i p:Nat):Int) from LO.out.2);clear LO;go_upto_region 32 with fail
   rw [L1.out];go_wp2_with fail;refine (PN _).mono ?_;rintro e w1 ⟨rfl,b1⟩;have G1:=zH (X0.below b1);have B1:=zH (hB.trans (b1.mono hB.size));clear b1;obtain ⟨p0,p1,p2,p3,_⟩:=G1.four;have gl:=G1.lt;go_wp2_with fail;rw [L2.out];go_ret;rw [E1.out];have B2:=B1.alloc B1.size (.cells #[(1:Int),(0:Int),(0:Int),(0:Int),(1:Int)] 110);have B3:=B2.alloc B2.size (.cells #[(1:Int),(0:Int),(0:Int),(0:Int),(1:Int)] 110);refine ⟨_,_,rfl,?_,B3.alloc B3.size _⟩;exact en _ #[i,(1:Int),(0:Int),(0:Int),(0:Int),(1:Int),.int .i64 (cU i p:Nat),(1:Int),(0:Int),(0:Int),(0:Int),(1:Int)] 2 B3.size zI zM rfl rfl
  ·have E1:=zH (show bU ⟨4,p,q,r⟩ i=[(cU i p,⟨⟨1,0,0,0⟩,1⟩),(i,⟨⟨-1,0,0,0⟩,1⟩)] by simp [bU,HX.out,H4,ME]);have L1:=zH (show bits .andNot .i64 (i:Int) (wrap64 (2 ^ p))=((cU i p:Nat):Int) from LO.out.1);have L2:=zH (show bits .or .i64 ((cU i p:Nat):Int) (wrap64 (2 ^ p))=((i:Nat):Int) from LO.out.2);clear LO;go_upto_region 32 with fail
   rw [L1.out];go_wp2_with fail;refine (PN _).mono ?_;rintro e w1 ⟨rfl,b1⟩;have G1:=zH (X0.below b1);have B1:=zH (hB.trans (b1.mono hB.size));clear b1;have O1:=zH (Bx.new w1 110 #[(1:Int),(0:Int),(0:Int),(0:Int),(1:Int)]);have O2:=zH (Bx.new (w1.alloc (.cells #[(1:Int),(0:Int),(0:Int),(0:Int),(1:Int)] 110)) 110 #[(1:Int),(0:Int),(0:Int),(0:Int),(1:Int)]);go_wp2_with fail;refine (Mx _).mono ?_;rintro e w2 ⟨rfl,b2⟩;have hs12:(w1.alloc (.cells #[(1:Int),(0:Int),(0:Int),(0:Int),(1:Int)] 110)).heap.size=w1.heap.size+1:=zI;have Q1:=zH ((O1.alloc (.cells #[(1:Int),(0:Int),(0:Int),(0:Int),(1:Int)] 110)).below b2);have Q2:=zH (show Bx w2 (w1.heap.size+1) 110 #[(1:Int),(0:Int),(0:Int),(0:Int),(1:Int)] from hs12 ▸ O2.below b2);have G2:=zH (((G1.alloc (.cells #[(1:Int),(0:Int),(0:Int),(0:Int),(1:Int)] 110)).alloc (.cells #[(1:Int),(0:Int),(0:Int),(0:Int),(1:Int)] 110)).below b2)
   have B2:=B1.alloc B1.size (.cells #[(1:Int),(0:Int),(0:Int),(0:Int),(1:Int)] 110);have B3:=B2.alloc B2.size (.cells #[(1:Int),(0:Int),(0:Int),(0:Int),(1:Int)] 110);have B4:=zH (B3.trans (b2.mono B3.size));have gl:=G1.lt;clear B2 B3 b2 hs12 O1 O2 G1;obtain ⟨p0,p1,p2,p3,_⟩:=G2.four;have a0:=Q1.cell 0;have a1:=Q1.cell 1;have a2:=Q1.cell 2;have a3:=Q1.cell 3;have a4:=Q1.cell 4;have d0:=Q2.cell 0;have d1:=Q2.cell 1;have d2:=Q2.cell 2;have d3:=Q2.cell 3;have d4:=Q2.cell 4;have f0:=Q2.free 0;have f1:=Q2.free 1;have f2:=Q2.free 2;have f3:=Q2.free 3;have f4:=Q2.free 4;simp only [List.getElem?_toArray,List.getElem?_cons_zero,List.getElem?_cons_succ] at a0 a1 a2 a3 a4 d0 d1 d2 d3 d4;have gq:w.heap.size<=w1.heap.size+1:=zO;go_wp2_with fail;rw [L2.out];go_ret;rw [E1.out];refine ⟨_,_,rfl,?_,?_⟩
   ·exact en _ #[.int .i64 (cU i p:Nat),(1:Int),(0:Int),(0:Int),(0:Int),(1:Int),i,.int .i64 (-1),(0:Int),(0:Int),(0:Int),(1:Int)] 2 (by simpa [World.setCell] using B4.size) (by simp [World.setCell]) zM rfl rfl
   ·have B5:=((((B4.setCell (p:=⟨w1.heap.size+1,0,none⟩) gq (.int .i64 (-1))).setCell (p:=⟨w1.heap.size+1,1,none⟩) gq (.int .i64 0)).setCell (p:=⟨w1.heap.size+1,2,none⟩) gq (.int .i64 0)).setCell (p:=⟨w1.heap.size+1,3,none⟩) gq (.int .i64 0)).setCell (p:=⟨w1.heap.size+1,4,none⟩) gq (.int .i64 1);exact B5.alloc (by simpa [World.setCell] using B4.size) _
 ·have e1:bU ⟨5,p,q,r⟩ i=As i x 2:=by simp [bU,HX.out]
  have E1:=zH e1;clear e1;go_wp2_with fail;refine (fD i 2 x _ zO).mono ?_;exact iT
 ·have e1:bU ⟨6,p,q,r⟩ i=As i x 6:=by simp [bU,HX.out]
  have E1:=zH e1;clear e1;go_wp2_with fail;refine (fD i 6 x _ zO).mono ?_;exact iT
 ·have e1:bU ⟨7,p,q,r⟩ i=As i x 1:=by simp [bU,HX.out]
  have E1:=zH e1;clear e1;go_wp2_with fail;refine (fD i 1 x _ zO).mono ?_;exact iT
 ·have e1:bU ⟨8,p,q,r⟩ i=As i x 7:=by simp [bU,HX.out]
  have E1:=zH e1;clear e1;go_wp2_with fail;refine (fD i 7 x _ zO).mono ?_;exact iT
 ·have e1:bU ⟨9,p,q,r⟩ i=Mf i q x:=by simp [bU,HX.out]
  have E1:=zH e1;clear e1;go_wp2_with fail;refine (mp i q x _ hi hq).mono ?_;exact iT
 ·have e1:bU ⟨10,p,q,r⟩ i=As i (x && y) 4:=by simp [bU,HX.out,HY.out]
  have E1:=zH e1;clear e1;cases x
  ·go_wp2_with fail;refine (fD i 4 false _ zO).mono ?_;exact iT
  ·go_wp2_with fail;refine (fD i 4 y _ zO).mono ?_;exact iT
 ·have e1:bU ⟨11,p,q,r⟩ i=[(if x != y then cU (cU i p) q else i,cV 0)]:=by simp [bU,HX.out,HY.out]
  have E1:=zH e1;clear e1;obtain ⟨z,hz⟩:∃ z,(x != y)=z:=⟨_,rfl⟩;rw [hz] at E1;have hz2:(x=y)=(z=false):=by subst hz;cases x<;>cases y<;>decide
  cases x<;>cases y
  ·exact H8
  ·exact H7
  ·exact H7
  ·exact H8
 ·have e1:bU ⟨12,p,q,r⟩ i=Mf i r (x && y):=by simp [bU,HX.out,HY.out]
  have E1:=zH e1;clear e1;cases x
  ·go_wp2_with fail;refine (mp i r false _ hi hr).mono ?_;exact iT
  ·go_wp2_with fail;refine (mp i r y _ hi hr).mono ?_;exact iT
end Go.Proofs.YtmenmibfkojnoaaGreat
