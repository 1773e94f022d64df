/- Contract of TableauApplyGate (spec), for. -/
import Derived.Test.YtmenmibfkojnoaaGreatY20
import Derived.Test.YtmenmibfkojnoaaGreatY15
set_option maxHeartbeats 16000000
set_option maxRecDepth 100000
namespace Go.Proofs.YtmenmibfkojnoaaGreat
open Go.RowKit
set_option linter.unusedVariables false
theorem sk {p:Prop} (h:p:=by simpa using b5.size):p:=h
theorem fu (n m c:Nat) (A:Option Addr) (r:List Pq) (g:Gt) (w:World) (hn:1<=n/\n<=4) (hr:RdG w A m (dP n r)) (hc:m<=c) (hok:ed n r) (hg:bF n g=true) (hcl:bh g.k=true) :
  Calls Tryz.prog 111 #[.agg #[n,.slice A m c],.agg #[g.k,g.a,g.b,g.c]] w (rZ n m (di n g r) w):=by
 have hm:m=2 * n:=by rw [<- hr.1,ep,hok.1]
 obtain ⟨b,off,rfl⟩:=hr.first zO;have T0:=zH (show Bx (((w.alloc (.cells #[n,.slice (some ⟨b,off,none⟩) m c] 73)).alloc g).alloc ZO.zT) w.heap.size 73 _ from ((Bx.new w _ _).alloc _).alloc _);have G0:=zH (show Bx (((w.alloc (.cells #[n,.slice (some ⟨b,off,none⟩) m c] 73)).alloc g).alloc ZO.zT) (w.heap.size+1) 39 _ from (Bx.new' zI).alloc _);have R0:=zH (show Bx (((w.alloc (.cells #[n,.slice (some ⟨b,off,none⟩) m c] 73)).alloc g).alloc ZO.zT) (w.heap.size+1+1) 73 _ from Bx.new' zI);have B0:=zH (show Below w w (((w.alloc (.cells #[n,.slice (some ⟨b,off,none⟩) m c] 73)).alloc g).alloc ZO.zT) from (((zW).alloc zR _).alloc zI _).alloc zS _);have HW:=zH hr;have HR:=zH hok;have HL:=zH (show r.length=m by rw [hok.1,hm]);have HG:=zH hg;have HC:=zH hcl;have hm8:m<=8:=zO;clear hr hok hm hg hcl;have t0:=T0.cell 0;have t1:=T0.cell 1;go_enter Tryz.func111,Tryz.ntmps111;go_wp2_with fail
 refine (my n m c _ r _ hn (HW.below B0) HR).mono ?_;rintro e w1 ⟨rfl,b1⟩;have T1:=zH ((T0.below b1).alloc (.cells #[n,.slice none 0 0] 73));have G1:=zH ((G0.below b1).alloc (.cells #[n,.slice none 0 0] 73));have R1:=zH ((R0.below b1).alloc (.cells #[n,.slice none 0 0] 73));have hO:w.heap.size+1+1 < w1.heap.size:=(R0.below b1).lt;have M1:=zH (show MB w n w1.heap.size 0 none 0 [] (w1.alloc (.cells #[n,.slice none 0 0] 73)) from ⟨Bx.new _ _ _,World.ownsRow_nil _ _ _ _,(aa B0.out b1).alloc zO _,zO,zI⟩);have s0:=(T0.below b1).cell 0;have s1:=T1.cell 1;clear b1 t0 t1 T0 G0 R0 B0;obtain ⟨O,hO2⟩:∃ O,O=w1.heap.size:=⟨_,rfl⟩;go_wp2_with fail;rw [<- hO2] at M1 hO ⊢;clear hO2
 go_loopg [7] m (fun q i wr=>∃ (k:Nat) (A0:Option Addr) (c0:Nat),k+q=m/\i=.int .i64 k/\Bx wr w 73 #[n,.slice (some ⟨b,off,none⟩) m c]/\Bx wr (w.heap.size+1) 39 #[g.k,g.a,g.b,g.c]/\Bx wr (w.heap.size+1+1) 73 #[(0:Int),.slice none 0 0]/\MB w n O k A0 c0 (di n g (r.take k)) wr)
 case atStart=>exact ⟨0,none,0,zO,rfl,T1.out,G1.out,R1.out,M1.out⟩
 case round =>
  clear T1 G1 R1 M1 s0 s1;obtain ⟨k,A0,c0,hk,rfl,hT,hG,hRr,hM⟩:=hrel;by_cases hlt:k < m
  ·obtain ⟨a,ha⟩:=aV (l:=r) (k:=k) (by rw [HL.out];exact hlt);obtain ⟨hb,y0,y1,y2,y3⟩:=(HW.below hM.2.2.1).cellsAt (aE ha);have OK:=zH (io HR.out ha).1;have HS:=zH (show di n g (r.take (k+1))=di n g (r.take k)++[eP n g a] by rw [db ha];unfold di;simp);obtain ⟨d,hd⟩:∃ d,eP n g a=d:=⟨_,rfl⟩;rw [hd] at HS;have HD:=zH hd;have TD:=hT.drew;have GD:=hG.drew;have RD:=hRr.drew;have MD:=hM.drew;obtain ⟨g0,g1,g2,g3,_⟩:=hG.four;have tc0:=hT.cell 0;have tc1:=hT.cell 1;have HA:=zH ha;clear hd ha;simp only [pg] at y0 y1 y2 y3;have km:(k:Int) < (m:Int):=zO;go_wp2_with fail
   go_cut [8,9] (fun s8 s9 wx=>∃ P,s8=.pointer (some ⟨P,0,none⟩)/\s9=.bool true/\Bx wx P 151 #[n,d.x,d.z,d.p]/\Bx wx w 73 #[n,.slice (some ⟨b,off,none⟩) m c]/\Bx wx (w.heap.size+1) 39 #[g.k,g.a,g.b,g.c]/\Bx wx (w.heap.size+1+1) 73 #[(0:Int),.slice none 0 0]/\MB w n O k A0 c0 (di n g (r.take k)) wx)
   case first =>
    have TK:=fun (w5:World) (b5:Below wr wr w5)=>(⟨⟨(hT.below b5).cell 0,(hT.below b5).cell 1⟩,((HW.below (hM.below b5).2.2.1).cellsAt (aE HA.out)).2,(hG.below b5).four4⟩:(w5.cell? ⟨w,0,none⟩=some (.int .i64 ((n:Nat):Int))/\w5.cell? ⟨w,1,none⟩=some (.slice (some ⟨b,off,none⟩) m c))/\((w5.cell? ⟨b,off+k * 4,none⟩=some (.int .i64 ((n:Nat):Int))/\w5.cell? ⟨b,off+k * 4+1,none⟩=some (.int .i64 ((a.x:Nat):Int))/\w5.cell? ⟨b,off+k * 4+2,none⟩=some (.int .i64 ((a.z:Nat):Int))/\w5.cell? ⟨b,off+k * 4+3,none⟩=some (.int .i64 ((a.p:Nat):Int)))/\(w5.cell? ⟨w.heap.size+1,0,none⟩=some (.int .i64 g.k)/\w5.cell? ⟨w.heap.size+1,1,none⟩=some (.int .i64 g.a)/\w5.cell? ⟨w.heap.size+1,2,none⟩=some (.int .i64 g.b)/\w5.cell? ⟨w.heap.size+1,3,none⟩=some (.int .i64 g.c))))
    go_region_held3 (fun w'=>(w'.cell? ⟨w,0,none⟩=some (.int .i64 ((n:Nat):Int))/\w'.cell? ⟨w,1,none⟩=some (.slice (some ⟨b,off,none⟩) m c))/\((w'.cell? ⟨b,off+k * 4,none⟩=some (.int .i64 ((n:Nat):Int))/\w'.cell? ⟨b,off+k * 4+1,none⟩=some (.int .i64 ((a.x:Nat):Int))/\w'.cell? ⟨b,off+k * 4+2,none⟩=some (.int .i64 ((a.z:Nat):Int))/\w'.cell? ⟨b,off+k * 4+3,none⟩=some (.int .i64 ((a.p:Nat):Int)))/\(w'.cell? ⟨w.heap.size+1,0,none⟩=some (.int .i64 g.k)/\w'.cell? ⟨w.heap.size+1,1,none⟩=some (.int .i64 g.a)/\w'.cell? ⟨w.heap.size+1,2,none⟩=some (.int .i64 g.b)/\w'.cell? ⟨w.heap.size+1,3,none⟩=some (.int .i64 g.c))))
     (first
      |exact TK _ ((Below.refl wr wr).drew)
      |exact TK _ (((Below.refl wr wr).alloc zR _).drew)
      |exact TK _ (((Below.refl wr wr).drew).alloc zR _)
      |exact TK _ (aC b5)
      |exact TK _ (aa ((Below.refl wr wr).alloc zR _).drew b5)
      |exact TK _ (aa ((Below.refl wr wr).drew.alloc zR _) b5)
      |exact TK _ ((aC b5).alloc sk _)
      |exact TK _ (cI (aa ((Below.refl wr wr).alloc zR _).drew b5) zR _ _ _ _)
      |exact TK _ (cI (aa ((Below.refl wr wr).drew.alloc zR _) b5) zR _ _ _ _)
      |exact TK _ ((cI (aa ((Below.refl wr wr).alloc zR _).drew b5) zR _ _ _ _).drew)
      |exact TK _ ((cI (aa ((Below.refl wr wr).drew.alloc zR _) b5) zR _ _ _ _).drew)
      |exact TK _ ((aC b5).drew)
      |exact TK _ ((aa ((Below.refl wr wr).alloc zR _).drew b5).drew)
      |exact TK _ ((aa ((Below.refl wr wr).drew.alloc zR _) b5).drew)
      |go_keep)
     (first
      |(go_at_call 150;refine (Fo n a d g _ hn OK.out HG.out HC.out HD.out).mono ?_;rintro e w5 ⟨rfl,b5⟩;first | (have PB:Bx w5 wr 151 #[(0:Int),(0:Int),(0:Int),(0:Int)]:=(Bx.new wr 151 #[(0:Int),(0:Int),(0:Int),(0:Int)]).drew.below b5;obtain ⟨x0,x1,x2,x3,x4,x5,x6,x7⟩:=PB.four) | (have PB:Bx w5 wr 151 #[(0:Int),(0:Int),(0:Int),(0:Int)]:=(Bx.new wr.drew 151 #[(0:Int),(0:Int),(0:Int),(0:Int)]).below b5;obtain ⟨x0,x1,x2,x3,x4,x5,x6,x7⟩:=PB.four) | skip)
      |fail)
    all_goals go_wp2_with fail
    all_goals go_meet
    all_goals first
     |exact ⟨_,rfl,rfl,Bx.new _ _ _,hT.below ((aC b5).alloc sk _),hG.below ((aC b5).alloc sk _),hRr.below ((aC b5).alloc sk _),hM.below ((aC b5).alloc sk _)⟩
     |exact ⟨_,rfl,rfl,PB.set4 _ _ _ _,hT.below (cI (aa ((Below.refl wr wr).alloc zR _).drew b5) zR _ _ _ _),hG.below (cI (aa ((Below.refl wr wr).alloc zR _).drew b5) zR _ _ _ _),hRr.below (cI (aa ((Below.refl wr wr).alloc zR _).drew b5) zR _ _ _ _),hM.below (cI (aa ((Below.refl wr wr).alloc zR _).drew b5) zR _ _ _ _)⟩
     |exact ⟨_,rfl,rfl,PB.set4 _ _ _ _,hT.below (cI (aa ((Below.refl wr wr).drew.alloc zR _) b5) zR _ _ _ _),hG.below (cI (aa ((Below.refl wr wr).drew.alloc zR _) b5) zR _ _ _ _),hRr.below (cI (aa ((Below.refl wr wr).drew.alloc zR _) b5) zR _ _ _ _),hM.below (cI (aa ((Below.refl wr wr).drew.alloc zR _) b5) zR _ _ _ _)⟩
   case rest =>
    obtain ⟨P,rfl,rfl,hP,hT2,hG2,hR2,hM2⟩:=hcut;clear TD GD RD MD hT hG hRr hM g0 g1 g2 g3 tc0 tc1 y0 y1 y2 y3 hb;have T3:=zH (hT2.alloc (.cells #[n,d.x,d.z,d.p] 151));have G3:=zH (hG2.alloc (.cells #[n,d.x,d.z,d.p] 151));have R3:=zH (hR2.alloc (.cells #[n,d.x,d.z,d.p] 151));have M3:=zH (hM2.alloc (.cells #[n,d.x,d.z,d.p] 151));have OV:=zH M3.out.2.1;have m1:=hM2.1.cell 1;obtain ⟨x0,x1,x2,x3,_⟩:=hP.four;have hO5:O < wc.heap.size:=hM2.2.2.2.2;clear hP hT2 hG2 hR2 hM2
    go_wp2_with (at_builtin;refine ah rfl (.tmp 38) (.tmp 40) 71 rfl Tryz.underlying71 fc rfl zD rfl OV.out rfl (Rd.lit _ 151 #[n,d.x,d.z,d.p] 1 4 rfl) zV zO zD zS ?_;intro A5 c5 w5' o5 g5;have Y5:=(M3.grown g5).two;obtain ⟨e0,e1,e2,e3⟩:=Y5)
    go_roundg (gk - 1)
    all_goals first
     |omega
     |exact ⟨k+1,A5,c5,zO,by go_num,M3.keeps g5 T3.out zO,M3.keeps g5 G3.out zO,M3.keeps g5 R3.out zO,by rw [HS.out];exact M3.push g5 o5⟩
  ·obtain rfl:k=m:=zO;have tc1:=hT.cell 1;obtain ⟨e0,e1⟩:=hM.cells;obtain ⟨r0,r1,r2,r3⟩:=hRr.two;have hrs:r.take k=r:=List.take_of_length_le (by rw [HL.out];exact zR);rw [hrs] at hM;have MM:=zH hM;have RR:=zH hRr;clear hM hrs hRr;go_wp2_with fail;have RB:=RR.out
   with_reducible refine eD RB ?_ ?_ ⟨A0,c0,rfl,?_,?_⟩
   ·intro wS z0 z1;simp [results,Tryz.results111,go_sem,z0,z1]
   ·rfl
   ·exact ae (yz MM.out.2.1 zO _ _) zO
   ·exact ay MM.out.2.2.1 zO _ _
end Go.Proofs.YtmenmibfkojnoaaGreat
