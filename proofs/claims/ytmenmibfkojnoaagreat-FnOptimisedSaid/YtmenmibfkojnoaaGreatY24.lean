/- Contract of termAt (impl). -/
import Derived.Test.YtmenmibfkojnoaaGreatY18
import Derived.Deep.CutRange
import Derived.Deep.CutBlock
set_option maxHeartbeats 16000000
set_option maxRecDepth 100000
namespace Go.Proofs.YtmenmibfkojnoaaGreat
open Go.RowKit
def P8 (t:List (Int × Int)) (m N H:Int) (base gp:Nat) (sO:Value) (w:World) (e:Ending) (w':World):Prop :=
 ∃ A' c',e=.returned (.int .i64 (ur t m))/\Bx w' gp 88 #[N,H,.slice A' (cQ t m).length c',sO]/\w'.ownsRow base 128 2 (.slice A' (cQ t m).length c') (cQ t m).length (aj (cQ t m))/\w.grownBy w' (some gp)
theorem Nt {m:Int} {k:Nat} {p:Int × Int} {r:List (Int × Int)} (h:(p.1 == m)=true):kw m k (p :: r)=some k:=by rw [kw,if_pos h]
theorem Jo {m:Int} {k:Nat} {p:Int × Int} {r:List (Int × Int)} (h:(p.1 == m)=false):kw m k (p :: r)=kw m (k+1) r:=by rw [kw,h];rfl
theorem Wo {W:World} {e:TypeId} {x y:Value} {g:Nat} (h:g=W.heap.size):Rd (W.alloc (.cells #[x,y] e)).drew 2 (some ⟨g,0,none⟩) 1 [x,y]:=by subst h;exact Rd.lit W e #[x,y] 1 2 rfl
theorem lO {w w':World} {r:Option Nat} (h:Below w w w'):w.grownBy w' r:=⟨h.os,h.tape,h.output,h.size,fun k hk _=>h.block k hk⟩
theorem Fv {w w':World} {g i:Nat} {u:Value} (h:w.grownBy w' (some g)):w.grownBy (w'.setCell ⟨g,i,none⟩ u) (some g) :=
 ⟨h.os,h.tape,h.output,by simpa [World.setCell] using h.size,fun k hk hne=>(Below.heap_setCell w' _ _ k (fun e=>hne (by rw [e]))).trans (h.block k hk hne)⟩
theorem UP (c:Array Value) (W:World) (e:TypeId) (m:Int):Rd ((W.alloc (.cells c e)).alloc (.cells #[m,(0:Int)] e)).drew 2 (some ⟨W.heap.size+1,0,none⟩) 1 [.int .i64 m,.int .i64 0]:=by
 have:=Wo (W:=W.alloc (.cells c e)) (e:=e) (x:=.int .i64 m) (y:=.int .i64 0) (g:=W.heap.size+1) zI;exact this
theorem Jp {t:List (Int × Int)} {m N H:Int} {base gp n cap q c5:Nat} {A A5:Option Addr} {sO:Value} {w wr w5:World} (h1:kw m 0 t=none) (hp:li m 0 t=q) (ht:RdP wr A n t) (hx:Bx wr gp 88 #[N,H,.slice A n cap,sO]) (hb:Below w w wr) (hbase:base<=w.heap.size) (z:Below wr wr w5)
  (o:w5.ownsRow wr 128 2 (.slice A5 (q+1+(n - q)) c5) (q+1+(n - q)) (aj (t.take q)++[.int .i64 m,.int .i64 0]++aj (t.drop q))) :
  P8 t m N H base gp sO w (.returned (.int .i64 (q:Int))) (w5.setCell ⟨gp,2,none⟩ (.slice A5 (q+1+(n - q)) c5)):=by
 obtain ⟨e1,e2⟩:=mv h1;rw [hp] at e1 e2;have hl:(cQ t m).length=q+1+(n - q):=by
  rw [e1];have:=ht.1;have:=ni m 0 t;rw [hp] at this;simp;omega
 have hs:=hb.size;have hg:=hx.lt;have o':=Ds e1 o;refine ⟨A5,c5,by rw [e2],by rw [hl];exact (hx.below z).s2 _,?_,Fv (lO (aa hb z))⟩;rw [hl];exact ae (fZ o' (p:=⟨gp,2,none⟩) hg _) zO
theorem yM (gp base:Nat) (N H:Int) (A:Option Addr) (n cap:Nat) (t:List (Int × Int)) (sO:Value) (m:Int) (w:World) (hx:Bx w gp 88 #[N,H,.slice A n cap,sO]) (ho:w.ownsRow base 128 2 (.slice A n cap) n (aj t)) (hb:base<=w.heap.size) (hn:n<=549755813888) :
  Calls Tryz.prog 160 #[.pointer (some ⟨gp,0,none⟩),m] w (P8 t m N H base gp sO w):=by
 have HX:=zH hx;have HO:=zH ho;have HT:=zH (RdP.own ho);have hnc:=ao ho;have hgl:=hx.lt;obtain ⟨p0,p1,p2,p3,f0,f1,f2,f3⟩:=hx.four;obtain ⟨R,hR⟩:∃ R,kw m 0 t=R:=⟨_,rfl⟩;have HR:=zH hR;clear hx ho hR;go_enter Tryz.func160,Tryz.ntmps160;go_wp2_with fail;go_loopg [13] n (fun r i wr=>∃ (k:Nat),k+r=n/\i=.int .i64 k/\kw m k (t.drop k)=R/\Below w w wr)
 case atStart=>exact ⟨0,zO,rfl,HR.out,zW⟩
 case round =>
  clear p0 p1 p2 p3 f0 f1 f2 f3;obtain ⟨k,hk,rfl,hq,hbw⟩:=hrel;have HQ:=zH hq;have HB:=zH hbw;have hbs:=hbw.size;clear hq hbw;by_cases hlt:k < n
  ·obtain ⟨bb,off,x,y,rfl,hBb,hd,c0,c1⟩:=(HT.below HB.out).at_ hlt;have HD:=zH hd;have hkI:(k:Int) < (n:Int):=zO;have hk0:(0:Int)<=(k:Int):=zO;clear hd;by_cases hxm:x=m
   ·subst hxm;go_wp2_with fail;go_ret;have e1:kw x 0 t=some k:=by rw [HR.out,<- HQ.out,HD.out,Nt zI]
    obtain ⟨w1,w2⟩:=mu e1;have hl:t.length=n:=HT.out.1;have BL:Below w w (wr.alloc (.cells #[x,y] 128)):=HB.alloc hbs _;exact ⟨some ⟨bb,off,none⟩,cap,by rw [w2];rfl,by rw [w1,hl];exact HX.below BL,by rw [w1,hl];exact ab HO.out BL,lO BL⟩
   ·have h1:(x == m)=false:=by simpa using hxm
    have H1:=zH h1;go_wp2_with fail;go_roundg (gk - 1)
    case measure=>omega
    case rel=>exact ⟨k+1,zO,by go_num,by rw [<- HQ.out,HD.out,Jo H1.out],HB.alloc hbs _⟩
  ·have E1:Hid (kw m 0 t=none):=zH (by rw [HR.out,<- HQ.out,List.drop_eq_nil_of_le (by have:=HT.out.1;omega)];rfl);have hnlt:¬ ((k:Int) < (n:Int)):=zO;obtain ⟨pl,hpl⟩:∃ pl,li m 0 t=pl:=⟨_,rfl⟩;have HPL:=zH hpl;have hplb:=ni m 0 t;rw [hpl,HT.out.1] at hplb;have hpl2:pl<=n:=zO;clear hpl hplb HQ;have XW:=zH (HX.below HB);have TW:=zH (HT.below HB);obtain ⟨p0,p1,p2,p3,f0,f1,f2,f3⟩:=XW.four;obtain ⟨wz,rfl⟩:∃ wz,wr=wz:=⟨_,rfl⟩;go_upto_block 2 with fail
   go_cut [7] from 24 to 44 (fun i wx=>i=.int .i64 pl/\wx=wr)
   case first =>
    go_wp2_with fail;go_loopg [7] (n+1) (fun r i ws=>∃ (q:Nat),q+r=n+1/\q<=n/\i=.int .i64 q/\li m q (t.drop q)=pl/\wr=ws)
    case atStart=>exact ⟨0,zO,zO,rfl,HPL.out,rfl⟩
    case round =>
     obtain ⟨q,hq,hqn,rfl,hp,rfl⟩:=hrel;have HP:=zH hp;clear hp;by_cases hql:q < n
     ·obtain ⟨bb,off,x,y,rfl,hBb,hd,c0,c1⟩:=TW.at_ hql;have HD:=zH hd;have hqI:(q:Int) < (n:Int):=zO;have hq0:(0:Int)<=(q:Int):=zO;have hqd:decide ((q:Int) < (n:Int))=true:=by simpa using hqI
      clear hd;by_cases hxm:x<=m
      ·have hxd:decide (x<=m)=true:=by simpa using hxm
       go_wp2_with fail;go_roundg (gk - 1)
       case measure=>omega
       case rel=>exact ⟨q+1,zO,zO,by go_num,by rw [<- HP.out,HD.out,Bf (p:=(x,y)) hxm],rfl⟩
      ·have hxd:decide (x<=m)=false:=by simpa using hxm
       have HPQ:Hid (q=pl):=zH (by rw [<- HP.out,HD.out,yD (by show m < x;omega)]);go_wp2_with fail;go_meet
       case rel=>exact ⟨by rw [HPQ.out],rfl⟩
     ·have HPQ:Hid (q=pl):=zH (by rw [<- HP.out,List.drop_eq_nil_of_le (by have:=HT.out.1;omega)];rfl);have hqd:decide ((q:Int) < (n:Int))=false:=zJ;go_wp2_with fail;go_meet
      case rel=>exact ⟨by rw [HPQ.out],rfl⟩
   case rest =>
    obtain ⟨rfl,hwc⟩:=hcut;have hwc':=hwc.symm;subst hwc';have HPQ:=HPL;go_wp2_with fail;have hsl1:=IS A n cap pl zO;obtain ⟨AC,hAC⟩:∃ AC,(if cap=pl then A else A.map (·.add (pl * 2)))=AC:=⟨_,rfl⟩;have hsl2:=PV A n cap pl zO;rw [hAC] at hsl2;have RC:Hid (Rd wr 2 AC (n - pl) (aj (t.drop pl))):=zH (by rw [<- hAC];exact (TW.cut (k:=pl) zO hnc).2);have RP:Hid (Rd wr 2 A pl (aj (t.take pl))):=zH (TW.pre zO).2;have hz2:(Value.agg #[(0:Int),(0:Int)]).cells.size=2:=rfl;clear hAC;have hgw:gp < wr.heap.size:=XW.lt;have hgw1:gp < wr.heap.size+1:=zO
    go_region_law (first
     |(refine eT zF (.tmp 46) (.tmp 52) 85 zF Tryz.underlying85 bN hz2 (base:=wr.heap.size) (news:=aj (t.take pl)) rfl ?_ ?_ rfl ?_ zO zD ?_;(first | with_reducible exact kA zI | with_reducible exact Bx.new' zI | with_reducible exact mH (Bx.new' zI) | with_reducible exact Bx.alloc (Bx.new' zI) _);(first | exact zR | exact Nat.le_succ _);(first | with_reducible exact Rd.drew (RP.out.alloc _) | with_reducible exact Rd.drew ((RP.out.alloc _).alloc _));intro A3 c3 w3 o3 b3;(first | (with_reducible have z3:=aa (eH (Below.refl _ wr)) b3) | (with_reducible have z3:=aa (eH (ce (Below.refl _ wr))) b3));(first | (with_reducible have r56:=Rd.below (Rd.drew (Rd.alloc (Rd.lit wr 128 #[m,(0:Int)] 1 2 rfl) _)) b3) | (with_reducible have r56:=Rd.below (UP _ wr 128 m) b3) | skip);have ⟨j0,j1,j2,j3,_,_,_,_⟩:=(XW.out.below z3).four;have hg3:=(XW.out.below z3).lt)
     |(refine bv zF (.tmp 53) (.tmp 56) 85 zF Tryz.underlying85 bN hz2 zD (base:=wr.heap.size) (A:=A3) (n:=pl) (c:=c3) (xs:=aj (t.take pl)) (news:=[.int .i64 m,.int .i64 0]) (m:=1) rfl ?_ rfl ?_ zV zO zD ?_ ?_;(first | exact o3 | with_reducible exact World.ownsRow.alloc o3 _);(first | exact r56 | exact Rd.lit w3 128 #[m,(0:Int)] 1 2 rfl);(first | exact z3.size | exact (ce z3).size);intro A4 c4 w4 o4 g4;(first | (with_reducible have z4:=ag z3 z3.size o3 zR g4) | (with_reducible have z4:=ag (ce z3) (ce z3).size (World.ownsRow.alloc o3 _) zR g4));have ⟨i0,i1,i2,i3,_,_,_,_⟩:=(XW.out.below z4).four;have hg4:=(XW.out.below z4).lt)
     |(refine bv zF (.tmp 57) (.tmp 63) 85 zF Tryz.underlying85 bN hz2 zD (base:=wr.heap.size) (A:=A4) (n:=pl+1) (c:=c4) (news:=aj (t.drop pl)) rfl o4 rfl (RC.below z4) rc zO zD z4.size ?_;intro A5 c5 w5 o5 g5;have z5:=ag z4 z4.size o4 zR g5;have ⟨h0,h1,h2,h3,f0',f1',f2',f3'⟩:=(XW.below z5).four)
     |fail)
    all_goals (go_wp2_with fail;go_ret;exact Jp E1.out HPQ.out TW.out XW.out HB.out hb z5 o5)
end Go.Proofs.YtmenmibfkojnoaaGreat
