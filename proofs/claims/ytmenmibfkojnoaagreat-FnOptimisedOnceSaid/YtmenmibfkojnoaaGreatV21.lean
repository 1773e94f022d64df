/- Contract of termAt (impl). At most 2^39 terms. -/
import Derived.Test.YtmenmibfkojnoaaGreatV18
import Derived.Deep.RegionLaw
import Derived.Deep.CutRange
import Derived.Deep.CutBlock
set_option maxHeartbeats 16000000
namespace Go.Proofs.YtmenmibfkojnoaaGreat
open Go.RowKit
def RetAt (t:List (Int × Int)) (m N H:Int) (base gp:Nat) (sO:Value) (w:World) (e:Ending) (w':World):Prop :=
 ∃ A' c',e=.returned (.int .i64 (atT t m))/\Bx w' gp 88 #[.int .i64 N,.int .i64 H,.slice A' (withT t m).length c',sO]/\w'.ownsRow base 128 2 (.slice A' (withT t m).length c') (withT t m).length (cellsP (withT t m))/\w.grownBy w' (some gp)
theorem atL_hit {m:Int} {k:Nat} {p:Int × Int} {r:List (Int × Int)} (h:(p.1 == m)=true):atL m k (p :: r)=some k:=by rw [atL,if_pos h]
theorem atL_miss {m:Int} {k:Nat} {p:Int × Int} {r:List (Int × Int)} (h:(p.1 == m)=false):atL m k (p :: r)=atL m (k+1) r:=by rw [atL,h];rfl
theorem rd_n {W:World} {e:TypeId} {x y:Value} {g:Nat} (h:g=W.heap.size):Rd (W.alloc (.cells #[x,y] e)).drew 2 (some ⟨g,0,none⟩) 1 [x,y]:=by subst h;exact Rd.lit W e #[x,y] 1 2 rfl
theorem grown_of_below {w w':World} {r:Option Nat} (h:Below w.heap.size w w'):w.grownBy w' r:=⟨h.os,h.tape,h.output,h.size,fun k hk _=>h.block k hk⟩
theorem grown_set {w w':World} {g i:Nat} {u:Value} (h:w.grownBy w' (some g)):w.grownBy (w'.setCell ⟨g,i,none⟩ u) (some g) :=
 ⟨h.os,h.tape,h.output,by simpa [World.setCell] using h.size,fun k hk hne=>(Below.heap_setCell w' _ _ k (fun e=>hne (by rw [e]))).trans (h.block k hk hne)⟩
theorem rd_n2 (c:Array Value) (W:World) (e:TypeId) (m:Int):Rd ((W.alloc (.cells c e)).alloc (.cells #[.int .i64 m,.int .i64 0] e)).drew 2 (some ⟨W.heap.size+1,0,none⟩) 1 [.int .i64 m,.int .i64 0]:=by
 have:=rd_n (W:=W.alloc (.cells c e)) (e:=e) (x:=.int .i64 m) (y:=.int .i64 0) (g:=W.heap.size+1) (by simp)
 exact this
theorem term_end {t:List (Int × Int)} {m N H:Int} {base gp n cap q c5:Nat} {A A5:Option Addr} {sO:Value} {w wr w5:World} (h1:atL m 0 t=none) (hp:plL m 0 t=q) (ht:RdP wr A n t) (hx:Bx wr gp 88 #[.int .i64 N,.int .i64 H,.slice A n cap,sO]) (hb:Below w.heap.size w wr) (hbase:base<=w.heap.size) (z:Below wr.heap.size wr w5)
  (o:w5.ownsRow wr.heap.size 128 2 (.slice A5 (q+1+(n - q)) c5) (q+1+(n - q)) (cellsP (t.take q)++[.int .i64 m,.int .i64 0]++cellsP (t.drop q))) :
  RetAt t m N H base gp sO w (.returned (.int .i64 (q:Int))) (w5.setCell ⟨gp,2,none⟩ (.slice A5 (q+1+(n - q)) c5)):=by
 obtain ⟨e1,e2⟩:=withT_new h1
 rw [hp] at e1 e2
 have hl:(withT t m).length=q+1+(n - q):=by
  rw [e1]
  have:=ht.1
  have:=plL_ge m 0 t
  rw [hp] at this
  simp;omega
 have hs:=hb.size
 have hg:=hx.lt
 have o':=ins_own e1 o
 refine ⟨A5,c5,by rw [e2],by rw [hl];exact (hx.below z).s2 _,?_,grown_set (grown_of_below (below_trans hb z))⟩
 rw [hl]
 exact ownsRow_base (own_set o' (p:=⟨gp,2,none⟩) hg _) (by omega)
set_option maxRecDepth 100000 in
theorem i_termAt (gp base:Nat) (N H:Int) (A:Option Addr) (n cap:Nat) (t:List (Int × Int)) (sO:Value) (m:Int) (w:World) (hx:Bx w gp 88 #[.int .i64 N,.int .i64 H,.slice A n cap,sO]) (ho:w.ownsRow base 128 2 (.slice A n cap) n (cellsP t)) (hb:base<=w.heap.size) (hn:n<=549755813888) :
  Calls Tryz.prog 160 #[.pointer (some ⟨gp,0,none⟩),.int .i64 m] w (RetAt t m N H base gp sO w):=by
 have HX:=zH hx
 have HO:=zH ho
 have HT:=zH (RdP.own ho)
 have hnc:=ownsRow_cap ho
 have hgl:=hx.lt
 obtain ⟨p0,p1,p2,p3,f0,f1,f2,f3⟩:=hx.four
 obtain ⟨R,hR⟩:∃ R,atL m 0 t=R:=⟨_,rfl⟩
 have HR:=zH hR
 clear hx ho hR
 go_enter Tryz.func160,Tryz.ntmps160
 go_wp2_with fail
 go_loopg [13] n (fun r i wr=>∃ (k:Nat),k+r=n/\i=.int .i64 k/\atL m k (t.drop k)=R/\Below w.heap.size w wr)
 case atStart=>exact ⟨0,by omega,rfl,HR.out,zW⟩
 case round =>
  clear p0 p1 p2 p3 f0 f1 f2 f3
  obtain ⟨k,hk,rfl,hq,hbw⟩:=hrel
  have HQ:=zH hq
  have HB:=zH hbw
  have hbs:=hbw.size
  clear hq hbw
  by_cases hlt:k < n
  ·obtain ⟨bb,off,x,y,rfl,hBb,hd,c0,c1⟩:=(HT.out.below HB.out).at_ hlt
   have HD:=zH hd
   have hkI:(k:Int) < (n:Int):=by omega
   have hk0:(0:Int)<=(k:Int):=by omega
   clear hd
   by_cases hxm:x=m
   ·subst hxm
    go_wp2_with fail
    go_ret
    have e1:atL x 0 t=some k:=by rw [HR.out,<- HQ.out,HD.out,atL_hit (by simp)]
    obtain ⟨w1,w2⟩:=withT_has e1
    have hl:t.length=n:=HT.out.1
    have BL:Below w.heap.size w (wr.alloc (.cells #[.int .i64 x,.int .i64 y] 128)):=HB.out.alloc hbs _
    exact ⟨some ⟨bb,off,none⟩,cap,by rw [w2];rfl,by rw [w1,hl];exact HX.out.below BL,by rw [w1,hl];exact ownsRow_below HO.out BL,grown_of_below BL⟩
   ·have h1:(x == m)=false:=by simpa using hxm
    have H1:=zH h1
    go_wp2_with fail
    go_roundg (gk - 1)
    case measure=>omega
    case rel=>exact ⟨k+1,by omega,by go_num,by rw [<- HQ.out,HD.out,atL_miss H1.out],HB.out.alloc hbs _⟩
  ·have E1:Hid (atL m 0 t=none):=zH (by rw [HR.out,<- HQ.out,List.drop_eq_nil_of_le (by have:=HT.out.1;omega)];rfl)
   have hnlt:¬ ((k:Int) < (n:Int)):=by omega
   obtain ⟨pl,hpl⟩:∃ pl,plL m 0 t=pl:=⟨_,rfl⟩
   have HPL:=zH hpl
   have hplb:=plL_ge m 0 t
   rw [hpl,HT.out.1] at hplb
   have hpl2:pl<=n:=by omega
   clear hpl hplb HQ
   have XW:=zH (HX.out.below HB.out)
   have TW:=zH (HT.out.below HB.out)
   obtain ⟨p0,p1,p2,p3,f0,f1,f2,f3⟩:=XW.out.four
   obtain ⟨wz,rfl⟩:∃ wz,wr=wz:=⟨_,rfl⟩
   go_upto_block 2 with fail
   go_cut [7] from 24 to 44 (fun i wx=>i=.int .i64 pl/\wx=wr)
   case first =>
    go_wp2_with fail
    go_loopg [7] (n+1) (fun r i ws=>∃ (q:Nat),q+r=n+1/\q<=n/\i=.int .i64 q/\plL m q (t.drop q)=pl/\wr=ws)
    case atStart=>exact ⟨0,by omega,by omega,rfl,HPL.out,rfl⟩
    case round =>
     obtain ⟨q,hq,hqn,rfl,hp,rfl⟩:=hrel
     have HP:=zH hp
     clear hp
     by_cases hql:q < n
     ·obtain ⟨bb,off,x,y,rfl,hBb,hd,c0,c1⟩:=TW.out.at_ hql
      have HD:=zH hd
      have hqI:(q:Int) < (n:Int):=by omega
      have hq0:(0:Int)<=(q:Int):=by omega
      have hqd:decide ((q:Int) < (n:Int))=true:=by simpa using hqI
      clear hd
      by_cases hxm:x<=m
      ·have hxd:decide (x<=m)=true:=by simpa using hxm
       go_wp2_with fail
       go_roundg (gk - 1)
       case measure=>omega
       case rel=>exact ⟨q+1,by omega,by omega,by go_num,by rw [<- HP.out,HD.out,plL_go (p:=(x,y)) hxm],rfl⟩
      ·have hxd:decide (x<=m)=false:=by simpa using hxm
       have HPQ:Hid (q=pl):=zH (by rw [<- HP.out,HD.out,plL_stop (by show m < x;omega)])
       go_wp2_with fail
       go_meet
       case rel=>exact ⟨by rw [HPQ.out],rfl⟩
     ·have HPQ:Hid (q=pl):=zH (by rw [<- HP.out,List.drop_eq_nil_of_le (by have:=HT.out.1;omega)];rfl)
      have hqd:decide ((q:Int) < (n:Int))=false:=by simp;omega
      go_wp2_with fail
      go_meet
      case rel=>exact ⟨by rw [HPQ.out],rfl⟩
   case rest =>
    obtain ⟨rfl,hwc⟩:=hcut
    have hwc':=hwc.symm
    subst hwc'
    have HPQ:=HPL
    go_wp2_with fail
    have hsl1:=sl_hPo A n cap pl (by omega)
    obtain ⟨AC,hAC⟩:∃ AC,(if cap=pl then A else A.map (·.add (pl * 2)))=AC:=⟨_,rfl⟩
    have hsl2:=sl_lP A n cap pl (by omega)
    rw [hAC] at hsl2
    have RC:Hid (Rd wr 2 AC (n - pl) (cellsP (t.drop pl))):=zH (by rw [<- hAC];exact (TW.out.cut (k:=pl) (by omega) hnc).2)
    have RP:Hid (Rd wr 2 A pl (cellsP (t.take pl))):=zH (TW.out.pre (by omega)).2
    have hz2:(Value.agg #[.int .i64 0,.int .i64 0]).cells.size=2:=rfl
    clear hAC
    have hgw:gp < wr.heap.size:=XW.out.lt
    have hgw1:gp < wr.heap.size+1:=by omega
    go_region_law (first
     |(refine step_mk0 (by rfl) (.tmp 46) (.tmp 52) 85 (by rfl) Tryz.underlying85 infoPhaseTerm hz2 (base:=wr.heap.size) (news:=cellsP (t.take pl)) rfl ?_ ?_ rfl ?_ (by omega) (by decide) ?_;(first | with_reducible exact bx_n (by simp) | with_reducible exact Bx.new' (by simp) | with_reducible exact bx_o (Bx.new' (by simp)) | with_reducible exact Bx.alloc (Bx.new' (by simp)) _);(first | exact zR | exact Nat.le_succ _);(first | with_reducible exact Rd.drew (RP.out.alloc _) | with_reducible exact Rd.drew ((RP.out.alloc _).alloc _));intro A3 c3 w3 o3 b3;(first | (with_reducible have z3:=below_trans (keepA (Below.refl _ wr)) b3) | (with_reducible have z3:=below_trans (keepA (keepC (Below.refl _ wr))) b3));(first | (with_reducible have r56:=Rd.below (Rd.drew (Rd.alloc (Rd.lit wr 128 #[.int .i64 m,.int .i64 0] 1 2 rfl) _)) b3) | (with_reducible have r56:=Rd.below (rd_n2 _ wr 128 m) b3) | skip);have ⟨j0,j1,j2,j3,_,_,_,_⟩:=(XW.out.below z3).four;have hg3:=(XW.out.below z3).lt)
     |(refine step_app (by rfl) (.tmp 53) (.tmp 56) 85 (by rfl) Tryz.underlying85 infoPhaseTerm hz2 (by decide) (base:=wr.heap.size) (A:=A3) (n:=pl) (c:=c3) (xs:=cellsP (t.take pl)) (news:=[.int .i64 m,.int .i64 0]) (m:=1) rfl ?_ rfl ?_ (by simp [Value.oneCell']) (by omega) (by decide) ?_ ?_;(first | exact o3 | with_reducible exact World.ownsRow.alloc o3 _);(first | exact r56 | exact Rd.lit w3 128 #[.int .i64 m,.int .i64 0] 1 2 rfl);(first | exact z3.size | exact (keepC z3).size);intro A4 c4 w4 o4 g4;(first | (with_reducible have z4:=below_grown z3 z3.size o3 zR g4) | (with_reducible have z4:=below_grown (keepC z3) (keepC z3).size (World.ownsRow.alloc o3 _) zR g4));have ⟨i0,i1,i2,i3,_,_,_,_⟩:=(XW.out.below z4).four;have hg4:=(XW.out.below z4).lt)
     |(refine step_app (by rfl) (.tmp 57) (.tmp 63) 85 (by rfl) Tryz.underlying85 infoPhaseTerm hz2 (by decide) (base:=wr.heap.size) (A:=A4) (n:=pl+1) (c:=c4) (news:=cellsP (t.drop pl)) rfl o4 rfl (RC.out.below z4) one_cellsP (by omega) (by decide) z4.size ?_;intro A5 c5 w5 o5 g5;have z5:=below_grown z4 z4.size o4 zR g5;have ⟨h0,h1,h2,h3,f0',f1',f2',f3'⟩:=(XW.out.below z5).four)
     |fail)
    all_goals (go_wp2_with fail;go_ret;exact term_end E1.out HPQ.out TW.out XW.out HB.out hb z5 o5)
end Go.Proofs.YtmenmibfkojnoaaGreat
