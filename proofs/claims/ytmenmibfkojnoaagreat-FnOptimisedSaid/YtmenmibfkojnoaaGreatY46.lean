/- Contract of ShortenRun (spec), for gates. -/
import Derived.Test.YtmenmibfkojnoaaGreatY45
set_option maxHeartbeats 16000000
set_option maxRecDepth 100000
namespace Go.Proofs.YtmenmibfkojnoaaGreat
open Go.RowKit
set_option linter.unusedVariables false
def RunOn (q:Nat) (l:List Gt):Prop:=∀ g ∈ l,g=⟨g.k,(q:Nat),0,0⟩/\1<=g.k/\g.k<=8
def qz (l:List Gt):List Gt:=l.map fun g=>g1 g.k
theorem Ls (l:List Gt):(qz l).map Gt.k=l.map Gt.k:=by unfold qz;rw [List.map_map];rfl
theorem Es {q:Nat} {l:List Gt} (h:RunOn q l):∀ g ∈ qz l,g=g1 g.k/\1<=g.k/\g.k<=8:=by
 intro g hg;obtain ⟨g0,h0,rfl⟩:=List.mem_map.1 hg;exact ⟨rfl,(h g0 h0).2⟩
theorem uU {l:List Gt} {k:Nat} {g:Gt} (h:l[k]? = some g):qz (l.take (k+1))=qz (l.take k)++[g1 g.k]:=by
 rw [db h];unfold qz;rw [List.map_append];rfl
theorem OY {k:Int} {q:Nat} (hk:1<=k/\k<=8) (hq:q < 4):fJ k (q:Nat) 0 0 4=true:=by
 obtain rfl | rfl | rfl | rfl:q=0\/q=1\/q=2\/q=3:=zO
 all_goals obtain rfl | rfl | rfl | rfl | rfl | rfl | rfl | rfl:k=1\/k=2\/k=3\/k=4\/k=5\/k=6\/k=7\/k=8:=zO
 all_goals decide
theorem pC {k:Int} (hk:1<=k/\k<=8):aA k=1:=by unfold aA;rw [if_pos hk]
theorem nt:∀ (l:List Gt) (k:Nat) (g:Gt) (a:Int),l[k]? = some g->(af l).set (k * 4+1) (.int .i64 a)=af (l.set k (L8 a g))
 |[],k,g,a,h=>by simp at h
 |x :: r,0,g,a,h=>by
  simp only [List.getElem?_cons_zero,Option.some.injEq] at h;subst h;rfl
 |x :: r,k+1,g,a,h=>by
  have ih:=nt r k g a (by simpa using h);have e:∀ y:List Gt,af (x :: y)=x.cells++af y:=fun y=>rfl
  rw [List.set_cons_succ,e,e,<- ih,show (k+1) * 4+1=x.cells.length+(k * 4+1) by show _=4+_;omega];rw [List.set_append_right _ _ zO];congr 2;omega
def ld (a:Int) (l:List Gt) (k:Nat):List Gt:=(l.take k).map (L8 a)++l.drop k
theorem zE (a:Int) (l:List Gt) (k:Nat):(ld a l k).length=l.length:=by
 unfold ld;rw [List.length_append,List.length_map,List.length_take,List.length_drop];omega
theorem zL (a:Int) (l:List Gt):ld a l l.length=l.map (L8 a):=by unfold ld;simp
theorem uV {a:Int} {l:List Gt} {k:Nat} {g:Gt} (h:l[k]? = some g):(ld a l k)[k]? = some g/\(ld a l k).set k (L8 a g)=ld a l (k+1):=by
 obtain ⟨hk,e⟩:=List.getElem?_eq_some_iff.1 h;have hl:((l.take k).map (L8 a)).length=k:=by rw [List.length_map,List.length_take];omega
 have hd:l.drop k=g :: l.drop (k+1):=by rw [ax hk,e]
 unfold ld;constructor
 ·rw [List.getElem?_append_right zO,hl,Nat.sub_self,hd];rfl
 ·rw [List.set_append_right _ _ zO,hl,Nat.sub_self,hd,List.set_cons_zero,db h,List.map_append];simp
theorem xv:∀ (l:List Int) (s:Nf),(ut l s).1.length<=s.1.length+l.length
 |[],s=>zR
 |k :: r,s=>by
  have h1:=xv r (qO s k);have h2:=xq s k;rw [ut,List.length_cons];omega
theorem qg {l:List Gt} (h:bn l<=bn (eu l)):cH l=l:=if_pos h
theorem tv {l:List Gt} (h:¬ bn l<=bn (eu l)):cH l=(eu l).map (L8 (l.getD 0 (g1 0)).a):=if_neg h
theorem RunOn.head {q:Nat} {l:List Gt} (h:RunOn q l) (hl:0 < l.length):(l.getD 0 (g1 0)).a=(q:Nat):=by
 cases l with
 |nil=>simp at hl
 |cons g r=>rw [List.getD_cons_zero,(h g zI).1]
theorem zU (q m c:Nat) (A:Option Addr) (l:List Gt) (w:World) (hq:q < 4) (hr:RdG w A m l) (hm:m<=1073741824) (hl:RunOn q l) :
  Calls Tryz.prog 61 #[.slice A m c] w (jl 39 4 (af (cH l)) (cH l).length w):=by
 have hz4:(Value.agg #[(0:Int),(0:Int),(0:Int),(0:Int)]).cells.size=4:=rfl;have HW:=zH hr;have HL:=zH hl;have HN:=zH hr.1;clear hr hl;go_enter Tryz.func61,Tryz.ntmps61;go_upto_region 2 with (at_builtin;refine dN rfl (.tmp 11) (.tmp 12) 24 rfl Tryz.underlying24 ak hz4 (base:=w.heap.size) rfl (Bx.new' zI) zR rfl (HW.out.2.alloc _) zO zD ?_;intro A1 c1 w1 o1 b1)
 have O1:=zH o1;have B1:=zH ((show Below w w w1 from ((Below.refl w w).alloc zR (.cells #[] 39)).trans (b1.mono zI)));have Z1:=zH (World.ownsRow_lit (base:=w1.heap.size) (e:=39) (size:=4) w1 #[] 0 zR zM rfl);have l1:=B1.size;have BB1:=zH ((Below.refl w1 w1).alloc zR (.cells #[] 39));clear o1 b1;go_wp2_with fail;go_loopg [4,5] m (fun g v4 i wr=>∃ (k:Nat) (A3:Option Addr) (c3:Nat) (L:List Gt),k+g=m/\i=.int .i64 (k:Nat)/\v4=.slice A3 L.length c3/\qz (l.take k)=L/\L.length=k/\wr.ownsRow w1 39 4 (.slice A3 L.length c3) L.length (af L)/\Below w1 w1 wr)
 case atStart=>exact ⟨0,_,0,[],zO,rfl,rfl,rfl,rfl,Z1.out,BB1.out⟩
 case round =>
  clear Z1 BB1;obtain ⟨k,A3,c3,L,hk,rfl,rfl,hLL,hLk,hO,hB⟩:=hrel;have HLL:=zH hLL;have HLk:=zH hLk;have hLm:L.length<=m:=zO;have O3:=zH hO;have B3:=zH hB;have l3:=hB.size;have BW:=zH (B1.trans (hB.mono l1));clear hLL hO hB hLk;by_cases hlt:k < m
  ·obtain ⟨g,hgk⟩:=aV (l:=l) (k:=k) (by rw [HN.out];exact hlt);obtain ⟨g0,hg0⟩:=aV (l:=l) (k:=0) (by rw [HN.out];omega);obtain ⟨hg1,hg2⟩:=HL.out g (List.mem_of_getElem? hgk);obtain ⟨hz1,_⟩:=HL.out g0 (List.mem_of_getElem? hg0);obtain ⟨kk,rfl⟩:∃ kk,g=⟨kk,(q:Nat),0,0⟩:=⟨_,hg1⟩;have HG2:=zH hg2;have HSN:=zH (show qz (l.take (k+1))=L++[g1 kk] by rw [uU hgk,HLL.out]);have harity:=pC hg2;obtain ⟨b,off,rfl,hbl,hc⟩:=(HW.out.2.below BW.out).2 zO;have hfl:=rf l k _ _ (show l.drop k=⟨kk,(q:Nat),0,0⟩ :: l.drop (k+1) by
    obtain ⟨hk',e⟩:=List.getElem?_eq_some_iff.1 hgk;rw [ax hk',e])
   have hf0:=rf l 0 g0 _ (by
    obtain ⟨hk',e⟩:=List.getElem?_eq_some_iff.1 hg0;rw [ax hk',e])
   have y0:=hc _ _ hfl.1;have y1:=hc _ _ hfl.2.1;have y2:=hc _ _ hfl.2.2.1;have y3:=hc _ _ hfl.2.2.2;have z1:=hc _ _ hf0.2.1;rw [Nat.zero_mul,Nat.zero_add,hz1] at z1;have kn:(k:Int) < (m:Int):=zO;have k0:(0:Int)<=(k:Int):=zO;have mn:(0:Int) < (m:Int):=zO;clear hgk hg0 hg1 hg2 hz1 hc hfl hf0;simp only [<- Nat.add_assoc] at y1 y2 y3;go_upto_region 7 with fail
   have GA:=zH (Bx.new wr 39 #[kk,q,(0:Int),(0:Int)]);have OA:=zH (O3.alloc (.cells #[kk,q,(0:Int),(0:Int)] 39));have BA:=zH (B3.alloc l3 (.cells #[kk,q,(0:Int),(0:Int)] 39));have za:=(((Below.refl wr wr).alloc zR (.cells #[kk,q,(0:Int),(0:Int)] 39)).cell (p:=⟨b,off+1,none⟩) hbl).trans z1;have hbl2:b < (wr.alloc (.cells #[kk,q,(0:Int),(0:Int)] 39)).heap.size:=zJ;obtain ⟨w2,hw2⟩:∃ x,wr.alloc (.cells #[kk,q,(0:Int),(0:Int)] 39)=x:=⟨_,rfl⟩;rw [hw2] at GA OA BA za hbl2 ⊢;clear hw2 O3 B3 BW y0 y1 y2 y3 z1
   go_cut [42] from 15 to 49 (fun v wx=>v=.bool false/\Below w2 w2 wx)
   case first =>
    have TK:=fun (w5:World) (b5:Below w2 w2 w5)=>(⟨(GA.below b5).cell 0,(GA.below b5).cell 1,(GA.below b5).cell 2,(GA.below b5).cell 3,(b5.cell (p:=⟨b,off+1,none⟩) hbl2).trans za⟩:w5.cell? ⟨wr,0,none⟩=some (.int .i64 kk)/\w5.cell? ⟨wr,1,none⟩=some (.int .i64 (q:Nat))/\w5.cell? ⟨wr,2,none⟩=some (.int .i64 0)/\w5.cell? ⟨wr,3,none⟩=some (.int .i64 0)/\w5.cell? ⟨b,off+1,none⟩=some (.int .i64 (q:Nat)))
    have hok:=OY HG2.out hq;have hqq:(((q:Nat):Int) != ((q:Nat):Int))=false:=zI;obtain ⟨p0,p1,p2,p3,p4⟩:=TK _ (Below.refl w2 w2).drew
    go_region_with (first
     |(go_at_call 60;refine (bX _ _).mono ?_;rintro e w5 ⟨rfl,rfl⟩;rw [harity])
     |(go_at_call 25;refine (aY _ _ _ _ _ _).mono ?_;rintro e w5 ⟨rfl,b50⟩;rw [hok];have b5:Below w2 w2 w5:=(by first | with_reducible exact aa (Below.refl w2 w2).drew b50 | with_reducible exact b50);obtain ⟨r0,r1,r2,r3,r4⟩:=TK _ b5)
     |fail)
    all_goals go_wp2_with fail
    all_goals go_meet
    all_goals first
     |exact ⟨rfl,by with_reducible exact b5⟩
     |exact ⟨rfl,by with_reducible exact b5.drew⟩
   case rest =>
    obtain ⟨rfl,hB5⟩:=hcut;have G5:=zH (GA.below hB5);have O5:=zH (ab OA hB5);have B5:=zH (BA.trans (hB5.mono BA.size));have l5:=B5.size;clear hB5 GA OA BA za hbl2;obtain ⟨g0',g1',g2',g3',_⟩:=G5.four;obtain ⟨w5,rfl⟩:∃ w5,w5=wc:=⟨_,rfl⟩;go_wp2_with fail;refine (eG _ _ _).mono ?_;rintro e w6 ⟨rfl,b6⟩;have O6:=zH ((ab O5 b6).alloc (.cells #[kk,(0:Int),(0:Int),(0:Int)] 39));have B6:=zH ((B5.trans (b6.mono l5)).alloc (Nat.le_trans l5 b6.size) (.cells #[kk,(0:Int),(0:Int),(0:Int)] 39));have l6:=B6.size;clear b6 O5 B5 G5 g0' g1' g2' g3'
    go_wp2_with (at_builtin;refine ah rfl (.tmp 44) (.tmp 48) 24 rfl Tryz.underlying24 ak hz4 zD rfl O6.out rfl (Rd.lit w6 39 #[kk,(0:Int),(0:Int),(0:Int)] 1 4 rfl) zV zO zD l6 ?_;intro A7 c7 w7 o7 g7;have B7:=zH (ag B6.out l6 O6.out zR g7);have O7:=zH o7;clear o7 g7)
    go_roundg (gk - 1)
    case measure=>omega
    case rel =>
     refine ⟨k+1,A7,c7,L++[g1 kk],zO,by go_num,zI,HSN.out,by simp [HLk.out],?_,B7.out⟩;have:=O7.out;simp only [List.length_append,List.length_cons,List.length_nil,av] at this ⊢;exact this
  ·obtain rfl:k=m:=zO;have HZ:=zH (show qz l=L by rw [<- HLL.out,List.take_of_length_le (by rw [HN.out];exact zR)]);by_cases h2:k < 2
   ·have HE:=zH (I8 (l:=l) (by rw [HN.out];exact h2) fun g hg=>(HL.out g hg).2);have k2:(k:Int) < 2:=zO;clear h2;go_wp2_with fail;go_ret;rw [HE.out];exact ⟨A1,c1,by rw [HN.out];rfl,by rw [HN.out];exact ab O1.out B3.out,BW.out⟩
   ·have k2:¬ (k:Int) < 2:=zO;have OKZ:=zH (show ∀ g ∈ L,g=g1 g.k/\1<=g.k/\g.k<=8 by rw [<- HZ.out];exact Es HL.out);obtain ⟨S,hS⟩:∃ S,ut (L.map Gt.k) ([],ch 1)=S:=⟨_,rfl⟩;have hSL:S.1.length<=k:=by
     have:=xv (L.map Gt.k) ([],ch 1);rw [hS] at this;simpa [HLk.out] using this
    have HSO:=zH (show ef S.1/\ed 1 S.2 by
     rw [<- hS];refine vN _ _ (fun k hk=>?_) iJ gR;obtain ⟨g,hg,rfl⟩:=List.mem_map.1 hk;exact (OKZ g hg).2)
    have HSS:=zH hS;have HW0:=zH (show eu l=qP S by unfold eu;rw [<- hS,<- HZ.out,Ls]);clear hS h2;go_wp2_with fail;refine (Lm L.length c3 A3 L _ (RdG.own O3.out) (by have:=HLk.out;omega) OKZ.out).mono ?_;rw [HSS.out];rintro e w4 ⟨A4,c4,D4,d4,rfl,o4,p4,b4⟩;have O4:=zH (o4.alloc (.cells #[.slice A4 S.1.length c4,(1:Int),.slice D4 2 d4] 100));have P4:=zH (p4.alloc (.cells #[.slice A4 S.1.length c4,(1:Int),.slice D4 2 d4] 100));have X4:=zH (Bx.new w4 100 #[.slice A4 S.1.length c4,(1:Int),.slice D4 2 d4]);have B4:=zH ((B3.trans (b4.mono l3)).alloc (Nat.le_trans l3 b4.size) (.cells #[.slice A4 S.1.length c4,(1:Int),.slice D4 2 d4] 100));clear o4 p4 b4 O3;obtain ⟨x0,x1,x2,_⟩:=X4.three;go_wp2_with fail;refine (F9 S.1.length c4 d4 A4 D4 S _ (RdI.own O4) zO (RdG.own P4) (ao P4) HSO.out.1 HSO.out.2).mono ?_;obtain ⟨W,hW⟩:∃ W,qP S=W:=⟨_,rfl⟩
    have hWL:W.length<=3 * k+4:=by
     have h1:=oJ S.1;have h2:=(tr HSO.out.2).1;rw [<- hW,xu,List.length_append];omega
    rw [hW] at HW0 ⊢;clear hW;rintro e w5 ⟨A5,c5,rfl,o5,b5⟩;have O5:=zH o5;have B5:=zH (B4.trans (b5.mono B4.size));have l45:=B4.size;clear o5 b5 O4 P4 X4 x0 x1 x2;go_wp2_with fail;refine (uS A5 W.length c5 W _ (RdG.own O5) zO).mono ?_;rintro e w6 ⟨rfl,b6⟩;have O6:=zH (ab O5 b6);have B6:=zH (B5.trans (b6.mono B5.size));clear b6 O5 B5 B4;go_wp2_with fail;refine (uS A k c l _ (HW.below (B1.trans (B6.mono l1))) zO).mono ?_;rintro e w7 ⟨rfl,b7⟩;have O7:=zH (ae (ab O6 b7) l45);have B7:=zH (B6.trans (b7.mono B6.size));clear b7 O6 B6 l45;by_cases hge:bn l<=bn W
    ·have hgeI:((bn l:Nat):Int)<=((bn W:Nat):Int):=zO;have HE:=zH (qg (l:=l) (by rw [HW0.out];exact hge));clear hge;go_wp2_with fail;go_ret;rw [HE.out];exact ⟨A1,c1,by rw [HN.out];rfl,by rw [HN.out];exact ab O1.out B7.out,B1.trans (B7.mono l1)⟩
    ·have hgeI:¬ ((bn l:Nat):Int)<=((bn W:Nat):Int):=zO;have hgeb:decide (((bn l:Nat):Int)<=((bn W:Nat):Int))=false:=decide_eq_false hgeI;have hgeN:decide (bn l<=bn W)=false:=decide_eq_false hge;have HE:=zH (show cH l=W.map (L8 (q:Nat)) by rw [tv (by rw [HW0.out];exact hge),HW0.out,HL.head (by rw [HN.out];omega)]);have O70:=zH (show w7.ownsRow w1 39 4 (.slice A5 W.length c5) W.length (af (ld (q:Nat) W 0)) from O7.out);clear hge O7;go_wp2_with fail;go_loopg [10] W.length (fun g i wr=>∃ (j:Nat),j+g=W.length/\i=.int .i64 (j:Nat)/\wr.ownsRow w1 39 4 (.slice A5 W.length c5) W.length (af (ld (q:Nat) W j))/\Below w1 w1 wr)
     case atStart=>exact ⟨0,zO,rfl,O70.out,B7.out⟩
     case round =>
      clear O70 B7;obtain ⟨j,hj,rfl,hO,hB⟩:=hrel;have O8:=zH hO;have B8:=zH hB;clear hO hB;by_cases hjl:j < W.length
      ·obtain ⟨g,hgj⟩:=aV (l:=W) (k:=j) hjl;obtain ⟨g0,hg0⟩:=aV (l:=l) (k:=0) (by rw [HN.out];omega);have hz1:=(HL.out g0 (List.mem_of_getElem? hg0)).1;obtain ⟨b,off,rfl,hbl,hc⟩:=(HW.out.2.below (B1.trans (B8.mono l1))).2 zO;have hf0:=rf l 0 g0 _ (by
        obtain ⟨hk',e⟩:=List.getElem?_eq_some_iff.1 hg0;rw [ax hk',e])
       have z1:=hc _ _ hf0.2.1;rw [Nat.zero_mul,Nat.zero_add,hz1] at z1;obtain ⟨hs1,hs2⟩:=uV (a:=(q:Nat)) hgj;have HS2:=zH (show (af (ld (q:Nat) W j)).set (j * 4+1) (.int .i64 (q:Nat))=af (ld (q:Nat) W (j+1)) by rw [nt _ _ _ _ hs1,hs2]);obtain ⟨gb,hA5,hgb⟩:∃ gb,A5=some ⟨gb,0,none⟩/\w1.heap.size<=gb:=by
        rcases O8.out.2 with ⟨h0,h1⟩ | ⟨g',cap,cur,hv,hge',_⟩
        ·omega
        ·injection hv with hv _ _;exact ⟨g',hv,hge'⟩
       subst hA5;have hlen:(af (ld (q:Nat) W j)).length=W.length * 4:=by rw [fq,zE]
       obtain ⟨v0,hv0⟩:∃ v,wr.cell? ⟨gb,j * 4+1,none⟩=some v:=⟨_,(O8.cellAt (j * 4+1) zO).trans (List.getElem?_eq_getElem zO)⟩;have hz0:=O8.frozenAt (j * 4+1);have jn:(j:Int) < (W.length:Int):=zO;have j0:(0:Int)<=(j:Int):=zO;have mn:(0:Int) < (k:Int):=zO;clear hgj hg0 hz1 hc hf0 hs1 hs2 hlen;go_wp2_with fail;go_roundg (gk - 1)
       case measure=>omega
       case rel =>
        have s1:=O8.stored (j * 4+1) (.int .i64 (q:Nat));rw [HS2.out] at s1;exact ⟨j+1,zO,by go_num,s1.1,B8.setCell (p:=⟨gb,j * 4+1,none⟩) hgb _⟩
      ·obtain rfl:j=W.length:=zO;go_wp2_with fail;go_ret;rw [HE.out];refine ⟨A5,c5,by rw [List.length_map];rfl,?_,B1.trans (B8.mono l1)⟩;have:=O8.out;rw [zL] at this;rw [List.length_map];exact ae this l1
end Go.Proofs.YtmenmibfkojnoaaGreat
