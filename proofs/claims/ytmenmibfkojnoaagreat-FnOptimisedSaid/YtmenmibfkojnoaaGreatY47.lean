/- Contract of ShortenRun (impl), for gates. -/
import Derived.Test.YtmenmibfkojnoaaGreatY46
set_option maxHeartbeats 16000000
set_option maxRecDepth 100000
namespace Go.Proofs.YtmenmibfkojnoaaGreat
open Go.RowKit
set_option linter.unusedVariables false
theorem Lt (q m c:Nat) (A:Option Addr) (l:List Gt) (w:World) (hq:q < 4) (hr:RdG w A m l) (hm:m<=1073741824) (hl:RunOn q l) :
  Calls Tryz.prog 47 #[.slice A m c] w (jl 39 4 (af (cH l)) (cH l).length w):=by
 have hz4:(Value.agg #[(0:Int),(0:Int),(0:Int),(0:Int)]).cells.size=4:=rfl;have HW:=zH hr;have HL:=zH hl;have HN:=zH hr.1;clear hr hl;go_enter Tryz.func47,Tryz.ntmps47;go_wp2_with fail;refine (dB A m c l _ HW zO).mono ?_;rintro e w1 ⟨A1,c1,rfl,o1,b1⟩;have O1:=zH o1;have B1:=zH b1;have Z1:=zH (World.ownsRow_lit (base:=w1.heap.size) (e:=39) (size:=4) w1 #[] 0 zR zM rfl);have l1:=B1.size;have BB1:=zH ((Below.refl w1 w1).alloc zR (.cells #[] 39));clear o1 b1;go_wp2_with fail;go_loopg [4,16] m (fun g v4 i wr=>∃ (k:Nat) (A3:Option Addr) (c3:Nat) (L:List Gt),k+g=m/\i=.int .i64 (k:Nat)/\v4=.slice A3 L.length c3/\qz (l.take k)=L/\L.length=k/\wr.ownsRow w1 39 4 (.slice A3 L.length c3) L.length (af L)/\Below w1 w1 wr)
 case atStart=>exact ⟨0,_,0,[],zO,rfl,rfl,rfl,rfl,Z1.out,BB1.out⟩
 case round =>
  clear Z1 BB1;obtain ⟨k,A3,c3,L,hk,rfl,rfl,hLL,hLk,hO,hB⟩:=hrel;have HLL:=zH hLL;have HLk:=zH hLk;have hLm:L.length<=m:=zO;have O3:=zH hO;have B3:=zH hB;have l3:=hB.size;have BW:=zH (B1.trans (hB.mono l1));clear hLL hO hB hLk;by_cases hlt:k < m
  ·obtain ⟨g,hgk⟩:=aV (l:=l) (k:=k) (by rw [HN.out];exact hlt);obtain ⟨g0,hg0⟩:=aV (l:=l) (k:=0) (by rw [HN.out];omega);obtain ⟨hg1,hg2⟩:=HL.out g (List.mem_of_getElem? hgk);obtain ⟨hz1,_⟩:=HL.out g0 (List.mem_of_getElem? hg0);obtain ⟨kk,rfl⟩:∃ kk,g=⟨kk,(q:Nat),0,0⟩:=⟨_,hg1⟩;have HG2:=zH hg2;have HSN:=zH (show qz (l.take (k+1))=L++[g1 kk] by rw [uU hgk,HLL.out]);have harity:=pC hg2;obtain ⟨b,off,rfl,hbl,hc⟩:=(HW.out.2.below BW.out).2 zO;have hfl:=rf l k _ _ (show l.drop k=⟨kk,(q:Nat),0,0⟩ :: l.drop (k+1) by
    obtain ⟨hk',e⟩:=List.getElem?_eq_some_iff.1 hgk;rw [ax hk',e])
   have hf0:=rf l 0 g0 _ (by
    obtain ⟨hk',e⟩:=List.getElem?_eq_some_iff.1 hg0;rw [ax hk',e])
   have y0:=hc _ _ hfl.1;have y1:=hc _ _ hfl.2.1;have y2:=hc _ _ hfl.2.2.1;have y3:=hc _ _ hfl.2.2.2;have z1:=hc _ _ hf0.2.1;rw [Nat.zero_mul,Nat.zero_add,hz1] at z1;have kn:(k:Int) < (m:Int):=zO;have k0:(0:Int)<=(k:Int):=zO;have mn:(0:Int) < (m:Int):=zO;clear hgk hg0 hg1 hg2 hz1 hc hfl hf0;simp only [<- Nat.add_assoc] at y1 y2 y3;go_upto_region 6 with fail
   have GA:=zH (Bx.new wr 39 #[kk,q,(0:Int),(0:Int)]);have OA:=zH (O3.alloc (.cells #[kk,q,(0:Int),(0:Int)] 39));have BA:=zH (B3.alloc l3 (.cells #[kk,q,(0:Int),(0:Int)] 39));have za:=(((Below.refl wr wr).alloc zR (.cells #[kk,q,(0:Int),(0:Int)] 39)).cell (p:=⟨b,off+1,none⟩) hbl).trans z1;have hbl2:b < (wr.alloc (.cells #[kk,q,(0:Int),(0:Int)] 39)).heap.size:=zJ;obtain ⟨w2,hw2⟩:∃ x,wr.alloc (.cells #[kk,q,(0:Int),(0:Int)] 39)=x:=⟨_,rfl⟩;rw [hw2] at GA OA BA za hbl2 ⊢;clear hw2 O3 B3 BW y0 y1 y2 y3 z1
   go_cut [16,48] from 16 to 56 (fun i v wx=>i=.int .i64 (k:Nat)/\v=.bool false/\Below w2 w2 wx)
   case first =>
    have TK:=fun (w5:World) (b5:Below w2 w2 w5)=>(⟨(GA.below b5).cell 0,(GA.below b5).cell 1,(GA.below b5).cell 2,(GA.below b5).cell 3,(b5.cell (p:=⟨b,off+1,none⟩) hbl2).trans za⟩:w5.cell? ⟨wr,0,none⟩=some (.int .i64 kk)/\w5.cell? ⟨wr,1,none⟩=some (.int .i64 (q:Nat))/\w5.cell? ⟨wr,2,none⟩=some (.int .i64 0)/\w5.cell? ⟨wr,3,none⟩=some (.int .i64 0)/\w5.cell? ⟨b,off+1,none⟩=some (.int .i64 (q:Nat)))
    have hin:ee ((q:Nat):Int) 0 3=true:=bG zO zO;have b5:=(Below.refl w2 w2);have hqq:(((q:Nat):Int) != ((q:Nat):Int))=false:=zI;obtain ⟨p0,p1,p2,p3,p4⟩:=TK _ (Below.refl w2 w2).drew
    go_region_with (first
     |(go_at_call 44;refine (bO _ _).mono ?_;rintro e w5 ⟨rfl,rfl⟩;rw [harity])
     |(go_at_call 70;refine (eK _ _ _ _).mono ?_;rintro e w5 ⟨rfl,rfl⟩;rw [hin])
     |fail)
    all_goals go_wp2_with fail
    all_goals go_meet
    all_goals first
     |exact ⟨rfl,rfl,by with_reducible exact b5⟩
     |exact ⟨rfl,rfl,by with_reducible exact b5.drew⟩
   case rest =>
    obtain ⟨rfl,rfl,hB5⟩:=hcut;have G5:=zH (GA.below hB5);have O5:=zH (ab OA hB5);have B5:=zH (BA.trans (hB5.mono BA.size));have l5:=B5.size;clear hB5 GA OA BA za hbl2;obtain ⟨g0',g1',g2',g3',_⟩:=G5.four;obtain ⟨w5,rfl⟩:∃ w5,w5=wc:=⟨_,rfl⟩;go_wp2_with fail;refine (jo _ _ _).mono ?_;rintro e w6 ⟨rfl,b6⟩;have O6:=zH ((ab O5 b6).alloc (.cells #[kk,(0:Int),(0:Int),(0:Int)] 39));have B6:=zH ((B5.trans (b6.mono l5)).alloc (Nat.le_trans l5 b6.size) (.cells #[kk,(0:Int),(0:Int),(0:Int)] 39));have l6:=B6.size;clear b6 O5 B5 G5 g0' g1' g2' g3'
    go_wp2_with (at_builtin;refine ah rfl (.tmp 50) (.tmp 54) 24 rfl Tryz.underlying24 ak hz4 zD rfl O6.out rfl (Rd.lit w6 39 #[kk,(0:Int),(0:Int),(0:Int)] 1 4 rfl) zV zO zD l6 ?_;intro A7 c7 w7 o7 g7;have B7:=zH (ag B6.out l6 O6.out zR g7);have O7:=zH o7;clear o7 g7)
    go_roundg (gk - 1)
    case measure=>omega
    case rel =>
     refine ⟨k+1,A7,c7,L++[g1 kk],zO,by go_num,zI,HSN.out,by simp [HLk.out],?_,B7.out⟩;have:=O7.out;simp only [List.length_append,List.length_cons,List.length_nil,av] at this ⊢;exact this
  ·obtain rfl:k=m:=zO;have HZ:=zH (show qz l=L by rw [<- HLL.out,List.take_of_length_le (by rw [HN.out];exact zR)]);have OKZ:=zH (show ∀ g ∈ L,g=g1 g.k/\1<=g.k/\g.k<=8 by rw [<- HZ.out];exact Es HL.out);obtain ⟨S,hS⟩:∃ S,ut (L.map Gt.k) ([],ch 1)=S:=⟨_,rfl⟩;have hSL:S.1.length<=k:=by
    have:=xv (L.map Gt.k) ([],ch 1);rw [hS] at this;simpa [HLk.out] using this
   have HSO:=zH (show ef S.1/\ed 1 S.2 by
    rw [<- hS];refine vN _ _ (fun k hk=>?_) iJ gR;obtain ⟨g,hg,rfl⟩:=List.mem_map.1 hk;exact (OKZ g hg).2)
   have HSS:=zH hS;have HW0:=zH (show eu l=qP S by unfold eu;rw [<- hS,<- HZ.out,Ls]);clear hS;go_wp2_with fail;refine (Ll L.length c3 A3 L _ (RdG.own O3.out) (by have:=HLk.out;omega) OKZ.out).mono ?_;rw [HSS.out];rintro e w4 ⟨A4,c4,D4,d4,rfl,o4,p4,b4⟩;have O4:=zH (o4.alloc (.cells #[.slice A4 S.1.length c4,(1:Int),.slice D4 2 d4] 100));have P4:=zH (p4.alloc (.cells #[.slice A4 S.1.length c4,(1:Int),.slice D4 2 d4] 100));have X4:=zH (Bx.new w4 100 #[.slice A4 S.1.length c4,(1:Int),.slice D4 2 d4]);have B4:=zH ((B3.trans (b4.mono l3)).alloc (Nat.le_trans l3 b4.size) (.cells #[.slice A4 S.1.length c4,(1:Int),.slice D4 2 d4] 100));clear o4 p4 b4 O3;obtain ⟨x0,x1,x2,_⟩:=X4.three;go_wp2_with fail;refine (Ga S.1.length c4 d4 A4 D4 S _ (RdI.own O4) zO (RdG.own P4) (ao P4) HSO.out.1 HSO.out.2).mono ?_;obtain ⟨W,hW⟩:∃ W,qP S=W:=⟨_,rfl⟩
   have hWL:W.length<=3 * k+4:=by
    have h1:=oJ S.1;have h2:=(tr HSO.out.2).1;rw [<- hW,xu,List.length_append];omega
   rw [hW] at HW0 ⊢;clear hW;rintro e w5 ⟨A5,c5,rfl,o5,b5⟩;have O5:=zH o5;have B5:=zH (B4.trans (b5.mono B4.size));have l45:=B4.size;clear o5 b5 O4 P4 X4 x0 x1 x2;go_wp2_with fail;refine (uT A5 W.length c5 W _ (RdG.own O5) zO).mono ?_;rintro e w6 ⟨rfl,b6⟩;have O6:=zH (ab O5 b6);have B6:=zH (B5.trans (b6.mono B5.size));clear b6 O5 B5 B4;go_wp2_with fail;refine (uT A k c l _ (HW.below (B1.trans (B6.mono l1))) zO).mono ?_;rintro e w7 ⟨rfl,b7⟩;have O7:=zH (ae (ab O6 b7) l45);have B7:=zH (B6.trans (b7.mono B6.size));clear b7 O6 B6 l45;by_cases hge:bn l<=bn W
   ·have hgeI:((bn l:Nat):Int)<=((bn W:Nat):Int):=zO;have HE:=zH (qg (l:=l) (by rw [HW0.out];exact hge));clear hge;go_wp2_with fail;go_ret;rw [HE.out];exact ⟨A1,c1,by rw [HN.out];rfl,by rw [HN.out];exact ab O1.out B7.out,B1.trans (B7.mono l1)⟩
   ·have hgeI:¬ ((bn l:Nat):Int)<=((bn W:Nat):Int):=zO;have hgeb:decide (((bn l:Nat):Int)<=((bn W:Nat):Int))=false:=decide_eq_false hgeI;have hgeN:decide (bn l<=bn W)=false:=decide_eq_false hge;have HE:=zH (show cH l=W.map (L8 (q:Nat)) by rw [tv (by rw [HW0.out];exact hge),HW0.out,HL.head (by have:=mf l;omega)]);have O70:=zH (show w7.ownsRow w1 39 4 (.slice A5 W.length c5) W.length (af (ld (q:Nat) W 0)) from O7.out);have hk0:0 < k:=by have:=(mf l).2;rw [HN.out] at this;omega
    clear hge O7;go_wp2_with fail;go_loopg [75] W.length (fun g i wr=>∃ (j:Nat),j+g=W.length/\i=.int .i64 (j:Nat)/\wr.ownsRow w1 39 4 (.slice A5 W.length c5) W.length (af (ld (q:Nat) W j))/\Below w1 w1 wr)
    case atStart=>exact ⟨0,zO,rfl,O70.out,B7.out⟩
    case round =>
     clear O70 B7;obtain ⟨j,hj,rfl,hO,hB⟩:=hrel;have O8:=zH hO;have B8:=zH hB;clear hO hB;by_cases hjl:j < W.length
     ·obtain ⟨g,hgj⟩:=aV (l:=W) (k:=j) hjl;obtain ⟨g0,hg0⟩:=aV (l:=l) (k:=0) (by rw [HN.out];omega);have hz1:=(HL.out g0 (List.mem_of_getElem? hg0)).1;obtain ⟨b,off,rfl,hbl,hc⟩:=(HW.out.2.below (B1.trans (B8.mono l1))).2 zO;have hf0:=rf l 0 g0 _ (by
       obtain ⟨hk',e⟩:=List.getElem?_eq_some_iff.1 hg0;rw [ax hk',e])
      have z1:=hc _ _ hf0.2.1;rw [Nat.zero_mul,Nat.zero_add,hz1] at z1;obtain ⟨hs1,hs2⟩:=uV (a:=(q:Nat)) hgj;have HS2:=zH (show (af (ld (q:Nat) W j)).set (j * 4+1) (.int .i64 (q:Nat))=af (ld (q:Nat) W (j+1)) by rw [nt _ _ _ _ hs1,hs2]);obtain ⟨gb,hA5,hgb⟩:∃ gb,A5=some ⟨gb,0,none⟩/\w1.heap.size<=gb:=by
       rcases O8.out.2 with ⟨h0,h1⟩ | ⟨g',cap,cur,hv,hge',_⟩
       ·omega
       ·injection hv with hv _ _;exact ⟨g',hv,hge'⟩
      subst hA5;have hlen:(af (ld (q:Nat) W j)).length=W.length * 4:=by rw [fq,zE]
      obtain ⟨v0,hv0⟩:∃ v,wr.cell? ⟨gb,j * 4+1,none⟩=some v:=⟨_,(O8.cellAt (j * 4+1) zO).trans (List.getElem?_eq_getElem zO)⟩;have hz0:=O8.frozenAt (j * 4+1);have jn:(j:Int) < (W.length:Int):=zO;have j0:(0:Int)<=(j:Int):=zO;have mn:(0:Int) < (k:Int):=zO;clear hgj hg0 hz1 hc hf0 hs1 hs2 hlen;go_wp2_with fail;go_roundg (gk - 1)
      case measure=>omega
      case rel =>
       have s1:=O8.stored (j * 4+1) (.int .i64 (q:Nat));rw [HS2.out] at s1;exact ⟨j+1,zO,by go_num,s1.1,B8.setCell (p:=⟨gb,j * 4+1,none⟩) hgb _⟩
     ·obtain rfl:j=W.length:=zO;go_wp2_with fail;go_ret;rw [HE.out];refine ⟨A5,c5,by rw [List.length_map];rfl,?_,B1.trans (B8.mono l1)⟩;have:=O8.out;rw [zL] at this;rw [List.length_map];exact ae this l1
section
variable {P:Program} {w:World}
theorem Lu (base:Nat) (t ty e:TypeId) {z:Value} {size bytes:Nat} (ht:P.underlying t=some (.slice e)) (hinfo:(P.info? e).map (fun i=>(i.zero,i.size,i.bytes))=some (some z,size,bytes))
  (hzs:z.cells.size=size) (hsz:0 < size) (A:Option Addr) (n c:Nat) (xs:List Value) (hown:w.ownsRow base e size (.slice A n c) n xs)
  (A':Option Addr) (m c':Nat) (news:List Value) (hr:Rd w size A' m news) (h1:∀ u ∈ news,u.oneCell'=true)
  (hbytes:(n+m) * bytes<=140737488355328) (hby:0 < bytes) (hbase:base<=w.heap.size) :
  ∃ A'' c'' w',(Builtin.append_ #[t,t] ty #[.slice A n c,.slice A' m c']).run P w=.ok (.slice A'' (n+m) c'') w'/\w'.ownsRow base e size (.slice A'' (n+m) c'') (n+m) (xs++news)/\w.grownBy w' (Value.slice A n c).ownBlock/\((Value.slice A'' (n+m) c'').ownBlock=(Value.slice A n c).ownBlock\/(Value.slice A'' (n+m) c'').ownBlock=some w.heap.size):=by
 obtain ⟨i,hi,hz,hs,hb⟩:=info_parts hinfo;have h63:n+m<=maxLen:=by
  have h:=Nat.le_trans (Nat.le_mul_of_pos_right (n+m) hby) hbytes;simp only [maxLen];omega
 have key:∃ v' w',(Builtin.append_ #[t,t] ty #[.slice A n c,.slice A' m c']).run P w=.ok v' w'/\w'.ownsRow base e size v' (n+m) (xs++news)/\w.grownBy w' (Value.slice A n c).ownBlock/\(v'.ownBlock=(Value.slice A n c).ownBlock\/v'.ownBlock=some w.heap.size):=by
  rcases A' with _ | ad
  ·have hm:m=0:=by
    rcases Nat.eq_zero_or_pos m with h0 | h0
    ·exact h0
    ·obtain ⟨b,off,h,_⟩:=hr.2 h0;cases h
   subst hm;have hn:news=[]:=List.eq_nil_of_length_eq_zero (by simpa using hr.1);subst hn;exact ⟨_,w,lj base t ty e i size ht hi _ n xs hown c',by simpa using hown,World.grownBy.refl w _,.inl rfl⟩
  ·have hcells:∀ j u,news[j]? = some u->w.cell? (ad.add j)=some u:=by
    intro j u hu;rcases Nat.eq_zero_or_pos m with h0 | h0
    ·subst h0;have hn:news=[]:=List.eq_nil_of_length_eq_zero (by simpa using hr.1);subst hn;simp at hu
    ·obtain ⟨b,off,h,_,hc⟩:=hr.2 h0;injection h with h;subst h
     have:=hc j u hu;unfold Addr.add;split
     ·subst j;simpa using this
     ·exact this
   obtain ⟨v',w',hrun,h2,h3,_,h5⟩:=run_append_own_at (P:=P) w base t ty e i z size bytes ht hi hz hs hb hzs hsz _ n xs hown ad m c' news hr.1 hcells h1 h63 hbytes hbase;exact ⟨v',w',hrun,h2,h3,h5⟩
 obtain ⟨v',w',hrun,h2,h3,h5⟩:=key;obtain ⟨A'',c'',rfl⟩:=fs h2;exact ⟨A'',c'',w',hrun,h2,h3,h5⟩
theorem Et {o:Oper} {a:Act} {K:Act->World->Prop} {Q:Exit->Act->World->Prop} (s x:Operand) (t:TypeId)
  (ho:o.op=.call { callee:=.builtin .append,args:=#[s,x],argTypes:=#[t,t] })
  {base e:Nat} {z:Value} {size bytes:Nat} (ht:P.underlying t=some (.slice e)) (hinfo:(P.info? e).map (fun i=>(i.zero,i.size,i.bytes))=some (some z,size,bytes))
  (hzs:z.cells.size=size) (hsz:0 < size) {A:Option Addr} {n c:Nat} {xs:List Value} (hs:a.eval s=.slice A n c) (hown:w.ownsRow base e size (.slice A n c) n xs)
  {A':Option Addr} {m c':Nat} {news:List Value} (hx:a.eval x=.slice A' m c') (hr:Rd w size A' m news) (h1:∀ u ∈ news,u.oneCell'=true)
  (hbytes:(n+m) * bytes<=140737488355328) (hby:0 < bytes) (hbase:base<=w.heap.size)
  (h:∀ A'' c'' w',w'.ownsRow base e size (.slice A'' (n+m) c'') (n+m) (xs++news)->w.grownBy w' (Value.slice A n c).ownBlock->((Value.slice A'' (n+m) c'').ownBlock=(Value.slice A n c).ownBlock\/(Value.slice A'' (n+m) c'').ownBlock=some w.heap.size)->K (a.put o.dst (.slice A'' (n+m) c'')) w'):o.wp P a w K Q:=by
 obtain ⟨A'',c'',w',hrun,h2,h3,h4⟩:=Lu (P:=P) base t o.type e ht hinfo hzs hsz A n c xs hown A' m c' news hr h1 hbytes hby hbase;unfold Oper.wp execOp;simp only [ho,resolve,invoke,builtin,Sem.run_bind,Sem.run_pure,Result.andThen_ok,List.map_toArray,List.map_cons,List.map_nil,hs,hx,hrun];exact h A'' c'' w' h2 h3 h4
theorem jF {ops:Array Oper} {rest:List Oper} {o:Oper} {a:Act} {Q:Exit->Act->World->Prop} (hgd:o.guard=none) (s x:Operand) (t:TypeId)
  (ho:o.op=.call { callee:=.builtin .append,args:=#[s,x],argTypes:=#[t,t] })
  {base e:Nat} {z:Value} {size bytes:Nat} (ht:P.underlying t=some (.slice e)) (hinfo:(P.info? e).map (fun i=>(i.zero,i.size,i.bytes))=some (some z,size,bytes))
  (hzs:z.cells.size=size) (hsz:0 < size) {A:Option Addr} {n c:Nat} {xs:List Value} (hs:a.eval s=.slice A n c) (hown:w.ownsRow base e size (.slice A n c) n xs)
  {A':Option Addr} {m c':Nat} {news:List Value} (hx:a.eval x=.slice A' m c') (hr:Rd w size A' m news) (h1:∀ u ∈ news,u.oneCell'=true)
  (hbytes:(n+m) * bytes<=140737488355328) (hby:0 < bytes) (hbase:base<=w.heap.size)
  (h:∀ A'' c'' w',w'.ownsRow base e size (.slice A'' (n+m) c'') (n+m) (xs++news)->w.grownBy w' (Value.slice A n c).ownBlock->((Value.slice A'' (n+m) c'').ownBlock=(Value.slice A n c).ownBlock\/(Value.slice A'' (n+m) c'').ownBlock=some w.heap.size)->wpList P ops Q rest (a.put o.dst (.slice A'' (n+m) c'')) w'):wpList P ops Q (o :: rest) a w :=
 wpList_plain hgd fun _ hK=>Et s x t ho ht hinfo hzs hsz hs hown hx hr h1 hbytes hby hbase fun A'' c'' w' h2 h3 h4=>hK _ _ (h A'' c'' w' h2 h3 h4)
theorem pD {ops:Array Oper} {o:Oper} {a:Act} {K:Act->World->Prop} {Q:Exit->Act->World->Prop} {E:Prop} (hgd:o.guard=none) (s x:Operand) (t:TypeId)
  (ho:o.op=.call { callee:=.builtin .append,args:=#[s,x],argTypes:=#[t,t] })
  {base e:Nat} {z:Value} {size bytes:Nat} (ht:P.underlying t=some (.slice e)) (hinfo:(P.info? e).map (fun i=>(i.zero,i.size,i.bytes))=some (some z,size,bytes))
  (hzs:z.cells.size=size) (hsz:0 < size) {A:Option Addr} {n c:Nat} {xs:List Value} (hs:a.eval s=.slice A n c) (hown:w.ownsRow base e size (.slice A n c) n xs)
  {A':Option Addr} {m c':Nat} {news:List Value} (hx:a.eval x=.slice A' m c') (hr:Rd w size A' m news) (h1:∀ u ∈ news,u.oneCell'=true)
  (hbytes:(n+m) * bytes<=140737488355328) (hby:0 < bytes) (hbase:base<=w.heap.size)
  (h:∀ A'' c'' w',w'.ownsRow base e size (.slice A'' (n+m) c'') (n+m) (xs++news)->w.grownBy w' (Value.slice A n c).ownBlock->((Value.slice A'' (n+m) c'').ownBlock=(Value.slice A n c).ownBlock\/(Value.slice A'' (n+m) c'').ownBlock=some w.heap.size)->K (a.put o.dst (.slice A'' (n+m) c'')) w') :
  if Region.wanted o (yielded ops a.tmps)=true then Oper.wp P o a w K Q else E:=by
 have hw:Region.wanted o (yielded ops a.tmps)=true:=by simp [Region.wanted,hgd]
 rw [if_pos hw];exact Et s x t ho ht hinfo hzs hsz hs hown hx hr h1 hbytes hby hbase h
end
def Rows (R:Nat) (vs:List Value) (ls:List (List Gt)) (wx:World):Prop :=
 vs.length=ls.length/\(∀ (i:Nat) (v:Value) (l:List Gt),vs[i]? = some v->ls[i]? = some l->∃ A c,v=.slice A l.length c/\wx.ownsRow R 39 4 (.slice A l.length c) l.length (af l))/\∀ (i j:Nat) (u v:Value),vs[i]? = some u->vs[j]? = some v->i ≠ j->u.ownBlock=none\/u.ownBlock ≠ v.ownBlock
section
variable {R:Nat} {vs:List Value} {ls:List (List Gt)} {wx w':World}
theorem Rows.map_ (h:Rows R vs ls wx) (f:∀ (A:Option Addr) (c:Nat) (l:List Gt),wx.ownsRow R 39 4 (.slice A l.length c) l.length (af l)->w'.ownsRow R 39 4 (.slice A l.length c) l.length (af l)):Rows R vs ls w' :=
 ⟨h.1,fun i v l hv hl=>by obtain ⟨A,c,e,o⟩:=h.2.1 i v l hv hl;exact ⟨A,c,e,f A c l o⟩,h.2.2⟩
theorem Rows.below (h:Rows R vs ls wx) (hb:Below wx wx w'):Rows R vs ls w':=h.map_ fun _ _ _ o=>ab o hb
theorem Rows.alloc (h:Rows R vs ls wx) (o:Obj):Rows R vs ls (wx.alloc o):=h.below ((zW).alloc zR _)
theorem Rows.drew (h:Rows R vs ls wx):Rows R vs ls wx.drew:=h.below (zW).drew
theorem Rows.store (h:Rows R vs ls wx) {g t:Nat} {cs:Array Value} (hg:Bx wx g t cs) (hne:39 ≠ t) (i:Nat) (u:Value):Rows R vs ls (wx.setCell ⟨g,i,none⟩ u):=h.map_ fun _ _ _ o=>aM o hg hne i u
theorem Rows.at_ (h:Rows R vs ls wx) {i:Nat} {l:List Gt} (hl:ls[i]? = some l):∃ A c,vs[i]? = some (.slice A l.length c)/\wx.ownsRow R 39 4 (.slice A l.length c) l.length (af l):=by
 have hi:=(List.getElem?_eq_some_iff.1 hl).1;rw [<- h.1] at hi;obtain ⟨A,c,e,o⟩:=h.2.1 i _ l (List.getElem?_eq_getElem hi) hl;exact ⟨A,c,by rw [List.getElem?_eq_getElem hi,e],o⟩
theorem Rows.set_ (h:Rows R vs ls wx) {i:Nat} {A':Option Addr} {c':Nat} {l l':List Gt} {v:Value} (hv:vs[i]? = some v) (hl:ls[i]? = some l) (hg:wx.grownBy w' v.ownBlock) (ho:w'.ownsRow R 39 4 (.slice A' l'.length c') l'.length (af l'))
  (hat:(Value.slice A' l'.length c').ownBlock=v.ownBlock\/(Value.slice A' l'.length c').ownBlock=some wx.heap.size):Rows R (vs.set i (.slice A' l'.length c')) (ls.set i l') w':=by
 obtain ⟨h1,h2,h3⟩:=h;have hi:=(List.getElem?_eq_some_iff.1 hv).1;have other:∀ (j:Nat) (u:Value),vs[j]? = some u->j ≠ i->(u.ownBlock=none\/u.ownBlock ≠ v.ownBlock)/\∀ (k:Nat),u.ownBlock=some k->k < wx.heap.size:=fun j u hu hj=>by
  refine ⟨h3 j i u v hu hv hj,fun k hk=>?_⟩;have hjl:=(List.getElem?_eq_some_iff.1 hu).1;obtain ⟨A,c,e,o⟩:=h2 j u _ hu (List.getElem?_eq_getElem zO);subst e;exact (o.lt k hk).2
 have apart:∀ (j:Nat) (u:Value),vs[j]? = some u->j ≠ i->u.ownBlock=none\/u.ownBlock ≠ (Value.slice A' l'.length c').ownBlock:=fun j u hu hj=>by
  obtain ⟨q1,q2⟩:=other j u hu hj;rcases hat with e | e
  ·rw [e];exact q1
  ·rw [e];cases hk:u.ownBlock with
   |none=>exact .inl rfl
   |some k =>
    refine .inr fun e2=>?_
    injection e2 with e2;have:=q2 k hk
    omega
 refine ⟨by rw [List.length_set,List.length_set];exact h1,fun j u x hu hx=>?_,fun j k u x hu hx hjk=>?_⟩
 ·by_cases hj:i=j
  ·subst hj;rw [List.getElem?_set_self hi] at hu;rw [List.getElem?_set_self zO] at hx;injection hu with hu;injection hx with hx;subst hu hx
   exact ⟨A',c',rfl,ho⟩
  ·rw [List.getElem?_set_ne hj] at hu hx;obtain ⟨A,c,e,o⟩:=h2 j u x hu hx;refine ⟨A,c,e,o.kept hg ?_⟩;have:=(other j u hu (fun e=>hj e.symm)).1;rw [e] at this;exact this
 ·by_cases hj:i=j
  ·subst hj;rw [List.getElem?_set_self hi] at hu;rw [List.getElem?_set_ne hjk] at hx;injection hu with hu;subst hu
   rcases apart k x hx (fun e=>hjk e.symm) with e | e
   ·cases hb:(Value.slice A' l'.length c').ownBlock with
    |none=>exact .inl rfl
    |some b=>rw [e];exact .inr zI
   ·cases hb:(Value.slice A' l'.length c').ownBlock with
    |none=>exact .inl rfl
    |some b=>rw [hb] at e;exact .inr fun e2=>e e2.symm
  ·rw [List.getElem?_set_ne hj] at hu;by_cases hk:i=k
   ·subst hk;rw [List.getElem?_set_self hi] at hx;injection hx with hx;subst hx
    exact apart j u hu (fun e=>hj e.symm)
   ·rw [List.getElem?_set_ne hk] at hx;exact h3 j k u x hu hx hjk
theorem Rows.clear (h:Rows R vs ls wx) {i:Nat} {l:List Gt} {v:Value} (hv:vs[i]? = some v) (hl:ls[i]? = some l):Rows R (vs.set i (.slice none 0 0)) (ls.set i []) wx:=by
 obtain ⟨h1,h2,h3⟩:=h;have hi:=(List.getElem?_eq_some_iff.1 hv).1;refine ⟨by rw [List.length_set,List.length_set];exact h1,fun j u x hu hx=>?_,fun j k u x hu hx hjk=>?_⟩
 ·by_cases hj:i=j
  ·subst hj;rw [List.getElem?_set_self hi] at hu;rw [List.getElem?_set_self zO] at hx;injection hu with hu;injection hx with hx;subst hu hx
   exact ⟨none,0,rfl,World.ownsRow_nil _ _ _ _⟩
  ·rw [List.getElem?_set_ne hj] at hu hx;exact h2 j u x hu hx
 ·by_cases hj:i=j
  ·subst hj;rw [List.getElem?_set_self hi] at hu;injection hu with hu;subst hu
   exact .inl rfl
  ·rw [List.getElem?_set_ne hj] at hu;by_cases hk:i=k
   ·subst hk;rw [List.getElem?_set_self hi] at hx;injection hx with hx;subst hx
    cases hb:u.ownBlock with
    |none=>exact .inl rfl
    |some b=>exact .inr (by simp [Value.ownBlock])
   ·rw [List.getElem?_set_ne hk] at hx;exact h3 j k u x hu hx hjk
end
def SR (R P T:Nat) (s:iw) (vo:Value) (wx:World):Prop :=
 s.2.length=4/\∃ vs:List Value,vs.length=4/\Bx wx P T vs.toArray/\Rows R (vs++[vo]) (s.2++[s.1]) wx
section
variable {R P T:Nat} {s:iw} {vo:Value} {wx w':World}
theorem SR.below (h:SR R P T s vo wx) (hb:Below wx wx w'):SR R P T s vo w':=by
 obtain ⟨h1,vs,h2,h3,h4⟩:=h;exact ⟨h1,vs,h2,h3.below hb,h4.below hb⟩
theorem SR.alloc (h:SR R P T s vo wx) (o:Obj):SR R P T s vo (wx.alloc o):=h.below ((zW).alloc zR _)
theorem SR.drew (h:SR R P T s vo wx):SR R P T s vo wx.drew:=h.below (zW).drew
theorem SR.lt (h:SR R P T s vo wx):P < wx.heap.size:=by
 obtain ⟨h1,vs,h2,h3,h4⟩:=h;exact h3.lt
theorem SR.out (h:SR R P T s vo wx):∃ A c,vo=.slice A s.1.length c/\wx.ownsRow R 39 4 (.slice A s.1.length c) s.1.length (af s.1):=by
 obtain ⟨h1,vs,h2,h3,h4⟩:=h;obtain ⟨A,c,e,o⟩:=h4.at_ (i:=4) (l:=s.1) (by rw [List.getElem?_append_right zO,h1];rfl);rw [List.getElem?_append_right zO,h2] at e;injection e with e;exact ⟨A,c,e,o⟩
theorem SR.run (h:SR R P T s vo wx) {q:Nat} (hq:q < 4):∃ A c,wx.cell? ⟨P,q,none⟩=some (.slice A (s.2.getD q []).length c)/\wx.frozen? ⟨P,q,none⟩=false/\wx.ownsRow R 39 4 (.slice A (s.2.getD q []).length c) (s.2.getD q []).length (af (s.2.getD q [])):=by
 obtain ⟨h1,vs,h2,h3,h4⟩:=h;obtain ⟨A,c,e,o⟩:=h4.at_ (i:=q) (l:=s.2.getD q []) (by rw [List.getElem?_append_left zO,List.getD_eq_getElem?_getD,List.getElem?_eq_getElem zO];rfl);rw [List.getElem?_append_left zO] at e;refine ⟨A,c,?_,h3.free q,o⟩;rw [h3.cell q];simpa using e
theorem SR.pushOut (h:SR R P T s vo wx) (hT:39 ≠ T) {A':Option Addr} {m c':Nat} {news:List Gt} (hm:news.length=m) (hg:wx.grownBy w' vo.ownBlock) (ho:w'.ownsRow R 39 4 (.slice A' (s.1.length+m) c') (s.1.length+m) (af s.1++af news))
  (hat:(Value.slice A' (s.1.length+m) c').ownBlock=vo.ownBlock\/(Value.slice A' (s.1.length+m) c').ownBlock=some wx.heap.size):SR R P T (s.1++news,s.2) (.slice A' (s.1.length+m) c') w':=by
 subst hm;obtain ⟨A,c,e,o⟩:=h.out;obtain ⟨h1,vs,h2,h3,h4⟩:=h;have hl:(s.1++news).length=s.1.length+news.length:=List.length_append;rw [<- hl] at ho hat ⊢;rw [<- av] at ho;have hv4:(vs++[vo])[4]? = some vo:=by rw [List.getElem?_append_right zO,h2];rfl
 have hl4:(s.2++[s.1])[4]? = some s.1:=by rw [List.getElem?_append_right zO,h1];rfl
 have:=h4.set_ hv4 hl4 hg ho hat;have e1:∀ {α:Type} (l:List α) (x y:α),l.length=4->(l++[x]).set 4 y=l++[y]:=fun l x y hl=>by
  rw [List.set_append_right _ _ zO,hl];rfl
 rw [e1 _ _ _ h2,e1 _ _ _ h1] at this;subst e;exact ⟨h1,vs,h2,az o hg h3 hT,this⟩
theorem SR.pushRun (h:SR R P T s vo wx) (hT:39 ≠ T) {q m c c':Nat} {A A':Option Addr} {news:List Gt} (hq:q < 4) (hm:news.length=m) (hv:wx.cell? ⟨P,q,none⟩=some (.slice A (s.2.getD q []).length c)) (hg:wx.grownBy w' (Value.slice A (s.2.getD q []).length c).ownBlock)
  (ho:w'.ownsRow R 39 4 (.slice A' ((s.2.getD q []).length+m) c') ((s.2.getD q []).length+m) (af (s.2.getD q [])++af news))
  (hat:(Value.slice A' ((s.2.getD q []).length+m) c').ownBlock=(Value.slice A (s.2.getD q []).length c).ownBlock\/(Value.slice A' ((s.2.getD q []).length+m) c').ownBlock=some wx.heap.size) :
  SR R P T (s.1,s.2.set q (s.2.getD q []++news)) vo (w'.setCell ⟨P,q,none⟩ (.slice A' ((s.2.getD q []).length+m) c')):=by
 subst hm;obtain ⟨h1,vs,h2,h3,h4⟩:=h;obtain ⟨l,hl⟩:∃ l,s.2.getD q []=l:=⟨_,rfl⟩;rw [hl] at hv hg ho hat ⊢;have hlen:(l++news).length=l.length+news.length:=List.length_append;rw [<- hlen] at ho hat ⊢;rw [<- av] at ho;have hvq:(vs++[vo])[q]? = some (.slice A l.length c):=by
  rw [List.getElem?_append_left zO];rw [h3.cell q] at hv;simpa using hv
 have hlq:(s.2++[s.1])[q]? = some l:=by
  rw [List.getElem?_append_left zO,List.getElem?_eq_getElem zO,<- hl,List.getD_eq_getElem?_getD,List.getElem?_eq_getElem zO];rfl
 obtain ⟨A0,c0,e0,o0⟩:=h4.at_ hlq;rw [hvq] at e0;injection e0 with e0;injection e0 with e1 _ e2;subst e1 e2
 have:=h4.set_ hvq hlq hg ho hat;rw [List.set_append_left _ _ zO,List.set_append_left _ _ zO] at this;have hb:=az o0 hg h3 hT;refine ⟨by simp [h1],vs.set q (.slice A' (l++news).length c'),by simp [h2],?_,this.store hb hT q _⟩;have hs:=hb.set_ q (.slice A' (l++news).length c');simpa using hs
theorem SR.clear (h:SR R P T s vo wx) (hT:39 ≠ T) {q:Nat} (hq:q < 4):SR R P T (s.1,s.2.set q []) vo (wx.setCell ⟨P,q,none⟩ (.slice none 0 0)):=by
 obtain ⟨h1,vs,h2,h3,h4⟩:=h;have hvq:(vs++[vo])[q]? = some (vs[q]'zO):=by rw [List.getElem?_append_left zO,List.getElem?_eq_getElem]
 have hlq:(s.2++[s.1])[q]? = some (s.2[q]'zO):=by rw [List.getElem?_append_left zO,List.getElem?_eq_getElem]
 have:=h4.clear hvq hlq;rw [List.set_append_left _ _ zO,List.set_append_left _ _ zO] at this;refine ⟨by simp [h1],vs.set q (.slice none 0 0),by simp [h2],?_,this.store h3 hT q _⟩;have hs:=h3.set_ q (.slice none 0 0);simpa using hs
end
/-! Plain facts on runs. -/
def Lw (ls:List (List Gt)):Nat:=(ls.map List.length).sum
def lf (s:iw):Nat:=s.1.length+100 * Lw s.2
theorem kj:∀ (ls:List (List Gt)) (q:Nat) (x:List Gt),q < ls.length->Lw (ls.set q x)+(ls.getD q []).length=Lw ls+x.length
 |[],q,x,h=>by simp at h
 |l :: r,0,x,h=>by simp [Lw];omega
 |l :: r,q+1,x,h=>by
  have ih:=kj r q x (by simpa using h);simp only [Lw,List.set_cons_succ,List.map_cons,List.sum_cons,List.getD_cons_succ] at ih ⊢;omega
theorem jf (l:List Gt):(cH l).length<=100 * l.length:=by
 have h1:=mf l;unfold cH;split
 ·omega
 ·rename_i h;have h2:=mf (eu l);rw [List.length_map];omega
def fH (s:iw):Prop:=s.2.length=4/\∀ q,q < 4->RunOn q (s.2.getD q [])
theorem iP {ls:List (List Gt)} {q p:Nat} {x:List Gt} (hq:q < ls.length):(ls.set q x).getD p []=if p=q then x else ls.getD p []:=iW hq
theorem mg {s:iw} {q:Nat} (h:fH s) (hq:q < 4):fH (eV s q)/\lf (eV s q)<=lf s:=by
 have hs:=kj s.2 q [] (by rw [h.1];exact hq);have hl:=jf (s.2.getD q []);refine ⟨⟨by simp [eV,h.1],fun p hp=>?_⟩,?_⟩
 ·show RunOn p ((s.2.set q []).getD p []);rw [iP (by rw [h.1];exact hq)];split
  ·intro g hg;cases hg
  ·exact h.2 p hp
 ·unfold lf eV;simp only [List.length_append,List.length_nil] at hs ⊢;omega
theorem pE {s:iw} {g:Gt} {q:Nat} (h:fH s) (hq:q < 4) (hg:g=⟨g.k,(q:Nat),0,0⟩/\1<=g.k/\g.k<=8):fH (s.1,s.2.set q (s.2.getD q []++[g]))/\lf (s.1,s.2.set q (s.2.getD q []++[g]))<=lf s+100:=by
 have hs:=kj s.2 q (s.2.getD q []++[g]) (by rw [h.1];exact hq);refine ⟨⟨by simp [h.1],fun p hp=>?_⟩,?_⟩
 ·show RunOn p ((s.2.set q _).getD p []);rw [iP (by rw [h.1];exact hq)];split
  ·rename_i e;subst e;intro x hx;rcases List.mem_append.1 hx with hx | hx
   ·exact h.2 p hq x hx
   ·rw [List.mem_singleton.1 hx];exact hg
  ·exact h.2 p hp
 ·unfold lf;simp only [List.length_append,List.length_cons,List.length_nil] at hs ⊢;omega
theorem tx {s:iw} {q:Nat} (h:s.2.length=4) (hq:q < 4):100 * (s.2.getD q []).length<=lf s:=by
 have hs:=kj s.2 q [] (by rw [h];exact hq);unfold lf;simp only [List.length_nil] at hs;omega
theorem nu {s:iw} {g:Gt} (h:fH s):fH (s.1++[g],s.2)/\lf (s.1++[g],s.2)<=lf s+100:=by
 refine ⟨h,?_⟩;unfold lf;simp only [List.length_append,List.length_cons,List.length_nil];omega
def Al:iw:=([],[[],[],[],[]])
theorem s0R_ok:fH Al/\lf Al=0:=by
 refine ⟨⟨rfl,fun q hq=>?_⟩,rfl⟩;obtain rfl | rfl | rfl | rfl:q=0\/q=1\/q=2\/q=3:=zO
 all_goals exact fun g hg=>by cases hg
end Go.Proofs.YtmenmibfkojnoaaGreat
