/- Contract of PeepholeStep (impl). Contract of spec.PhaseSections. At most 2^20 gates. Contracts of FoldAllPhases (impl, spec). At most 2^20 gates. -/
import Derived.Test.YtmenmibfkojnoaaGreatV27
import Derived.Test.YtmenmibfkojnoaaGreatV29
import Derived.Test.YtmenmibfkojnoaaGreatV28
import Derived.Test.YtmenmibfkojnoaaGreatV26
set_option maxHeartbeats 16000000
namespace Go.Proofs.YtmenmibfkojnoaaGreat
open Go.RowKit
theorem step_out {l r s:List Gt} {g h:Gt} {i k:Nat} (hd:l.drop i=g :: r) (hdk:l.drop k=h :: s) (hik:i < k) (hk:k < l.length) (hf:findStep l 0=some (i,k)) :
  cellsG (stepL l)=((cellsG (l.take i)++cellsG ((l.drop (i+1)).take (k - (i+1))))++cellsG (mergeL g h))++cellsG (l.drop (k+1)) ∧
  (stepL l).length=i+(k - (i+1))+(mergeL g h).length+(l.length - (k+1))/\stepOk l=true:=by
 have e:stepL l=l.take i++((l.drop (i+1)).take (k - (i+1))++(mergeL g h++l.drop (k+1))):=by
  simp only [stepL,hf];unfold outOf;rw [getD_drop hd,getD_drop hdk]
 refine ⟨by rw [e];simp [cellsG_append],?_,by simp [stepOk,hf]⟩
 rw [e]
 simp only [List.length_append,List.length_take,List.length_drop]
 omega
set_option maxRecDepth 100000 in
theorem i_PeepholeStep (A:Option Addr) (n c:Nat) (l:List Gt) (w:World) (h:RdG w A n l) (hnc:n<=c) (hn:n<=1099511627776) :
  Calls Tryz.prog 45 #[.slice A n c] w (RetGB (stepL l) (stepOk l) w):=by
 have H:=zH h
 clear h
 go_enter Tryz.func45,Tryz.ntmps45
 go_wp2_with fail
 go_loopg [12] n (fun m j wr=>∃ i:Nat,i+m=n/\j=.int .i64 i/\findStep (l.drop i) i=findStep l 0/\Below w.heap.size w wr)
 case atStart=>exact ⟨0,by omega,rfl,rfl,zW⟩
 case round =>
  obtain ⟨i,hi,rfl,hs,hb⟩:=hrel
  have HS:=zH hs
  clear hs
  by_cases hlt:i < n
  ·obtain ⟨b,off,g,rfl,hB,hd,c0,c1,c2,c3⟩:=(H.out.below hb).at_ hlt
   have HD:=zH hd
   clear hd
   have BX:=zH (Bx.new wr 39 #[.int .i64 g.k,.int .i64 g.a,.int .i64 g.b,.int .i64 g.c])
   have HB0:=hb.alloc hb.size (.cells #[.int .i64 g.k,.int .i64 g.a,.int .i64 g.b,.int .i64 g.c] 39)
   go_wp2_with fail
   clear c0 c1 c2 c3
   obtain ⟨wo,rfl⟩:∃ wo,wo=wr:=⟨_,rfl⟩
   obtain ⟨go,rfl⟩:∃ go,go=gk:=⟨_,rfl⟩
   go_loopg [6] (n - (i+1)) (fun m j wr=>∃ k:Nat,k+m=n/\i+1<=k/\j=.int .i64 k/\scanB g (l.drop k) k=scanB g (l.drop (i+1)) (i+1)/\Bx wr wo.heap.size 39 #[.int .i64 g.k,.int .i64 g.a,.int .i64 g.b,.int .i64 g.c]/\Below w.heap.size w wr)
   case atStart=>exact ⟨i+1,by omega,by omega,by go_num,rfl,BX.out,HB0⟩
   case round =>
    obtain ⟨k,hk,hik,rfl,hs,bx,hb⟩:=hrel
    have HSC:=zH hs
    have BXX:=zH bx
    clear hs bx
    have NXT:Hid (scanB g (l.drop (i+1)) (i+1)=none->findStep (l.drop (i+1)) (i+1)=findStep l 0):=zH fun hsc=>by
     rw [<- HS.out,HD.out,findStep,hsc]
    by_cases hlk:k < n
    ·obtain ⟨p0,p1,p2,p3,_,_,_,_⟩:=BXX.out.four
     have hd2:=drop_cons (l:=l) (k:=k) (by have:=H.out.1;omega)
     obtain ⟨h,hh⟩:∃ h,l[k]'(by have:=H.out.1;omega)=h:=⟨_,rfl⟩
     rw [hh] at hd2
     have HD2:=zH hd2
     clear hd2 hh
     obtain ⟨_,q0,q1,q2,q3⟩:=(H.out.below hb).cellsAt HD2.out
     have hk1:(k:Int) < (n:Int):=by omega
     have hml:=mergeL_short g h
     go_wp2_with fail
     go_region_held3 (fun w'=>w'.cell? ⟨wo.heap.size,0,none⟩=some (.int .i64 g.k)/\w'.cell? ⟨wo.heap.size,1,none⟩=some (.int .i64 g.a)/\w'.cell? ⟨wo.heap.size,2,none⟩=some (.int .i64 g.b)/\w'.cell? ⟨wo.heap.size,3,none⟩=some (.int .i64 g.c)/\w'.cell? ⟨b,off+k * 4,none⟩=some (.int .i64 h.k)/\w'.cell? ⟨b,off+k * 4+1,none⟩=some (.int .i64 h.a)/\w'.cell? ⟨b,off+k * 4+2,none⟩=some (.int .i64 h.b)/\w'.cell? ⟨b,off+k * 4+3,none⟩=some (.int .i64 h.c))
      (first | go_keep | exact ⟨x0,x1,x2,x3,y0,y1,y2,y3⟩)
      (first | (go_at_call 83;(with_reducible refine (i_MergeGates g h _).mono ?_);rintro e w1 ⟨A1,c1,rfl,o1,b1⟩;have b01:=hb.drew.trans (b1.mono hb.size);have bx1:=BXX.out.drew.below b1;have ⟨x0,x1,x2,x3,_⟩:=bx1.four;have ⟨_,y0,y1,y2,y3⟩:=(H.out.below b01).cellsAt HD2.out))
     clear p0 p1 p2 p3 q0 q1 q2 q3
     cases hm:mergeOk g h
     ·have HM:=zH hm
      clear hm
      go_wp2_with fail
      go_still_tail 5,(by kernel_rfl)
      go_wp2_with fail
      refine (i_GatesCommute g h _).mono ?_
      rintro e w2 ⟨rfl,b2⟩
      have b02:=b01.drew.trans (b2.mono b01.size)
      have BX2:=zH (bx1.drew.below b2)
      clear x0 x1 x2 x3 y0 y1 y2 y3
      cases hc:comm g h
      ·have FIN:=zH (NXT.out (by rw [<- HSC.out,HD2.out,scanB_no HM.out hc]))
       clear hc
       go_wp2_with fail
       go_roundg (go - 1)
       case measure=>omega
       case rel=>exact ⟨i+1,by omega,by go_num,FIN.out,b02⟩
      ·have FIN:=zH (show scanB g (l.drop (k+1)) (k+1)=scanB g (l.drop (i+1)) (i+1) by
        rw [<- HSC.out,HD2.out,scanB_on HM.out hc])
       clear hc
       go_wp2_with fail
       go_roundg (gk - 1)
       case measure=>omega
       case rel=>exact ⟨k+1,by omega,by omega,by go_num,FIN.out,BX2.out,b02⟩
     ·have hl:=H.out.1
      have FIN:=zH (step_out HD.out HD2.out (by omega) (by omega) (show findStep l 0=some (i,k) by rw [<- HS.out,HD.out,findStep,<- HSC.out,HD2.out,scanB_yes hm]))
      clear hm x0 x1 x2 x3 y0 y1 y2 y3
      have hi0:(0:Int)<=(i:Int):=by omega
      have hic:(i:Int)<=(c:Int):=by omega
      have hik0:(i:Int)+1<=(k:Int):=by omega
      have hkc:(k:Int)<=(c:Int):=by omega
      have hkn:(k:Int)+1<=(n:Int):=by omega
      have hwi:IntKind.i64.wrap ((i:Int)+1)=(i:Int)+1:=by rw [IntKind.wrap_i64];omega
      obtain ⟨AA,hAA⟩:∃ AA,(some ⟨b,off,none⟩:Option Addr)=AA:=⟨_,rfl⟩
      rw [hAA] at H ⊢
      have hsl1:=sl_h AA n c i (by omega)
      have hsl2:=sl_lh AA n c (i+1) k (by omega) (by omega)
      rw [Int.natCast_succ] at hsl2
      obtain ⟨A2,hA2⟩:∃ A2,(if c=i+1 then AA else AA.map (·.add ((i+1) * 4)))=A2:=⟨_,rfl⟩
      obtain ⟨m2,hm2⟩:∃ m2,k - (i+1)=m2:=⟨_,rfl⟩
      rw [hA2,hm2] at hsl2
      have R1:=zH ((H.out.below b01).pre (k:=i) (by omega))
      have R2:=zH (show ∀ wx,Below w.heap.size w wx->Rd wx 4 A2 m2 (cellsG ((l.drop (i+1)).take (k - (i+1)))) from fun wx bx=>by
       have h2:=(H.out.below bx).mid (lo:=i+1) (hi:=k) (cap:=c) (by omega) (by omega) hnc
       rw [hA2] at h2
       have h3:=h2.2
       rw [hm2] at h3 ⊢
       exact h3)
      have hsl3:=sl_l AA n c (k+1) (by omega)
      rw [Int.natCast_succ] at hsl3
      obtain ⟨A4,hA4⟩:∃ A4,(if c=k+1 then AA else AA.map (·.add ((k+1) * 4)))=A4:=⟨_,rfl⟩
      obtain ⟨m4,hm4⟩:∃ m4,n - (k+1)=m4:=⟨_,rfl⟩
      rw [hA4,hm4] at hsl3
      have R4:=zH (show ∀ wx,Below w.heap.size w wx->Rd wx 4 A4 m4 (cellsG (l.drop (k+1))) from fun wx bx=>by
       have h4:=(H.out.below bx).cut (k:=k+1) (cap:=c) (by omega) hnc
       rw [hA4,hm4] at h4
       exact h4.2)
      obtain ⟨m1,hm1⟩:∃ m1,(mergeL g h).length=m1:=⟨_,rfl⟩
      have LEN:=zH (show (stepL l).length=i+m2+m1+m4 by rw [FIN.out.2.1,hm2,hm1,hl,hm4])
      have GLUE:=zH FIN.out.1
      have SB:=zH FIN.out.2.2
      have hbd:i+m2+m1+m4<=n:=by omega
      rw [hm1] at o1 hml ⊢
      have O1:=zH o1
      clear hm1 hm2 hm4 hA4 hA2 hAA FIN o1 hl
      have hz4:(Value.agg #[.int .i64 0,.int .i64 0,.int .i64 0,.int .i64 0]).cells.size=4:=rfl
      have RC:RdG w1.drew AA i (l.take i):=R1.out.drew
      go_wp2_with fail
      go_region_held3 (fun w'=>True) (first | trivial | skip)
       (first
        |(go_at_call 35;(with_reducible refine (i_copyGates _ _ _ _ _ RC (by omega)).mono ?_);rintro e w2 ⟨A3,c3,rfl,o2,b2⟩;have B2:Below w1.heap.size w1 w2:=below_drew b2;have SRC1:=R2.out w2 (b01.trans (B2.mono b01.size)))
        |(refine step_app (by rfl) (.tmp 38) (.tmp 43) 24 (by rfl) Tryz.underlying24 infoGate hz4 (by decide) (by simp [Act.eval]<;>rfl) o2 (by simp [Act.eval]<;>rfl) SRC1 one_cellsG (by omega) (by decide) B2.size ?_;intro A5 c5 w3 o3 g3;have B3:Below w1.heap.size w1 w3:=below_grown B2 B2.size o2 zR g3;have P1:=ownsRow_below O1.out B3))
      go_wp2_with (first
       |(at_builtin;refine wpList_app rfl (.tmp 45) (.tmp 46) 24 rfl Tryz.underlying24 infoGate rfl (by decide) rfl o3 rfl (Rd.own P1) one_cellsG (by omega) (by decide) B3.size ?_;intro A6 c6 w4 o4 g4;have B4:Below w1.heap.size w1 w4:=below_grown B3 B3.size o3 zR g4;have SRC2:=R4.out w4 (b01.trans (B4.mono b01.size)))
       |(at_builtin;refine wpList_app rfl (.tmp 48) (.tmp 52) 24 rfl Tryz.underlying24 infoGate rfl (by decide) rfl o4 rfl SRC2 one_cellsG (by omega) (by decide) B4.size ?_;intro A7 c7 w5 o5 g5))
      go_ret2
      rw [SB.out]
      exact ⟨A7,c7,by rw [LEN.out];rfl,by rw [LEN.out,GLUE.out];exact ownsRow_base o5 b01.size,b01.trans ((below_grown B4 B4.size o4 zR g5).mono b01.size)⟩
    ·have FIN:=zH (NXT.out (by rw [<- HSC.out,List.drop_eq_nil_of_le (by have:=H.out.1;omega)];rfl))
     go_wp2_with fail
     go_roundg (go - 1)
     case measure=>omega
     case rel=>exact ⟨i+1,by omega,by go_num,FIN.out,hb⟩
  ·have HO:=zH (show stepL l=l/\stepOk l=false by
    have e:findStep l 0=none:=by rw [<- HS.out,List.drop_eq_nil_of_le (by have:=H.out.1;omega)];rfl
    simp [stepL,stepOk,e])
   go_wp2_with fail
   refine (i_copyGates _ _ _ _ _ (H.out.below hb) hn).mono ?_
   rintro e w2 ⟨A2,c2,rfl,o2,b2⟩
   go_wp2_with fail
   go_ret2
   have hl:=H.out.1
   rw [HO.out.1,HO.out.2]
   exact ⟨A2,c2,by rw [hl];rfl,by rw [hl];exact ownsRow_base o2 hb.size,hb.trans (b2.mono hb.size)⟩
set_option maxRecDepth 100000 in
theorem s_PhaseSections (A:Option Addr) (n cap:Nat) (gs:List Gt) (w:World) (h:RdG w A n gs) (hn:n<=1073741824):Calls Tryz.prog 56 #[.slice A n cap] w (RetGG (secs gs) w):=by
 have H:=zH h
 clear h
 obtain ⟨R,hR⟩:∃ R,secs gs=R:=⟨_,rfl⟩
 have HR:Hid (secL false [] gs=R):=zH hR
 rw [hR]
 clear hR
 go_enter Tryz.func56,Tryz.ntmps56
 go_wp2_with fail
 go_loopg [3,4,5] n (fun r v ob i wr=>∃ (k:Nat) (o:Bool) (l:List (List Gt)) (A0:Option Addr) (q c0:Nat),k+r=n/\i=.int .i64 k/\v=.slice A0 q c0/\ob=.bool o/\l.length=q/\q<=k/\(0 < k->0 < q)/\(o=true->0 < k)/\(0 < k->∀ g',gs[k - 1]? = some g'->o=ph g'.k)/\(∀ x ∈ l,x.length<=k)/\secL o l (gs.drop k)=R/\OwnSS cellsG wr w.heap.size 24 39 4 (.slice A0 q c0) l/\Below w.heap.size w wr)
 case atStart=>exact ⟨0,false,[],_,0,0,by omega,rfl,rfl,rfl,rfl,by omega,(fun h=>absurd h (by omega)),(fun h=>by cases h),(fun h=>absurd h (by omega)),(fun x hx=>by simp at hx),HR.out,OwnSS.lit0 w zR _ _ _ _,(zW).alloc zR _⟩
 case round =>
  clear HR
  obtain ⟨k,o,l,A0,q,c0,hk,rfl,rfl,rfl,hl,hqk,hq0,ho0,hop,hrow,hq,ow,hb⟩:=hrel
  have HL:=zH hl
  have HO0:=zH ho0
  have HOP:=zH hop
  have HROW:=zH hrow
  have HQ:=zH hq
  have OW:=zH ow
  have HQ0:=zH hq0
  clear hl ho0 hop hrow hq ow hq0
  have hs0:=hb.size
  by_cases hlt:k < n
  ·obtain ⟨bg,fg,g,hA,hBg,hd,q0,q1,q2,q3⟩:=(H.out.below hb).at_ hlt
   subst hA
   have HD:=zH hd
   clear hd
   have HGK:Hid (gs[k]? = some g):=zH (by have:=congrArg (fun r=>r[0]?) HD.out;simpa using this)
   have B0:=zH (show Below w.heap.size w (wr.alloc (.cells #[.int .i64 g.k,.int .i64 g.a,.int .i64 g.b,.int .i64 g.c] 39)) from hb.alloc hs0 _)
   have X0:=zH (Bx.new wr 39 #[.int .i64 g.k,.int .i64 g.a,.int .i64 g.b,.int .i64 g.c])
   have O0:=zH (OW.out.alloc (.cells #[.int .i64 g.k,.int .i64 g.a,.int .i64 g.b,.int .i64 g.c] 39))
   have hkI:(k:Int) < (n:Int):=by omega
   have NEW:Hid (∀ (wx w5:World) (A5:Option Addr) (c5:Nat) (vs0:List Value),OwnSS cellsG wx w.heap.size 24 39 4 (.slice A0 q c0) l->wx.ownsRow w.heap.size 24 1 (.slice A0 q c0) q vs0->Below w.heap.size w wx->w5.ownsRow w.heap.size 24 1 (.slice A5 (q+1) c5) (q+1) (vs0++[.slice (some ⟨wx.heap.size,0,none⟩) 1 1])->((wx.alloc (.cells #[.int .i64 g.k,.int .i64 g.a,.int .i64 g.b,.int .i64 g.c] 39)).alloc (.cells #[.slice (some ⟨wx.heap.size,0,none⟩) 1 1] 24)).grownBy w5 (Value.slice A0 q c0).ownBlock->(o=false ∨ ph g.k=false)->(∃ (k':Nat) (o':Bool) (l':List (List Gt)) (A0':Option Addr) (q' c0':Nat),k'=k+1/\o'=ph g.k/\q'=q+1/\A0'=A5/\c0'=c5/\l'.length=q'/\q'<=k'/\(0 < k'->0 < q')/\(o'=true->0 < k')/\(0 < k'->∀ g',gs[k' - 1]? = some g'->o'=ph g'.k)/\(∀ x ∈ l',x.length<=k')/\secL o' l' (gs.drop k')=R/\OwnSS cellsG w5 w.heap.size 24 39 4 (.slice A0' q' c0') l'/\Below w.heap.size w w5)):=zH (by
    intro wx w5 A5 c5 vs0 hO hD hB h5 g5 hcnd
    have hsx:=hB.size
    have hne:(24:Nat) ≠ 39:=by decide
    have b1:Below wx.heap.size wx ((wx.alloc (.cells #[.int .i64 g.k,.int .i64 g.a,.int .i64 g.b,.int .i64 g.c] 39)).alloc (.cells #[.slice (some ⟨wx.heap.size,0,none⟩) 1 1] 24)):=((zW).alloc zR _).alloc (by simp) _
    refine ⟨k+1,ph g.k,l++[[g]],A5,q+1,c5,rfl,rfl,rfl,rfl,rfl,by rw [List.length_append,HL.out];rfl,by omega,fun _=>by omega,fun _=>by omega,fun _ g' hg'=>?_,fun x hx=>?_,?_,?_,?_⟩
    ·rw [show k+1 - 1=k from by omega,HGK.out] at hg'
     injection hg' with hg'
     rw [hg']
    ·rcases List.mem_append.1 hx with hx | hx
     ·have:=HROW.out x hx;omega
     ·simp at hx;subst hx;simp
    ·rw [<- HQ.out,HD.out,secL_new hcnd]
    ·have hap:=OwnSS.app (cs:=cellsG) (B:=wx.heap.size) (w0:=wx) (w1:=(wx.alloc (.cells #[.int .i64 g.k,.int .i64 g.a,.int .i64 g.b,.int .i64 g.c] 39)).alloc (.cells #[.slice (some ⟨wx.heap.size,0,none⟩) 1 1] 24)) (w2:=w5) (l:=l) (l':=[[g]]) (vs':=[.slice (some ⟨wx.heap.size,0,none⟩) 1 1]) (v'':=.slice A5 (q+1) c5) hne hO zR hsx b1
      (fun j x hj=>by
       have h0:j=0:=by have:=(List.getElem?_eq_some_iff.1 hj).1;simp at this;omega
       subst h0
       simp at hj
       subst hj
       exact ⟨_,1,rfl,(World.ownsRow_lit (e:=39) (size:=4) wx #[.int .i64 g.k,.int .i64 g.a,.int .i64 g.b,.int .i64 g.c] 1 zR (by simp [maxLen]) rfl).alloc _⟩)
      (fun i j u u' hij hu hu'=>by
       have h1:=(List.getElem?_eq_some_iff.1 hu).1
       have h2:=(List.getElem?_eq_some_iff.1 hu').1
       simp at h1 h2
       omega)
      rfl g5 (fun vs hv=>by rw [HL.out] at hv ⊢;rw [own_uniqG hv ((hD.alloc _).alloc _)];exact h5)
     exact hap
    ·exact below_grown ((hB.alloc hsx _).alloc (by simp<;>omega) _) (by simp<;>omega) ((hD.alloc _).alloc _) zR g5)
   have EXT:Hid (∀ (wx w5:World) (go:Nat) (x:List Gt) (D D':Option Addr) (c c':Nat),A0=some ⟨go,0,none⟩->OwnSS cellsG wx w.heap.size 24 39 4 (.slice A0 q c0) l->l[q - 1]? = some x->wx.cell? ⟨go,q - 1,none⟩=some (.slice D x.length c)->wx.ownsRow w.heap.size 39 4 (.slice D x.length c) x.length (cellsG x)->Below w.heap.size w wx->w5.ownsRow w.heap.size 39 4 (.slice D' (x.length+1) c') (x.length+1) (cellsG x++g.cells)->wx.grownBy w5 (Value.slice D x.length c).ownBlock->((Value.slice D' (x.length+1) c').ownBlock=(Value.slice D x.length c).ownBlock ∨ ∀ b,(Value.slice D' (x.length+1) c').ownBlock=some b->wx.heap.size<=b)->o=true->ph g.k=true->(∃ (k':Nat) (o':Bool) (l':List (List Gt)),k'=k+1/\o'=true/\l'.length=q/\q<=k'/\(0 < k'->0 < q)/\(o'=true->0 < k')/\(0 < k'->∀ g',gs[k' - 1]? = some g'->o'=ph g'.k)/\(∀ x ∈ l',x.length<=k')/\secL o' l' (gs.drop k')=R/\OwnSS cellsG (w5.setCell ⟨go,q - 1,none⟩ (.slice D' (x.length+1) c')) w.heap.size 24 39 4 (.slice A0 q c0) l'/\Below w.heap.size w (w5.setCell ⟨go,q - 1,none⟩ (.slice D' (x.length+1) c')))):=zH (by
    intro wx w5 go x D D' c c' hA0 hO hx hcell hown hB h5 g5 hbb ho hph
    subst hA0
    have hq0:0 < q:=HQ0.out (HO0.out ho)
    have hadd:addLast l g=l.set (q - 1) (x++[g]):=by unfold addLast;rw [HL.out,List.getD_eq_getElem?_getD,hx,Option.getD_some]
    obtain ⟨t1,t2⟩:=totG_add (acc:=l) g (by rw [HL.out];exact hq0)
    have hxl:(x++[g]).length=x.length+1:=by simp
    have hext:=OwnSS.ext (cs:=cellsG) (w1:=w5) (c':=c') (D':=D') (y:=x++[g]) (by decide) hO hx hcell g5 (by rw [hxl,cellsG_append];exact h5) (by rw [hxl];exact hbb)
    rw [hxl,<- hadd] at hext
    obtain ⟨vs,a1,_⟩:=hO
    refine ⟨k+1,true,addLast l g,rfl,rfl,by rw [t1,HL.out],by omega,fun _=>hq0,fun _=>by omega,fun _ g' hg'=>?_,fun y hy=>?_,?_,hext,?_⟩
    ·rw [show k+1 - 1=k from by omega,HGK.out] at hg'
     injection hg' with hg'
     rw [<- hg',hph]
    ·have:=t2 k HROW.out y hy
     omega
    ·rw [<- HQ.out,HD.out,secL_add ho hph]
    ·exact (below_grown hB hB.size hown zR g5).setCell (a1.lt go rfl).1 _)
   cases ho:o
   ·have HO:=zH ho
    clear ho
    obtain ⟨x0,x1,x2,x3,_,_,_,_⟩:=X0.out.four
    obtain ⟨vs0,d1,d2,d3⟩:=O0.out
    rw [HL.out] at d1
    have D1:=zH d1
    clear d1 d2 d3
    have hsx:=B0.out.size
    have DA:=zH ((D1.out.alloc (.cells #[.int .i64 g.k,.int .i64 g.a,.int .i64 g.b,.int .i64 g.c] 39)).alloc (.cells #[.slice (some ⟨wr.heap.size+1,0,none⟩) 1 1] 24))
    have RA:=zH (show Rd (((wr.alloc (.cells #[.int .i64 g.k,.int .i64 g.a,.int .i64 g.b,.int .i64 g.c] 39)).alloc (.cells #[.int .i64 g.k,.int .i64 g.a,.int .i64 g.b,.int .i64 g.c] 39)).alloc (.cells #[.slice (some ⟨wr.heap.size+1,0,none⟩) 1 1] 24)) 1 (some ⟨wr.heap.size+1+1,0,none⟩) 1 [.slice (some ⟨wr.heap.size+1,0,none⟩) 1 1] from by have:=Rd.lit ((wr.alloc (.cells #[.int .i64 g.k,.int .i64 g.a,.int .i64 g.b,.int .i64 g.c] 39)).alloc (.cells #[.int .i64 g.k,.int .i64 g.a,.int .i64 g.b,.int .i64 g.c] 39)) 24 #[.slice (some ⟨wr.heap.size+1,0,none⟩) 1 1] 1 1 rfl;rw [World.size_alloc,World.size_alloc] at this;exact this)
    go_wp2_with (at_builtin;refine wpList_app rfl (.tmp 37) (.tmp 40) 42 rfl Tryz.underlying42 infoGateS rfl (by decide) rfl DA.out rfl RA.out (by simp [Value.oneCell']) (by omega) (by decide) (by simp<;>omega) ?_;intro A5 c5 w5 o5 g5;have X5:=kept_app DA.out g5 ((X0.out.alloc _).alloc _) (by decide);have ⟨y0,y1,y2,y3,_,_,_,_⟩:=X5.four)
    have NW:=NEW.out (wr.alloc (.cells #[.int .i64 g.k,.int .i64 g.a,.int .i64 g.b,.int .i64 g.c] 39)) w5 A5 c5 vs0 O0.out D1.out B0.out
    simp only [World.size_alloc] at NW
    obtain ⟨k',o',l',A0',q',c0',rfl,rfl,rfl,rfl,rfl,f1,f2,f3,f4,f5,f6,f7,f8,f9⟩:=NW o5 g5 (.inl HO.out)
    refine (s_l33Moves _ _ _ _ _).mono ?_
    rintro e w6 ⟨rfl,b6⟩
    clear y0 y1 y2 y3
    go_wp2_with fail
    go_roundg (gk - 1)
    case measure=>omega
    case rel=>exact ⟨k+1,ph g.k,l',A0',q+1,c0',by omega,by go_num,rfl,rfl,f1,f2,f3,f4,f5,f6,f7,f8.below b6,below_trans f9 b6⟩
   ·have HO:=zH ho
    clear ho
    go_wp2_with fail
    refine (s_l33Moves _ _ _ _ _).mono ?_
    rintro e w1 ⟨rfl,b1⟩
    have X1:=zH (X0.out.below b1)
    have O1:=zH (O0.out.below b1)
    have B1:=zH (below_trans B0.out b1)
    clear b1 q0 q1 q2 q3
    cases hph:ph g.k
    ·have HPH:=zH hph
     clear hph
     obtain ⟨x0,x1,x2,x3,_,_,_,_⟩:=X1.out.four
     obtain ⟨vs0,d1,d2,d3⟩:=O1.out
     rw [HL.out] at d1
     have D1:=zH d1
     clear d1 d2 d3
     have hsx:=B1.out.size
     have DA:=zH ((D1.out.alloc (.cells #[.int .i64 g.k,.int .i64 g.a,.int .i64 g.b,.int .i64 g.c] 39)).alloc (.cells #[.slice (some ⟨w1.heap.size,0,none⟩) 1 1] 24))
     have RA:=zH (show Rd (((w1).alloc (.cells #[.int .i64 g.k,.int .i64 g.a,.int .i64 g.b,.int .i64 g.c] 39)).alloc (.cells #[.slice (some ⟨w1.heap.size,0,none⟩) 1 1] 24)) 1 (some ⟨w1.heap.size+1,0,none⟩) 1 [.slice (some ⟨w1.heap.size,0,none⟩) 1 1] from by have:=Rd.lit ((w1).alloc (.cells #[.int .i64 g.k,.int .i64 g.a,.int .i64 g.b,.int .i64 g.c] 39)) 24 #[.slice (some ⟨w1.heap.size,0,none⟩) 1 1] 1 1 rfl;rw [World.size_alloc] at this;exact this)
     go_wp2_with (at_builtin;refine wpList_app rfl (.tmp 37) (.tmp 40) 42 rfl Tryz.underlying42 infoGateS rfl (by decide) rfl DA.out rfl RA.out (by simp [Value.oneCell']) (by omega) (by decide) (by simp<;>omega) ?_;intro A5 c5 w5 o5 g5;have X5:=kept_app DA.out g5 ((X1.out.alloc _).alloc _) (by decide);have ⟨y0,y1,y2,y3,_,_,_,_⟩:=X5.four)
     have NW:=NEW.out (w1) w5 A5 c5 vs0 O1.out D1.out B1.out
     obtain ⟨k',o',l',A0',q',c0',rfl,rfl,rfl,rfl,rfl,f1,f2,f3,f4,f5,f6,f7,f8,f9⟩:=NW o5 g5 (.inr HPH.out)
     refine (s_l33Moves _ _ _ _ _).mono ?_
     rintro e w6 ⟨rfl,b6⟩
     clear y0 y1 y2 y3
     go_wp2_with fail
     go_roundg (gk - 1)
     case measure=>omega
     case rel=>exact ⟨k+1,ph g.k,l',A0',q+1,c0',by omega,by go_num,rfl,rfl,f1,f2,f3,f4,f5,f6,f7,f8.below b6,below_trans f9 b6⟩
    ·have HPH:=zH hph
     clear hph
     have hq0:0 < q:=HQ0.out (HO0.out HO.out)
     obtain ⟨L,hL⟩:∃ L,q=L+1:=⟨q - 1,by omega⟩
     obtain ⟨go,cap1,x,D,dc,hv,hdx,cc,ff,ox,_⟩:=OwnSS.at_ (by decide) O1.out (k:=L) (by rw [HL.out];omega)
     rw [HL.out] at hv
     injection hv with hv1 _ hv3
     subst hv1 hv3
     have hxk:=HROW.out x (List.mem_of_mem_drop (i:=L) (by rw [hdx];simp))
     have HXL:Hid (l[L]? = some x):=zH (by have:=congrArg (fun r=>r[0]?) hdx;simpa using this)
     have hqL:q - 1=L:=by omega
     obtain ⟨vs0,d1,d2,d3⟩:=O1.out
     rw [HL.out] at d1
     have HVL:Hid (vs0[L]? = some (.slice D x.length dc)):=zH (by rw [<- d1.cellAt L (by omega)];exact cc)
     have EX0:=EXT.out ((w1).alloc (.cells #[.int .i64 g.k,.int .i64 g.a,.int .i64 g.b,.int .i64 g.c] 39)).drew
     rw [hqL] at EX0
     have EX:=zH EX0
     have CA:=zH (show ((w1).alloc (.cells #[.int .i64 g.k,.int .i64 g.a,.int .i64 g.b,.int .i64 g.c] 39)).drew.cell? ⟨go,L,none⟩=some (.slice D x.length dc) from (((Below.refl (w1).heap.size (w1)).alloc zR (.cells #[.int .i64 g.k,.int .i64 g.a,.int .i64 g.b,.int .i64 g.c] 39)).cell (p:=⟨go,L,none⟩) (World.block_lt_of_cell? _ _ cc)).trans cc)
     have OSA:=zH (show OwnSS cellsG ((w1).alloc (.cells #[.int .i64 g.k,.int .i64 g.a,.int .i64 g.b,.int .i64 g.c] 39)).drew w.heap.size 24 39 4 (.slice (some ⟨go,0,none⟩) q c0) l from O1.out.alloc _)
     have BA:=zH (show Below w.heap.size w ((w1).alloc (.cells #[.int .i64 g.k,.int .i64 g.a,.int .i64 g.b,.int .i64 g.c] 39)).drew from (B1.out.alloc B1.out.size _).drew)
     have OXA:=zH (show ((w1).alloc (.cells #[.int .i64 g.k,.int .i64 g.a,.int .i64 g.b,.int .i64 g.c] 39)).drew.ownsRow w.heap.size 39 4 (.slice D x.length dc) x.length (cellsG x) from ox.alloc _)
     have DA1:=zH (show ((w1).alloc (.cells #[.int .i64 g.k,.int .i64 g.a,.int .i64 g.b,.int .i64 g.c] 39)).drew.ownsRow w.heap.size 24 1 (.slice (some ⟨go,0,none⟩) q c0) q vs0 from d1.alloc _)
     have RA:=zH (show Rd ((w1).alloc (.cells #[.int .i64 g.k,.int .i64 g.a,.int .i64 g.b,.int .i64 g.c] 39)).drew 4 (some ⟨(w1).heap.size,0,none⟩) 1 g.cells from Rd.lit (w1) 39 #[.int .i64 g.k,.int .i64 g.a,.int .i64 g.b,.int .i64 g.c] 1 4 rfl)
     have hz4:(Value.agg #[.int .i64 0,.int .i64 0,.int .i64 0,.int .i64 0]).cells.size=4:=rfl
     obtain ⟨nx,hnx⟩:∃ nx,x.length=nx:=⟨_,rfl⟩
     have HNX:=zH hnx
     rw [hnx] at cc hxk HVL CA OXA
     have CA':=CA.out
     have hsx:=B1.out.size
     have one4:∀ u ∈ g.cells,u.oneCell'=true:=by simp [Gt.cells,Value.oneCell']
     have ONE4:=zH one4
     have hLq:L < q * 1:=by omega
     have hLi:(L:Int) < (q:Int):=by omega
     have hLj:L < q:=by omega
     have hLz:(0:Int)<=(L:Int):=by omega
     have HLE:=zH hL
     have hgo:=World.block_lt_of_cell? _ _ cc
     obtain ⟨x0,x1,x2,x3,_,_,_,_⟩:=X1.out.four
     have nn:=World.new_ne (w1) _ cc
     have hw1:IntKind.i64.wrap ((q:Int) - 1)=(L:Int):=by rw [IntKind.wrap_i64];omega
     have hw3:IntKind.i64.wrap (L:Int)=(L:Int):=by rw [IntKind.wrap_i64];omega
     have hw2:(q:Int) - 1=(L:Int):=by omega
     clear d1 d2 d3 hdx ox hL hnx hqL EX0 one4
     go_wp2_with fail
     go_region_law
      (first | (refine step_app2 (by rfl) (.tmp 32) (.tmp 34) 24 (by rfl) Tryz.underlying24 infoGate hz4 (by decide) (by simp [Act.eval]<;>rfl) OXA.out (by simp [Act.eval]<;>rfl) RA.out ONE4.out (by omega) (by decide) (by simp<;>omega) ?_;intro A5 c5 w5 o5 g5 hb5;have D5:=DA1.out.kept g5 (own_types DA1.out OXA.out (by decide));have cl5:=(D5.cellAt L hLq).trans HVL.out;have fl5:=D5.frozenAt L) | fail)
     all_goals clear hw1 hw2 hw3
     all_goals go_wp2_with fail
     all_goals have h5:=EX.out w5 go x D A5 dc c5 rfl OSA.out HXL.out (by rw [HNX.out];exact CA.out) (by rw [HNX.out];exact OXA.out) BA.out (by rw [HNX.out];exact o5) (by rw [HNX.out];exact g5) (by rw [HNX.out];exact hb5) HO.out HPH.out
     all_goals rw [HNX.out] at h5
     all_goals obtain ⟨k',o',l',rfl,rfl,f1,f2,f3,f4,f5,f6,f7,f8,f9⟩:=h5
     all_goals go_roundg (gk - 1)
     all_goals first
      |omega
      |exact ⟨k+1,true,l',some ⟨go,0,none⟩,q,c0,by omega,by go_num,rfl,rfl,f1,f2,f3,f4,f5,f6,f7,f8,f9⟩
  ·go_wp2_with fail
   go_ret
   have hend:l=R:=by rw [<- HQ.out,List.drop_eq_nil_of_le (by have:=H.out.1;omega),secL]
   have e1:=HL.out
   subst hend
   subst e1
   exact ⟨A0,c0,rfl,OW.out,hb⟩
set_option linter.unusedVariables false
section
variable {P:Program} {w:World}
theorem wpList_app2 {ops:Array Oper} {rest:List Oper} {o:Oper} {a:Act} {Q:Exit->Act->World->Prop} (hgd:o.guard=none) (s x:Operand) (t:TypeId)
  (ho:o.op=.call { callee:=.builtin .append,args:=#[s,x],argTypes:=#[t,t] })
  {base e:Nat} {z:Value} {size bytes:Nat} (ht:P.underlying t=some (.slice e)) (hinfo:(P.info? e).map (fun i=>(i.zero,i.size,i.bytes))=some (some z,size,bytes))
  (hzs:z.cells.size=size) (hsz:0 < size) {A:Option Addr} {n c:Nat} {xs:List Value} (hs:a.eval s=.slice A n c) (hown:w.ownsRow base e size (.slice A n c) n xs)
  {A':Option Addr} {m c':Nat} {news:List Value} (hx:a.eval x=.slice A' m c') (hr:Rd w size A' m news) (h1:∀ u ∈ news,u.oneCell'=true)
  (hbytes:(n+m) * bytes<=140737488355328) (hby:0 < bytes) (hbase:base<=w.heap.size)
  (h:∀ A'' c'' w',w'.ownsRow base e size (.slice A'' (n+m) c'') (n+m) (xs++news)->w.grownBy w' (Value.slice A n c).ownBlock->((Value.slice A'' (n+m) c'').ownBlock=(Value.slice A n c).ownBlock ∨ ∀ b,(Value.slice A'' (n+m) c'').ownBlock=some b->w.heap.size<=b)->wpList P ops Q rest (a.put o.dst (.slice A'' (n+m) c'')) w'):wpList P ops Q (o :: rest) a w :=
 wpList_plain hgd fun K hK=>by
  obtain ⟨A'',c'',w',hrun,h2,h3,h4⟩:=run_app2 (P:=P) base t o.type e ht hinfo hzs hsz A n c xs hown A' m c' news hr h1 hbytes hby hbase
  unfold Oper.wp execOp
  simp only [ho,resolve,invoke,builtin,Sem.run_bind,Sem.run_pure,Result.andThen_ok,List.map_toArray,List.map_cons,List.map_nil,hs,hx,hrun]
  exact hK _ _ (h A'' c'' w' h2 h3 h4)
end
theorem secL_flat:∀ (gs:List Gt) (o:Bool) (acc:List (List Gt)),(o=true->acc ≠ [])->(secL o acc gs).flatten=acc.flatten++gs
 |[],o,acc,_=>by rw [secL];simp
 |g :: r,o,acc,h=>by
  rw [secL]
  split
  ·rename_i hh
   have ho:o=true:=by rw [Bool.and_eq_true] at hh;exact hh.1
   have hne:=h ho
   have hl:0 < acc.length:=List.length_pos_iff.2 hne
   have hne2:addLast acc g ≠ []:=by intro e;have:=congrArg List.length e;simp [addLast] at this;exact hne this
   rw [secL_flat r _ _ (fun _=>hne2)]
   obtain ⟨ini,last,rfl⟩:∃ ini last,acc=ini++[last]:=⟨acc.dropLast,acc.getLast hne,(List.dropLast_concat_getLast hne).symm⟩
   simp [addLast]
  ·rw [secL_flat r _ _ (fun _=>by simp)]
   simp
theorem secs_flat (gs:List Gt):(secs gs).flatten=gs:=by unfold secs;rw [secL_flat _ _ _ (by simp)];rfl
theorem secL_cnt:∀ (gs:List Gt) (o:Bool) (acc:List (List Gt)),(secL o acc gs).length<=acc.length+gs.length
 |[],o,acc=>by rw [secL];simp
 |g :: r,o,acc=>by
  rw [secL]
  split
  ·have:=secL_cnt r (ph g.k) (addLast acc g)
   simp only [addLast,List.length_set,List.length_cons] at this ⊢
   omega
  ·have:=secL_cnt r (ph g.k) (acc++[[g]])
   simp only [List.length_append,List.length_cons,List.length_nil] at this ⊢
   omega
theorem secs_cnt (gs:List Gt):(secs gs).length<=gs.length:=by have:=secL_cnt gs false [];simpa [secs] using this
def foldAllL (n:Int):List (List Gt)->List Gt->Int->List Gt × Int
 |[],acc,k=>(acc,k)
 |s :: r,acc,k=>foldAllL n r (acc++(foldP s n).1) ((k+(foldP s n).2) % 8)
def foldAllP (gs:List Gt) (n:Int):List Gt × Int:=foldAllL n (secs gs) [] 0
theorem foldAllL_len (n:Int):∀ (l:List (List Gt)) (acc:List Gt) (k:Int),(foldAllL n l acc k).1.length<=acc.length+2 * l.flatten.length
 |[],acc,k=>by rw [foldAllL];simp
 |s :: r,acc,k=>by
  rw [foldAllL]
  have h1:=foldAllL_len n r (acc++(foldP s n).1) ((k+(foldP s n).2) % 8)
  have h2:=foldP_len s n
  rw [List.length_append] at h1
  rw [List.flatten_cons,List.length_append]
  omega
theorem foldAllP_len (gs:List Gt) (n:Int):(foldAllP gs n).1.length<=2 * gs.length:=by
 have:=foldAllL_len n (secs gs) [] 0
 rw [secs_flat] at this
 simpa [foldAllP] using this
section
variable {α:Type} {cs:List α->List Value} {w w':World} {sz:Nat}
theorem OwnSS.grownLow {base eo ei g:Nat} {v:Value} {l:List (List α)} (h:OwnSS cs w base eo ei sz v l) (hg:w.grownBy w' (some g)) (hlt:g < base):OwnSS cs w' base eo ei sz v l:=by
 obtain ⟨vs,h1,h2,h3⟩:=h
 have ne:∀ {e n s:Nat} {u:Value} {xs:List Value},w.ownsRow base e s u n xs->u.ownBlock=none ∨ u.ownBlock ≠ some g:=fun ho=>by
  cases hk:Value.ownBlock _ with
  |none=>exact .inl rfl
  |some k=>exact .inr fun e=>by injection e with e;have:=(ho.lt k hk).1;omega
 refine ⟨vs,h1.kept hg (ne h1),fun j x hx=>?_,h3⟩
 obtain ⟨B,c,a1,a2⟩:=h2 j x hx
 exact ⟨B,c,a1,a2.kept hg (ne a2)⟩
end
theorem dr_row2 {a b c:World} {g:Nat} {row:Option Nat} (h:a.grownBy b (some g)) (k:b.grownBy c row) (hr:∀ i,row=some i->a.heap.size<=i ∨ i=g):a.grownBy c (some g):=by
 refine ⟨k.os.trans h.os,k.tape.trans h.tape,k.output.trans h.output,Nat.le_trans h.size k.size,fun i hi hne=>(k.block i (Nat.lt_of_lt_of_le hi h.size) ?_).trans (h.block i hi hne)⟩
 intro e
 rcases hr i e.symm with q | q
 ·omega
 ·exact hne (by rw [q])
theorem gr_below {a b c:World} {g:Nat} (h:a.grownBy b (some g)) (k:Below b.heap.size b c):a.grownBy c (some g) :=
 ⟨k.os.trans h.os,k.tape.trans h.tape,k.output.trans h.output,Nat.le_trans h.size k.size,fun i hi hne=>(k.block i (Nat.lt_of_lt_of_le hi h.size)).trans (h.block i hi hne)⟩
set_option maxRecDepth 100000 in
theorem i_FoldAllP (A:Option Addr) (n cap:Nat) (gs:List Gt) (N:Int) (w:World) (h:RdG w A n gs) (hn:n<=1073741824) :
  Calls Tryz.prog 20 #[.slice A n cap,.int .i64 N] w (RetGI (foldAllP gs N) w):=by
 have hz4:(Value.agg #[.int .i64 0,.int .i64 0,.int .i64 0,.int .i64 0]).cells.size=4:=rfl
 have B0:=zH ((Below.refl w.heap.size w).alloc zR (.cells #[] 39))
 have H:=zH (h.below B0.out)
 have hfl:=secs_flat gs
 have hgl:=h.1
 clear h
 obtain ⟨L,hL⟩:∃ L,secs gs=L:=⟨_,rfl⟩
 have hft:2 * L.flatten.length<=2147483648:=by rw [<- hL,hfl];omega
 have hcnt:L.length<=1073741824:=by rw [<- hL];have:=secs_cnt gs;omega
 obtain ⟨R,hR⟩:∃ R,foldAllP gs N=R:=⟨_,rfl⟩
 rw [hR]
 have HR:Hid (foldAllL N L [] 0=R):=zH (by rw [<- hR,<- hL];rfl)
 have HLL:=zH hL
 clear hR hL hfl hgl
 have OG:=zH (show (w.alloc (.cells #[] 39)).ownsRow w.heap.size 39 4 (.slice (some ⟨w.heap.size,0,none⟩) 0 0) 0 (cellsG []) from own0_bx zR (Bx.new w _ _))
 go_enter Tryz.func20,Tryz.ntmps20
 go_wp2_with fail
 refine (i_PhaseSections _ _ _ _ _ H.out hn).mono ?_
 rintro e wS ⟨A1,c1,rfl,oS,bS⟩
 rw [HLL.out] at oS ⊢
 obtain ⟨m,hm⟩:∃ m,L.length=m:=⟨_,rfl⟩
 rw [hm] at oS hcnt ⊢
 have HLm:=zH hm
 have SS:=zH (oS.base_ (base':=w.heap.size+1) (by simp))
 have O1:=zH (ownsRow_below OG.out bS)
 have hwS:w.heap.size+1<=wS.heap.size:=by have:=bS.size;simpa using this
 have BW:=zH (below_trans B0.out bS)
 clear oS bS OG hm
 go_wp2_with fail
 go_loopg [6,7,16] m (fun r s q i wr=>∃ (k:Nat) (A3:Option Addr) (c3:Nat) (acc:List Gt) (kk:Int),k+r=m/\i=.int .i64 k/\s=.slice A3 acc.length c3/\q=.int .i64 kk/\foldAllL N (L.drop k) acc kk=R/\acc.length+2 * (L.drop k).flatten.length<=2147483648/\wr.ownsRow w.heap.size 39 4 (.slice A3 acc.length c3) acc.length (cellsG acc)/\wS.grownBy wr (some w.heap.size)/\(∀ b,(Value.slice A3 acc.length c3).ownBlock=some b->wS.heap.size<=b ∨ b=w.heap.size)/\Below w.heap.size w wr)
 case atStart=>exact ⟨0,_,0,[],0,by omega,rfl,rfl,rfl,HR.out,by simpa using hft,O1.out,World.grownBy.refl _ _,fun b hb=>by simp [Value.ownBlock] at hb;omega,BW.out⟩
 case round =>
  clear O1 BW HR hft
  obtain ⟨k,A3,c3,acc,kk,hk,rfl,rfl,rfl,hf,hal,ho,hg,hbk,hb⟩:=hrel
  have HF:=zH hf
  have HO:=zH ho
  have HG:=zH hg
  have HBK:=zH hbk
  have HB:=zH hb
  have hbs:=hb.size
  have hgs:=hg.size
  clear hf ho hg hbk hb
  by_cases hlt:k < m
  ·have RS:=zH ((SS.out.grownLow HG.out (by omega)).rd HLm.out)
   obtain ⟨b,off,x,B,c,rfl,hbb,hd,c0,hxc,hx⟩:=RS.out.at_ hlt
   have HX:=zH (show RdG wr B x.length x from ⟨rfl,hx⟩)
   have HD:=zH hd
   have hxl:(L.drop k).flatten.length=x.length+(L.drop (k+1)).flatten.length:=by rw [hd,List.flatten_cons,List.length_append]
   have hfl:=foldP_len x N
   have hkI:(k:Int) < (m:Int):=by omega
   clear hd hx
   obtain ⟨⟨F,fk⟩,hfp⟩:∃ r,foldP x N=r:=⟨_,rfl⟩
   rw [hfp] at hfl
   have HFP:=zH hfp
   have hfl2:F.length<=2 * x.length:=hfl
   clear hfp hfl
   go_wp2_with fail
   refine (i_FoldP _ _ _ x N _ HX.out (by omega)).mono ?_
   rintro e w5 ⟨A5,c5,rfl,o5,b5⟩
   rw [HFP.out] at o5 ⊢
   dsimp only at o5 ⊢
   have O5:=zH o5
   have HO5:=zH (ownsRow_below HO.out b5)
   have hs5:=b5.size
   have HG5:=zH (gr_below HG.out b5)
   have HB5:=zH (below_trans HB.out b5)
   clear o5 b5
   go_wp2_with (at_builtin;refine wpList_app2 rfl (.tmp 26) (.tmp 27) 24 rfl Tryz.underlying24 infoGate hz4 (by decide) rfl HO5.out rfl (Rd.own O5.out) one_cellsG (by omega) (by decide) (by omega) ?_;intro A7 c7 w7 o7 g7 q7;have O7:=zH o7;have G7:=zH g7;have Q7:=zH q7;clear o7 g7 q7)
   refine (i_mod8 _ _).mono ?_
   rintro e w' ⟨rfl,rfl⟩
   rw [wrap_mod8]
   go_wp2_with fail
   go_roundg (gk - 1)
   case measure=>omega
   case rel =>
    have hlen:(acc++F).length=acc.length+F.length:=List.length_append
    refine ⟨k+1,A7,c7,acc++F,(kk+fk) % 8,by omega,by go_num,by rw [hlen],rfl,by rw [<- HF.out,HD.out,foldAllL,HFP.out],by omega,by rw [hlen,cellsG_append];exact O7.out,dr_row2 HG5.out G7.out HBK.out,?_,below_grown HB5.out HB5.out.size HO5.out zR G7.out⟩
    intro b hb
    rw [hlen] at hb
    rcases Q7.out with h1 | h1
    ·exact HBK.out b (by rw [<- h1];exact hb)
    ·exact .inl (by have:=h1 b hb;omega)
  ·have hE:(acc,kk)=R:=by
    have e:=HF.out
    rw [List.drop_eq_nil_of_le (by have:=HLm.out;omega)] at e
    exact e
   have HE:=zH hE
   clear hE
   go_wp2_with fail
   go_ret2
   rw [<- HE.out]
   exact ⟨A3,c3,rfl,HO.out,HB.out⟩
set_option maxRecDepth 100000 in
theorem s_FoldAllP (A:Option Addr) (n cap:Nat) (gs:List Gt) (N:Int) (w:World) (h:RdG w A n gs) (hn:n<=1073741824) :
  Calls Tryz.prog 28 #[.slice A n cap,.int .i64 N] w (RetGI (foldAllP gs N) w):=by
 have hz4:(Value.agg #[.int .i64 0,.int .i64 0,.int .i64 0,.int .i64 0]).cells.size=4:=rfl
 have B0:=zH ((Below.refl w.heap.size w).alloc zR (.cells #[] 39))
 have H:=zH (h.below B0.out)
 have hfl:=secs_flat gs
 have hgl:=h.1
 clear h
 obtain ⟨L,hL⟩:∃ L,secs gs=L:=⟨_,rfl⟩
 have hft:2 * L.flatten.length<=2147483648:=by rw [<- hL,hfl];omega
 have hcnt:L.length<=1073741824:=by rw [<- hL];have:=secs_cnt gs;omega
 obtain ⟨R,hR⟩:∃ R,foldAllP gs N=R:=⟨_,rfl⟩
 rw [hR]
 have HR:Hid (foldAllL N L [] 0=R):=zH (by rw [<- hR,<- hL];rfl)
 have HLL:=zH hL
 clear hR hL hfl hgl
 have OG:=zH (show (w.alloc (.cells #[] 39)).ownsRow w.heap.size 39 4 (.slice (some ⟨w.heap.size,0,none⟩) 0 0) 0 (cellsG []) from own0_bx zR (Bx.new w _ _))
 go_enter Tryz.func28,Tryz.ntmps28
 go_wp2_with fail
 refine (s_PhaseSections _ _ _ _ _ H.out hn).mono ?_
 rintro e wS ⟨A1,c1,rfl,oS,bS⟩
 rw [HLL.out] at oS ⊢
 obtain ⟨m,hm⟩:∃ m,L.length=m:=⟨_,rfl⟩
 rw [hm] at oS hcnt ⊢
 have HLm:=zH hm
 have SS:=zH (oS.base_ (base':=w.heap.size+1) (by simp))
 have O1:=zH (ownsRow_below OG.out bS)
 have hwS:w.heap.size+1<=wS.heap.size:=by have:=bS.size;simpa using this
 have BW:=zH (below_trans B0.out bS)
 clear oS bS OG hm
 go_wp2_with fail
 go_loopg [6,7,9] m (fun r s q i wr=>∃ (k:Nat) (A3:Option Addr) (c3:Nat) (acc:List Gt) (kk:Int),k+r=m/\i=.int .i64 k/\s=.slice A3 acc.length c3/\q=.int .i64 kk/\foldAllL N (L.drop k) acc kk=R/\acc.length+2 * (L.drop k).flatten.length<=2147483648/\wr.ownsRow w.heap.size 39 4 (.slice A3 acc.length c3) acc.length (cellsG acc)/\wS.grownBy wr (some w.heap.size)/\(∀ b,(Value.slice A3 acc.length c3).ownBlock=some b->wS.heap.size<=b ∨ b=w.heap.size)/\Below w.heap.size w wr)
 case atStart=>exact ⟨0,_,0,[],0,by omega,rfl,rfl,rfl,HR.out,by simpa using hft,O1.out,World.grownBy.refl _ _,fun b hb=>by simp [Value.ownBlock] at hb;omega,BW.out⟩
 case round =>
  clear O1 BW HR hft
  obtain ⟨k,A3,c3,acc,kk,hk,rfl,rfl,rfl,hf,hal,ho,hg,hbk,hb⟩:=hrel
  have HF:=zH hf
  have HO:=zH ho
  have HG:=zH hg
  have HBK:=zH hbk
  have HB:=zH hb
  have hbs:=hb.size
  have hgs:=hg.size
  clear hf ho hg hbk hb
  by_cases hlt:k < m
  ·have RS:=zH ((SS.out.grownLow HG.out (by omega)).rd HLm.out)
   obtain ⟨b,off,x,B,c,rfl,hbb,hd,c0,hxc,hx⟩:=RS.out.at_ hlt
   have HX:=zH (show RdG wr B x.length x from ⟨rfl,hx⟩)
   have HD:=zH hd
   have hxl:(L.drop k).flatten.length=x.length+(L.drop (k+1)).flatten.length:=by rw [hd,List.flatten_cons,List.length_append]
   have hfl:=foldP_len x N
   have hkI:(k:Int) < (m:Int):=by omega
   clear hd hx
   obtain ⟨⟨F,fk⟩,hfp⟩:∃ r,foldP x N=r:=⟨_,rfl⟩
   rw [hfp] at hfl
   have HFP:=zH hfp
   have hfl2:F.length<=2 * x.length:=hfl
   clear hfp hfl
   go_wp2_with fail
   refine (s_FoldP _ _ _ x N _ HX.out (by omega)).mono ?_
   rintro e w5 ⟨A5,c5,rfl,o5,b5⟩
   rw [HFP.out] at o5 ⊢
   dsimp only at o5 ⊢
   have O5:=zH o5
   have HO5:=zH (ownsRow_below HO.out b5)
   have hs5:=b5.size
   have HG5:=zH (gr_below HG.out b5)
   have HB5:=zH (below_trans HB.out b5)
   clear o5 b5
   go_wp2_with (at_builtin;refine wpList_app2 rfl (.tmp 30) (.tmp 31) 24 rfl Tryz.underlying24 infoGate hz4 (by decide) rfl HO5.out rfl (Rd.own O5.out) one_cellsG (by omega) (by decide) (by omega) ?_;intro A7 c7 w7 o7 g7 q7;have O7:=zH o7;have G7:=zH g7;have Q7:=zH q7;clear o7 g7 q7)
   refine (s_l32Rest _ _).mono ?_
   rintro e w' ⟨rfl,rfl⟩
   rw [wrap_mod8]
   go_wp2_with fail
   go_roundg (gk - 1)
   case measure=>omega
   case rel =>
    have hlen:(acc++F).length=acc.length+F.length:=List.length_append
    refine ⟨k+1,A7,c7,acc++F,(kk+fk) % 8,by omega,by go_num,by rw [hlen],rfl,by rw [<- HF.out,HD.out,foldAllL,HFP.out],by omega,by rw [hlen,cellsG_append];exact O7.out,dr_row2 HG5.out G7.out HBK.out,?_,below_grown HB5.out HB5.out.size HO5.out zR G7.out⟩
    intro b hb
    rw [hlen] at hb
    rcases Q7.out with h1 | h1
    ·exact HBK.out b (by rw [<- h1];exact hb)
    ·exact .inl (by have:=h1 b hb;omega)
  ·have hE:(acc,kk)=R:=by
    have e:=HF.out
    rw [List.drop_eq_nil_of_le (by have:=HLm.out;omega)] at e
    exact e
   have HE:=zH hE
   clear hE
   go_wp2_with fail
   go_ret2
   rw [<- HE.out]
   exact ⟨A3,c3,rfl,HO.out,HB.out⟩
end Go.Proofs.YtmenmibfkojnoaaGreat
