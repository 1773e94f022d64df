/- Contracts of OptimizeGates (spec and impl). -/
import Derived.Test.YtmenmibfkojnoaaGreatV52
set_option maxHeartbeats 16000000
namespace Go.Proofs.YtmenmibfkojnoaaGreat
open Go.RowKit
set_option linter.unusedVariables false
theorem opt_no {l:List Gt} {n:Int} {g:Gt} (hg:g ∈ l) (h:okG g.k g.a g.b g.c n=false):opt l n=l:=by
 unfold opt okAll
 rw [if_neg]
 intro h2
 rw [List.all_eq_true.1 h2 g hg] at h
 cases h
theorem opt_yes {l:List Gt} {n:Int} (h:okAll l n=true):opt l n=optN n ((cost l).toNat+1) l:=if_pos h
theorem optN_stay {n:Int} {m:Nat} {x y F:List Gt} (e:best x n=y) (h:cost x<=cost y) (hF:optN n (m+1) x=F):x=F:=by
 rw [optN,e,if_pos h] at hF;exact hF
theorem optN_go {n:Int} {m:Nat} {x y F:List Gt} (e:best x n=y) (h:¬ cost x<=cost y) (hF:optN n (m+1) x=F):optN n m y=F:=by
 rw [optN,e,if_neg h] at hF;exact hF
theorem cost_len (x:List Gt):(x.length:Int)<=cost x:=by
 induction x with
 |nil=>simp [cost]
 |cons g r ih=>simp only [cost,List.length_cons];rcases costK_cases g.k with ⟨_,h⟩ | ⟨_,h⟩ | ⟨_,h⟩<;>omega
theorem optN_len (n:Int):∀ (m:Nat) (l:List Gt),((optN n m l).length:Int)<=cost l
 |0,l=>cost_len l
 |m+1,l=>by
  rw [optN]
  split
  ·exact cost_len l
  ·have h1:=optN_len n m (best l n)
   have h2:=(best_len l n).2
   omega
theorem opt_len (l:List Gt) (n:Int):((opt l n).length:Int)<=cost l:=by
 unfold opt
 split
 ·exact optN_len n _ l
 ·exact cost_len l
set_option maxRecDepth 100000 in
theorem s_Opt (n:Int) (m c:Nat) (A:Option Addr) (l:List Gt) (w:World) (hr:RdG w A m l) (hm:m<=1048576) :
  Calls Tryz.prog 15 #[.slice A m c,.int .i64 n] w (Ret 39 4 (cellsG (opt l n)) (opt l n).length w):=by
 have hz4:(Value.agg #[.int .i64 0,.int .i64 0,.int .i64 0,.int .i64 0]).cells.size=4:=rfl
 have HW:=zH hr
 have HN:=zH hr.1
 have HC:=zH (show cost l<=1073741824 by have:=cost_bd l;have:=hr.1;omega)
 obtain ⟨F,hF⟩:∃ F,opt l n=F:=⟨_,rfl⟩
 have HF:=zH hF
 rw [hF]
 clear hr hF
 go_enter Tryz.func15,Tryz.ntmps15
 have OWN0:=zH (World.ownsRow_lit w #[] 0 (size:=4) (e:=39) zR (by simp [maxLen]) rfl)
 go_wp2_with (at_builtin;refine wpList_app0 rfl (.tmp 8) (.tmp 9) 24 rfl Tryz.underlying24 infoGate rfl (by decide) rfl OWN0.out rfl (HW.out.2.alloc _) one_cellsG (by omega) (by decide) (by simp) ?_;intro A1 c1 w1 o1 g1;have O1:=zH o1;have B1:Hid (Below w.heap.size w w1):=zH (below_grown ((zW).alloc zR _) (by simp) OWN0.out zR g1))
 clear OWN0 o1 g1
 go_loopg [6] m (fun g i wr=>∃ (k:Nat),k+g=m/\i=.int .i64 (k:Nat)/\okAllB (l.take k) n=true/\wr.ownsRow w.heap.size 39 4 (.slice A1 m c1) m (cellsG l)/\Below w.heap.size w wr)
 case atStart=>exact ⟨0,by omega,rfl,rfl,O1.out,B1.out⟩
 case round =>
  clear O1 B1
  obtain ⟨k,hk,rfl,hal,hO,hB⟩:=hrel
  have HAL:=zH hal
  have O1:=zH hO
  have B1:=zH hB
  have lw:=hB.size
  clear hal hO hB
  by_cases hlt:k < m
  ·obtain ⟨b,off,g,rfl,hbl,hd,d0,d1,d2,d3⟩:=(HW.out.below B1.out).at_ hlt
   have hgk:l[k]? = some g:=by
    have hlk:k < l.length:=by rw [HN.out];exact hlt
    rw [drop_cons hlk] at hd
    injection hd with hd _
    rw [List.getElem?_eq_getElem hlk,hd]
   have HGK:=zH hgk
   have kn:(k:Int) < (m:Int):=by omega
   clear hd hgk
   go_wp2_with fail
   refine (s_IsValidGate _ _ _ _ _ _).mono ?_
   rintro e w1 ⟨rfl,b1⟩
   have B3:=zH (B1.out.trans (b1.mono B1.out.size))
   have O3:=zH (ownsRow_below O1.out b1)
   have l1:=B3.out.size
   clear b1 O1 B1 d0 d1 d2 d3
   cases hv:okG g.k g.a g.b g.c n
   ·have HE:=zH (opt_no (List.mem_of_getElem? HGK.out) hv)
    clear hv
    go_wp2_with fail
    go_ret
    rw [<- HF.out,HE.out,HN.out]
    exact ⟨A1,c1,rfl,O3.out,B3.out⟩
   ·have HA2:=zH (okAll_snoc HGK.out hv HAL.out)
    clear hv
    go_wp2_with fail
    go_roundg (gk - 1)
    all_goals first
     |omega
     |exact ⟨k+1,by omega,by go_num,HA2.out,O3.out,B3.out⟩
  ·obtain rfl:k=m:=by omega
   have kn:¬ (k:Int) < (k:Int):=by omega
   have HK:=zH (opt_yes (show okAll l n=true by have:=HAL.out;rwa [List.take_of_length_le (by rw [HN.out];exact zR)] at this))
   obtain ⟨M,hM⟩:∃ M,(cost l).toNat=M:=⟨_,rfl⟩
   have HM:=zH hM
   have HO:=zH (show optN n (M+1) l=F by rw [<- hM,<- HK.out,HF.out])
   clear hM HK HF
   obtain ⟨wo,rfl⟩:∃ x,x=wr:=⟨_,rfl⟩
   go_wp2_with fail
   go_loopg [5] M (fun mm v wr=>∃ (j:Nat) (x:List Gt) (A3:Option Addr) (c3:Nat),x.length=j/\(cost x).toNat<=mm/\cost x<=1073741824/\optN n (mm+1) x=F/\v=.slice A3 j c3/\wr.ownsRow w.heap.size 39 4 (.slice A3 j c3) j (cellsG x)/\Below w.heap.size w wr)
   case atStart=>exact ⟨k,l,A1,c1,HN.out,by rw [HM.out];exact zR,HC.out,HO.out,rfl,O1.out,B1.out⟩
   case round =>
    clear O1 B1 HO HM HC HN HW HAL
    obtain ⟨j,x,A3,c3,hj,hc,hx,hO,rfl,ho,hB⟩:=hrel
    have HJ:=zH hj
    have HC:=zH hc
    have HX:=zH hx
    have HO:=zH hO
    have O1:=zH ho
    have B1:=zH hB
    have hjl:j<=1073741824:=by have:=cost_len x;omega
    have HR:=zH (show RdG wr A3 j x by have h:=ho;rw [<- hj] at h ⊢;exact RdG.own h)
    have hnb:=best_len x n
    have hnl:(best x n).length<=1073741824:=by omega
    have HNB:=zH hnb
    clear hj hc hx hO ho hB hnb
    go_wp2_with fail
    refine (s_Best n j c3 A3 x _ HR.out hjl).mono ?_
    obtain ⟨nx,hnx⟩:∃ nx,best x n=nx:=⟨_,rfl⟩
    have HNX:=zH hnx
    rw [hnx] at hnl HNB ⊢
    clear hnx
    rintro e w2 ⟨A4,c4,rfl,o4,b4⟩
    have O2:=zH (ownsRow_below O1.out b4)
    have HR2:=zH (HR.out.below b4)
    have O4:=zH (ownsRow_base o4 B1.out.size)
    have B4:=zH (B1.out.trans (b4.mono B1.out.size))
    clear o4 b4 O1 HR B1
    go_wp2_with fail
    refine (s_GateCost A4 nx.length c4 nx _ (RdG.own O4.out) (by omega)).mono ?_
    rintro e w3 ⟨rfl,b5⟩
    have O3:=zH (ownsRow_below O2.out b5)
    have HR3:=zH (HR2.out.below b5)
    have O5:=zH (ownsRow_below O4.out b5)
    have B5:=zH (B4.out.trans (b5.mono B4.out.size))
    clear b5 O2 HR2 O4 B4
    go_wp2_with fail
    refine (s_GateCost A3 j c3 x _ HR3.out (by omega)).mono ?_
    rintro e w4 ⟨rfl,b6⟩
    have O6:=zH (ownsRow_below O3.out b6)
    have O7:=zH (ownsRow_below O5.out b6)
    have B6:=zH (B5.out.trans (b6.mono B5.out.size))
    clear b6 O3 HR3 O5 B5
    by_cases hcc:cost x<=cost nx
    ·have HE:=zH (show x=F from optN_stay HNX.out hcc HO.out)
     have hcb:decide (cost x<=cost nx)=true:=decide_eq_true hcc
     have FIN:=zH (show Ret 39 4 (cellsG F) F.length w (.returned (.slice A3 j c3)) w4 from by
      rw [<- HE.out,HJ.out];exact ⟨A3,c3,rfl,O6.out,B6.out⟩)
     go_wp2_with fail
     go_ret
     exact FIN.out
    ·have hcb:decide (cost x<=cost nx)=false:=decide_eq_false hcc
     have h1:=HC.out
     have h2:=cost_bd nx
     obtain ⟨m',rfl⟩:∃ m',gk=m'+1:=⟨gk - 1,by omega⟩
     have FIN:=zH (show optN n (m'+1) nx=F from optN_go HNX.out hcc HO.out)
     have HL:=zH (show (cost nx).toNat<=m'/\cost nx<=1073741824 by have:=HX.out;omega)
     clear h1 h2
     go_wp2_with fail
     go_roundg m'
     all_goals first
      |omega
      |exact ⟨nx.length,nx,A4,c4,rfl,HL.out.1,HL.out.2,FIN.out,rfl,O7.out,B6.out⟩
set_option maxRecDepth 100000 in
theorem i_Opt (n:Int) (m c:Nat) (A:Option Addr) (l:List Gt) (w:World) (hr:RdG w A m l) (hm:m<=1048576) :
  Calls Tryz.prog 16 #[.slice A m c,.int .i64 n] w (Ret 39 4 (cellsG (opt l n)) (opt l n).length w):=by
 have hz4:(Value.agg #[.int .i64 0,.int .i64 0,.int .i64 0,.int .i64 0]).cells.size=4:=rfl
 have HW:=zH hr
 have HN:=zH hr.1
 have HC:=zH (show cost l<=1073741824 by have:=cost_bd l;have:=hr.1;omega)
 obtain ⟨F,hF⟩:∃ F,opt l n=F:=⟨_,rfl⟩
 have HF:=zH hF
 rw [hF]
 clear hr hF
 go_enter Tryz.func16,Tryz.ntmps16
 go_wp2_with fail
 refine (i_copyGates A m c l _ HW.out (by omega)).mono ?_
 rintro e w1 ⟨A1,c1,rfl,o1,b1⟩
 have O1:=zH (show w1.ownsRow w.heap.size 39 4 (.slice A1 m c1) m (cellsG l) from o1)
 have B1:=zH b1
 clear o1 b1
 go_wp2_with fail
 go_loopg [13] m (fun g i wr=>∃ (k:Nat),k+g=m/\i=.int .i64 (k:Nat)/\okAllB (l.take k) n=true/\wr.ownsRow w.heap.size 39 4 (.slice A1 m c1) m (cellsG l)/\Below w.heap.size w wr)
 case atStart=>exact ⟨0,by omega,rfl,rfl,O1.out,B1.out⟩
 case round =>
  clear O1 B1
  obtain ⟨k,hk,rfl,hal,hO,hB⟩:=hrel
  have HAL:=zH hal
  have O1:=zH hO
  have B1:=zH hB
  have lw:=hB.size
  clear hal hO hB
  by_cases hlt:k < m
  ·obtain ⟨b,off,g,rfl,hbl,hd,d0,d1,d2,d3⟩:=(HW.out.below B1.out).at_ hlt
   have hgk:l[k]? = some g:=by
    have hlk:k < l.length:=by rw [HN.out];exact hlt
    rw [drop_cons hlk] at hd
    injection hd with hd _
    rw [List.getElem?_eq_getElem hlk,hd]
   have HGK:=zH hgk
   have kn:(k:Int) < (m:Int):=by omega
   have GA:=zH (Bx.new wr 39 #[.int .i64 g.k,.int .i64 g.a,.int .i64 g.b,.int .i64 g.c])
   have O2:=zH (O1.out.alloc (.cells #[.int .i64 g.k,.int .i64 g.a,.int .i64 g.b,.int .i64 g.c] 39))
   have B2:=zH (B1.out.alloc lw (.cells #[.int .i64 g.k,.int .i64 g.a,.int .i64 g.b,.int .i64 g.c] 39))
   obtain ⟨g0,g1',g2,g3,_⟩:=GA.out.four
   clear hd hgk
   go_wp2_with fail
   refine (i_IsValidGate _ _ _ _ _ _).mono ?_
   rintro e w1 ⟨rfl,b1⟩
   have B3:=zH (B2.out.trans (b1.mono B2.out.size))
   have O3:=zH (ownsRow_below O2.out b1)
   have l1:=B3.out.size
   clear b1 GA O1 O2 B1 B2 g0 g1' g2 g3 d0 d1 d2 d3
   cases hv:okG g.k g.a g.b g.c n
   ·have HE:=zH (opt_no (List.mem_of_getElem? HGK.out) hv)
    clear hv
    go_wp2_with fail
    go_ret
    rw [<- HF.out,HE.out,HN.out]
    exact ⟨A1,c1,rfl,O3.out,B3.out⟩
   ·have HA2:=zH (okAll_snoc HGK.out hv HAL.out)
    clear hv
    go_wp2_with fail
    go_roundg (gk - 1)
    all_goals first
     |omega
     |exact ⟨k+1,by omega,by go_num,HA2.out,O3.out,B3.out⟩
  ·obtain rfl:k=m:=by omega
   have kn:¬ (k:Int) < (k:Int):=by omega
   have HK:=zH (opt_yes (show okAll l n=true by have:=HAL.out;rwa [List.take_of_length_le (by rw [HN.out];exact zR)] at this))
   obtain ⟨M,hM⟩:∃ M,(cost l).toNat=M:=⟨_,rfl⟩
   have HM:=zH hM
   have HO:=zH (show optN n (M+1) l=F by rw [<- hM,<- HK.out,HF.out])
   clear hM HK HF
   obtain ⟨wo,rfl⟩:∃ x,x=wr:=⟨_,rfl⟩
   go_wp2_with fail
   go_loopg [5] M (fun mm v wr=>∃ (j:Nat) (x:List Gt) (A3:Option Addr) (c3:Nat),x.length=j/\(cost x).toNat<=mm/\cost x<=1073741824/\optN n (mm+1) x=F/\v=.slice A3 j c3/\wr.ownsRow w.heap.size 39 4 (.slice A3 j c3) j (cellsG x)/\Below w.heap.size w wr)
   case atStart=>exact ⟨k,l,A1,c1,HN.out,by rw [HM.out];exact zR,HC.out,HO.out,rfl,O1.out,B1.out⟩
   case round =>
    clear O1 B1 HO HM HC HN HW HAL
    obtain ⟨j,x,A3,c3,hj,hc,hx,hO,rfl,ho,hB⟩:=hrel
    have HJ:=zH hj
    have HC:=zH hc
    have HX:=zH hx
    have HO:=zH hO
    have O1:=zH ho
    have B1:=zH hB
    have hjl:j<=1073741824:=by have:=cost_len x;omega
    have HR:=zH (show RdG wr A3 j x by have h:=ho;rw [<- hj] at h ⊢;exact RdG.own h)
    have hnb:=best_len x n
    have hnl:(best x n).length<=1073741824:=by omega
    have HNB:=zH hnb
    clear hj hc hx hO ho hB hnb
    go_wp2_with fail
    refine (i_Best n j c3 A3 x _ HR.out hjl).mono ?_
    obtain ⟨nx,hnx⟩:∃ nx,best x n=nx:=⟨_,rfl⟩
    have HNX:=zH hnx
    rw [hnx] at hnl HNB ⊢
    clear hnx
    rintro e w2 ⟨A4,c4,rfl,o4,b4⟩
    have O2:=zH (ownsRow_below O1.out b4)
    have HR2:=zH (HR.out.below b4)
    have O4:=zH (ownsRow_base o4 B1.out.size)
    have B4:=zH (B1.out.trans (b4.mono B1.out.size))
    clear o4 b4 O1 HR B1
    go_wp2_with fail
    refine (i_GateCost A4 nx.length c4 nx _ (RdG.own O4.out) (by omega)).mono ?_
    rintro e w3 ⟨rfl,b5⟩
    have O3:=zH (ownsRow_below O2.out b5)
    have HR3:=zH (HR2.out.below b5)
    have O5:=zH (ownsRow_below O4.out b5)
    have B5:=zH (B4.out.trans (b5.mono B4.out.size))
    clear b5 O2 HR2 O4 B4
    go_wp2_with fail
    refine (i_GateCost A3 j c3 x _ HR3.out (by omega)).mono ?_
    rintro e w4 ⟨rfl,b6⟩
    have O6:=zH (ownsRow_below O3.out b6)
    have O7:=zH (ownsRow_below O5.out b6)
    have B6:=zH (B5.out.trans (b6.mono B5.out.size))
    clear b6 O3 HR3 O5 B5
    by_cases hcc:cost x<=cost nx
    ·have HE:=zH (show x=F from optN_stay HNX.out hcc HO.out)
     have hcb:decide (cost x<=cost nx)=true:=decide_eq_true hcc
     have FIN:=zH (show Ret 39 4 (cellsG F) F.length w (.returned (.slice A3 j c3)) w4 from by
      rw [<- HE.out,HJ.out];exact ⟨A3,c3,rfl,O6.out,B6.out⟩)
     go_wp2_with fail
     go_ret
     exact FIN.out
    ·have hcb:decide (cost x<=cost nx)=false:=decide_eq_false hcc
     have h1:=HC.out
     have h2:=cost_bd nx
     obtain ⟨m',rfl⟩:∃ m',gk=m'+1:=⟨gk - 1,by omega⟩
     have FIN:=zH (show optN n (m'+1) nx=F from optN_go HNX.out hcc HO.out)
     have HL:=zH (show (cost nx).toNat<=m'/\cost nx<=1073741824 by have:=HX.out;omega)
     clear h1 h2
     go_wp2_with fail
     go_roundg m'
     all_goals first
      |omega
      |exact ⟨nx.length,nx,A4,c4,rfl,HL.out.1,HL.out.2,FIN.out,rfl,O7.out,B6.out⟩
end Go.Proofs.YtmenmibfkojnoaaGreat
