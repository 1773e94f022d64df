/- Plain facts on the search of the 24 words; contract of AllCliffordWords (impl). Contract of CliffordWord (impl), for valid tables of one qubit. -/
import Derived.Test.YtmenmibfkojnoaaGreatV34
import Derived.Deep.CutBlock
set_option maxHeartbeats 16000000
namespace Go.Proofs.YtmenmibfkojnoaaGreat
open Go.RowKit
set_option linter.unusedVariables false
def chkB2:Bool:=(List.range 25).all fun i=>decide ((bfsN i).1.length=(bfsN i).2.length) && (decide ((bfsN i).1=allW.take (bfsN i).1.length) && (decide ((bfsN i).2=allT.take (bfsN i).2.length) && (decide ((bfsN i).2.length<=24) && (decide (i=24) || decide (i < (bfsN i).1.length)))))
theorem chkB2_t:chkB2=true:=by decide +kernel
theorem bfs_at {i:Nat} (h:i<=24):(bfsN i).1.length=(bfsN i).2.length/\(bfsN i).1=allW.take (bfsN i).1.length/\(bfsN i).2=allT.take (bfsN i).2.length/\(bfsN i).2.length<=24/\(i=24 ∨ i < (bfsN i).1.length):=by
 have:=List.all_eq_true.1 chkB2_t i (List.mem_range.2 (by omega))
 simp only [Bool.and_eq_true,decide_eq_true_eq,Bool.or_eq_true] at this
 exact this
theorem bfs24:(bfsN 24).1=allW/\(bfsN 24).2=allT:=by
 unfold allW allT
 exact ⟨rfl,rfl⟩
theorem bfs_len24:(bfsN 24).1.length=24:=by rw [bfs24.1];exact allW_len
theorem stepB_pre (s:BSt) (i:Nat) (k:Int):s.1 <+: (stepB s i k).1/\s.2 <+: (stepB s i k).2:=by
 unfold stepB
 split
 ·exact ⟨List.prefix_refl _,List.prefix_refl _⟩
 ·exact ⟨List.prefix_append _ _,List.prefix_append _ _⟩
theorem stepsB_pre:∀ (l:List Int) (s:BSt) (i:Nat),s.1 <+: (stepsB s i l).1/\s.2 <+: (stepsB s i l).2
 |[],s,i=>⟨List.prefix_refl _,List.prefix_refl _⟩
 |k :: r,s,i=>by
  obtain ⟨a,b⟩:=stepB_pre s i k
  obtain ⟨c,d⟩:=stepsB_pre r (stepB s i k) i
  exact ⟨a.trans c,b.trans d⟩
theorem stepB_len {s:BSt} (i:Nat) (k:Int) (h:s.1.length=s.2.length):(stepB s i k).1.length=(stepB s i k).2.length:=by
 unfold stepB
 split
 ·exact h
 ·simp [h]
theorem mem_allT_ok {t:List Pq} (h:t ∈ allT):okT 1 t:=by
 obtain ⟨i,hi,e⟩:=List.mem_iff_getElem.1 h
 rw [allT_len] at hi
 have:=(allW_at hi).2.2.1
 rw [List.getD_eq_getElem?_getD,List.getElem?_eq_getElem (by rw [allT_len];exact hi),e] at this
 exact this
theorem mem_allW_ok {x:List Gt} (h:x ∈ allW):x.length<=4/\∀ g ∈ x,okN 1 g=true/\cliff g.k=true:=by
 obtain ⟨i,hi,e⟩:=List.mem_iff_getElem.1 h
 rw [allW_len] at hi
 obtain ⟨_,_,_,_,h5,h6⟩:=allW_at hi
 rw [List.getD_eq_getElem?_getD,List.getElem?_eq_getElem (by rw [allW_len];exact hi),e] at h5 h6
 refine ⟨h6,fun g hg=>?_⟩
 obtain ⟨a,b⟩:=h5 g hg
 rw [b]
 unfold kinds6 at a
 simp at a
 exact g1_ok (by omega)
def MidB (i:Nat) (s:BSt) (l:List Int):Prop:=stepsB s i l=bfsN (i+1)/\s.1.length=s.2.length/\i < s.1.length
theorem MidB.all {i:Nat} {s:BSt} {l:List Int} (h:MidB i s l) (hi:i < 24):(∀ x ∈ s.1,x ∈ allW)/\(∀ t ∈ s.2,t ∈ allT)/\s.2.length<=24:=by
 obtain ⟨h1,h2,h3⟩:=h
 obtain ⟨b1,b2,b3,b4,_⟩:=bfs_at (i:=i+1) (by omega)
 obtain ⟨p1,p2⟩:=stepsB_pre l s i
 rw [h1] at p1 p2
 refine ⟨fun x hx=>?_,fun t ht=>?_,?_⟩
 ·have:=p1.subset hx
  rw [b2] at this
  exact List.mem_of_mem_take this
 ·have:=p2.subset ht
  rw [b3] at this
  exact List.mem_of_mem_take this
 ·have:=p2.length_le
  omega
theorem MidB.start {i:Nat} (hi:i < 24):MidB i (bfsN i) kinds6:=by
 obtain ⟨b1,_,_,_,b5⟩:=bfs_at (i:=i) (by omega)
 exact ⟨rfl,b1,by omega⟩
theorem kinds6_drop {k:Nat} (h:k < 6):kinds6.drop k=((k:Int)+1) :: kinds6.drop (k+1):=by
 obtain rfl | rfl | rfl | rfl | rfl | rfl:k=0 ∨ k=1 ∨ k=2 ∨ k=3 ∨ k=4 ∨ k=5:=by omega
 all_goals rfl
theorem MidB.next {i k:Nat} {s:BSt} (h:MidB i s (kinds6.drop k)) (hk:k < 6):MidB i (stepB s i ((k:Int)+1)) (kinds6.drop (k+1)):=by
 obtain ⟨h1,h2,h3⟩:=h
 rw [kinds6_drop hk] at h1
 refine ⟨h1,stepB_len i _ h2,?_⟩
 have:=(stepB_pre s i ((k:Int)+1)).1.length_le
 omega
theorem MidB.done {i k:Nat} {s:BSt} (h:MidB i s (kinds6.drop k)) (hk:k=6):s=bfsN (i+1):=by
 subst hk
 exact h.1
theorem two_cells {w:World} {D:Option Addr} {d:Nat} {B:Nat} {t:List Pq} (h:w.ownsRow B 151 4 (.slice D 2 d) 2 (cellsG (pgs 1 t))):RdG w D 2 (pgs 1 t):=RdG.own h
theorem cont_snoc {l:List (List Pq)} {x u:List Pq}:(l++[x]).contains u=(l.contains u || decide (x=u)):=by
 rw [Bool.eq_iff_iff]
 simp only [List.contains_iff_mem,List.mem_append,List.mem_singleton,Bool.or_eq_true,decide_eq_true_eq]
 exact ⟨fun h=>h.imp id Eq.symm,fun h=>h.imp id Eq.symm⟩
theorem own_S2x {w':World} {base g:Nat} {e t:TypeId} {sz n:Nat} {v v0 v1 u0 u1:Value} {xs:List Value} (h:w'.ownsRow base e sz v n xs) (hB:Bx w' g t #[v0,v1]) (hne:e ≠ t):(S2 w' g u0 u1).ownsRow base e sz v n xs:=by
 have h1:Bx (w'.setCell ⟨g,0,none⟩ u0) g t #[u0,v1]:=by simpa using hB.set_ 0 u0
 exact own_farT (own_farT h hB hne 0 u0) h1 hne 1 u1
set_option maxRecDepth 100000 in
theorem i_AllW (w:World):Calls Tryz.prog 163 #[] w fun e w'=>∃ A c,e=.returned (.slice A 24 c)/\OwnW w' w.heap.size A 24 c allW/\Below w.heap.size w w':=by
 have hz2:(Value.agg #[.int .i64 0,.slice none 0 0]).cells.size=2:=rfl
 have hz1:(Value.slice none 0 0).cells.size=1:=rfl
 have hz4:(Value.agg #[.int .i64 0,.int .i64 0,.int .i64 0,.int .i64 0]).cells.size=4:=rfl
 have B0:=zH (show Below w.heap.size w ((w.alloc (.cells #[] 39)).alloc (.cells #[.slice (some ⟨w.heap.size,0,none⟩) 0 0] 24)) from (((zW).alloc zR _).alloc (by simp) _))
 have W0:=zH (show OwnW ((w.alloc (.cells #[] 39)).alloc (.cells #[.slice (some ⟨w.heap.size,0,none⟩) 0 0] 24)) w.heap.size (some ⟨w.heap.size+1,0,none⟩) 1 1 [[]] from ⟨rfl,[.slice (some ⟨w.heap.size,0,none⟩) 0 0],by
   have:=World.ownsRow_lit (base:=w.heap.size) (e:=24) (size:=1) (w.alloc (.cells #[] 39)) #[.slice (some ⟨w.heap.size,0,none⟩) 0 0] 1 (by simp) (by simp [maxLen]) rfl
   rw [World.size_alloc] at this
   exact this,fun k x hx=>by
   have hk:k < 1:=(List.getElem?_eq_some_iff.1 hx).1
   obtain rfl:k=0:=by omega
   injection hx with hx
   subst hx
   exact ⟨_,0,rfl,(World.ownsRow_lit w #[] 0 (by omega) (by simp [maxLen]) rfl).alloc _⟩⟩)
 go_enter Tryz.func163,Tryz.ntmps163
 go_wp2_with fail
 refine (i_IdTab 1 _ (by omega)).mono ?_
 rintro e w1 ⟨A0,c0,rfl,o1,b1⟩
 have lR:w.heap.size<=w1.heap.size:=Nat.le_trans B0.out.size b1.size
 have W1:=zH ((W0.out.below b1).alloc (.cells #[.int .i64 1,.slice A0 2 c0] 73))
 have B1:=zH ((below_trans' B0.out (by simp;omega) b1).alloc lR (.cells #[.int .i64 1,.slice A0 2 c0] 73))
 have T1:=zH (show OwnT (w1.alloc (.cells #[.int .i64 1,.slice A0 2 c0] 73)) w.heap.size (some ⟨w1.heap.size,0,none⟩) 1 1 [idT 1] from ⟨rfl,[.slice A0 2 c0],rfl,World.ownsRow_lit w1 #[.int .i64 1,.slice A0 2 c0] 1 lR (by simp [maxLen]) rfl,fun k x hx=>by
   have hk:k < 1:=(List.getElem?_eq_some_iff.1 hx).1
   obtain rfl:k=0:=by omega
   injection hx with hx
   subst hx
   exact ⟨_,c0,rfl,ownsRow_base (o1.alloc _) (by simp;omega)⟩⟩)
 clear o1 b1 W0 B0
 go_wp2_with fail
 go_loopg [1,2,3] 24 (fun g v1 v2 v3 wr=>∃ (i m:Nat) (A:Option Addr) (c:Nat) (A':Option Addr) (c':Nat),i+g=24/\v3=.int .i64 i/\v1=.slice A m c/\v2=.slice A' m c'/\OwnW wr w.heap.size A m c (bfsN i).1/\OwnT wr w.heap.size A' m c' (bfsN i).2/\Below w.heap.size w wr/\w.heap.size<=wr.heap.size)
 case atStart=>exact ⟨0,1,_,_,_,_,by omega,rfl,rfl,rfl,W1.out,T1.out,B1.out,by simp;omega⟩
 case round =>
  clear W1 T1 B1 lR
  obtain ⟨i,m,A,c,A',c',hi,rfl,rfl,rfl,hW,hT,hB,lR⟩:=hrel
  have HW:=zH hW
  have HT:=zH hT
  have HB:=zH hB
  by_cases hlt:i < 24
  ·have hm:i < m:=by have:=(MidB.start hlt).2.2;have:=hW.1;omega
   have hm24:m<=24:=by have:=(bfs_at (i:=i) (by omega)).2.2.2.1;have:=hT.1;omega
   have HM:=zH (MidB.start hlt)
   have imI:(i:Int) < (m:Int):=by omega
   clear hW hT hB
   obtain ⟨gq,rfl⟩:∃ q,q=gk:=⟨_,rfl⟩
   go_wp2_with fail
   go_loopg [1,2,4] 6 (fun g v1 v2 v4 ws=>∃ (k m:Nat) (s:BSt) (A:Option Addr) (c:Nat) (A':Option Addr) (c':Nat),k+g=6/\v4=.int .i64 ((k:Int)+1)/\v1=.slice A m c/\v2=.slice A' m c'/\MidB i s (kinds6.drop k)/\OwnW ws w.heap.size A m c s.1/\OwnT ws w.heap.size A' m c' s.2/\Below w.heap.size w ws/\w.heap.size<=ws.heap.size)
   case atStart=>exact ⟨0,m,_,_,_,_,_,by omega,rfl,rfl,rfl,HM.out,HW.out,HT.out,HB.out,lR⟩
   case round =>
    clear HW HT HB HM imI hm hm24 lR
    obtain ⟨k,m,s,A,c,A',c',hk,rfl,rfl,rfl,hM,hW,hT,hB,lR⟩:=hrel
    have HW:=zH hW
    have HT:=zH hT
    have HB:=zH hB
    have HM:=zH hM
    by_cases hk6:k < 6
    ·have hm24:m<=24:=by have:=(hM.all hlt).2.2;have:=hT.1;omega
     have him:i < m:=by have:=hM.2.2;have:=hW.1;omega
     have NX:=zH (hM.next hk6)
     obtain ⟨t,ht⟩:=get_lt (l:=s.2) (k:=i) (by rw [hT.1];exact him)
     obtain ⟨x,hx⟩:=get_lt (l:=s.1) (k:=i) (by rw [hW.1];exact him)
     have OKT:=zH (mem_allT_ok ((hM.all hlt).2.1 t (List.mem_of_getElem? ht)))
     have OKX:=zH (mem_allW_ok ((hM.all hlt).1 x (List.mem_of_getElem? hx)))
     obtain ⟨b,off,D,d,rfl,hbl,y0,y1,o1⟩:=hT.at_ ht
     obtain ⟨u,hu⟩:∃ u,appT 1 (g1 ((k:Int)+1)) t=u:=⟨_,rfl⟩
     have HU:=zH hu
     have HG:=zH (g1_ok (k:=(k:Int)+1) (by omega))
     have HX:=zH hx
     have HST:=zH (show stepB s i ((k:Int)+1)=if s.2.contains u=true then s else (s.1++[x++[g1 ((k:Int)+1)]],s.2++[u]) by
      have e1:s.2.getD i []=t:=by rw [List.getD_eq_getElem?_getD,ht];rfl
      have e2:s.1.getD i []=x:=by rw [List.getD_eq_getElem?_getD,hx];rfl
      unfold stepB
      rw [e1,e2,hu])
     have OT:=zH o1
     have imI:(i:Int) < (m:Int):=by omega
     have k61:(k:Int)+1<=6:=by omega
     have k10:(1:Int)<=(k:Int)+1:=by omega
     have HK:=zH hk
     clear hW hT hB hM ht hx hu o1 hk
     go_upto_region 9 with fail
     have TK:=fun (w5:World) (b5:Below wr.heap.size wr w5)=>(⟨(b5.cell (p:=⟨b,off+i * 2,none⟩) hbl).trans y0,(b5.cell (p:=⟨b,off+i * 2+1,none⟩) hbl).trans y1⟩:w5.cell? ⟨b,off+i * 2,none⟩=some (.int .i64 1)/\w5.cell? ⟨b,off+i * 2+1,none⟩=some (.slice D 2 d))
     have TK0:=TK _ (Below.refl wr.heap.size wr).drew
     have TR:=fun (w5:World) (b5:Below wr.heap.size wr w5)=>two_cells (ownsRow_below OT.out b5)
     have BA:=(Below.refl wr.heap.size wr).alloc zR (.cells #[.int .i64 0,.slice none 0 0] 73)
     go_cut [5] (fun s5 wx=>∃ P D5 d5,s5=.pointer (some ⟨P,0,none⟩)/\Bx wx P 73 #[.int .i64 1,.slice D5 2 d5]/\wx.ownsRow w.heap.size 151 4 (.slice D5 2 d5) 2 (cellsG (pgs 1 u))/\Below wr.heap.size wr wx)
     case first =>
      go_region_held3 (fun w'=>w'.cell? ⟨b,off+i * 2,none⟩=some (.int .i64 1)/\w'.cell? ⟨b,off+i * 2+1,none⟩=some (.slice D 2 d))
       (first
        |exact TK0
        |exact TK _ BA.drew
        |exact TK _ b5
        |exact TK _ b6
        |exact TK _ (b5.alloc b5.size _)
        |exact TK _ (b5.alloc b5.size _).drew
        |exact TK _ (b6.alloc b6.size _)
        |exact TK _ (b6.alloc b6.size _).drew
        |exact TK _ (belowS2 b6 zR _ _)
        |exact TK _ (belowS2 b6 b5.size _ _)
        |exact TK _ (belowS2 b6 zR _ _).drew
        |exact TK _ (belowS2 b6 b5.size _ _).drew
        |go_keep)
       (first
        |(go_at_call 85;refine (i_one _ _ _).mono ?_;rintro e w5 ⟨rfl,b50⟩;(first | (have b5:=below_trans (Below.refl wr.heap.size wr).drew b50) | (have b5:=below_trans BA.drew b50) | (have b5:=below_trans BA b50)))
        |(go_at_call 115;refine (i_TabApp 1 2 d D t (g1 ((k:Int)+1)) _ (by omega) (by first | exact TR _ b5 | exact TR _ (b5.alloc b5.size _) | exact TR _ (b5.alloc b5.size _).drew) (ownsRow_cap OT.out) OKT.out HG.out.1 HG.out.2).mono ?_;rw [HU.out];intro e w6 hret;obtain ⟨D5,d5,rfl,o6,b60⟩:=RetT1.of hret;clear hret;(first | (have b6:=below_trans b5 b60) | (have b6:=below_trans (b5.alloc b5.size (.cells #[.int .i64 0,.slice none 0 0] 73)) b60));(first | (have PB:Bx w6 wr.heap.size 73 #[.int .i64 0,.slice none 0 0]:=((Bx.new wr _ _).drew.below b50).below b60;obtain ⟨q0,q1,q2,q3⟩:=PB.two) | (have PB:Bx w6 w5.heap.size 73 #[.int .i64 0,.slice none 0 0]:=(Bx.new w5 _ _).below b60;obtain ⟨q0,q1,q2,q3⟩:=PB.two) | skip))
        |fail)
      all_goals go_wp2_with fail
      all_goals go_meet
      all_goals first
       |exact ⟨_,D5,d5,rfl,Bx.new _ _ _,ownsRow_base (o6.alloc _) (Nat.le_trans lR b5.size),b6.alloc b6.size _⟩
       |exact ⟨_,D5,d5,rfl,PB.set2 _ _,own_S2x (ownsRow_base o6 (Nat.le_trans lR b5.size)) PB (by decide),belowS2 b6 zR _ _⟩
       |exact ⟨_,D5,d5,rfl,PB.set2 _ _,own_S2x (ownsRow_base o6 (by have:=b5.size;simp;omega)) PB (by decide),belowS2 b6 b5.size _ _⟩
     case rest =>
      obtain ⟨P,D5,d5,rfl,hP,hO,hB5⟩:=hcut
      have W5:=zH (HW.out.below hB5)
      have T5:=zH (HT.out.below hB5)
      have B5:=zH (below_trans' HB.out lR hB5)
      have lR5:w.heap.size<=wc.heap.size:=Nat.le_trans lR hB5.size
      have P5:=zH hP
      have O5:=zH hO
      clear TK TK0 TR BA y0 y1 hP hO hB5 HW HT HB OT hbl lR
      obtain ⟨gp,rfl⟩:∃ q,q=gk:=⟨_,rfl⟩
      obtain ⟨w7,rfl⟩:∃ w7,w7=wc:=⟨_,rfl⟩
      obtain ⟨K,hK⟩:∃ K,s.2.contains u=K:=⟨_,rfl⟩
      have HKK:=zH hK
      go_upto_block 4 with fail
      go_cut [7] from 36 to 46 (fun v7 wx=>v7=.bool K/\Below w7.heap.size w7 wx)
      case first =>
       clear HST HU HG HX NX HM OKX
       go_wp2_with fail
       go_loopg [7,36] m (fun g v7 v36 wx=>∃ (j:Nat),j+g=m/\v36=.int .i64 j/\v7=.bool ((s.2.take j).contains u)/\Below w7.heap.size w7 wx)
       case atStart=>exact ⟨0,by omega,rfl,rfl,zW⟩
       case round =>
        obtain ⟨j,hj,rfl,rfl,hb⟩:=hrel
        have HBj:=zH hb
        by_cases hjm:j < m
        ·obtain ⟨tj,htj⟩:=get_lt (l:=s.2) (k:=j) (by rw [T5.out.1];exact hjm)
         obtain ⟨b',off',D',d',hA,hbl',y0,y1,o'⟩:=(T5.out.below hb).at_ htj
         have OJ:=zH o'
         have HSN:=zH (show (s.2.take (j+1)).contains u=((s.2.take j).contains u || decide (tj=u)) by rw [take_snocT htj,cont_snoc])
         have jmI:(j:Int) < (m:Int):=by omega
         obtain ⟨rfl,rfl⟩:b=b'/\off=off':=by injection hA with hA;injection hA with h1 h2;exact ⟨h1,h2⟩
         have PJ:=zH (fun (w5:World) (b5:Below w7.heap.size w7 w5)=>(P5.out.below b5).two)
         obtain ⟨p0,p1,_⟩:=PJ.out _ hb
         have PA:=(P5.out.below hb).alloc (.cells #[.int .i64 1,.slice D' 2 d'] 73)
         obtain ⟨p0',p1',_⟩:=PA.two
         clear hb htj o' hA PA
         cases hkn:(s.2.take j).contains u
         ·rw [hkn] at HSN
          go_wp2_with fail
          refine (i_EqTab 1 2 d' d5 D' D5 tj u _ ((two_cells OJ.out).alloc _) (((two_cells O5.out).below HBj.out).alloc _) (by omega)).mono ?_
          rintro e w8 ⟨rfl,b8⟩
          go_wp2_with fail
          go_roundg (gk - 1)
          all_goals first
           |omega
           |exact ⟨j+1,by omega,by go_num,by rw [HSN.out];rfl,below_trans (HBj.out.alloc HBj.out.size _) b8⟩
         ·rw [hkn] at HSN
          go_wp2_with fail
          go_roundg (gk - 1)
          all_goals first
           |omega
           |exact ⟨j+1,by omega,by go_num,by rw [HSN.out];rfl,HBj.out.alloc HBj.out.size _⟩
        ·obtain rfl:m=j:=by omega
         have hKj:(s.2.take m).contains u=K:=by rw [List.take_of_length_le (by rw [T5.out.1];exact zR)];exact HKK.out
         have HKJ:=zH hKj
         rw [hKj]
         clear hKj hb
         go_wp2_with fail
         go_meet
         exact ⟨rfl,HBj.out⟩
      case rest =>
       obtain ⟨rfl,hb9⟩:=hcut
       have W9:=zH (W5.out.below hb9)
       have T9:=zH (T5.out.below hb9)
       have B9:=zH (below_trans' B5.out lR5 hb9)
       have P9:=zH (P5.out.below hb9)
       have O9:=zH (ownsRow_below O5.out hb9)
       have lR9:w.heap.size<=wc.heap.size:=Nat.le_trans lR5 hb9.size
       clear W5 T5 B5 P5 O5 hb9 lR5
       obtain ⟨w9,rfl⟩:∃ w9,w9=wc:=⟨_,rfl⟩
       cases K
       ·have HS9:=zH (show stepB s i ((k:Int)+1)=(s.1++[x++[g1 ((k:Int)+1)]],s.2++[u]) by rw [HST.out,HKK.out,if_neg (by decide)])
        have NX2:=NX.out
        rw [HS9.out] at NX2
        have NX9:=zH NX2
        obtain ⟨bw,ow,Dx,dx,rfl,hbw,yw,ox⟩:=W9.out.at_ HX.out
        have OX:=zH ox
        have hx4:x.length<=4:=OKX.out.1
        clear NX2 hK ox
        go_wp2_with fail
        refine (i_copyGates Dx x.length dx x _ (RdG.own OX.out) (by omega)).mono ?_
        rintro e wA ⟨A6,c6,rfl,oA,bA⟩
        have OA:=zH oA
        have BA:=zH bA
        clear oA bA
        go_wp2_with fail
        refine (i_one _ _ _).mono ?_
        rintro e wB ⟨rfl,bB⟩
        have OB:=zH ((ownsRow_below OA.out bB).alloc (.cells #[.int .i64 ((k:Int)+1),.int .i64 0,.int .i64 0,.int .i64 0] 39))
        have BB:=zH ((below_trans BA.out bB).alloc (below_trans BA.out bB).size (.cells #[.int .i64 ((k:Int)+1),.int .i64 0,.int .i64 0,.int .i64 0] 39))
        clear OA BA bB yw
        have s9B:=BB.out.size
        simp only [World.size_alloc] at s9B
        have lR9':=lR9
        go_wp2_with (first
         |(at_builtin;refine wpList_app rfl (.tmp 54) (.tmp 57) 24 rfl Tryz.underlying24 infoGate hz4 (by decide) rfl OB.out rfl (Rd.lit wB 39 #[.int .i64 ((k:Int)+1),.int .i64 0,.int .i64 0,.int .i64 0] 1 4 rfl) (by simp [Value.oneCell']) (by omega) (by decide) (by simp<;>omega) ?_;intro A7 c7 wC oC gC;have BC:=zH (below_grown BB.out BB.out.size OB.out zR gC);have OC:=zH oC;clear oC gC;obtain ⟨hlw,vs,hv,hiw⟩:=(W9.out.below BC.out).alloc (.cells #[.slice A7 (x.length+1) c7] 24);have HV:=zH hv;have HI:=zH hiw;have HLW:=zH hlw;clear hv hiw hlw;have lRC:=Nat.le_trans lR9 BC.out.size)
         |(at_builtin;refine wpList_app rfl (.tmp 49) (.tmp 59) 42 rfl Tryz.underlying42 infoGs hz1 (by decide) rfl HV.out rfl (Rd.lit wC 24 #[.slice A7 (x.length+1) c7] 1 1 rfl) (by simp [Value.oneCell']) (by omega) (by decide) (by simp<;>omega) ?_;intro A8 c8 wD oD gD;have PD:=kept_app HV.out gD ((P9.out.below BC.out).alloc _) (by decide);obtain ⟨q0,q1,_⟩:=PD.two;have WD:=zH (OwnW.push (x:=x++[g1 ((k:Int)+1)]) (D:=A7) (d:=c7) HLW.out HV.out HI.out (by rw [List.length_append,cellsG_append];exact ownsRow_base (OC.out.alloc _) lR9) gD (by rw [List.length_append];exact oD));have TD:=zH (((T9.out.below BC.out).alloc _).grown HV.out (by decide) (by decide) gD);have OD:=zH (kept_ne ((ownsRow_below O9.out BC.out).alloc _) HV.out (by decide) gD);have BD:=zH (below_grown ((below_trans' B9.out lR9 BC.out).alloc lRC _) (by simp;omega) HV.out zR gD);have lRD:=Nat.le_trans (Nat.le_succ_of_le lRC) (by have:=gD.size;simpa using this);obtain ⟨hlt2,vt,h0t,hvt,hit⟩:=TD.out.alloc (.cells #[.int .i64 1,.slice D5 2 d5] 73);have HVT:=zH hvt;have HIT:=zH hit;have HLT:=zH hlt2;have H0T:=zH h0t;clear hvt hit hlt2 h0t PD oD gD)
         |(at_builtin;refine wpList_app rfl (.tmp 61) (.tmp 63) 179 rfl Tryz.underlying179 infoTb hz2 (by decide) rfl HVT.out rfl (Rd.lit wD 73 #[.int .i64 1,.slice D5 2 d5] 1 2 rfl) (by simp [Value.oneCell']) (by omega) (by decide) (by simp<;>omega) ?_;intro A9 c9 wE oE gE;have TE:=zH (OwnT.push (t:=u) HLT.out H0T.out HVT.out HIT.out (OD.out.alloc _) gE oE);have WE:=zH ((WD.out.alloc _).grown HVT.out (by decide) (by decide) gE);have BE:=zH (below_grown (BD.out.alloc lRD _) (by simp;omega) HVT.out zR gE);have lRE:=Nat.le_trans (Nat.le_succ_of_le lRD) (by have:=gE.size;simpa using this)))
        go_roundg (gp - 1)
        all_goals first
         |(have:=HK.out;omega)
         |exact ⟨k+1,m+1,_,_,_,_,_,by have:=HK.out;omega,by go_num,rfl,rfl,NX9.out,WE.out,TE.out,BE.out,lRE⟩
       ·have HS9:=zH (show stepB s i ((k:Int)+1)=s by rw [HST.out,HKK.out,if_pos rfl])
        have NX2:=NX.out
        rw [HS9.out] at NX2
        have NX9:=zH NX2
        clear NX2 hK
        go_wp2_with fail
        go_roundg (gp - 1)
        all_goals first
         |(have:=HK.out;omega)
         |exact ⟨k+1,m,s,_,_,_,_,by have:=HK.out;omega,by go_num,rfl,rfl,NX9.out,W9.out,T9.out,B9.out,lR9⟩
    ·obtain rfl:k=6:=by omega
     obtain rfl:gk=0:=by omega
     have hfin:=HM.out.done rfl
     have HW2:=zH (show OwnW wr w.heap.size A m c (bfsN (i+1)).1 by rw [<- hfin];exact HW.out)
     have HT2:=zH (show OwnT wr w.heap.size A' m c' (bfsN (i+1)).2 by rw [<- hfin];exact HT.out)
     clear hW hT hB hM hfin HM
     have h66:¬ ((6:Int)+1<=6):=by omega
     go_wp2_with fail
     go_roundg (gq - 1)
     all_goals first
      |omega
      |exact ⟨i+1,m,_,_,_,_,by omega,by go_num,rfl,rfl,HW2.out,HT2.out,HB.out,lR⟩
  ·obtain rfl:i=24:=by omega
   have hm:m=24:=by have:=hW.1;rw [bfs_len24] at this;omega
   subst hm
   have HE:=zH (show OwnW wr w.heap.size A 24 c allW by rw [<- bfs24.1];exact hW)
   clear hW hT hB
   go_wp2_with fail
   go_ret
   exact ⟨_,_,rfl,HE.out,HB.out⟩
theorem cw_at {r:List Pq} (h:okT 1 r):∃ K,K < 24/\allW[K]? = some (cw r)/\∀ k,k < 24->(allT.getD k []=r ↔ k=K):=by
 obtain ⟨K,hK,e⟩:=okT1_idx h
 have hidx:idxL r allT=K:=by rw [e];exact (allW_at hK).2.1
 refine ⟨K,hK,?_,fun k hk=>⟨fun hk2=>?_,fun hk2=>by rw [hk2];exact e.symm⟩⟩
 ·unfold cw
  rw [hidx,List.getD_eq_getElem?_getD,List.getElem?_eq_getElem (by rw [allW_len];exact hK)]
  rfl
 ·have:=(allW_at hk).2.1
  rw [hk2,hidx] at this
  exact this.symm
theorem allW_run {k:Nat} {x:List Gt} (h:allW[k]? = some x):k < 24/\runT 1 x (idT 1)=allT.getD k []:=by
 have hk:=(List.getElem?_eq_some_iff.1 h).1
 rw [allW_len] at hk
 have:=(allW_at hk).1
 rw [List.getD_eq_getElem?_getD,h] at this
 exact ⟨hk,this⟩
set_option maxRecDepth 100000 in
theorem i_Word (c:Nat) (A:Option Addr) (r:List Pq) (w:World) (hr:RdG w A 2 (pgs 1 r)) (hok:okT 1 r) :
  Calls Tryz.prog 133 #[.agg #[.int .i64 1,.slice A 2 c]] w (RetGT (cw r) w):=by
 have HR:=zH hr
 have X0:=zH (Bx.new w 73 #[.int .i64 1,.slice A 2 c])
 have B0:=zH (show Below w.heap.size w (w.alloc (.cells #[.int .i64 1,.slice A 2 c] 73)) from (zW).alloc zR _)
 obtain ⟨K,hK,hKW,hKT⟩:=cw_at hok
 have HKW:=zH hKW
 have HKT:=zH hKT
 clear hr hok hKW hKT
 go_enter Tryz.func133,Tryz.ntmps133
 go_wp2_with fail
 refine (i_AllW _).mono ?_
 rintro e w1 ⟨A1,c1,rfl,hW1,b1⟩
 have W1:=zH hW1
 have X1:=zH (X0.out.below b1)
 have B1:=zH (below_trans B0.out b1)
 have lb:=B0.out.size
 obtain ⟨R,hR⟩:∃ R,(w.alloc (.cells #[.int .i64 1,.slice A 2 c] 73)).heap.size=R:=⟨_,rfl⟩
 rw [hR] at W1 lb
 clear hW1 b1 hR X0 B0
 go_wp2_with fail
 go_loopg [10] 24 (fun g i wr=>∃ (k:Nat),k+g=24/\i=.int .i64 k/\k<=K/\OwnW wr R A1 24 c1 allW/\Bx wr w.heap.size 73 #[.int .i64 1,.slice A 2 c]/\Below w.heap.size w wr)
 case atStart=>exact ⟨0,by omega,rfl,by omega,W1.out,X1.out,B1.out⟩
 case round =>
  clear W1 X1 B1
  obtain ⟨k,hk,rfl,hkK,hW,hX,hB⟩:=hrel
  have hlt:k < 24:=by omega
  obtain ⟨x,hx⟩:=get_lt (l:=allW) (k:=k) (by rw [allW_len];exact hlt)
  obtain ⟨b,off,D,d,rfl,hbl,y0,o0⟩:=hW.at_ hx
  have HX:=zH hX
  have HB:=zH hB
  have HW:=zH hW
  have HO:=zH o0
  have OKX:=zH (mem_allW_ok (List.mem_of_getElem? hx))
  have HRUN:=zH (allW_run hx).2
  have HXX:=zH hx
  have hx4:x.length<=4:=OKX.out.1
  have k24:(k:Int) < 24:=by omega
  clear hW hX hB hx o0
  go_wp2_with fail
  refine (i_WordTab x.length d D x _ (RdG.own HO.out) (by omega) OKX.out.2).mono ?_
  rw [HRUN.out]
  rintro e w2 ⟨A2,c2,rfl,o2,b2⟩
  have HX2:=zH ((HX.out.below b2).alloc (.cells #[.int .i64 1,.slice A2 2 c2] 73))
  have HB2:=zH ((below_trans HB.out b2).alloc (below_trans HB.out b2).size (.cells #[.int .i64 1,.slice A2 2 c2] 73))
  have HW2:=zH ((HW.out.below b2).alloc (.cells #[.int .i64 1,.slice A2 2 c2] 73))
  have HO2:=zH (ownsRow_below HO.out (b2.alloc b2.size (.cells #[.int .i64 1,.slice A2 2 c2] 73)))
  have OT:=zH (o2.alloc (.cells #[.int .i64 1,.slice A2 2 c2] 73))
  obtain ⟨x0,x1,_⟩:=HX2.out.two
  clear o2 b2 HX HB HW HO y0
  go_wp2_with fail
  refine (i_EqTab 1 2 c2 c A2 A (allT.getD k []) r _ (two_cells OT.out) (HR.out.below HB2.out) (by omega)).mono ?_
  rintro e w3 ⟨rfl,b3⟩
  have HX3:=zH (HX2.out.below b3)
  have HB3:=zH (below_trans HB2.out b3)
  have HW3:=zH (HW2.out.below b3)
  have HO3:=zH (ownsRow_below HO2.out b3)
  clear b3 HX2 HB2 HW2 HO2 OT x0 x1
  by_cases he:k=K
  ·have hd:decide (allT.getD k []=r)=true:=decide_eq_true ((HKT.out k hlt).2 he)
   have hcw:x=cw r:=by have:=HXX.out;rw [he,HKW.out] at this;injection this with this;exact this.symm
   have HCW:=zH hcw
   rw [hd]
   clear hd hcw he
   go_wp2_with fail
   go_ret2
   rw [<- HCW.out]
   exact ⟨D,d,rfl,ownsRow_base HO3.out lb,HB3.out⟩
  ·have hd:decide (allT.getD k []=r)=false:=decide_eq_false (fun h=>he ((HKT.out k hlt).1 h))
   rw [hd]
   have hk2:k+1<=K:=by omega
   clear hd he
   go_wp2_with fail
   go_roundg (gk - 1)
   all_goals first
    |omega
    |exact ⟨k+1,by omega,by go_num,hk2,HW3.out,HX3.out,HB3.out⟩
end Go.Proofs.YtmenmibfkojnoaaGreat
