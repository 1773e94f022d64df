/- Contract of CliffordWord (spec), for valid tables of one qubit. Contract of CosetIndex (impl), for valid tables of one qubit. -/
import Derived.Test.YtmenmibfkojnoaaGreatV36
import Derived.Test.YtmenmibfkojnoaaGreatV34
import Derived.StillTailTactics
set_option maxHeartbeats 16000000
namespace Go.Proofs.YtmenmibfkojnoaaGreat
open Go.RowKit
set_option linter.unusedVariables false
theorem bfs_word {r:List Pq} {i j:Nat} (hok:okT 1 r) (hi:i<=24) (hj:(bfsN i).2[j]? = some r):(bfsN i).1[j]? = some (cw r):=by
 obtain ⟨K,hK,hKW,hKT⟩:=cw_at hok
 obtain ⟨b1,b2,b3,b4,_⟩:=bfs_at hi
 have hlt:=(List.getElem?_eq_some_iff.1 hj).1
 rw [b3,List.getElem?_take] at hj
 rw [if_pos hlt] at hj
 have hjK:j=K:=(hKT j (by omega)).1 (by rw [List.getD_eq_getElem?_getD,hj];rfl)
 rw [b2,List.getElem?_take,if_pos (by omega),hjK]
 exact hKW
set_option maxRecDepth 100000 in
theorem s_Word (c:Nat) (A:Option Addr) (r:List Pq) (w:World) (hr:RdG w A 2 (pgs 1 r)) (hok:okT 1 r) :
  Calls Tryz.prog 147 #[.agg #[.int .i64 1,.slice A 2 c]] w (RetGT (cw r) w):=by
 have HR:=zH hr
 have HOK:=zH hok
 have hz4:(Value.agg #[.int .i64 0,.int .i64 0,.int .i64 0,.int .i64 0]).cells.size=4:=rfl
 have X0:=zH (Bx.new w 73 #[.int .i64 1,.slice A 2 c])
 have B0:=zH (show Below w.heap.size w (w.alloc (.cells #[.int .i64 1,.slice A 2 c] 73)) from (zW).alloc zR _)
 clear hr hok
 go_enter Tryz.func147,Tryz.ntmps147
 go_wp2_with fail
 refine (s_IsTab 1 2 c A r _ (by omega) (HR.out.below B0.out) HOK.out).mono ?_
 rintro e w1 ⟨rfl,b1⟩
 have X1:=zH (X0.out.below b1)
 have B1:=zH (below_trans B0.out b1)
 clear b1 X0 B0
 obtain ⟨x0,x1,_⟩:=X1.out.two
 go_wp2_with fail
 refine (s_All c A r _ (HR.out.below B1.out) HOK.out).mono ?_
 rintro e w2 ⟨i,m,A1,c1,A2,c2,rfl,hi,hmem,hW,hT,b2⟩
 obtain ⟨j,hj,hj2⟩:=findT_yes _ 0 hmem
 rw [Nat.zero_add] at hj
 have HJ:=zH hj
 have HJW:=zH (bfs_word HOK.out hi hj2)
 have hm24:m<=24:=by have:=(bfs_at hi).2.2.2.1;have:=hT.1;omega
 have hjm:j < m:=by have:=(List.getElem?_eq_some_iff.1 hj2).1;have:=hT.1;omega
 have W2:=zH hW
 have T2:=zH hT
 have X2:=zH (X1.out.below b2)
 have B2:=zH (below_trans B1.out b2)
 have lb:=B1.out.size
 clear hW hT b2 hj hj2 hmem X1 B1 x0 x1
 obtain ⟨x0,x1,_⟩:=X2.out.two
 go_wp2_with fail
 refine (s_Find w1.heap.size m c2 c A2 A (bfsN i).2 r _ T2.out (by omega) (HR.out.below B2.out)).mono ?_
 rintro e w3 ⟨rfl,b3⟩
 rw [HJ.out]
 obtain ⟨b,off,D,d,rfl,hbl,y0,o0⟩:=(W2.out.below b3).at_ HJW.out
 have B3:=zH (below_trans B2.out b3)
 have O3:=zH o0
 have hc4:(cw r).length<=4:=by
  obtain ⟨K,hK,hKW,_⟩:=cw_at HOK.out
  exact (mem_allW_ok (List.mem_of_getElem? hKW)).1
 have jmI:(j:Int) < (m:Int):=by omega
 have y1:=(((Below.refl w3.heap.size w3).alloc zR (.cells #[] 39)).cell (p:=⟨b,off+j,none⟩) hbl).trans y0
 clear o0 b3 X2 B2 T2 W2 x0 x1
 go_wp2_with (at_builtin;refine wpList_mk0 rfl (.tmp 27) (.tmp 31) 24 rfl Tryz.underlying24 infoGate hz4 (base:=w3.heap.size) rfl (Bx.new' (by simp)) zR rfl ((Rd.own O3.out).alloc _) (by omega) (by decide) ?_;intro A4 c4 w4 o4 b4)
 go_ret2
 exact ⟨A4,c4,rfl,ownsRow_base o4 B3.out.size,below_trans (B3.out.alloc B3.out.size _) b4⟩
def fz:List Pq->Nat->Nat
 |[],k=>k
 |a :: r,k=>if a.x=0/\a.z=1 then k else fz r (k+1)
theorem coset_fz {r:List Pq} {a0 a1:Pq} (hok:okT 1 r) (h0:r[0]? = some a0) (h1:r[1]? = some a1):coset r=fz [a1,a0,conjT 1 r ⟨1,1,0⟩] 0/\coset r<=2:=by
 have h:=nf_facts hok
 unfold chkN1 at h
 simp only [Bool.and_eq_true,decide_eq_true_eq] at h
 obtain ⟨_,_,_,_,h5,h6,h7⟩:=h
 have e0:r.getD 0 ⟨0,0,0⟩=a0:=by rw [List.getD_eq_getElem?_getD,h0];rfl
 have e1:r.getD 1 ⟨0,0,0⟩=a1:=by rw [List.getD_eq_getElem?_getD,h1];rfl
 have ey:conjT 1 r ⟨1,1,0⟩=mulQ (mulQ ⟨0,0,0⟩ (r.getD 0 ⟨0,0,0⟩)) (r.getD 1 ⟨0,0,0⟩):=rfl
 rw [e0,e1] at h5 h7 ey
 refine ⟨?_,h6⟩
 rw [ey,fz,fz,fz,fz]
 by_cases c1:a1.x=0/\a1.z=1
 ·rw [if_pos c1];rw [if_pos c1] at h5;exact h5
 ·rw [if_neg c1]
  rw [if_neg c1] at h5
  by_cases c0:a0.x=0/\a0.z=1
  ·rw [if_pos c0];rw [if_pos c0] at h5;exact h5
  ·rw [if_neg c0]
   rw [if_neg c0] at h5
   rw [h5] at h7
   have:(mulQ (mulQ ⟨0,0,0⟩ a0) a1).x=0/\(mulQ (mulQ ⟨0,0,0⟩ a0) a1).z=1:=by simpa using h7
   rw [if_pos this]
   exact h5
theorem fz_step {l:List Pq} {k:Nat} {a:Pq} (h:l[k]? = some a):fz (l.drop k) k=if a.x=0/\a.z=1 then k else fz (l.drop (k+1)) (k+1):=by
 obtain ⟨hk,e⟩:=List.getElem?_eq_some_iff.1 h
 rw [drop_cons hk,e,fz]
set_option maxRecDepth 100000 in
theorem i_Coset (m c:Nat) (A:Option Addr) (r:List Pq) (w:World) (hr:RdG w A m (pgs 1 r)) (hmc:m<=c) (hok:okT 1 r) :
  Calls Tryz.prog 200 #[.agg #[.int .i64 1,.slice A m c]] w fun e w'=>e=.returned (.int .i64 (coset r:Nat))/\Below w.heap.size w w':=by
 have hm:m=2:=by rw [<- hr.1,pgs_len,hok.1]
 subst hm
 obtain ⟨b,off,rfl⟩:=hr.first (by omega)
 have HW:=zH hr
 have HR:=zH hok
 obtain ⟨a0,ha0⟩:=get_lt (l:=r) (k:=0) (by rw [hok.1];omega)
 obtain ⟨a1,ha1⟩:=get_lt (l:=r) (k:=1) (by rw [hok.1];omega)
 have X0:=zH (Bx.new w 73 #[.int .i64 1,.slice (some ⟨b,off,none⟩) 2 c])
 have B0:=zH (show Below w.heap.size w (w.alloc (.cells #[.int .i64 1,.slice (some ⟨b,off,none⟩) 2 c] 73)) from (zW).alloc zR _)
 have H0:=zH ha0
 have H1:=zH ha1
 obtain ⟨y,hy⟩:∃ y,conjT 1 r ⟨1,1,0⟩=y:=⟨_,rfl⟩
 have HY:=zH hy
 obtain ⟨K,hK⟩:∃ K,coset r=K:=⟨_,rfl⟩
 have HC:=zH (show fz ([a1,a0,y].drop 0) 0=K/\K<=2 by have:=coset_fz hok ha0 ha1;rw [hy,hK] at this;exact ⟨this.1.symm,this.2⟩)
 have HK:=zH hK
 clear hr hok ha0 ha1 hy hK
 obtain ⟨x0,x1,_⟩:=X0.out.two
 go_enter Tryz.func200,Tryz.ntmps200
 go_wp2_with fail
 refine (i_IsTab 1 2 c _ r _ (by omega) (HW.out.below B0.out) hmc HR.out).mono ?_
 rintro e w1 ⟨rfl,b1⟩
 have B1:=zH (below_trans B0.out b1)
 have X1:=zH (X0.out.below b1)
 clear b1 X0 B0 x0 x1
 obtain ⟨x0,x1,_⟩:=X1.out.two
 go_wp2_with fail
 refine (i_ConT 1 2 c _ r ⟨1,1,0⟩ y _ (by omega) (HW.out.below B1.out) hmc HR.out (by decide) HY.out).mono ?_
 rintro e w2 ⟨rfl,b2⟩
 have B2:=zH ((below_trans B1.out b2).alloc (below_trans B1.out b2).size (.cells #[.int .i64 1,.int .i64 (y.x:Nat),.int .i64 (y.z:Nat),.int .i64 (y.p:Nat)] 151))
 have X2:=zH ((X1.out.below b2).alloc (.cells #[.int .i64 1,.int .i64 (y.x:Nat),.int .i64 (y.z:Nat),.int .i64 (y.p:Nat)] 151))
 have Y2:=zH (Bx.new w2 151 #[.int .i64 1,.int .i64 (y.x:Nat),.int .i64 (y.z:Nat),.int .i64 (y.p:Nat)])
 clear b2 X1 B1 x0 x1
 go_upto_region 4 with fail
 obtain ⟨w3,hw3⟩:∃ x,w2.alloc (.cells #[.int .i64 1,.int .i64 (y.x:Nat),.int .i64 (y.z:Nat),.int .i64 (y.p:Nat)] 151)=x:=⟨_,rfl⟩
 rw [hw3] at B2 X2 Y2 ⊢
 clear hw3
 obtain ⟨_,u0,u1,u2,u3⟩:=(HW.out.below B2.out).drew.cellsAt (pgs_drop H0.out)
 obtain ⟨_,v0,v1,v2,v3⟩:=(HW.out.below B2.out).drew.cellsAt (pgs_drop H1.out)
 obtain ⟨z0,z1,z2,z3⟩:=Y2.out.drew.four4
 obtain ⟨x0,x1,_⟩:=X2.out.drew.two
 simp only [pg,Nat.zero_mul,Nat.one_mul,Nat.add_zero] at u0 u1 u2 u3 v0 v1 v2 v3
 go_cut [30,31,32] (fun v30 v31 v32 wx=>∃ P,v30=.slice (some ⟨P,0,none⟩) 3 3/\v31=.int .i64 3/\v32=.int .i64 0/\Bx wx P 151 (cellsG (pgs 1 [a1,a0,y])).toArray/\Below w.heap.size w wx)
 case first =>
  have TK:∀ (w':World),Below w3.heap.size w3 w'->((w'.cell? ⟨w.heap.size,1,none⟩=some (.slice (some ⟨b,off,none⟩) 2 c))/\((w'.cell? ⟨b,off,none⟩=some (.int .i64 1)/\w'.cell? ⟨b,off+1,none⟩=some (.int .i64 (a0.x:Nat))/\w'.cell? ⟨b,off+2,none⟩=some (.int .i64 (a0.z:Nat))/\w'.cell? ⟨b,off+3,none⟩=some (.int .i64 (a0.p:Nat)))/\((w'.cell? ⟨b,off+4,none⟩=some (.int .i64 1)/\w'.cell? ⟨b,off+4+1,none⟩=some (.int .i64 (a1.x:Nat))/\w'.cell? ⟨b,off+4+2,none⟩=some (.int .i64 (a1.z:Nat))/\w'.cell? ⟨b,off+4+3,none⟩=some (.int .i64 (a1.p:Nat)))/\(w'.cell? ⟨w2.heap.size,0,none⟩=some (.int .i64 1)/\w'.cell? ⟨w2.heap.size,1,none⟩=some (.int .i64 (y.x:Nat))/\w'.cell? ⟨w2.heap.size,2,none⟩=some (.int .i64 (y.z:Nat))/\w'.cell? ⟨w2.heap.size,3,none⟩=some (.int .i64 (y.p:Nat)))))):=fun w5 b5=>by
   obtain ⟨_,u0',u1',u2',u3'⟩:=(HW.out.below (below_trans B2.out b5)).cellsAt (pgs_drop H0.out)
   obtain ⟨_,v0',v1',v2',v3'⟩:=(HW.out.below (below_trans B2.out b5)).cellsAt (pgs_drop H1.out)
   obtain ⟨z0',z1',z2',z3'⟩:=(Y2.out.below b5).four4
   simp only [pg,Nat.zero_mul,Nat.one_mul,Nat.add_zero] at u0' u1' u2' u3' v0' v1' v2' v3'
   exact ⟨(X2.out.below b5).cell 1,⟨u0',u1',u2',u3'⟩,⟨v0',v1',v2',v3'⟩,z0',z1',z2',z3'⟩
  go_region_held3 (fun w'=>(w'.cell? ⟨w.heap.size,1,none⟩=some (.slice (some ⟨b,off,none⟩) 2 c))/\((w'.cell? ⟨b,off,none⟩=some (.int .i64 1)/\w'.cell? ⟨b,off+1,none⟩=some (.int .i64 (a0.x:Nat))/\w'.cell? ⟨b,off+2,none⟩=some (.int .i64 (a0.z:Nat))/\w'.cell? ⟨b,off+3,none⟩=some (.int .i64 (a0.p:Nat)))/\((w'.cell? ⟨b,off+4,none⟩=some (.int .i64 1)/\w'.cell? ⟨b,off+4+1,none⟩=some (.int .i64 (a1.x:Nat))/\w'.cell? ⟨b,off+4+2,none⟩=some (.int .i64 (a1.z:Nat))/\w'.cell? ⟨b,off+4+3,none⟩=some (.int .i64 (a1.p:Nat)))/\(w'.cell? ⟨w2.heap.size,0,none⟩=some (.int .i64 1)/\w'.cell? ⟨w2.heap.size,1,none⟩=some (.int .i64 (y.x:Nat))/\w'.cell? ⟨w2.heap.size,2,none⟩=some (.int .i64 (y.z:Nat))/\w'.cell? ⟨w2.heap.size,3,none⟩=some (.int .i64 (y.p:Nat))))))
   (first
    |exact ⟨x1,⟨u0,u1,u2,u3⟩,⟨v0,v1,v2,v3⟩,z0,z1,z2,z3⟩
    |exact TK _ (((Below.refl w3.heap.size w3).alloc zR _).drew)
    |exact TK _ (((Below.refl w3.heap.size w3).drew).alloc zR _)
    |go_keep)
   (fail)
  all_goals go_wp2_with fail
  all_goals go_meet
  all_goals first
   |exact ⟨_,rfl,rfl,rfl,(Bx.new _ _ _).drew,(B2.out.alloc B2.out.size _).drew⟩
   |exact ⟨_,rfl,rfl,rfl,Bx.new _ _ _,B2.out.alloc B2.out.size _⟩
 case rest =>
  obtain ⟨P,rfl,rfl,rfl,hP,hB⟩:=hcut
  clear u0 u1 u2 u3 v0 v1 v2 v3 z0 z1 z2 z3 x0 x1
  have PR:=zH (show RdG wc (some ⟨P,0,none⟩) 3 (pgs 1 [a1,a0,y]) from ⟨rfl,rfl,fun _=>⟨P,0,rfl,hP.lt,fun j u hu=>by rw [Nat.zero_add,hP.cell j,<- hu];simp⟩⟩)
  have BB:=zH hB
  clear hP hB
  go_wp2_with fail
  go_loopg [32] 3 (fun g i wr=>∃ (k:Nat),k+g=3/\i=.int .i64 k/\fz ([a1,a0,y].drop k) k=K/\Below wc.heap.size wc wr)
  case atStart=>exact ⟨0,by omega,rfl,HC.out.1,zW⟩
  case round =>
   obtain ⟨k,hk,rfl,hf,hb⟩:=hrel
   have HB:=zH hb
   by_cases hlt:k < 3
   ·obtain ⟨a,ha⟩:=get_lt (l:=[a1,a0,y]) (k:=k) hlt
    have HF:=zH (show (if a.x=0/\a.z=1 then k else fz ([a1,a0,y].drop (k+1)) (k+1))=K by rw [<- hf];exact (fz_step ha).symm)
    obtain ⟨_,u0,u1,u2,u3⟩:=(PR.out.below hb).cellsAt (pgs_drop ha)
    simp only [pg,Nat.zero_add] at u0 u1 u2 u3
    have k3:(k:Int) < 3:=by omega
    clear hf ha hb
    by_cases hx:a.x=0
    ·have hxb:(((a.x:Nat):Int) == 0)=true:=by simp;omega
     by_cases hz:a.z=1
     ·have hzb:(((a.z:Nat):Int) == 1)=true:=by simp;omega
      have HE:=zH (show k=K by have:=HF.out;rwa [if_pos ⟨hx,hz⟩] at this)
      clear hx hz
      go_wp2_with fail
      go_ret
      exact ⟨ret_int (by rw [HE.out,HK.out]),below_trans BB.out (HB.out.alloc HB.out.size _)⟩
     ·have hzb:(((a.z:Nat):Int) == 1)=false:=by simp;omega
      have HE:=zH (show fz ([a1,a0,y].drop (k+1)) (k+1)=K by have:=HF.out;rwa [if_neg (fun h=>hz h.2)] at this)
      clear hx hz
      go_wp2_with fail
      go_roundg (gk - 1)
      all_goals first
       |omega
       |exact ⟨k+1,by omega,by go_num,HE.out,HB.out.alloc HB.out.size _⟩
    ·have hxb:(((a.x:Nat):Int) == 0)=false:=by simp;omega
     have HE:=zH (show fz ([a1,a0,y].drop (k+1)) (k+1)=K by have:=HF.out;rwa [if_neg (fun h=>hx h.1)] at this)
     clear hx
     go_wp2_with fail
     go_roundg (gk - 1)
     all_goals first
      |omega
      |exact ⟨k+1,by omega,by go_num,HE.out,HB.out.alloc HB.out.size _⟩
   ·obtain rfl:k=3:=by omega
    have:=HC.out.2
    exact absurd hf (by show ¬ 3=K;omega)
end Go.Proofs.YtmenmibfkojnoaaGreat
