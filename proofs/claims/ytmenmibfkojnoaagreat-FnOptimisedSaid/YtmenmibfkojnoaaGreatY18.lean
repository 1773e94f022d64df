/- Polynomials in memory: rows of the call'. -/
import Derived.Test.YtmenmibfkojnoaaGreatY17
set_option maxHeartbeats 16000000
set_option maxRecDepth 100000
namespace Go.Proofs.YtmenmibfkojnoaaGreat
open Go.RowKit
theorem kz {W:World} {g base:Nat} {e:TypeId} {sz:Nat} (hb:base<=g) (h:Bx W g e #[]):W.ownsRow base e sz (.slice (some ⟨g,0,none⟩) 0 0) 0 [] :=
 ⟨zI,.inr ⟨g,0,#[],rfl,hb,h,zR,zI,zI,zI⟩⟩
section
variable {P:Program} {w:World}
theorem Dr (base:Nat) (t ty e:TypeId) {z:Value} {size bytes:Nat} (ht:P.underlying t=some (.slice e)) (hinfo:(P.info? e).map (fun i=>(i.zero,i.size,i.bytes))=some (some z,size,bytes))
  (hzs:z.cells.size=size) (g:Nat) (hbx:Bx w g e #[]) (hbase:base<=g)
  (A':Option Addr) (m c':Nat) (news:List Value) (hr:Rd w size A' m news) (hbytes:m * bytes<=140737488355328) (hby:0 < bytes) :
  ∃ A'' c'' w',(Builtin.append_ #[t,t] ty #[.slice (some ⟨g,0,none⟩) 0 0,.slice A' m c']).run P w=.ok (.slice A'' m c'') w'/\w'.ownsRow base e size (.slice A'' m c'') m news/\Below w w w':=by
 obtain ⟨i,hi,hz,hs,hb⟩:=info_parts hinfo;subst hs hb;have hm63:m<=140737488355328:=Nat.le_trans (Nat.le_mul_of_pos_right m hby) hbytes;have hlt:=hbx.lt;by_cases hm:m=0
 ·subst hm;have hn:news=[]:=List.eq_nil_of_length_eq_zero (by simpa using hr.1);subst hn;refine ⟨some ⟨g,0,none⟩,0,w,?_,kz hbase hbx,zW⟩;cases A' with
  |none=>simp [Builtin.append_,run_underlying ht,sizeOf,typeInfo,hi,Builtin.lenOf,Builtin.firstCells,storeCells]
  |some ad=>simp [Builtin.append_,run_underlying ht,sizeOf,typeInfo,hi,Builtin.lenOf,Builtin.firstCells,storeCells,loadCells,loadCellsFrom]
 ·obtain ⟨b,off,hA,hbl,hc⟩:=hr.2 zO;subst hA;have hnews:∀ j u,news[j]? = some u->w.cell? ((⟨b,off,none⟩:Addr).add j)=some u:=by
   intro j u hu;have:=hc j u hu;unfold Addr.add;split
   ·subst j;simpa using this
   ·exact this
  have hfit:=growslice_fits (need:=0+m) (old:=0) (bytes:=i.bytes) zO (by simpa using hbytes);have hrun:=run_append_grow (P:=P) w t ty e i z ht hi hz ⟨g,0,none⟩ 0 0 [] zI (fun j u h=>by simp at h) ⟨b,off,none⟩ m c' news hr.1 hnews zO zO hfit;have hge:=grownCap_ge w (0+m) 0 e;have hcm:grownCap w (0+m) 0 e<=maxLen:=grownCap_le_maxLen w (0+m) 0 e (by simp only [maxLen];omega);rw [Nat.zero_add] at hrun hge hcm;refine ⟨_,_,_,hrun,⟨hr.1,.inr ⟨w.heap.size,_,_,rfl,zO,heap_alloc_new w.drew _,hge,hcm,?_,?_⟩⟩,((zW).drew.alloc zR _)⟩
  ·simp only [Array.size_append,List.size_toArray,size_zeroCells,hzs,List.length_nil,Nat.zero_add,hr.1,<- Nat.add_mul];congr 1;omega
  ·simp only [Array.toList_append,List.nil_append];rw [<- hr.1];exact List.take_left
theorem eT {ops:Array Oper} {o:Oper} {a:Act} {K:Act->World->Prop} {Q:Exit->Act->World->Prop} {E:Prop} (hgd:o.guard=none) (s x:Operand) (t:TypeId)
  (ho:o.op=.call { callee:=.builtin .append,args:=#[s,x],argTypes:=#[t,t] })
  {base e:Nat} {z:Value} {size bytes:Nat} (ht:P.underlying t=some (.slice e)) (hinfo:(P.info? e).map (fun i=>(i.zero,i.size,i.bytes))=some (some z,size,bytes))
  (hzs:z.cells.size=size) {g:Nat} (hs:a.eval s=.slice (some ⟨g,0,none⟩) 0 0) (hbx:Bx w g e #[]) (hbase:base<=g)
  {A':Option Addr} {m c':Nat} {news:List Value} (hx:a.eval x=.slice A' m c') (hr:Rd w size A' m news)
  (hbytes:m * bytes<=140737488355328) (hby:0 < bytes)
  (h:∀ A'' c'' w',w'.ownsRow base e size (.slice A'' m c'') m news->Below w w w'->K (a.put o.dst (.slice A'' m c'')) w') :
  if Region.wanted o (yielded ops a.tmps)=true then Oper.wp P o a w K Q else E:=by
 have hw:Region.wanted o (yielded ops a.tmps)=true:=by simp [Region.wanted,hgd]
 rw [if_pos hw];obtain ⟨A'',c'',w',hrun,h2,h3⟩:=Dr (P:=P) base t o.type e ht hinfo hzs g hbx hbase A' m c' news hr hbytes hby
 unfold Oper.wp execOp;simp only [ho,resolve,invoke,builtin,Sem.run_bind,Sem.run_pure,Result.andThen_ok,List.map_toArray,List.map_cons,List.map_nil,hs,hx,hrun];exact h A'' c'' w' h2 h3
end
theorem eH {a W:World} {o:Obj} (h:Below a.heap.size a W):Below a.heap.size a (W.alloc o).drew:=(h.alloc h.size o).drew
theorem kA {W:World} {i:Nat} {t:TypeId} {cs:Array Value} (h:i=W.heap.size):Bx (W.alloc (.cells cs t)).drew i t cs:=(Bx.new' h).drew
theorem mH {W:World} {o:Obj} {i:Nat} {t:TypeId} {cs:Array Value} (h:Bx W i t cs):Bx (W.alloc o).drew i t cs:=(h.alloc o).drew
theorem ce {a W:World} {o:Obj} (h:Below a.heap.size a W):Below a.heap.size a (W.alloc o):=h.alloc h.size o
theorem Nj {w':World} {g t:Nat} {a b c d:Value} (h:Bx w' g t #[a,b,c,d]) :
  w'.cell? ⟨g,0,none⟩=some a/\w'.cell? ⟨g,1,none⟩=some b/\w'.cell? ⟨g,2,none⟩=some c/\w'.cell? ⟨g,3,none⟩=some d/\True:=by
 obtain ⟨p0,p1,p2,p3,_⟩:=h.four;exact ⟨p0,p1,p2,p3,trivial⟩
theorem mQ {w':World} {g t g1:Nat} {cs:Array Value} {a b c d:Value} (h:Bx w' g t cs) (hne:g ≠ g1):Bx ((((w'.setCell ⟨g1,0,none⟩ a).setCell ⟨g1,1,none⟩ b).setCell ⟨g1,2,none⟩ c).setCell ⟨g1,3,none⟩ d) g t cs :=
 (((h.far hne _).far hne _).far hne _).far hne _
theorem Bx.s0 {w:World} {g t:Nat} {a b c d:Value} (h:Bx w g t #[a,b,c,d]) (x:Value):Bx (w.setCell ⟨g,0,none⟩ x) g t #[x,b,c,d]:=by simpa using h.set_ 0 x
theorem Bx.s1 {w:World} {g t:Nat} {a b c d:Value} (h:Bx w g t #[a,b,c,d]) (x:Value):Bx (w.setCell ⟨g,1,none⟩ x) g t #[a,x,c,d]:=by simpa using h.set_ 1 x
theorem Bx.s2 {w:World} {g t:Nat} {a b c d:Value} (h:Bx w g t #[a,b,c,d]) (x:Value):Bx (w.setCell ⟨g,2,none⟩ x) g t #[a,b,x,d]:=by simpa using h.set_ 2 x
theorem Bx.s3 {w:World} {g t:Nat} {a b c d:Value} (h:Bx w g t #[a,b,c,d]) (x:Value):Bx (w.setCell ⟨g,3,none⟩ x) g t #[a,b,c,x]:=by simpa using h.set_ 3 x
theorem yB {B:Nat} {w w':World} {p:Addr} {u:Value} {o:Obj} (h:Below B w w') (hp:B<=p.block) (hB:B<=w'.heap.size):Below B w ((w'.setCell p u).alloc o) :=
 (h.setCell hp _).alloc (by simpa [World.setCell] using hB) _
theorem aW {w':World} {base g1:Nat} {e:TypeId} {sz n:Nat} {v:Value} {xs:List Value} {a b c d:Value} (h:w'.ownsRow base e sz v n xs) (hg:g1 < base):((((w'.setCell ⟨g1,0,none⟩ a).setCell ⟨g1,1,none⟩ b).setCell ⟨g1,2,none⟩ c).setCell ⟨g1,3,none⟩ d).ownsRow base e sz v n xs :=
 fZ (fZ (fZ (fZ h (p:=⟨g1,0,none⟩) hg a) (p:=⟨g1,1,none⟩) hg b) (p:=⟨g1,2,none⟩) hg c) (p:=⟨g1,3,none⟩) hg d
theorem aF {w w':World} {B g1:Nat} {a b c d:Value} (h:Below B w w') (hg:B<=g1):Below B w ((((w'.setCell ⟨g1,0,none⟩ a).setCell ⟨g1,1,none⟩ b).setCell ⟨g1,2,none⟩ c).setCell ⟨g1,3,none⟩ d) :=
 (((h.setCell hg _).setCell hg _).setCell hg _).setCell hg _
theorem dN {P:Program} {w:World} {ops:Array Oper} {rest:List Oper} {o:Oper} {a:Act} {Q:Exit->Act->World->Prop} (hgd:o.guard=none) (s x:Operand) (t:TypeId)
  (ho:o.op=.call { callee:=.builtin .append,args:=#[s,x],argTypes:=#[t,t] })
  {base e:Nat} {z:Value} {size bytes:Nat} (ht:P.underlying t=some (.slice e)) (hinfo:(P.info? e).map (fun i=>(i.zero,i.size,i.bytes))=some (some z,size,bytes))
  (hzs:z.cells.size=size) {g:Nat} (hs:a.eval s=.slice (some ⟨g,0,none⟩) 0 0) (hbx:Bx w g e #[]) (hbase:base<=g)
  {A':Option Addr} {m c':Nat} {news:List Value} (hx:a.eval x=.slice A' m c') (hr:Rd w size A' m news)
  (hbytes:m * bytes<=140737488355328) (hby:0 < bytes)
  (h:∀ A'' c'' w',w'.ownsRow base e size (.slice A'' m c'') m news->Below w w w'->wpList P ops Q rest (a.put o.dst (.slice A'' m c'')) w'):wpList P ops Q (o :: rest) a w :=
 wpList_plain hgd fun K hK=>by
  obtain ⟨A'',c'',w',hrun,h2,h3⟩:=Dr (P:=P) base t o.type e ht hinfo hzs g hbx hbase A' m c' news hr hbytes hby
  unfold Oper.wp execOp;simp only [ho,resolve,invoke,builtin,Sem.run_bind,Sem.run_pure,Result.andThen_ok,List.map_toArray,List.map_cons,List.map_nil,hs,hx,hrun];exact hK _ _ (h A'' c'' w' h2 h3)
theorem OwnPoly.below {wx w':World} {base:Nat} {N H:Int} {t o:List (Int × Int)} {v:Value} (h:OwnPoly wx base N H t o v) (hb:Below wx wx w'):OwnPoly w' base N H t o v:=by
 obtain ⟨AT,cT,AO,cO,e,h1,h2⟩:=h;exact ⟨AT,cT,AO,cO,e,ab h1 hb,ab h2 hb⟩
theorem iZ (N H:Int) (AT:Option Addr) (nT cT:Nat) (t:List (Int × Int)) (AO:Option Addr) (nO cO:Nat) (o:List (Int × Int)) (w:World) (hT:RdP w AT nT t) (hO:RdP w AO nO o) (hnT:nT<=1099511627776) (hnO:nO<=1099511627776) :
  Calls Tryz.prog 124 #[.agg #[N,H,.slice AT nT cT,.slice AO nO cO]] w (qM N H t o w):=by
 have HT:=zH hT;have HO:=zH hO;have hz2:(Value.agg #[(0:Int),(0:Int)]).cells.size=2:=rfl;clear hT hO;go_enter Tryz.func124,Tryz.ntmps124;go_wp2_with fail;have X0:=zH (show Bx ((w.alloc (.cells #[N,H,.slice AT nT cT,.slice AO nO cO] 88)).alloc ZO.zP) w.heap.size 88 _ from (Bx.new w _ _).alloc _);have X1:=zH (show Bx ((w.alloc (.cells #[N,H,.slice AT nT cT,.slice AO nO cO] 88)).alloc ZO.zP) (w.heap.size+1) 88 _ from Bx.new' zI);have RT:=zH ((HT.out.2.alloc (.cells #[N,H,.slice AT nT cT,.slice AO nO cO] 88)).alloc ZO.zP);have RO:=zH ((HO.out.2.alloc (.cells #[N,H,.slice AT nT cT,.slice AO nO cO] 88)).alloc ZO.zP);have BZ:Hid (Below w w ((w.alloc (.cells #[N,H,.slice AT nT cT,.slice AO nO cO] 88)).alloc ZO.zP)):=zH (((zW).alloc zR _).alloc zI _);generalize (w.alloc (.cells #[N,H,.slice AT nT cT,.slice AO nO cO] 88)).alloc ZO.zP=wz at X0 X1 RT RO BZ ⊢;generalize hg1:w.heap.size+1=g1 at X1 ⊢
 generalize hg0:w.heap.size=g0 at X0 hg1 ⊢;have hne:g0 ≠ g1:=zO;have hg1w:g1 < wz.heap.size:=X1.lt;have hbw:w.heap.size<=wz.heap.size:=BZ.size;have hgg:w.heap.size<=g1:=zO
 go_region_held3 (fun w'=>w'.cell? ⟨g0,0,none⟩=some (.int .i64 N)/\w'.cell? ⟨g0,1,none⟩=some (.int .i64 H)/\w'.cell? ⟨g0,2,none⟩=some (.slice AT nT cT)/\w'.cell? ⟨g0,3,none⟩=some (.slice AO nO cO)/\True)
  (first
   |with_reducible exact Nj ((X0.out.below z3).alloc _)
   |with_reducible exact Nj ((X0.out.below z4).alloc _)
   |with_reducible exact Nj (X0.out.below z3)
   |with_reducible exact Nj (X0.out.below z4)
   |with_reducible exact Nj X0.out.drew
   |with_reducible exact Nj (X0.out.alloc _).drew
   |with_reducible exact Nj ((X0.out.alloc _).alloc _).drew
   |with_reducible exact Nj (mQ (X0.out.below z3) hne)
   |with_reducible exact Nj (mQ (X0.out.below z4) hne))
  (first
   |(refine eT zF (.tmp 7) (.tmp 9) 85 zF Tryz.underlying85 bN hz2 (base:=wz.heap.size) (news:=aj t) rfl ?_ ?_ rfl ?_ zO zD ?_;(first | with_reducible exact kA zI | with_reducible exact Bx.new' zI | with_reducible exact mH (Bx.new' zI) | with_reducible exact Bx.below (kA zI) b4 | with_reducible exact Bx.below (mH (Bx.new' zI)) b4);(first | exact zR | exact Nat.le_succ _ | exact z4.size);(first | with_reducible exact RT.out.below z4 | with_reducible exact RT.out.below (ce z4) | with_reducible exact Rd.drew (RT.out.alloc _) | with_reducible exact Rd.drew ((RT.out.alloc _).alloc _));intro A3 c3 w3 o3 b3;(first | (with_reducible have z3:=aa (eH (Below.refl _ wz)) b3) | (with_reducible have z3:=aa (eH (ce (Below.refl _ wz))) b3) | (with_reducible have z3:=aa (ce z4) b3) | (with_reducible have z3:=aa z4 b3));(first | (with_reducible have p4:=ab o4 b3) | (with_reducible have p4:=ab (World.ownsRow.alloc o4 _) b3) | skip);have ⟨q0,q1,q2,q3,f0,f1,f2,f3⟩:=(X1.out.below z3).four)
   |(refine eT zF (.tmp 11) (.tmp 13) 86 zF Tryz.underlying86 cd hz2 (base:=wz.heap.size) (news:=aj o) rfl ?_ ?_ rfl ?_ zO zD ?_;(first | with_reducible exact kA zI | with_reducible exact Bx.new' zI | with_reducible exact mH (Bx.new' zI) | with_reducible exact Bx.below (kA zI) b3 | with_reducible exact Bx.below (mH (Bx.new' zI)) b3);(first | exact zR | exact Nat.le_succ _ | exact z3.size);(first | with_reducible exact RO.out.below z3 | with_reducible exact RO.out.below (ce z3) | with_reducible exact Rd.drew (RO.out.alloc _) | with_reducible exact Rd.drew ((RO.out.alloc _).alloc _));intro A4 c4 w4 o4 b4;(first | (with_reducible have z4:=aa (eH (Below.refl _ wz)) b4) | (with_reducible have z4:=aa (eH (ce (Below.refl _ wz))) b4) | (with_reducible have z4:=aa (ce z3) b4) | (with_reducible have z4:=aa z3 b4));(first | (with_reducible have p3:=ab o3 b4) | (with_reducible have p3:=ab (World.ownsRow.alloc o3 _) b4) | skip);have ⟨q0,q1,q2,q3,f0,f1,f2,f3⟩:=(X1.out.below z4).four)
   |fail)
 all_goals
  go_wp2_with fail;refine bodyPost_ret (v:=.agg #[N,H,.slice A3 nT c3,.slice A4 nO c4]) (by simp [results,Tryz.results124,go_sem,q0,q1,q2,q3]) rfl ⟨_,rfl,⟨A3,c3,A4,c4,by rw [HT.out.1,HO.out.1],?_,?_⟩,?_⟩
  ·rw [HT.out.1]
   first | exact ae (aW o3 hg1w) hbw | exact ae (aW p3 hg1w) hbw
  ·rw [HO.out.1]
   first | exact ae (aW o4 hg1w) hbw | exact ae (aW p4 hg1w) hbw
  ·first | exact aF (aa BZ.out z3) hgg | exact aF (aa BZ.out z4) hgg
theorem Be {p:Prop} (h:p:=by show w.heap.size < w.heap.size+1+1;omega):p:=h
theorem iI (N H:Int) (AT:Option Addr) (nT cT:Nat) (t:List (Int × Int)) (AO:Option Addr) (nO cO:Nat) (o:List (Int × Int)) (w:World) (hT:RdP w AT nT t) (hO:RdP w AO nO o) (hnT:nT<=1099511627776) (hnO:nO<=1099511627776) :
  Calls Tryz.prog 139 #[.agg #[N,H,.slice AT nT cT,.slice AO nO cO]] w (qM N H t o w):=by
 have HT:=zH hT;have HO:=zH hO;have hz2:(Value.agg #[(0:Int),(0:Int)]).cells.size=2:=rfl;clear hT hO;have X0:=zH (show Bx ((w.alloc (.cells #[N,H,.slice AT nT cT,.slice AO nO cO] 88)).alloc ZO.zP) w.heap.size 88 _ from (Bx.new w _ _).alloc _);have X1:=zH (show Bx ((w.alloc (.cells #[N,H,.slice AT nT cT,.slice AO nO cO] 88)).alloc ZO.zP) (w.heap.size+1) 88 _ from Bx.new' zI);have RT:=zH ((HT.out.2.alloc (.cells #[N,H,.slice AT nT cT,.slice AO nO cO] 88)).alloc ZO.zP);have RO:=zH ((HO.out.2.alloc (.cells #[N,H,.slice AT nT cT,.slice AO nO cO] 88)).alloc ZO.zP);have BZ:Hid (Below w w ((w.alloc (.cells #[N,H,.slice AT nT cT,.slice AO nO cO] 88)).alloc ZO.zP)):=zH (((zW).alloc zR _).alloc zI _);go_enter Tryz.func139,Tryz.ntmps139
 go_wp2_with (first
  |(at_builtin;refine dN rfl (.tmp 3) (.tmp 5) 85 rfl Tryz.underlying85 bN hz2 (base:=w.heap.size+1+1) rfl (Bx.new' zI) zR rfl (RT.alloc _) zO zD ?_;intro A3 c3 w3 o3 b3;have Y0:=zH ((X0.alloc _).below b3);have Y1:=zH ((X1.alloc _).below b3);have BY:=zH (aa (BZ.alloc BZ.size _) b3);have ⟨p0,p1,p2,p3,f0,f1,f2,f3⟩:=Y0.four;have hs3:=Y1.lt;have hs0:=Y0.lt)
  |(at_builtin;refine dN rfl (.tmp 8) (.tmp 10) 86 rfl Tryz.underlying86 cd hz2 (base:=w.heap.size+1+1) rfl (Bx.new' zI) ?_ rfl (HO.out.2.below (yB BY.out (p:=⟨w,2,none⟩) zR BY.size)) zO zD ?_;omega;intro A4 c4 w4 o4 b4;have V0:=zH (((Y0.s2 (.slice A3 nT c3)).alloc _).below b4);have V1:=zH (((Y1.far (p:=⟨w,2,none⟩) zI (.slice A3 nT c3)).alloc _).below b4);clear p0 p1 p2 p3 f0 f1 f2 f3;have ⟨p0,p1,p2,p3,f0,f1,f2,f3⟩:=V0.four;have ⟨q0,q1,q2,q3,y0,y1,y2,y3⟩:=V1.four))
 have P3:=ab (World.ownsRow.alloc (fZ o3 (p:=⟨w,2,none⟩) Be (.slice A3 nT c3)) (.cells #[] 93)) b4;refine bodyPost_ret (v:=.agg #[N,H,.slice A3 nT c3,.slice A4 nO c4]) (by simp [results,Tryz.results139,go_sem,q0,q1,q2,q3]) rfl ⟨_,rfl,⟨A3,c3,A4,c4,by rw [HT.out.1,HO.out.1],?_,?_⟩,?_⟩
 ·rw [HT.out.1];exact ae (aW (fZ P3 (p:=⟨w,3,none⟩) Be _) zO) zO
 ·rw [HO.out.1];exact ae (aW (fZ o4 (p:=⟨w,3,none⟩) Be _) zO) zO
 ·exact aF ((aa (yB BY.out (p:=⟨w,2,none⟩) zR BY.size) b4).setCell zR _) zO
def Nk (m:Int) (k:Nat) (l:List (Int × Int)):Int :=
 match kw m k l with
 |some j=>j
 |none=>-1
theorem Nl {m:Int} {k:Nat} {p:Int × Int} {r:List (Int × Int)} (h:(p.1 == m)=true):Nk m k (p :: r)=k:=by unfold Nk;rw [kw,if_pos h]
theorem yC {m:Int} {k:Nat} {p:Int × Int} {r:List (Int × Int)} (h:(p.1 == m)=false):Nk m k (p :: r)=Nk m (k+1) r:=by unfold Nk;rw [kw,h];rfl
theorem yD {m:Int} {k:Nat} {p:Int × Int} {r:List (Int × Int)} (h:m < p.1):li m k (p :: r)=k:=by rw [li,if_neg zJ]
theorem Bf {m:Int} {k:Nat} {p:Int × Int} {r:List (Int × Int)} (h:p.1<=m):li m k (p :: r)=li m (k+1) r:=by rw [li,if_pos (by simpa using h)]
theorem PV (A:Option Addr) (n c lo:Nat) (h1:lo<=n) (w:World) :
  (Instr.slice 85 (.slice A n c) (some (.int .i64 (lo:Int))) none none).run Tryz.prog w=.ok (.slice (if c=lo then A else A.map (·.add (lo * 2))) (n - lo) (c - lo)) w:=by
 have hz:(sizeOf (Tryz.prog.elem 85)).run Tryz.prog w=.ok 2 w:=zK;rw [run_slice_l w 85 A n c zK .i64 lo zO zO,hz];simp only [Result.andThen,sliced,Int.toNat_natCast]
theorem IS (A:Option Addr) (n c hi:Nat) (h2:hi<=c) (w:World) :
  (Instr.slice 85 (.slice A n c) none (some (.int .i64 (hi:Int))) none).run Tryz.prog w=.ok (.slice A hi c) w:=by
 have hz:(sizeOf (Tryz.prog.elem 85)).run Tryz.prog w=.ok 2 w:=zK;rw [run_slice_h w 85 A n c zK .i64 hi zO zO,hz];simp only [Result.andThen,sliced,Int.toNat_natCast];cases A<;>simp [Addr.add]
theorem RdP.pre {w:World} {A:Option Addr} {n:Nat} {gs:List (Int × Int)} (h:RdP w A n gs) {k:Nat} (hk:k<=n):RdP w A k (gs.take k) :=
 ⟨by rw [List.length_take,h.1];omega,by rw [xJ];exact h.2.pre hk⟩
theorem RdP.cut {w:World} {A:Option Addr} {n:Nat} {gs:List (Int × Int)} (h:RdP w A n gs) {k cap:Nat} (hk:k<=n) (hc:n<=cap):RdP w (if cap=k then A else A.map (·.add (k * 2))) (n - k) (gs.drop k) :=
 ⟨by rw [List.length_drop,h.1],by rw [pM];exact h.2.cut hk hc⟩
theorem yE {w:World} {base:Nat} {e:TypeId} {sz n c:Nat} {A:Option Addr} {xs:List Value} (h:w.ownsRow base e sz (.slice A n c) n xs) (hn:0 < n):∃ g,A=some ⟨g,0,none⟩:=by
 rcases h.2 with ⟨_,h0⟩ | ⟨g,_,_,hv,_⟩
 ·omega
 ·injection hv with hv _ _;exact ⟨g,hv⟩
theorem IT (l:List (Int × Int)) (k:Nat) (c:Int) (x y:Int) (hd:l.drop k=(x,y) :: l.drop (k+1)):(aj l).set (k * 2+1) (.int .i64 ((y+c) % 8))=aj (iY l k c):=by
 have hk:k < l.length:=by
  rcases Nat.lt_or_ge k l.length with h | h
  ·exact h
  ·rw [List.drop_eq_nil_of_le h] at hd;cases hd
 have hx:l[k]? = some (x,y):=by have:=congrArg (fun r=>r[0]?) hd;simpa using this
 have hb:iY l k c=l.take k++(x,(y+c) % 8) :: l.drop (k+1):=by
  unfold iY;rw [List.getD_eq_getElem?_getD,hx,Option.getD_some,List.set_eq_take_append_cons_drop,if_pos hk]
 have hl:l=l.take k++(x,y) :: l.drop (k+1):=by rw [<- hd,List.take_append_drop]
 rw [hb,dM]
 conv=>lhs;rw [hl,dM]
 rw [List.set_append];have hlen:(aj (l.take k)).length=k * 2:=by rw [fr,List.length_take];omega
 rw [if_neg zO,hlen];simp [aj,show k * 2+1 - k * 2=1 by omega]
theorem Ds {w:World} {base n:Nat} {e:TypeId} {v:Value} {a b l:List (Int × Int)} {m:Int} (h:l=a++(m,0) :: b) (ho:w.ownsRow base e 2 v n (aj a++[.int .i64 m,.int .i64 0]++aj b)):w.ownsRow base e 2 v n (aj l):=by
 have e1:aj l=aj a++[.int .i64 m,.int .i64 0]++aj b:=by rw [h,dM];simp [aj]
 rw [e1];exact ho
theorem mx {wx:World} {base B:Nat} {w:World} {A:Option Addr} {L cX:Nat} {b:List (Int × Int)} (k:Nat) (c:Int) (e:TypeId) (ho:wx.ownsRow base e 2 (.slice A L cX) L (aj b)) (hk:k < b.length) (hb:Below B w wx) (hB:B<=base) :
  ∃ (g:Nat) (x y:Int),A=some ⟨g,0,none⟩/\wx.cell? ⟨g,k * 2,none⟩=some (.int .i64 x)/\wx.cell? ⟨g,k * 2+1,none⟩=some (.int .i64 y)/\wx.frozen? ⟨g,k * 2+1,none⟩=false/\base<=g/\b.length=L ∧
   Hid ((wx.setCell ⟨g,k * 2+1,none⟩ (.int .i64 ((y+c) % 8))).ownsRow base e 2 (.slice (some ⟨g,0,none⟩) L cX) L (aj (iY b k c)))/\Hid (Below B w (wx.setCell ⟨g,k * 2+1,none⟩ (.int .i64 ((y+c) % 8))))/\wx.grownBy (wx.setCell ⟨g,k * 2+1,none⟩ (.int .i64 ((y+c) % 8))) (some g):=by
 have hL:b.length=L:=by have:=ho.1;rw [fr] at this;omega
 obtain ⟨g,rfl⟩:=yE ho zO;obtain ⟨x,y,hd⟩:∃ x y,b.drop k=(x,y) :: b.drop (k+1):=⟨_,_,ax hk⟩;have f2:=CM _ _ _ _ hd;have hg:=(ho.lt g rfl).1;have s1:=ho.stored (k * 2+1) (.int .i64 ((y+c) % 8));refine ⟨g,x,y,rfl,(ho.cellAt (k * 2) zO).trans f2.1,(ho.cellAt (k * 2+1) zO).trans f2.2,ho.frozenAt _,hg,hL,zH ?_,zH (hb.setCell (by show B<=g;omega) _),s1.2⟩;rw [<- IT _ _ _ _ _ hd];exact s1.1
theorem IU {p:Prop} (h:p:=by
  have hk0:(0:Int)<=(k:Int):=zO;clear hd;by_cases hv:v=0
  ·subst hv;go_wp2_with fail;go_roundg (gk - 1)
   case measure=>omega
   case rel=>exact ⟨k+1,q,A0,c0,zO,by go_num,rfl,zO,by rw [HN.out];simpa using HQ.out,by rw [HN.out];simpa using HO.out,HB.out⟩
  ·have hv1:(v == 0)=false:=by simpa using hv
   have HV:=zH hv1;have hv2:(v != 0)=true:=by simp [bne,hv1]
   have DA:=zH (HO.alloc (.cells #[u,v] 128))
   go_wp2_with (at_builtin;refine ah rfl (.tmp 83) (.tmp 88) 85 rfl Tryz.underlying85 bN rfl zD rfl DA.out rfl (Rd.lit _ 128 #[u,v] 1 2 rfl) zV zO zD zS ?_;intro A5 c5 w5 o5 g5)
   go_roundg (gk - 1)
   case measure=>omega
   case rel =>
    refine ⟨k+1,q+1,A5,c5,zO,by go_num,rfl,zO,by rw [HN.out,HV.out];simp [HQ.out],?_,ag (HB.alloc hbs _) zJ DA.out zR g5⟩;rw [HN.out,HV.out];rw [show nz (b.take k)++(if false=true then [] else [(u,v)])=nz (b.take k)++[(u,v)] from rfl,dM];exact o5):p:=h
theorem IV {p:Prop} (h:p:=by
  go_wp2_with fail;go_ret;have e:nz (b.take k)=R:=by rw [List.take_of_length_le (by have:=HBL.out;omega),HRB.out]
  have HOO:=HO.out;have HQQ:=HQ.out;rw [e] at HOO HQQ;subst HQQ;exact ⟨A0,c0,rfl,ae HOO hwys,SB.trans (HB.mono hwys)⟩):p:=h
theorem yF (A:Option Addr) (n cap:Nat) (t:List (Int × Int)) (m c:Int) (w:World) (h:RdP w A n t) (hn:n<=549755813888) (hnc:n<=cap) :
  Calls Tryz.prog 140 #[.slice A n cap,m,c] w (jl 128 2 (aj (cD t m c)) (cD t m c).length w):=by
 have H:=zH h;have hl:=h.1;have HLN:=zH hl;clear h;obtain ⟨R,hR⟩:∃ R,cD t m c=R:=⟨_,rfl⟩;have HR:=zH hR;rw [hR];obtain ⟨pl,hpl⟩:∃ pl,li m 0 t=pl:=⟨_,rfl⟩;have hplb:=ni m 0 t;rw [hpl,hl] at hplb;have hpl2:pl<=n:=zO;have HPL:=zH hpl;have hslh:=IS A n cap pl zO;have hsll:=PV A n cap pl zO;obtain ⟨AC,hAC⟩:∃ AC,(if cap=pl then A else A.map (·.add (pl * 2)))=AC:=⟨_,rfl⟩;rw [hAC] at hsll;have HC:Hid (RdP w AC (n - pl) (t.drop pl)):=zH (by rw [<- hAC];exact H.cut hpl2 hnc);clear hR hl hpl hplb hAC;go_enter Tryz.func140,Tryz.ntmps140;go_wp2_with fail;go_loopg [7,8,9] (n+1) (fun r va vp i wr=>∃ (k:Nat),k+1=r/\k<=n/\i=.int .i64 ((k:Int) - 1)/\va=.int .i64 (Nk m k (t.drop k))/\vp=.int .i64 (li m k (t.drop k))/\w=wr)
 case atStart=>exact ⟨n,rfl,zO,zI,by rw [List.drop_eq_nil_of_le (by have:=HLN.out;omega)];rfl,by rw [List.drop_eq_nil_of_le (by have:=HLN.out;omega)];rfl,rfl⟩
 case round =>
  obtain ⟨k,hk,hkn,rfl,rfl,rfl,rfl⟩:=hrel;rcases k with _ | j
  ·have HD0:Hid (t.drop 0=t):=zH rfl;clear hk;rw [HD0.out,HPL.out];obtain ⟨va,hva⟩:∃ va,Nk m 0 t=va:=⟨_,rfl⟩;rw [hva];have HW:Hid (cQ t m=(if va < 0 then t.take pl++(m,0) :: t.drop pl else t)/\(ur t m:Int)=(if va < 0 then (pl:Int) else va)/\(va = -1\/0<=va)):=zH (by
    unfold cQ ur;unfold Nk at hva;rw [HPL.out];cases h:kw m 0 t with
    |none=>rw [h] at hva;simp only at hva ⊢;subst hva;exact ⟨rfl,rfl,.inl rfl⟩
    |some j=>rw [h] at hva;simp only at hva ⊢;subst hva;rw [if_neg zO,if_neg zO];exact ⟨rfl,rfl,.inr zO⟩)
   clear hva;have hz2:(Value.agg #[(0:Int),(0:Int)]).cells.size=2:=rfl;rcases (show va = -1\/0<=va from HW.out.2.2) with hva | hva
   ·subst hva;obtain ⟨hw1,hw2,_⟩:=HW.out;rw [if_pos zO] at hw1 hw2;have HWT:=zH hw1;have HKA:Hid (ur t m=pl):=zH zO;have HKL:Hid (pl < (cQ t m).length):=zH (by rw [<- HKA.out];exact r8 t m);clear hw1 hw2 HW
    go_wp2_with (first
     |(at_builtin;refine dN rfl (.tmp 38) (.tmp 39) 85 rfl Tryz.underlying85 bN hz2 (base:=w.heap.size) rfl (Bx.new' zI) zR rfl (H.out.2.alloc _) zO zD ?_;intro A1 c1 w1 o1 b1;have B1:=zH (aD b1);have hs1:=B1.size;clear o1 b1)
     |(at_builtin;refine dN rfl (.tmp 44) (.tmp 47) 85 rfl Tryz.underlying85 bN hz2 (base:=w.heap.size) rfl (Bx.new' zI) hs1 rfl ((((H.pre hpl2).2.below B1.out)).alloc _) zO zD ?_;intro A2 c2 w2 o2 b2;have B2:=zH (aa (B1.alloc hs1 _) b2);have O2:=zH o2;have hs2:=B2.size;clear o2 b2)
     |(at_builtin;refine ah rfl (.tmp 48) (.tmp 51) 85 rfl Tryz.underlying85 bN rfl zD rfl (O2.alloc _) rfl (Rd.lit _ 128 #[m,(0:Int)] 1 2 rfl) zV zO zD zS ?_;intro A3 c3 w3 o3 g3;have O3:=zH o3;have B3:=zH (ag (B2.alloc hs2 _) zS (O2.alloc _) zR g3);have hs3:=B3.size;clear o3 g3)
     |(at_builtin;refine ah rfl (.tmp 53) (.tmp 56) 85 rfl Tryz.underlying85 bN rfl zD rfl O3.out rfl (HC.out.2.below B3.out) rc zO zD hs3 ?_;intro A4 c4 w4 o4 g4;have O4:=zH o4;have OW4:=Ds HWT.out o4;obtain ⟨gx,x,y,rfl,e0,e1,z1,hgx,hL,SO,SB,_⟩:=mx pl c _ OW4 HKL.out (ag B3.out hs3 O3.out zR g4) zR;have hplI0:(0:Int)<=(pl:Int):=zO;have hplI:(pl:Int) < ((pl+1+(n - pl):Nat):Int):=zO;clear o4 g4 O4 OW4))
    have HWR:Hid (wrap64 (y+c) % 8=(y+c) % 8):=zH (fd _);refine (fI _ _).mono ?_;rintro e wq ⟨rfl,rfl⟩;rw [HWR.out];obtain ⟨b,hb⟩:∃ b,iY (cQ t m) pl c=b:=⟨_,rfl⟩;rw [hb] at SO;have HBL:Hid (b.length=(pl+1+(n - pl))):=zH (by rw [<- hb,lM,hL]);have HRB:Hid (nz b=R):=zH (by rw [<- hb,<- HR.out];unfold cD;rw [HKA.out]);have SR:=zH (RdP.own SO);clear hb SO;go_wp2_with fail;clear e0 e1 z1;obtain ⟨wy,hwy⟩:∃ wy,wy=w4.setCell ⟨gx,pl * 2+1,none⟩ (.int .i64 ((y+c) % 8)):=⟨_,rfl⟩;rw [<- hwy] at SR SB ⊢;have HSY:Hid (wy.heap.size=w4.heap.size):=zH (by rw [hwy];simp [World.setCell]);clear hwy;have hwys:=SB.size
    go_loopg [11,12] ((pl+1+(n - pl))) (fun r v i wr=>∃ (k q:Nat) (A0:Option Addr) (c0:Nat),k+r=(pl+1+(n - pl))/\i=.int .i64 k/\v=.slice A0 q c0/\q<=k/\(nz (b.take k)).length=q/\wr.ownsRow wy.heap.size 128 2 (.slice A0 q c0) q (aj (nz (b.take k)))/\Below wy.heap.size wy wr)
    case atStart=>exact ⟨0,0,_,_,zO,rfl,rfl,zR,by simp [nz],by rw [<- HSY.out];simpa [nz,aj] using World.ownsRow_lit wy #[] 0 (size:=2) (e:=128) zR zM rfl,(zW).alloc zR _⟩
    case round =>
     obtain ⟨k,q,A0,c0,hk,rfl,rfl,hqk,hq,ho,hbw⟩:=hrel;have HQ:=zH hq;have HO:=zH ho;have HB:=zH hbw;have hbs:=hbw.size;clear hq ho hbw;by_cases hlt:k < (pl+1+(n - pl))
     ·obtain ⟨bb,off,u,v,hA,hBb,hd,d0,d1⟩:=(SR.below HB.out).at_ hlt;injection hA with hA;injection hA with hA1 hA2 _;subst hA1 hA2
      rw [Nat.zero_add] at d0 d1;have HD:=zH hd;have HN:Hid (nz (b.take (k+1))=nz (b.take k)++(if (v == 0)=true then [] else [(u,v)])):=zH (by rw [eZ HD.out,vI]);have hkI:(k:Int) < (((pl+1+(n - pl)):Nat):Int):=zO;exact IU
     ·have hkL:k=(pl+1+(n - pl)):=zO;exact IV
   ·obtain ⟨ka,rfl⟩:∃ ka:Nat,va=ka:=⟨va.toNat,zO⟩;obtain ⟨hw1,hw2,_⟩:=HW.out;rw [if_neg zO] at hw1 hw2;have HWT:=zH hw1;have HKA:Hid (ur t m=ka):=zH zO;have HKL:Hid (ka < (cQ t m).length):=zH (by rw [<- HKA.out];exact r8 t m);have hkan:ka < n:=by have:=HKL.out;rw [hw1,HLN.out] at this;exact this
    have hka0:(0:Int)<=(ka:Int):=zO;have hkaI:(ka:Int) < (n:Int):=zO;clear hw1 hw2 HW hva
    go_wp2_with (at_builtin;refine dN rfl (.tmp 38) (.tmp 39) 85 rfl Tryz.underlying85 bN hz2 (base:=w.heap.size) rfl (Bx.new' zI) zR rfl (H.out.2.alloc _) zO zD ?_;intro A1 c1 w1 o1 b1;have OW4:=(HWT.symm ▸ o1:w1.ownsRow w 128 2 (.slice A1 n c1) n (aj (cQ t m)));obtain ⟨gx,x,y,rfl,e0,e1,z1,hgx,hL,SO,SB,_⟩:=mx ka c _ OW4 HKL.out (aD b1) zR;clear o1 b1 OW4)
    have HWR:Hid (wrap64 (y+c) % 8=(y+c) % 8):=zH (fd _);refine (fI _ _).mono ?_;rintro e wq ⟨rfl,rfl⟩;rw [HWR.out];obtain ⟨b,hb⟩:∃ b,iY (cQ t m) ka c=b:=⟨_,rfl⟩;rw [hb] at SO;have HBL:Hid (b.length=n):=zH (by rw [<- hb,lM,hL]);have HRB:Hid (nz b=R):=zH (by rw [<- hb,<- HR.out];unfold cD;rw [HKA.out]);have SR:=zH (RdP.own SO);clear hb SO;go_wp2_with fail;clear e0 e1 z1;obtain ⟨wy,hwy⟩:∃ wy,wy=w1.setCell ⟨gx,ka * 2+1,none⟩ (.int .i64 ((y+c) % 8)):=⟨_,rfl⟩;rw [<- hwy] at SR SB ⊢;have HSY:Hid (wy.heap.size=w1.heap.size):=zH (by rw [hwy];simp [World.setCell]);clear hwy;have hwys:=SB.size;go_loopg [11,12] (n) (fun r v i wr=>∃ (k q:Nat) (A0:Option Addr) (c0:Nat),k+r=n/\i=.int .i64 k/\v=.slice A0 q c0/\q<=k/\(nz (b.take k)).length=q/\wr.ownsRow wy.heap.size 128 2 (.slice A0 q c0) q (aj (nz (b.take k)))/\Below wy.heap.size wy wr)
    case atStart=>exact ⟨0,0,_,_,zO,rfl,rfl,zR,by simp [nz],by rw [<- HSY.out];simpa [nz,aj] using World.ownsRow_lit wy #[] 0 (size:=2) (e:=128) zR zM rfl,(zW).alloc zR _⟩
    case round =>
     obtain ⟨k,q,A0,c0,hk,rfl,rfl,hqk,hq,ho,hbw⟩:=hrel;have HQ:=zH hq;have HO:=zH ho;have HB:=zH hbw;have hbs:=hbw.size;clear hq ho hbw;by_cases hlt:k < n
     ·obtain ⟨bb,off,u,v,hA,hBb,hd,d0,d1⟩:=(SR.below HB.out).at_ hlt;injection hA with hA;injection hA with hA1 hA2 _;subst hA1 hA2
      rw [Nat.zero_add] at d0 d1;have HD:=zH hd;have HN:Hid (nz (b.take (k+1))=nz (b.take k)++(if (v == 0)=true then [] else [(u,v)])):=zH (by rw [eZ HD.out,vI]);have hkI:(k:Int) < ((n:Nat):Int):=zO;exact IU
     ·have hkL:k=n:=zO;exact IV
  ·have e0:((j+1:Nat):Int) - 1=(j:Int):=zO;rw [e0];have hjn:j < n:=zO;obtain ⟨g,off,x,y,rfl,hB,hd,c0,c1⟩:=H.at_ hjn;have HD:=zH hd;clear hd e0;have hj0:(0:Int)<=(j:Int):=zO;have hjI:(j:Int) < (n:Int):=zO;obtain ⟨va,hva⟩:∃ va,Nk m (j+1) (t.drop (j+1))=va:=⟨_,rfl⟩;obtain ⟨vp,hvp⟩:∃ vp,li m (j+1) (t.drop (j+1))=vp:=⟨_,rfl⟩;rw [hva,hvp];have HVA:=zH hva;have HVP:=zH hvp;clear hva hvp;rcases Int.lt_trichotomy x m with hx | hx | hx
   ·have h1:(x == m)=false:=zJ;have h2:¬ m < x:=zO;go_wp2_with fail;go_roundg (gk - 1)
    case measure=>omega
    case rel=>exact ⟨j,zO,zO,rfl,by rw [HD.out,yC h1,HVA.out],by rw [HD.out,Bf (by show x<=m;omega),HVP.out],rfl⟩
   ·subst hx;go_wp2_with fail;go_roundg (gk - 1)
    case measure=>omega
    case rel=>exact ⟨j,zO,zO,rfl,by rw [HD.out,Nl zI],by rw [HD.out,Bf (p:=(x,y)) (Int.le_refl _),HVP.out],rfl⟩
   ·have h1:(x == m)=false:=zJ;go_wp2_with fail;go_roundg (gk - 1)
    case measure=>omega
    case rel=>exact ⟨j,zO,zO,rfl,by rw [HD.out,yC h1,HVA.out],by rw [HD.out,yD hx],rfl⟩
end Go.Proofs.YtmenmibfkojnoaaGreat
