/- Polynomials in memory: rows of the call's own, blocks that hold a polynomial; contracts of copyPolynomial, l32Copy and IdentityPhasePolynomial. At most 2^40 terms and outputs. Contract of l32Add (spec): a term added to the terms. At most 2^39 terms. -/
import Derived.Test.YtmenmibfkojnoaaGreatV16
import Derived.Test.YtmenmibfkojnoaaGreatV10
import Derived.Deep.RegionHeld3
import Derived.StillTailTactics
import Derived.Outline
set_option maxHeartbeats 16000000
namespace Go.Proofs.YtmenmibfkojnoaaGreat
open Go.RowKit
theorem own0_bx {W:World} {g base:Nat} {e:TypeId} {sz:Nat} (hb:base<=g) (h:Bx W g e #[]):W.ownsRow base e sz (.slice (some ⟨g,0,none⟩) 0 0) 0 [] :=
 ⟨by simp,.inr ⟨g,0,#[],rfl,hb,h,zR,by simp,by simp,by simp⟩⟩
section
variable {P:Program} {w:World}
theorem run_mk0 (base:Nat) (t ty e:TypeId) {z:Value} {size bytes:Nat} (ht:P.underlying t=some (.slice e)) (hinfo:(P.info? e).map (fun i=>(i.zero,i.size,i.bytes))=some (some z,size,bytes))
  (hzs:z.cells.size=size) (g:Nat) (hbx:Bx w g e #[]) (hbase:base<=g)
  (A':Option Addr) (m c':Nat) (news:List Value) (hr:Rd w size A' m news) (hbytes:m * bytes<=140737488355328) (hby:0 < bytes) :
  ∃ A'' c'' w',(Builtin.append_ #[t,t] ty #[.slice (some ⟨g,0,none⟩) 0 0,.slice A' m c']).run P w=.ok (.slice A'' m c'') w'/\w'.ownsRow base e size (.slice A'' m c'') m news/\Below w.heap.size w w':=by
 obtain ⟨i,hi,hz,hs,hb⟩:=info_parts hinfo
 subst hs hb
 have hm63:m<=140737488355328:=Nat.le_trans (Nat.le_mul_of_pos_right m hby) hbytes
 have hlt:=hbx.lt
 by_cases hm:m=0
 ·subst hm
  have hn:news=[]:=List.eq_nil_of_length_eq_zero (by simpa using hr.1)
  subst hn
  refine ⟨some ⟨g,0,none⟩,0,w,?_,own0_bx hbase hbx,zW⟩
  cases A' with
  |none=>simp [Builtin.append_,run_underlying ht,sizeOf,typeInfo,hi,Builtin.lenOf,Builtin.firstCells,storeCells]
  |some ad=>simp [Builtin.append_,run_underlying ht,sizeOf,typeInfo,hi,Builtin.lenOf,Builtin.firstCells,storeCells,loadCells,loadCellsFrom]
 ·obtain ⟨b,off,hA,hbl,hc⟩:=hr.2 (by omega)
  subst hA
  have hnews:∀ j u,news[j]? = some u->w.cell? ((⟨b,off,none⟩:Addr).add j)=some u:=by
   intro j u hu
   have:=hc j u hu
   unfold Addr.add
   split
   ·subst j;simpa using this
   ·exact this
  have hfit:=growslice_fits (need:=0+m) (old:=0) (bytes:=i.bytes) (by omega) (by simpa using hbytes)
  have hrun:=run_append_grow (P:=P) w t ty e i z ht hi hz ⟨g,0,none⟩ 0 0 [] (by simp) (fun j u h=>by simp at h) ⟨b,off,none⟩ m c' news hr.1 hnews (by omega) (by omega) hfit
  have hge:=grownCap_ge w (0+m) 0 e
  have hcm:grownCap w (0+m) 0 e<=maxLen:=grownCap_le_maxLen w (0+m) 0 e (by simp only [maxLen];omega)
  rw [Nat.zero_add] at hrun hge hcm
  refine ⟨_,_,_,hrun,⟨hr.1,.inr ⟨w.heap.size,_,_,rfl,by omega,heap_alloc_new w.drew _,hge,hcm,?_,?_⟩⟩,((zW).drew.alloc zR _)⟩
  ·simp only [Array.size_append,List.size_toArray,size_zeroCells,hzs,List.length_nil,Nat.zero_add,hr.1,<- Nat.add_mul]
   congr 1
   omega
  ·simp only [Array.toList_append,List.nil_append]
   rw [<- hr.1]
   exact List.take_left
theorem step_mk0 {ops:Array Oper} {o:Oper} {a:Act} {K:Act->World->Prop} {Q:Exit->Act->World->Prop} {E:Prop} (hgd:o.guard=none) (s x:Operand) (t:TypeId)
  (ho:o.op=.call { callee:=.builtin .append,args:=#[s,x],argTypes:=#[t,t] })
  {base e:Nat} {z:Value} {size bytes:Nat} (ht:P.underlying t=some (.slice e)) (hinfo:(P.info? e).map (fun i=>(i.zero,i.size,i.bytes))=some (some z,size,bytes))
  (hzs:z.cells.size=size) {g:Nat} (hs:a.eval s=.slice (some ⟨g,0,none⟩) 0 0) (hbx:Bx w g e #[]) (hbase:base<=g)
  {A':Option Addr} {m c':Nat} {news:List Value} (hx:a.eval x=.slice A' m c') (hr:Rd w size A' m news)
  (hbytes:m * bytes<=140737488355328) (hby:0 < bytes)
  (h:∀ A'' c'' w',w'.ownsRow base e size (.slice A'' m c'') m news->Below w.heap.size w w'->K (a.put o.dst (.slice A'' m c'')) w') :
  if Region.wanted o (yielded ops a.tmps)=true then Oper.wp P o a w K Q else E:=by
 have hw:Region.wanted o (yielded ops a.tmps)=true:=by simp [Region.wanted,hgd]
 rw [if_pos hw]
 obtain ⟨A'',c'',w',hrun,h2,h3⟩:=run_mk0 (P:=P) base t o.type e ht hinfo hzs g hbx hbase A' m c' news hr hbytes hby
 unfold Oper.wp execOp
 simp only [ho,resolve,invoke,builtin,Sem.run_bind,Sem.run_pure,Result.andThen_ok,List.map_toArray,List.map_cons,List.map_nil,hs,hx,hrun]
 exact h A'' c'' w' h2 h3
end
theorem keepA {a W:World} {o:Obj} (h:Below a.heap.size a W):Below a.heap.size a (W.alloc o).drew:=(h.alloc h.size o).drew
theorem bx_n {W:World} {i:Nat} {t:TypeId} {cs:Array Value} (h:i=W.heap.size):Bx (W.alloc (.cells cs t)).drew i t cs:=(Bx.new' h).drew
theorem bx_o {W:World} {o:Obj} {i:Nat} {t:TypeId} {cs:Array Value} (h:Bx W i t cs):Bx (W.alloc o).drew i t cs:=(h.alloc o).drew
theorem keepC {a W:World} {o:Obj} (h:Below a.heap.size a W):Below a.heap.size a (W.alloc o):=h.alloc h.size o
theorem k4K {w':World} {g t:Nat} {a b c d:Value} (h:Bx w' g t #[a,b,c,d]) :
  w'.cell? ⟨g,0,none⟩=some a/\w'.cell? ⟨g,1,none⟩=some b/\w'.cell? ⟨g,2,none⟩=some c/\w'.cell? ⟨g,3,none⟩=some d/\True:=by
 obtain ⟨p0,p1,p2,p3,_⟩:=h.four
 exact ⟨p0,p1,p2,p3,trivial⟩
theorem set4K {w':World} {g t g1:Nat} {cs:Array Value} {a b c d:Value} (h:Bx w' g t cs) (hne:g ≠ g1):Bx ((((w'.setCell ⟨g1,0,none⟩ a).setCell ⟨g1,1,none⟩ b).setCell ⟨g1,2,none⟩ c).setCell ⟨g1,3,none⟩ d) g t cs :=
 (((h.far hne _).far hne _).far hne _).far hne _
theorem Bx.s0 {w:World} {g t:Nat} {a b c d:Value} (h:Bx w g t #[a,b,c,d]) (x:Value):Bx (w.setCell ⟨g,0,none⟩ x) g t #[x,b,c,d]:=by simpa using h.set_ 0 x
theorem Bx.s1 {w:World} {g t:Nat} {a b c d:Value} (h:Bx w g t #[a,b,c,d]) (x:Value):Bx (w.setCell ⟨g,1,none⟩ x) g t #[a,x,c,d]:=by simpa using h.set_ 1 x
theorem Bx.s2 {w:World} {g t:Nat} {a b c d:Value} (h:Bx w g t #[a,b,c,d]) (x:Value):Bx (w.setCell ⟨g,2,none⟩ x) g t #[a,b,x,d]:=by simpa using h.set_ 2 x
theorem Bx.s3 {w:World} {g t:Nat} {a b c d:Value} (h:Bx w g t #[a,b,c,d]) (x:Value):Bx (w.setCell ⟨g,3,none⟩ x) g t #[a,b,c,x]:=by simpa using h.set_ 3 x
theorem below_sa {B:Nat} {w w':World} {p:Addr} {u:Value} {o:Obj} (h:Below B w w') (hp:B<=p.block) (hB:B<=w'.heap.size):Below B w ((w'.setCell p u).alloc o) :=
 (h.setCell hp _).alloc (by simpa [World.setCell] using hB) _
theorem own_set4 {w':World} {base g1:Nat} {e:TypeId} {sz n:Nat} {v:Value} {xs:List Value} {a b c d:Value} (h:w'.ownsRow base e sz v n xs) (hg:g1 < base):((((w'.setCell ⟨g1,0,none⟩ a).setCell ⟨g1,1,none⟩ b).setCell ⟨g1,2,none⟩ c).setCell ⟨g1,3,none⟩ d).ownsRow base e sz v n xs :=
 own_set (own_set (own_set (own_set h (p:=⟨g1,0,none⟩) hg a) (p:=⟨g1,1,none⟩) hg b) (p:=⟨g1,2,none⟩) hg c) (p:=⟨g1,3,none⟩) hg d
theorem below_set4 {w w':World} {B g1:Nat} {a b c d:Value} (h:Below B w w') (hg:B<=g1):Below B w ((((w'.setCell ⟨g1,0,none⟩ a).setCell ⟨g1,1,none⟩ b).setCell ⟨g1,2,none⟩ c).setCell ⟨g1,3,none⟩ d) :=
 (((h.setCell hg _).setCell hg _).setCell hg _).setCell hg _
theorem wpList_mk0 {P:Program} {w:World} {ops:Array Oper} {rest:List Oper} {o:Oper} {a:Act} {Q:Exit->Act->World->Prop} (hgd:o.guard=none) (s x:Operand) (t:TypeId)
  (ho:o.op=.call { callee:=.builtin .append,args:=#[s,x],argTypes:=#[t,t] })
  {base e:Nat} {z:Value} {size bytes:Nat} (ht:P.underlying t=some (.slice e)) (hinfo:(P.info? e).map (fun i=>(i.zero,i.size,i.bytes))=some (some z,size,bytes))
  (hzs:z.cells.size=size) {g:Nat} (hs:a.eval s=.slice (some ⟨g,0,none⟩) 0 0) (hbx:Bx w g e #[]) (hbase:base<=g)
  {A':Option Addr} {m c':Nat} {news:List Value} (hx:a.eval x=.slice A' m c') (hr:Rd w size A' m news)
  (hbytes:m * bytes<=140737488355328) (hby:0 < bytes)
  (h:∀ A'' c'' w',w'.ownsRow base e size (.slice A'' m c'') m news->Below w.heap.size w w'->wpList P ops Q rest (a.put o.dst (.slice A'' m c'')) w'):wpList P ops Q (o :: rest) a w :=
 wpList_plain hgd fun K hK=>by
  obtain ⟨A'',c'',w',hrun,h2,h3⟩:=run_mk0 (P:=P) base t o.type e ht hinfo hzs g hbx hbase A' m c' news hr hbytes hby
  unfold Oper.wp execOp
  simp only [ho,resolve,invoke,builtin,Sem.run_bind,Sem.run_pure,Result.andThen_ok,List.map_toArray,List.map_cons,List.map_nil,hs,hx,hrun]
  exact hK _ _ (h A'' c'' w' h2 h3)
theorem OwnPoly.below {wx w':World} {base:Nat} {N H:Int} {t o:List (Int × Int)} {v:Value} (h:OwnPoly wx base N H t o v) (hb:Below wx.heap.size wx w'):OwnPoly w' base N H t o v:=by
 obtain ⟨AT,cT,AO,cO,e,h1,h2⟩:=h
 exact ⟨AT,cT,AO,cO,e,ownsRow_below h1 hb,ownsRow_below h2 hb⟩
set_option maxRecDepth 100000 in
theorem i_copyPoly (N H:Int) (AT:Option Addr) (nT cT:Nat) (t:List (Int × Int)) (AO:Option Addr) (nO cO:Nat) (o:List (Int × Int)) (w:World) (hT:RdP w AT nT t) (hO:RdP w AO nO o) (hnT:nT<=1099511627776) (hnO:nO<=1099511627776) :
  Calls Tryz.prog 124 #[.agg #[.int .i64 N,.int .i64 H,.slice AT nT cT,.slice AO nO cO]] w (RetPoly N H t o w):=by
 have HT:=zH hT
 have HO:=zH hO
 have hz2:(Value.agg #[.int .i64 0,.int .i64 0]).cells.size=2:=rfl
 clear hT hO
 go_enter Tryz.func124,Tryz.ntmps124
 go_wp2_with fail
 have X0:=zH (show Bx ((w.alloc (.cells #[.int .i64 N,.int .i64 H,.slice AT nT cT,.slice AO nO cO] 88)).alloc (.cells #[.int .i64 0,.int .i64 0,.slice none 0 0,.slice none 0 0] 88)) w.heap.size 88 _ from (Bx.new w _ _).alloc _)
 have X1:=zH (show Bx ((w.alloc (.cells #[.int .i64 N,.int .i64 H,.slice AT nT cT,.slice AO nO cO] 88)).alloc (.cells #[.int .i64 0,.int .i64 0,.slice none 0 0,.slice none 0 0] 88)) (w.heap.size+1) 88 _ from Bx.new' (by simp))
 have RT:=zH ((HT.out.2.alloc (.cells #[.int .i64 N,.int .i64 H,.slice AT nT cT,.slice AO nO cO] 88)).alloc (.cells #[.int .i64 0,.int .i64 0,.slice none 0 0,.slice none 0 0] 88))
 have RO:=zH ((HO.out.2.alloc (.cells #[.int .i64 N,.int .i64 H,.slice AT nT cT,.slice AO nO cO] 88)).alloc (.cells #[.int .i64 0,.int .i64 0,.slice none 0 0,.slice none 0 0] 88))
 have BZ:Hid (Below w.heap.size w ((w.alloc (.cells #[.int .i64 N,.int .i64 H,.slice AT nT cT,.slice AO nO cO] 88)).alloc (.cells #[.int .i64 0,.int .i64 0,.slice none 0 0,.slice none 0 0] 88))):=zH (((zW).alloc zR _).alloc (by simp) _)
 generalize (w.alloc (.cells #[.int .i64 N,.int .i64 H,.slice AT nT cT,.slice AO nO cO] 88)).alloc (.cells #[.int .i64 0,.int .i64 0,.slice none 0 0,.slice none 0 0] 88)=wz at X0 X1 RT RO BZ ⊢
 generalize hg1:w.heap.size+1=g1 at X1 ⊢
 generalize hg0:w.heap.size=g0 at X0 hg1 ⊢
 have hne:g0 ≠ g1:=by omega
 have hg1w:g1 < wz.heap.size:=X1.out.lt
 have hbw:w.heap.size<=wz.heap.size:=BZ.out.size
 have hgg:w.heap.size<=g1:=by omega
 go_region_held3 (fun w'=>w'.cell? ⟨g0,0,none⟩=some (.int .i64 N)/\w'.cell? ⟨g0,1,none⟩=some (.int .i64 H)/\w'.cell? ⟨g0,2,none⟩=some (.slice AT nT cT)/\w'.cell? ⟨g0,3,none⟩=some (.slice AO nO cO)/\True)
  (first
   |with_reducible exact k4K ((X0.out.below z3).alloc _)
   |with_reducible exact k4K ((X0.out.below z4).alloc _)
   |with_reducible exact k4K (X0.out.below z3)
   |with_reducible exact k4K (X0.out.below z4)
   |with_reducible exact k4K X0.out.drew
   |with_reducible exact k4K (X0.out.alloc _).drew
   |with_reducible exact k4K ((X0.out.alloc _).alloc _).drew
   |with_reducible exact k4K (set4K (X0.out.below z3) hne)
   |with_reducible exact k4K (set4K (X0.out.below z4) hne))
  (first
   |(refine step_mk0 (by rfl) (.tmp 7) (.tmp 9) 85 (by rfl) Tryz.underlying85 infoPhaseTerm hz2 (base:=wz.heap.size) (news:=cellsP t) rfl ?_ ?_ rfl ?_ (by omega) (by decide) ?_;(first | with_reducible exact bx_n (by simp) | with_reducible exact Bx.new' (by simp) | with_reducible exact bx_o (Bx.new' (by simp)) | with_reducible exact Bx.below (bx_n (by simp)) b4 | with_reducible exact Bx.below (bx_o (Bx.new' (by simp))) b4);(first | exact zR | exact Nat.le_succ _ | exact z4.size);(first | with_reducible exact RT.out.below z4 | with_reducible exact RT.out.below (keepC z4) | with_reducible exact Rd.drew (RT.out.alloc _) | with_reducible exact Rd.drew ((RT.out.alloc _).alloc _));intro A3 c3 w3 o3 b3;(first | (with_reducible have z3:=below_trans (keepA (Below.refl _ wz)) b3) | (with_reducible have z3:=below_trans (keepA (keepC (Below.refl _ wz))) b3) | (with_reducible have z3:=below_trans (keepC z4) b3) | (with_reducible have z3:=below_trans z4 b3));(first | (with_reducible have p4:=ownsRow_below o4 b3) | (with_reducible have p4:=ownsRow_below (World.ownsRow.alloc o4 _) b3) | skip);have ⟨q0,q1,q2,q3,f0,f1,f2,f3⟩:=(X1.out.below z3).four)
   |(refine step_mk0 (by rfl) (.tmp 11) (.tmp 13) 86 (by rfl) Tryz.underlying86 infoAffineForm hz2 (base:=wz.heap.size) (news:=cellsP o) rfl ?_ ?_ rfl ?_ (by omega) (by decide) ?_;(first | with_reducible exact bx_n (by simp) | with_reducible exact Bx.new' (by simp) | with_reducible exact bx_o (Bx.new' (by simp)) | with_reducible exact Bx.below (bx_n (by simp)) b3 | with_reducible exact Bx.below (bx_o (Bx.new' (by simp))) b3);(first | exact zR | exact Nat.le_succ _ | exact z3.size);(first | with_reducible exact RO.out.below z3 | with_reducible exact RO.out.below (keepC z3) | with_reducible exact Rd.drew (RO.out.alloc _) | with_reducible exact Rd.drew ((RO.out.alloc _).alloc _));intro A4 c4 w4 o4 b4;(first | (with_reducible have z4:=below_trans (keepA (Below.refl _ wz)) b4) | (with_reducible have z4:=below_trans (keepA (keepC (Below.refl _ wz))) b4) | (with_reducible have z4:=below_trans (keepC z3) b4) | (with_reducible have z4:=below_trans z3 b4));(first | (with_reducible have p3:=ownsRow_below o3 b4) | (with_reducible have p3:=ownsRow_below (World.ownsRow.alloc o3 _) b4) | skip);have ⟨q0,q1,q2,q3,f0,f1,f2,f3⟩:=(X1.out.below z4).four)
   |fail)
 all_goals
  go_wp2_with fail
  refine bodyPost_ret (v:=.agg #[.int .i64 N,.int .i64 H,.slice A3 nT c3,.slice A4 nO c4]) (by simp [results,Tryz.results124,go_sem,q0,q1,q2,q3]) rfl ⟨_,rfl,⟨A3,c3,A4,c4,by rw [HT.out.1,HO.out.1],?_,?_⟩,?_⟩
  ·rw [HT.out.1]
   first | exact ownsRow_base (own_set4 o3 hg1w) hbw | exact ownsRow_base (own_set4 p3 hg1w) hbw
  ·rw [HO.out.1]
   first | exact ownsRow_base (own_set4 o4 hg1w) hbw | exact ownsRow_base (own_set4 p4 hg1w) hbw
  ·first | exact below_set4 (below_trans BZ.out z3) hgg | exact below_set4 (below_trans BZ.out z4) hgg
set_option maxRecDepth 100000 in
theorem s_l32Copy (N H:Int) (AT:Option Addr) (nT cT:Nat) (t:List (Int × Int)) (AO:Option Addr) (nO cO:Nat) (o:List (Int × Int)) (w:World) (hT:RdP w AT nT t) (hO:RdP w AO nO o) (hnT:nT<=1099511627776) (hnO:nO<=1099511627776) :
  Calls Tryz.prog 139 #[.agg #[.int .i64 N,.int .i64 H,.slice AT nT cT,.slice AO nO cO]] w (RetPoly N H t o w):=by
 have HT:=zH hT
 have HO:=zH hO
 have hz2:(Value.agg #[.int .i64 0,.int .i64 0]).cells.size=2:=rfl
 clear hT hO
 have X0:=zH (show Bx ((w.alloc (.cells #[.int .i64 N,.int .i64 H,.slice AT nT cT,.slice AO nO cO] 88)).alloc (.cells #[.int .i64 0,.int .i64 0,.slice none 0 0,.slice none 0 0] 88)) w.heap.size 88 _ from (Bx.new w _ _).alloc _)
 have X1:=zH (show Bx ((w.alloc (.cells #[.int .i64 N,.int .i64 H,.slice AT nT cT,.slice AO nO cO] 88)).alloc (.cells #[.int .i64 0,.int .i64 0,.slice none 0 0,.slice none 0 0] 88)) (w.heap.size+1) 88 _ from Bx.new' (by simp))
 have RT:=zH ((HT.out.2.alloc (.cells #[.int .i64 N,.int .i64 H,.slice AT nT cT,.slice AO nO cO] 88)).alloc (.cells #[.int .i64 0,.int .i64 0,.slice none 0 0,.slice none 0 0] 88))
 have RO:=zH ((HO.out.2.alloc (.cells #[.int .i64 N,.int .i64 H,.slice AT nT cT,.slice AO nO cO] 88)).alloc (.cells #[.int .i64 0,.int .i64 0,.slice none 0 0,.slice none 0 0] 88))
 have BZ:Hid (Below w.heap.size w ((w.alloc (.cells #[.int .i64 N,.int .i64 H,.slice AT nT cT,.slice AO nO cO] 88)).alloc (.cells #[.int .i64 0,.int .i64 0,.slice none 0 0,.slice none 0 0] 88))):=zH (((zW).alloc zR _).alloc (by simp) _)
 go_enter Tryz.func139,Tryz.ntmps139
 go_wp2_with (first
  |(at_builtin;refine wpList_mk0 rfl (.tmp 3) (.tmp 5) 85 rfl Tryz.underlying85 infoPhaseTerm hz2 (base:=w.heap.size+1+1) rfl (Bx.new' (by simp)) zR rfl (RT.out.alloc _) (by omega) (by decide) ?_;intro A3 c3 w3 o3 b3;have Y0:=zH ((X0.out.alloc _).below b3);have Y1:=zH ((X1.out.alloc _).below b3);have BY:=zH (below_trans (BZ.out.alloc BZ.out.size _) b3);have ⟨p0,p1,p2,p3,f0,f1,f2,f3⟩:=Y0.out.four;have hs3:=Y1.out.lt;have hs0:=Y0.out.lt)
  |(at_builtin;refine wpList_mk0 rfl (.tmp 8) (.tmp 10) 86 rfl Tryz.underlying86 infoAffineForm hz2 (base:=w.heap.size+1+1) rfl (Bx.new' (by simp)) ?_ rfl (HO.out.2.below (below_sa BY.out (p:=⟨w.heap.size,2,none⟩) zR BY.out.size)) (by omega) (by decide) ?_;omega;intro A4 c4 w4 o4 b4;have V0:=zH (((Y0.out.s2 (.slice A3 nT c3)).alloc _).below b4);have V1:=zH (((Y1.out.far (p:=⟨w.heap.size,2,none⟩) (by simp) (.slice A3 nT c3)).alloc _).below b4);clear p0 p1 p2 p3 f0 f1 f2 f3;have ⟨p0,p1,p2,p3,f0,f1,f2,f3⟩:=V0.out.four;have ⟨q0,q1,q2,q3,y0,y1,y2,y3⟩:=V1.out.four))
 have P3:=ownsRow_below (World.ownsRow.alloc (own_set o3 (p:=⟨w.heap.size,2,none⟩) (by show w.heap.size < w.heap.size+1+1;omega) (.slice A3 nT c3)) (.cells #[] 93)) b4
 refine bodyPost_ret (v:=.agg #[.int .i64 N,.int .i64 H,.slice A3 nT c3,.slice A4 nO c4]) (by simp [results,Tryz.results139,go_sem,q0,q1,q2,q3]) rfl ⟨_,rfl,⟨A3,c3,A4,c4,by rw [HT.out.1,HO.out.1],?_,?_⟩,?_⟩
 ·rw [HT.out.1]
  exact ownsRow_base (own_set4 (own_set P3 (p:=⟨w.heap.size,3,none⟩) (by show w.heap.size < w.heap.size+1+1;omega) _) (by omega)) (by omega)
 ·rw [HO.out.1]
  exact ownsRow_base (own_set4 (own_set o4 (p:=⟨w.heap.size,3,none⟩) (by show w.heap.size < w.heap.size+1+1;omega) _) (by omega)) (by omega)
 ·exact below_set4 ((below_trans (below_sa BY.out (p:=⟨w.heap.size,2,none⟩) zR BY.out.size) b4).setCell zR _) (by omega)
def atI (m:Int) (k:Nat) (l:List (Int × Int)):Int :=
 match atL m k l with
 |some j=>j
 |none=>-1
theorem atI_hit {m:Int} {k:Nat} {p:Int × Int} {r:List (Int × Int)} (h:(p.1 == m)=true):atI m k (p :: r)=k:=by unfold atI;rw [atL,if_pos h]
theorem atI_miss {m:Int} {k:Nat} {p:Int × Int} {r:List (Int × Int)} (h:(p.1 == m)=false):atI m k (p :: r)=atI m (k+1) r:=by unfold atI;rw [atL,h];rfl
theorem plL_stop {m:Int} {k:Nat} {p:Int × Int} {r:List (Int × Int)} (h:m < p.1):plL m k (p :: r)=k:=by rw [plL,if_neg (by simp;omega)]
theorem plL_go {m:Int} {k:Nat} {p:Int × Int} {r:List (Int × Int)} (h:p.1<=m):plL m k (p :: r)=plL m (k+1) r:=by rw [plL,if_pos (by simpa using h)]
theorem sl_lP (A:Option Addr) (n c lo:Nat) (h1:lo<=n) (w:World) :
  (Instr.slice 85 (.slice A n c) (some (.int .i64 (lo:Int))) none none).run Tryz.prog w=.ok (.slice (if c=lo then A else A.map (·.add (lo * 2))) (n - lo) (c - lo)) w:=by
 have hz:(sizeOf (Tryz.prog.elem 85)).run Tryz.prog w=.ok 2 w:=by kernel_rfl
 rw [run_slice_l w 85 A n c (by kernel_rfl) .i64 lo (by omega) (by omega),hz]
 simp only [Result.andThen,sliced,Int.toNat_natCast]
theorem sl_hPo (A:Option Addr) (n c hi:Nat) (h2:hi<=c) (w:World) :
  (Instr.slice 85 (.slice A n c) none (some (.int .i64 (hi:Int))) none).run Tryz.prog w=.ok (.slice A hi c) w:=by
 have hz:(sizeOf (Tryz.prog.elem 85)).run Tryz.prog w=.ok 2 w:=by kernel_rfl
 rw [run_slice_h w 85 A n c (by kernel_rfl) .i64 hi (by omega) (by omega),hz]
 simp only [Result.andThen,sliced,Int.toNat_natCast]
 cases A<;>simp [Addr.add]
theorem RdP.pre {w:World} {A:Option Addr} {n:Nat} {gs:List (Int × Int)} (h:RdP w A n gs) {k:Nat} (hk:k<=n):RdP w A k (gs.take k) :=
 ⟨by rw [List.length_take,h.1];omega,by rw [cellsP_take];exact h.2.pre hk⟩
theorem RdP.cut {w:World} {A:Option Addr} {n:Nat} {gs:List (Int × Int)} (h:RdP w A n gs) {k cap:Nat} (hk:k<=n) (hc:n<=cap):RdP w (if cap=k then A else A.map (·.add (k * 2))) (n - k) (gs.drop k) :=
 ⟨by rw [List.length_drop,h.1],by rw [cellsP_drop];exact h.2.cut hk hc⟩
theorem own_some {w:World} {base:Nat} {e:TypeId} {sz n c:Nat} {A:Option Addr} {xs:List Value} (h:w.ownsRow base e sz (.slice A n c) n xs) (hn:0 < n):∃ g,A=some ⟨g,0,none⟩:=by
 rcases h.2 with ⟨_,h0⟩ | ⟨g,_,_,hv,_⟩
 ·omega
 ·injection hv with hv _ _;exact ⟨g,hv⟩
theorem set_bump (l:List (Int × Int)) (k:Nat) (c:Int) (x y:Int) (hd:l.drop k=(x,y) :: l.drop (k+1)):(cellsP l).set (k * 2+1) (.int .i64 ((y+c) % 8))=cellsP (bump l k c):=by
 have hk:k < l.length:=by
  rcases Nat.lt_or_ge k l.length with h | h
  ·exact h
  ·rw [List.drop_eq_nil_of_le h] at hd;cases hd
 have hx:l[k]? = some (x,y):=by have:=congrArg (fun r=>r[0]?) hd;simpa using this
 have hb:bump l k c=l.take k++(x,(y+c) % 8) :: l.drop (k+1):=by
  unfold bump
  rw [List.getD_eq_getElem?_getD,hx,Option.getD_some,List.set_eq_take_append_cons_drop,if_pos hk]
 have hl:l=l.take k++(x,y) :: l.drop (k+1):=by rw [<- hd,List.take_append_drop]
 rw [hb,cellsP_append]
 conv=>lhs;rw [hl,cellsP_append]
 rw [List.set_append]
 have hlen:(cellsP (l.take k)).length=k * 2:=by rw [length_cellsP,List.length_take];omega
 rw [if_neg (by omega),hlen]
 simp [cellsP,show k * 2+1 - k * 2=1 by omega]
theorem ins_own {w:World} {base n:Nat} {e:TypeId} {v:Value} {a b l:List (Int × Int)} {m:Int} (h:l=a++(m,0) :: b) (ho:w.ownsRow base e 2 v n (cellsP a++[.int .i64 m,.int .i64 0]++cellsP b)):w.ownsRow base e 2 v n (cellsP l):=by
 have e1:cellsP l=cellsP a++[.int .i64 m,.int .i64 0]++cellsP b:=by rw [h,cellsP_append];simp [cellsP]
 rw [e1];exact ho
theorem bump_prep {wx:World} {base B:Nat} {w:World} {A:Option Addr} {L cX:Nat} {b:List (Int × Int)} (k:Nat) (c:Int) (e:TypeId) (ho:wx.ownsRow base e 2 (.slice A L cX) L (cellsP b)) (hk:k < b.length) (hb:Below B w wx) (hB:B<=base) :
  ∃ (g:Nat) (x y:Int),A=some ⟨g,0,none⟩/\wx.cell? ⟨g,k * 2,none⟩=some (.int .i64 x)/\wx.cell? ⟨g,k * 2+1,none⟩=some (.int .i64 y)/\wx.frozen? ⟨g,k * 2+1,none⟩=false/\base<=g/\b.length=L ∧
   Hid ((wx.setCell ⟨g,k * 2+1,none⟩ (.int .i64 ((y+c) % 8))).ownsRow base e 2 (.slice (some ⟨g,0,none⟩) L cX) L (cellsP (bump b k c)))/\Hid (Below B w (wx.setCell ⟨g,k * 2+1,none⟩ (.int .i64 ((y+c) % 8))))/\wx.grownBy (wx.setCell ⟨g,k * 2+1,none⟩ (.int .i64 ((y+c) % 8))) (some g):=by
 have hL:b.length=L:=by have:=ho.1;rw [length_cellsP] at this;omega
 obtain ⟨g,rfl⟩:=own_some ho (by omega)
 obtain ⟨x,y,hd⟩:∃ x y,b.drop k=(x,y) :: b.drop (k+1):=⟨_,_,drop_cons hk⟩
 have f2:=flat2 _ _ _ _ hd
 have hg:=(ho.lt g rfl).1
 have s1:=ho.stored (k * 2+1) (.int .i64 ((y+c) % 8))
 refine ⟨g,x,y,rfl,(ho.cellAt (k * 2) (by omega)).trans f2.1,(ho.cellAt (k * 2+1) (by omega)).trans f2.2,ho.frozenAt _,hg,hL,zH ?_,zH (hb.setCell (by show B<=g;omega) _),s1.2⟩
 rw [<- set_bump _ _ _ _ _ hd]
 exact s1.1
set_option maxRecDepth 100000 in
theorem s_l32Add (A:Option Addr) (n cap:Nat) (t:List (Int × Int)) (m c:Int) (w:World) (h:RdP w A n t) (hn:n<=549755813888) (hnc:n<=cap) :
  Calls Tryz.prog 140 #[.slice A n cap,.int .i64 m,.int .i64 c] w (Ret 128 2 (cellsP (addT t m c)) (addT t m c).length w):=by
 have H:=zH h
 have hl:=h.1
 have HLN:=zH hl
 clear h
 obtain ⟨R,hR⟩:∃ R,addT t m c=R:=⟨_,rfl⟩
 have HR:=zH hR
 rw [hR]
 obtain ⟨pl,hpl⟩:∃ pl,plL m 0 t=pl:=⟨_,rfl⟩
 have hplb:=plL_ge m 0 t
 rw [hpl,hl] at hplb
 have hpl2:pl<=n:=by omega
 have HPL:=zH hpl
 have hslh:=sl_hPo A n cap pl (by omega)
 have hsll:=sl_lP A n cap pl (by omega)
 obtain ⟨AC,hAC⟩:∃ AC,(if cap=pl then A else A.map (·.add (pl * 2)))=AC:=⟨_,rfl⟩
 rw [hAC] at hsll
 have HC:Hid (RdP w AC (n - pl) (t.drop pl)):=zH (by rw [<- hAC];exact H.out.cut hpl2 hnc)
 clear hR hl hpl hplb hAC
 go_enter Tryz.func140,Tryz.ntmps140
 go_wp2_with fail
 go_loopg [7,8,9] (n+1) (fun r va vp i wr=>∃ (k:Nat),k+1=r/\k<=n/\i=.int .i64 ((k:Int) - 1)/\va=.int .i64 (atI m k (t.drop k))/\vp=.int .i64 (plL m k (t.drop k))/\w=wr)
 case atStart=>exact ⟨n,rfl,by omega,by simp,by rw [List.drop_eq_nil_of_le (by have:=HLN.out;omega)];rfl,by rw [List.drop_eq_nil_of_le (by have:=HLN.out;omega)];rfl,rfl⟩
 case round =>
  obtain ⟨k,hk,hkn,rfl,rfl,rfl,rfl⟩:=hrel
  rcases k with _ | j
  ·have HD0:Hid (t.drop 0=t):=zH rfl
   clear hk
   rw [HD0.out,HPL.out]
   obtain ⟨va,hva⟩:∃ va,atI m 0 t=va:=⟨_,rfl⟩
   rw [hva]
   have HW:Hid (withT t m=(if va < 0 then t.take pl++(m,0) :: t.drop pl else t)/\(atT t m:Int)=(if va < 0 then (pl:Int) else va)/\(va = -1 ∨ 0<=va)):=zH (by
    unfold withT atT
    unfold atI at hva
    rw [HPL.out]
    cases h:atL m 0 t with
    |none=>rw [h] at hva;simp only at hva ⊢;subst hva;exact ⟨rfl,rfl,.inl rfl⟩
    |some j=>rw [h] at hva;simp only at hva ⊢;subst hva;rw [if_neg (by omega),if_neg (by omega)];exact ⟨rfl,rfl,.inr (by omega)⟩)
   clear hva
   have hz2:(Value.agg #[.int .i64 0,.int .i64 0]).cells.size=2:=rfl
   rcases (show va = -1 ∨ 0<=va from HW.out.2.2) with hva | hva
   ·subst hva
    obtain ⟨hw1,hw2,_⟩:=HW.out
    rw [if_pos (by omega)] at hw1 hw2
    have HWT:=zH hw1
    have HKA:Hid (atT t m=pl):=zH (by omega)
    have HKL:Hid (pl < (withT t m).length):=zH (by rw [<- HKA.out];exact atT_lt t m)
    clear hw1 hw2 HW
    go_wp2_with (first
     |(at_builtin;refine wpList_mk0 rfl (.tmp 38) (.tmp 39) 85 rfl Tryz.underlying85 infoPhaseTerm hz2 (base:=w.heap.size) rfl (Bx.new' (by simp)) zR rfl (H.out.2.alloc _) (by omega) (by decide) ?_;intro A1 c1 w1 o1 b1;have B1:=zH (below_alloc b1);have hs1:=B1.out.size;clear o1 b1)
     |(at_builtin;refine wpList_mk0 rfl (.tmp 44) (.tmp 47) 85 rfl Tryz.underlying85 infoPhaseTerm hz2 (base:=w.heap.size) rfl (Bx.new' (by simp)) hs1 rfl ((((H.out.pre hpl2).2.below B1.out)).alloc _) (by omega) (by decide) ?_;intro A2 c2 w2 o2 b2;have B2:=zH (below_trans (B1.out.alloc hs1 _) b2);have O2:=zH o2;have hs2:=B2.out.size;clear o2 b2)
     |(at_builtin;refine wpList_app rfl (.tmp 48) (.tmp 51) 85 rfl Tryz.underlying85 infoPhaseTerm rfl (by decide) rfl (O2.out.alloc _) rfl (Rd.lit _ 128 #[.int .i64 m,.int .i64 0] 1 2 rfl) (by simp [Value.oneCell']) (by omega) (by decide) (by simp<;>omega) ?_;intro A3 c3 w3 o3 g3;have O3:=zH o3;have B3:=zH (below_grown (B2.out.alloc hs2 _) (by simp<;>omega) (O2.out.alloc _) zR g3);have hs3:=B3.out.size;clear o3 g3)
     |(at_builtin;refine wpList_app rfl (.tmp 53) (.tmp 56) 85 rfl Tryz.underlying85 infoPhaseTerm rfl (by decide) rfl O3.out rfl (HC.out.2.below B3.out) one_cellsP (by omega) (by decide) hs3 ?_;intro A4 c4 w4 o4 g4;have O4:=zH o4;have OW4:=ins_own HWT.out o4;obtain ⟨gx,x,y,rfl,e0,e1,z1,hgx,hL,SO,SB,_⟩:=bump_prep pl c _ OW4 HKL.out (below_grown B3.out hs3 O3.out zR g4) zR;have hplI0:(0:Int)<=(pl:Int):=(by omega);have hplI:(pl:Int) < ((pl+1+(n - pl):Nat):Int):=(by omega);clear o4 g4 O4 OW4))
    have HWR:Hid (wrap64 (y+c) % 8=(y+c) % 8):=zH (wrap_mod8 _)
    refine (s_l32Rest _ _).mono ?_
    rintro e wq ⟨rfl,rfl⟩
    rw [HWR.out]
    obtain ⟨b,hb⟩:∃ b,bump (withT t m) pl c=b:=⟨_,rfl⟩
    rw [hb] at SO
    have HBL:Hid (b.length=(pl+1+(n - pl))):=zH (by rw [<- hb,bump_len,hL])
    have HRB:Hid (nz b=R):=zH (by rw [<- hb,<- HR.out];unfold addT;rw [HKA.out])
    have SR:=zH (RdP.own SO.out)
    clear hb SO
    go_wp2_with fail
    clear e0 e1 z1
    obtain ⟨wy,hwy⟩:∃ wy,wy=w4.setCell ⟨gx,pl * 2+1,none⟩ (.int .i64 ((y+c) % 8)):=⟨_,rfl⟩
    rw [<- hwy] at SR SB ⊢
    have HSY:Hid (wy.heap.size=w4.heap.size):=zH (by rw [hwy];simp [World.setCell])
    clear hwy
    have hwys:=SB.out.size
    go_loopg [11,12] ((pl+1+(n - pl))) (fun r v i wr=>∃ (k q:Nat) (A0:Option Addr) (c0:Nat),k+r=(pl+1+(n - pl))/\i=.int .i64 k/\v=.slice A0 q c0/\q<=k/\(nz (b.take k)).length=q/\wr.ownsRow wy.heap.size 128 2 (.slice A0 q c0) q (cellsP (nz (b.take k)))/\Below wy.heap.size wy wr)
    case atStart=>exact ⟨0,0,_,_,by omega,rfl,rfl,zR,by simp [nz],by rw [<- HSY.out];simpa [nz,cellsP] using World.ownsRow_lit wy #[] 0 (size:=2) (e:=128) zR (by simp [maxLen]) rfl,(zW).alloc zR _⟩
    case round =>
     obtain ⟨k,q,A0,c0,hk,rfl,rfl,hqk,hq,ho,hbw⟩:=hrel
     have HQ:=zH hq
     have HO:=zH ho
     have HB:=zH hbw
     have hbs:=hbw.size
     clear hq ho hbw
     by_cases hlt:k < (pl+1+(n - pl))
     ·obtain ⟨bb,off,u,v,hA,hBb,hd,d0,d1⟩:=(SR.out.below HB.out).at_ hlt
      injection hA with hA
      injection hA with hA1 hA2 _
      subst hA1 hA2
      rw [Nat.zero_add] at d0 d1
      have HD:=zH hd
      have HN:Hid (nz (b.take (k+1))=nz (b.take k)++(if (v == 0)=true then [] else [(u,v)])):=zH (by rw [take_snoc HD.out,nz_snoc])
      have hkI:(k:Int) < (((pl+1+(n - pl)):Nat):Int):=by omega
      have hk0:(0:Int)<=(k:Int):=by omega
      clear hd
      by_cases hv:v=0
      ·subst hv
       go_wp2_with fail
       go_roundg (gk - 1)
       case measure=>omega
       case rel=>exact ⟨k+1,q,A0,c0,by omega,by go_num,rfl,by omega,by rw [HN.out];simpa using HQ.out,by rw [HN.out];simpa using HO.out,HB.out⟩
      ·have hv1:(v == 0)=false:=by simpa using hv
       have HV:=zH hv1
       have hv2:(v != 0)=true:=by simp [bne,hv1]
       have DA:=zH (HO.out.alloc (.cells #[.int .i64 u,.int .i64 v] 128))
       go_wp2_with (at_builtin;refine wpList_app rfl (.tmp 83) (.tmp 88) 85 rfl Tryz.underlying85 infoPhaseTerm rfl (by decide) rfl DA.out rfl (Rd.lit _ 128 #[.int .i64 u,.int .i64 v] 1 2 rfl) (by simp [Value.oneCell']) (by omega) (by decide) (by simp<;>omega) ?_;intro A5 c5 w5 o5 g5)
       go_roundg (gk - 1)
       case measure=>omega
       case rel =>
        refine ⟨k+1,q+1,A5,c5,by omega,by go_num,rfl,by omega,by rw [HN.out,HV.out];simp [HQ.out],?_,below_grown (HB.out.alloc hbs _) (by simp;omega) DA.out zR g5⟩
        rw [HN.out,HV.out]
        rw [show nz (b.take k)++(if false=true then [] else [(u,v)])=nz (b.take k)++[(u,v)] from rfl,cellsP_append]
        exact o5
     ·have hkL:k=(pl+1+(n - pl)):=by omega
      go_wp2_with fail
      go_ret
      have e:nz (b.take k)=R:=by rw [List.take_of_length_le (by have:=HBL.out;omega),HRB.out]
      have HOO:=HO.out
      have HQQ:=HQ.out
      rw [e] at HOO HQQ
      subst HQQ
      exact ⟨A0,c0,rfl,ownsRow_base HOO hwys,SB.out.trans (HB.out.mono hwys)⟩
   ·obtain ⟨ka,rfl⟩:∃ ka:Nat,va=ka:=⟨va.toNat,by omega⟩
    obtain ⟨hw1,hw2,_⟩:=HW.out
    rw [if_neg (by omega)] at hw1 hw2
    have HWT:=zH hw1
    have HKA:Hid (atT t m=ka):=zH (by omega)
    have HKL:Hid (ka < (withT t m).length):=zH (by rw [<- HKA.out];exact atT_lt t m)
    have hkan:ka < n:=by have:=HKL.out;rw [hw1,HLN.out] at this;exact this
    have hka0:(0:Int)<=(ka:Int):=by omega
    have hkaI:(ka:Int) < (n:Int):=by omega
    clear hw1 hw2 HW hva
    go_wp2_with (at_builtin;refine wpList_mk0 rfl (.tmp 38) (.tmp 39) 85 rfl Tryz.underlying85 infoPhaseTerm hz2 (base:=w.heap.size) rfl (Bx.new' (by simp)) zR rfl (H.out.2.alloc _) (by omega) (by decide) ?_;intro A1 c1 w1 o1 b1;have OW4:=(HWT.out.symm ▸ o1:w1.ownsRow w.heap.size 128 2 (.slice A1 n c1) n (cellsP (withT t m)));obtain ⟨gx,x,y,rfl,e0,e1,z1,hgx,hL,SO,SB,_⟩:=bump_prep ka c _ OW4 HKL.out (below_alloc b1) zR;clear o1 b1 OW4)
    have HWR:Hid (wrap64 (y+c) % 8=(y+c) % 8):=zH (wrap_mod8 _)
    refine (s_l32Rest _ _).mono ?_
    rintro e wq ⟨rfl,rfl⟩
    rw [HWR.out]
    obtain ⟨b,hb⟩:∃ b,bump (withT t m) ka c=b:=⟨_,rfl⟩
    rw [hb] at SO
    have HBL:Hid (b.length=n):=zH (by rw [<- hb,bump_len,hL])
    have HRB:Hid (nz b=R):=zH (by rw [<- hb,<- HR.out];unfold addT;rw [HKA.out])
    have SR:=zH (RdP.own SO.out)
    clear hb SO
    go_wp2_with fail
    clear e0 e1 z1
    obtain ⟨wy,hwy⟩:∃ wy,wy=w1.setCell ⟨gx,ka * 2+1,none⟩ (.int .i64 ((y+c) % 8)):=⟨_,rfl⟩
    rw [<- hwy] at SR SB ⊢
    have HSY:Hid (wy.heap.size=w1.heap.size):=zH (by rw [hwy];simp [World.setCell])
    clear hwy
    have hwys:=SB.out.size
    go_loopg [11,12] (n) (fun r v i wr=>∃ (k q:Nat) (A0:Option Addr) (c0:Nat),k+r=n/\i=.int .i64 k/\v=.slice A0 q c0/\q<=k/\(nz (b.take k)).length=q/\wr.ownsRow wy.heap.size 128 2 (.slice A0 q c0) q (cellsP (nz (b.take k)))/\Below wy.heap.size wy wr)
    case atStart=>exact ⟨0,0,_,_,by omega,rfl,rfl,zR,by simp [nz],by rw [<- HSY.out];simpa [nz,cellsP] using World.ownsRow_lit wy #[] 0 (size:=2) (e:=128) zR (by simp [maxLen]) rfl,(zW).alloc zR _⟩
    case round =>
     obtain ⟨k,q,A0,c0,hk,rfl,rfl,hqk,hq,ho,hbw⟩:=hrel
     have HQ:=zH hq
     have HO:=zH ho
     have HB:=zH hbw
     have hbs:=hbw.size
     clear hq ho hbw
     by_cases hlt:k < n
     ·obtain ⟨bb,off,u,v,hA,hBb,hd,d0,d1⟩:=(SR.out.below HB.out).at_ hlt
      injection hA with hA
      injection hA with hA1 hA2 _
      subst hA1 hA2
      rw [Nat.zero_add] at d0 d1
      have HD:=zH hd
      have HN:Hid (nz (b.take (k+1))=nz (b.take k)++(if (v == 0)=true then [] else [(u,v)])):=zH (by rw [take_snoc HD.out,nz_snoc])
      have hkI:(k:Int) < ((n:Nat):Int):=by omega
      have hk0:(0:Int)<=(k:Int):=by omega
      clear hd
      by_cases hv:v=0
      ·subst hv
       go_wp2_with fail
       go_roundg (gk - 1)
       case measure=>omega
       case rel=>exact ⟨k+1,q,A0,c0,by omega,by go_num,rfl,by omega,by rw [HN.out];simpa using HQ.out,by rw [HN.out];simpa using HO.out,HB.out⟩
      ·have hv1:(v == 0)=false:=by simpa using hv
       have HV:=zH hv1
       have hv2:(v != 0)=true:=by simp [bne,hv1]
       have DA:=zH (HO.out.alloc (.cells #[.int .i64 u,.int .i64 v] 128))
       go_wp2_with (at_builtin;refine wpList_app rfl (.tmp 83) (.tmp 88) 85 rfl Tryz.underlying85 infoPhaseTerm rfl (by decide) rfl DA.out rfl (Rd.lit _ 128 #[.int .i64 u,.int .i64 v] 1 2 rfl) (by simp [Value.oneCell']) (by omega) (by decide) (by simp<;>omega) ?_;intro A5 c5 w5 o5 g5)
       go_roundg (gk - 1)
       case measure=>omega
       case rel =>
        refine ⟨k+1,q+1,A5,c5,by omega,by go_num,rfl,by omega,by rw [HN.out,HV.out];simp [HQ.out],?_,below_grown (HB.out.alloc hbs _) (by simp;omega) DA.out zR g5⟩
        rw [HN.out,HV.out]
        rw [show nz (b.take k)++(if false=true then [] else [(u,v)])=nz (b.take k)++[(u,v)] from rfl,cellsP_append]
        exact o5
     ·have hkL:k=n:=by omega
      go_wp2_with fail
      go_ret
      have e:nz (b.take k)=R:=by rw [List.take_of_length_le (by have:=HBL.out;omega),HRB.out]
      have HOO:=HO.out
      have HQQ:=HQ.out
      rw [e] at HOO HQQ
      subst HQQ
      exact ⟨A0,c0,rfl,ownsRow_base HOO hwys,SB.out.trans (HB.out.mono hwys)⟩
  ·have e0:((j+1:Nat):Int) - 1=(j:Int):=by omega
   rw [e0]
   have hjn:j < n:=by omega
   obtain ⟨g,off,x,y,rfl,hB,hd,c0,c1⟩:=H.out.at_ hjn
   have HD:=zH hd
   clear hd e0
   have hj0:(0:Int)<=(j:Int):=by omega
   have hjI:(j:Int) < (n:Int):=by omega
   obtain ⟨va,hva⟩:∃ va,atI m (j+1) (t.drop (j+1))=va:=⟨_,rfl⟩
   obtain ⟨vp,hvp⟩:∃ vp,plL m (j+1) (t.drop (j+1))=vp:=⟨_,rfl⟩
   rw [hva,hvp]
   have HVA:=zH hva
   have HVP:=zH hvp
   clear hva hvp
   rcases Int.lt_trichotomy x m with hx | hx | hx
   ·have h1:(x == m)=false:=by simp;omega
    have h2:¬ m < x:=by omega
    go_wp2_with fail
    go_roundg (gk - 1)
    case measure=>omega
    case rel=>exact ⟨j,by omega,by omega,rfl,by rw [HD.out,atI_miss h1,HVA.out],by rw [HD.out,plL_go (by show x<=m;omega),HVP.out],rfl⟩
   ·subst hx
    go_wp2_with fail
    go_roundg (gk - 1)
    case measure=>omega
    case rel=>exact ⟨j,by omega,by omega,rfl,by rw [HD.out,atI_hit (by simp)],by rw [HD.out,plL_go (p:=(x,y)) (Int.le_refl _),HVP.out],rfl⟩
   ·have h1:(x == m)=false:=by simp;omega
    go_wp2_with fail
    go_roundg (gk - 1)
    case measure=>omega
    case rel=>exact ⟨j,by omega,by omega,rfl,by rw [HD.out,atI_miss h1,HVA.out],by rw [HD.out,plL_stop hx],rfl⟩
end Go.Proofs.YtmenmibfkojnoaaGreat
