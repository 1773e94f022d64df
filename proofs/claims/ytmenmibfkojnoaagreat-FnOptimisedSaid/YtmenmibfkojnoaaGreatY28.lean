/- Contracts of EqualTableau (spec and impl. -/
import Derived.Test.YtmenmibfkojnoaaGreatY26
import Derived.Test.YtmenmibfkojnoaaGreatY27
set_option maxHeartbeats 16000000
set_option maxRecDepth 100000
namespace Go.Proofs.YtmenmibfkojnoaaGreat
open Go.RowKit
set_option linter.unusedVariables false
theorem kE {α:Type} {l:List α} {k:Nat} {a:α} (h:l[k]? = some a):l.take (k+1)=l.take k++[a]:=by
 rw [List.take_add_one,h];rfl
theorem JB (k a b c k' a' b' c':Int) (w:World):(Op.equalIn 10000 151 (.agg #[k,a,b,c]) (.agg #[k',a',b',c'])).run Tryz.prog w=.ok (k == k' && (a == a' && (b == b' && c == c'))) w:=by
 have u3:=Tryz.underlying3;have a3:=Tryz.isAgg3;have z3:=Tryz.sizeOf3;have hS:Tryz.prog.underlying 151=some (.struct (Tryz.prog.fieldsOf 151)):=zK;rw [show (10000:Nat)=9999+1 from rfl,run_equalIn_agg w 9999 151 _ _ hS zK];simp only [Program.fieldsOf,Tryz.underlying151]
 go_simp
 by_cases h1:k=k'<;>by_cases h2:a=a'<;>by_cases h3:b=b'<;>by_cases h4:c=c'<;>simp [h1,h2,h3,h4]
theorem Sn (n:Nat) (a b:Pq) (w:World):(Op.equalIn 10000 151 (.agg #[n,a.x,a.z,a.p]) (.agg #[n,b.x,b.z,b.p])).run Tryz.prog w=.ok (decide (a=b)) w:=by
 rw [JB];congr 1;obtain ⟨x,z,p⟩:=a;obtain ⟨x',z',p'⟩:=b;by_cases h1:x=x'<;>by_cases h2:z=z'<;>by_cases h3:p=p'<;>simp [h1,h2,h3]<;>omega
theorem DC {α:Type} {l l':List α} {k:Nat} {a b:α} (ha:l[k]? = some a) (hb:l'[k]? = some b) (h:a ≠ b):l ≠ l':=fun e=>h (by rw [e,hb] at ha;injection ha with ha;exact ha.symm)
theorem So {p:Prop} (h:p:=by have:=HE.out;rwa [List.take_of_length_le (by rw [HL.out];exact zR),List.take_of_length_le (by rw [HL'.out];exact zR)] at this):p:=h
theorem JC {p:Prop} (h:p:=by
  have hE:∀ w,(Op.equalIn 10000 151 (.agg #[n,a.x,a.z,a.p]) (.agg #[n,d.x,d.z,d.p])).run Tryz.prog w=.ok false w:=fun w=>by rw [Sn,decide_eq_false hq]
  go_wp2_with fail;go_quiet (fail)
  go_wp2_with fail;go_ret;exact ⟨aw (decide_eq_false (HN hq)).symm,bW hb _⟩):p:=h
theorem JD {p:Prop} (h:p:=by
  obtain rfl:k=m:=zO;go_wp2_with fail;go_ret;exact ⟨aw (decide_eq_true So).symm,hb⟩):p:=h
theorem NJ (n m c c':Nat) (A A':Option Addr) (r r':List Pq) (w:World) (h:RdG w A m (dP n r)) (h':RdG w A' m (dP n r')) (hm:m<=1024) :
  Calls Tryz.prog 202 #[.slice A m c,.slice A' m c'] w fun e w'=>e=.returned (.bool (decide (r=r')))/\Below w w w':=by
 have HL:=zH (show r.length=m by rw [<- h.1,ep]);have HL':=zH (show r'.length=m by rw [<- h'.1,ep]);have H:=zH h;have H':=zH h';clear h h';go_enter Tryz.func202,Tryz.ntmps202;go_wp2_with fail;go_loopg [13] m (fun q i wr=>∃ k:Nat,k+q=m/\i=.int .i64 k/\r.take k=r'.take k/\Below w w wr)
 case atStart=>exact ⟨0,zO,rfl,rfl,zW⟩
 case round =>
  obtain ⟨k,hk,rfl,he,hb⟩:=hrel;have HE:=zH he;clear he;by_cases hlt:k < m
  ·obtain ⟨a,ha⟩:=aV (l:=r) (k:=k) (by rw [HL.out];exact hlt);obtain ⟨d,hd⟩:=aV (l:=r') (k:=k) (by rw [HL'.out];exact hlt);obtain ⟨b1,o1,rfl⟩:=H.first zO;obtain ⟨b2,o2,rfl⟩:=H'.out.first zO;obtain ⟨_,c0,c1,c2,c3⟩:=(H.below hb).cellsAt (aE ha);obtain ⟨_,d0,d1,d2,d3⟩:=(H'.out.below hb).cellsAt (aE hd);simp only [pg] at c0 c1 c2 c3 d0 d1 d2 d3;have hi0:(0:Int)<=(k:Int):=zO;have hi1:(k:Int) < (m:Int):=zO;have hM:Tryz.prog.eqGuardType Tryz.prog.depth 151=false:=zK;have HT:=zH (kE ha);have HT':=zH (kE hd);have HN:=zH (fun h:a ≠ d=>DC ha hd h);clear ha hd;by_cases hq:a=d
   ·subst hq;have hE:∀ w,(Op.equalIn 10000 151 (.agg #[n,a.x,a.z,a.p]) (.agg #[n,a.x,a.z,a.p])).run Tryz.prog w=.ok true w:=fun w=>by rw [Sn];simp
    go_wp2_with fail;go_quiet (fail)
    go_wp2_with fail;go_roundg (gk - 1)
    all_goals first
     |omega
     |exact ⟨k+1,zO,by go_num,by rw [HT.out,HT'.out,HE.out],bW hb _⟩
   ·exact JC
  ·exact JD
theorem DD (n m c c':Nat) (A A':Option Addr) (r r':List Pq) (w:World) (h:RdG w A m (dP n r)) (h':RdG w A' m (dP n r')) (hm:m<=1024) :
  Calls Tryz.prog 165 #[.agg #[n,.slice A m c],.agg #[n,.slice A' m c']] w fun e w'=>e=.returned (.bool (decide (r=r')))/\Below w w w':=by
 have B0:=zH (show Below w w ((w.alloc (.cells #[n,.slice A m c] 73)).alloc (.cells #[n,.slice A' m c'] 73)) from ((zW).alloc zR _).alloc zI _);have H:=zH h;have H':=zH h';clear h h';go_enter Tryz.func165,Tryz.ntmps165;go_wp2_with fail;refine (NJ n m c c' A A' r r' _ (H.below B0) (H'.out.below B0) hm).mono ?_;rintro e w1 ⟨rfl,b1⟩;go_wp2_with fail;go_ret;exact ⟨rfl,aa B0 b1⟩
theorem DE (n m c c':Nat) (A A':Option Addr) (r r':List Pq) (w:World) (h:RdG w A m (dP n r)) (h':RdG w A' m (dP n r')) (hm:m<=1024) :
  Calls Tryz.prog 210 #[.agg #[n,.slice A m c],.agg #[n,.slice A' m c']] w fun e w'=>e=.returned (.bool (decide (r=r')))/\Below w w w':=by
 have HL:=zH (show r.length=m by rw [<- h.1,ep]);have HL':=zH (show r'.length=m by rw [<- h'.1,ep]);have B0:=zH (show Below w w ((w.alloc (.cells #[n,.slice A m c] 73)).alloc (.cells #[n,.slice A' m c'] 73)) from ((zW).alloc zR _).alloc zI _);have X0:=zH (show Bx ((w.alloc (.cells #[n,.slice A m c] 73)).alloc (.cells #[n,.slice A' m c'] 73)) w.heap.size 73 _ from (Bx.new w _ _).alloc _);have Y0:=zH (show Bx ((w.alloc (.cells #[n,.slice A m c] 73)).alloc (.cells #[n,.slice A' m c'] 73)) (w.heap.size+1) 73 #[n,.slice A' m c'] from Bx.new' zI);have H:=zH h;have H':=zH h';clear h h';go_enter Tryz.func210,Tryz.ntmps210;go_wp2_with fail;go_loopg [5] m (fun q i wr=>∃ k:Nat,k+q=m/\i=.int .i64 k/\r.take k=r'.take k/\Bx wr w 73 #[n,.slice A m c]/\Bx wr (w.heap.size+1) 73 #[n,.slice A' m c']/\Below w w wr)
 case atStart=>exact ⟨0,zO,rfl,rfl,X0.out,Y0.out,B0.out⟩
 case round =>
  clear X0 Y0 B0;obtain ⟨k,hk,rfl,he,hX,hY,hb⟩:=hrel;have HE:=zH he;have x1:=hX.cell 1;have y1:=hY.cell 1;clear he;by_cases hlt:k < m
  ·obtain ⟨a,ha⟩:=aV (l:=r) (k:=k) (by rw [HL.out];exact hlt);obtain ⟨d,hd⟩:=aV (l:=r') (k:=k) (by rw [HL'.out];exact hlt);obtain ⟨b1,o1,rfl⟩:=H.first zO;obtain ⟨b2,o2,rfl⟩:=H'.out.first zO;obtain ⟨_,c0,c1,c2,c3⟩:=(H.below hb).cellsAt (aE ha);obtain ⟨_,d0,d1,d2,d3⟩:=(H'.out.below hb).cellsAt (aE hd);simp only [pg] at c0 c1 c2 c3 d0 d1 d2 d3;have HX:=zH hX;have HY:=zH hY;have hi0:(0:Int)<=(k:Int):=zO;have hi1:(k:Int) < (m:Int):=zO;have hM:Tryz.prog.eqGuardType Tryz.prog.depth 151=false:=zK;have HT:=zH (kE ha);have HT':=zH (kE hd);have HN:=zH (fun h:a ≠ d=>DC ha hd h);clear ha hd hX hY;by_cases hq:a=d
   ·subst hq;have hE:∀ w,(Op.equalIn 10000 151 (.agg #[n,a.x,a.z,a.p]) (.agg #[n,a.x,a.z,a.p])).run Tryz.prog w=.ok true w:=fun w=>by rw [Sn];simp
    go_wp2_with fail;go_quiet (fail)
    go_wp2_with fail;go_roundg (gk - 1)
    all_goals first
     |omega
     |exact ⟨k+1,zO,by go_num,by rw [HT.out,HT'.out,HE.out],HX.out,HY.out,bW hb _⟩
   ·exact JC
  ·exact JD
section
variable {P:Program} {w:World}
theorem JE (base:Nat) (t ty e:TypeId) {z:Value} {size bytes:Nat} (ht:P.underlying t=some (.slice e)) (hinfo:(P.info? e).map (fun i=>(i.zero,i.size,i.bytes))=some (some z,size,bytes))
  (hzs:z.cells.size=size) (hsz:0 < size) (g n c:Nat) (xs:List Value) (hown:w.ownsRow base e size (.slice (some ⟨g,0,none⟩) n c) n xs)
  (a:Addr) (m c':Nat) (news:List Value) (hl:news.length=m * size) (hnews:∀ j u,news[j]? = some u->w.cell? (a.add j)=some u) (h1:∀ u ∈ news,u.oneCell'=true)
  (hbytes:(n+m) * bytes<=140737488355328) (hby:0 < bytes) (hbase:base<=w.heap.size) :
  ∃ A'' c'' w',(Builtin.append_ #[t,t] ty #[.slice (some ⟨g,0,none⟩) n c,.slice (some a) m c']).run P w=.ok (.slice A'' (n+m) c'') w'/\w'.ownsRow base e size (.slice A'' (n+m) c'') (n+m) (xs++news)/\w.grownBy w' (some g)/\∀ j u,xs[j]? = some u->w'.cell? ⟨g,j,none⟩=some u:=by
 obtain ⟨i,hi,hz,hs,hb⟩:=info_parts hinfo;have h63:n+m<=maxLen:=by
  have h:=Nat.le_trans (Nat.le_mul_of_pos_right (n+m) hby) hbytes;simp only [maxLen];omega
 obtain ⟨v',w',hrun,h2,h3,_,hat⟩:=run_append_own_at (P:=P) w base t ty e i z size bytes ht hi hz hs hb hzs hsz _ n xs hown a m c' news hl hnews h1 h63 hbytes hbase;obtain ⟨A'',c'',rfl⟩:=fs h2;refine ⟨A'',c'',w',hrun,h2,h3,fun j u hu=>?_⟩;have hcell:∀ (w0:World) (b0:Nat) (e0:TypeId) (s0 n0 c0 g0:Nat) (ys:List Value),w0.ownsRow b0 e0 s0 (.slice (some ⟨g0,0,none⟩) n0 c0) n0 ys->∀ j u,ys[j]? = some u->w0.cell? ⟨g0,j,none⟩=some u:=by
  intro w0 b0 e0 s0 n0 c0 g0 ys h j u hu;rcases h.2 with ⟨h0,_⟩ | ⟨g1,cap,cur,hv,_,hg,hnc,_,cP,htk⟩
  ·cases h0
  ·simp only [Value.slice.injEq,Option.some.injEq,Addr.mk.injEq,and_true] at hv;obtain ⟨rfl,_⟩:=hv;rw [cell_of_row w0 g0 j cur e0 (0,0) hg];rw [<- htk,List.getElem?_take] at hu;split at hu
   ·simpa using hu
   ·cases hu
 subst hs hb;by_cases hroom:n+m<=c
 ·rcases hown.2 with ⟨h0,_⟩ | ⟨g1,cap,cur,hv,hbg,hg,hnc,hcm,cP,htk⟩
  ·cases h0
  ·simp only [Value.slice.injEq,Option.some.injEq,Addr.mk.injEq,and_true] at hv;obtain ⟨rfl,rfl⟩:g=g1/\c=cap:=zO;have hfit:n * i.size+news.length<=cur.size:=by rw [hl,cP,<- Nat.add_mul];exact Nat.mul_le_mul_right _ hroom
   have hr:=run_append_room (P:=P) w t ty e i ht hi g n c cur hg a m c' news hl hnews h1 hroom hfit;rw [hrun] at hr;injection hr with hr1 hr2;simp only [Value.slice.injEq] at hr1
   obtain ⟨rfl,_,rfl⟩:=hr1;exact hcell _ _ _ _ _ _ _ _ h2 j u (by rw [List.getElem?_append_left (List.getElem?_eq_some_iff.1 hu).1];exact hu)
 ·have hold:w.cell? ⟨g,j,none⟩=some u:=hcell _ _ _ _ _ _ _ _ hown j u hu;have holds:∀ j u,xs[j]? = some u->w.cell? ((⟨g,0,none⟩:Addr).add j)=some u:=fun j u hu=>by
   have:=hcell _ _ _ _ _ _ _ _ hown j u hu;unfold Addr.add;split
   ·subst j;exact this
   ·simpa using this
  have hr:=run_append_grow (P:=P) w t ty e i z ht hi hz ⟨g,0,none⟩ n c xs hown.1 holds a m c' news hl hnews zO (by simp only [maxLen] at h63;omega) (growslice_fits zO hbytes);rw [hrun] at hr;injection hr with hr1 hr2;rw [hr2]
  have hlt:=World.block_lt_of_cell? w _ hold;exact (((Below.refl w w).drew.alloc zR _).cell (p:=⟨g,j,none⟩) hlt).trans hold
theorem Fy {ops:Array Oper} {o:Oper} {a:Act} {K:Act->World->Prop} {Q:Exit->Act->World->Prop} {E:Prop} (hgd:o.guard=none) (s x:Operand) (t:TypeId)
  (ho:o.op=.call { callee:=.builtin .append,args:=#[s,x],argTypes:=#[t,t] })
  {base e:Nat} {z:Value} {size bytes:Nat} (ht:P.underlying t=some (.slice e)) (hinfo:(P.info? e).map (fun i=>(i.zero,i.size,i.bytes))=some (some z,size,bytes))
  (hzs:z.cells.size=size) (hsz:0 < size) {g n c:Nat} {xs:List Value} (hs:a.eval s=.slice (some ⟨g,0,none⟩) n c) (hown:w.ownsRow base e size (.slice (some ⟨g,0,none⟩) n c) n xs)
  {b m c':Nat} {news:List Value} (hx:a.eval x=.slice (some ⟨b,0,none⟩) m c') (hl:news.length=m * size) (hr:∀ j u,news[j]? = some u->w.cell? ⟨b,j,none⟩=some u) (h1:∀ u ∈ news,u.oneCell'=true)
  (hbytes:(n+m) * bytes<=140737488355328) (hby:0 < bytes) (hbase:base<=w.heap.size)
  (h:∀ A'' c'' w',w'.ownsRow base e size (.slice A'' (n+m) c'') (n+m) (xs++news)->w.grownBy w' (some g)->(∀ j u,xs[j]? = some u->w'.cell? ⟨g,j,none⟩=some u)->K (a.put o.dst (.slice A'' (n+m) c'')) w') :
  if Region.wanted o (yielded ops a.tmps)=true then Oper.wp P o a w K Q else E:=by
 have hw:Region.wanted o (yielded ops a.tmps)=true:=by simp [Region.wanted,hgd]
 rw [if_pos hw];obtain ⟨A'',c'',w',hrun,h2,h3,h4⟩:=JE (P:=P) base t o.type e ht hinfo hzs hsz g n c xs hown ⟨b,0,none⟩ m c' news hl (fun j u hu=>by
  have:=hr j u hu;unfold Addr.add;split
  ·subst j;exact this
  ·simpa using this) h1 hbytes hby hbase
 unfold Oper.wp execOp;simp only [ho,resolve,invoke,builtin,Sem.run_bind,Sem.run_pure,Result.andThen_ok,List.map_toArray,List.map_cons,List.map_nil,hs,hx,hrun];exact h A'' c'' w' h2 h3 h4
end
def ib:Nat->List Gt->List Gt
 |0,l=>l
 |f+1,l=>if eR l then ib f (d9 l) else l
def aG (l:List Gt):List Gt:=ib l.length l
theorem Bo {l:List Gt} (h:eR l=true):1<=l.length:=by have:=rR h;omega
theorem JF {l:List Gt} (m:Nat) (h:eR l=false):ib m l=l:=by cases m<;>simp [ib,h]
theorem ux:∀ (m:Nat) (l:List Gt),(ib m l).length<=l.length
 |0,l=>by simp [ib]
 |m+1,l=>by
  unfold ib;split
  ·rename_i h;have:=ux m (d9 l);have:=rR h;omega
  ·exact zR
theorem JG {p:Prop} (h:p:=by
  rintro e w4 ⟨A4,c4,rfl,o4,b4⟩;have b04:=b3.trans (b4.mono b3.size);cases hs:eR x
  ·have HS:=zH (show x=aG l by rw [<- HP.out,JF _ hs]);have FIN:=zH (show jl 39 4 (af (aG l)) (aG l).length w (.returned (.slice A3 k c3)) w4 from by
    rw [<- HS.out,HK.out];exact ⟨A3,c3,rfl,ab O3.out b4,b04⟩)
   clear hs;go_wp2_with fail;go_ret;exact FIN.out
  ·have h1:=Bo hs;have h2:=rR hs;have h3:=HK.out;obtain ⟨m',rfl⟩:∃ m',gk=m'+1:=⟨gk - 1,zO⟩;have FIN:=zH (show ib m' (d9 x)=aG l by rw [<- HP.out,ib,if_pos hs]);have hle:(d9 x).length<=m'/\(d9 x).length<=n:=zO;obtain ⟨j,hj⟩:∃ j,(d9 x).length=j:=⟨_,rfl⟩;have HJ:=zH hj;rw [hj] at o4 hle;rw [hj];clear hs h1 h2 h3 hj;go_wp2_with fail;go_roundg m'
   case measure=>omega
   case rel=>exact ⟨j,d9 x,A4,c4,HJ.out,hle.1,hle.2,FIN.out,rfl,ae o4 b3.size,b04⟩):p:=h
theorem kF (A:Option Addr) (n c:Nat) (l:List Gt) (w:World) (h:RdG w A n l) (hn:n<=1099511627776) :
  Calls Tryz.prog 29 #[.slice A n c] w (jl 39 4 (af (aG l)) (aG l).length w):=by
 have H:=zH h;have hl:=h.1;have HR:Hid (ib n l=aG l):=zH (by rw [<- hl];rfl);have HL:=zH hl;clear h hl;have OWN0:=zH (World.ownsRow_lit w #[] 0 (size:=4) (e:=39) zR zM rfl);go_enter Tryz.func29,Tryz.ntmps29
 go_wp2_with (at_builtin;refine jv rfl (.tmp 6) (.tmp 7) 24 rfl Tryz.underlying24 ak rfl zD rfl OWN0.out rfl (H.out.2.alloc _) aQ zO zD zI ?_;intro A2 c2 w2 o2 g2)
 have b2:Below w w w2:=ag ((zW).alloc zR _) zI OWN0.out zR g2;go_loopg [3] n (fun m v wr=>∃ (k:Nat) (x:List Gt) (A:Option Addr) (ca:Nat),x.length=k/\k<=m/\k<=n/\ib m x=aG l/\v=.slice A k ca/\wr.ownsRow w 39 4 (.slice A k ca) k (af x)/\Below w w wr)
 case atStart=>exact ⟨n,l,A2,c2,HL.out,zR,zR,HR.out,rfl,o2,b2⟩
 case round =>
  obtain ⟨k,x,A3,c3,hk,hkm,hkn,hp,rfl,o3,b3⟩:=hrel;have HK:=zH hk;have HP:=zH hp;have O3:=zH o3;clear hk hp o3 o2 b2 g2;go_wp2_with fail;refine (sj _ _ _ x _ (RdG.own O3) (ao O3) zO).mono ?_;exact JG
theorem kG (A:Option Addr) (n c:Nat) (l:List Gt) (w:World) (h:RdG w A n l) (hn:n<=1099511627776) :
  Calls Tryz.prog 22 #[.slice A n c] w (jl 39 4 (af (aG l)) (aG l).length w):=by
 have H:=zH h;have hl:=h.1;have HR:Hid (ib n l=aG l):=zH (by rw [<- hl];rfl);have HL:=zH hl;clear h hl;go_enter Tryz.func22,Tryz.ntmps22;go_wp2_with fail;refine (dB _ _ _ _ _ H hn).mono ?_;rintro e w2 ⟨A2,c2,rfl,o2,b2⟩;go_wp2_with fail;go_loopg [3] n (fun m v wr=>∃ (k:Nat) (x:List Gt) (A:Option Addr) (ca:Nat),x.length=k/\k<=m/\k<=n/\ib m x=aG l/\v=.slice A k ca/\wr.ownsRow w 39 4 (.slice A k ca) k (af x)/\Below w w wr)
 case atStart=>exact ⟨n,l,A2,c2,HL.out,zR,zR,HR.out,rfl,o2,b2⟩
 case round =>
  obtain ⟨k,x,A3,c3,hk,hkm,hkn,hp,rfl,o3,b3⟩:=hrel;have HK:=zH hk;have HP:=zH hp;have O3:=zH o3;clear hk hp o3 o2 b2;go_wp2_with fail;refine (sq _ _ _ x _ (RdG.own O3) (ao O3) zO).mono ?_;exact JG
theorem iM (p:Po) (g:Gt):(aJ p g).1.t.length<=p.t.length+1/\(aJ p g).1.o.length<=p.o.length/\((aJ p g).2=true->(aJ p g).1.N=p.N):=by
 cases h:lN p g
 ·rw [j6 h];exact ⟨by simp [Po.zero],by simp [Po.zero],fun h=>by cases h⟩
 ·rw [er h];unfold dG;split
  ·exact ⟨zI,zI,fun _=>rfl⟩
  split
  ·exact ⟨zI,zI,fun _=>rfl⟩
  split
  ·exact ⟨zI,zI,fun _=>rfl⟩
  split
  ·exact ⟨by simp [Po.zero],by simp [Po.zero],fun h=>by cases h⟩
  split
  ·exact ⟨yA _ _ _,zR,fun _=>rfl⟩
  ·exact ⟨yA _ _ _,zR,fun _=>rfl⟩
theorem bD {w':World} {base g1:Nat} {e:TypeId} {sz n:Nat} {v:Value} {xs:List Value} {a b c d:Value} (h:w'.ownsRow base e sz v n xs) (hg:some g1 ≠ v.ownBlock):((((w'.setCell ⟨g1,0,none⟩ a).setCell ⟨g1,1,none⟩ b).setCell ⟨g1,2,none⟩ c).setCell ⟨g1,3,none⟩ d).ownsRow base e sz v n xs :=
 bM (bM (bM (bM h (p:=⟨g1,0,none⟩) hg a) (p:=⟨g1,1,none⟩) hg b) (p:=⟨g1,2,none⟩) hg c) (p:=⟨g1,3,none⟩) hg d
theorem ew {p:Po} {g:Gt} {r:List Gt} (h:(aJ p g).2=true):cp p (g :: r)=cp (aJ p g).1 r:=by rw [cp,if_pos h]
theorem n6 {p:Po} {g:Gt} {r:List Gt} (h:(aJ p g).2=false):cp p (g :: r)=(Po.zero,false):=by rw [cp,if_neg (by rw [h];simp)]
theorem yQ:∀ (gs:List Gt) (p:Po),(cp p gs).1.t.length<=p.t.length+gs.length/\(cp p gs).1.o.length<=p.o.length
 |[],p=>⟨by simp [cp],by simp [cp]⟩
 |g :: r,p=>by
  cases h:(aJ p g).2
  ·rw [n6 h];exact ⟨by simp [Po.zero],by simp [Po.zero]⟩
  ·rw [ew h];have h1:=yQ r (aJ p g).1;have h2:=iM p g;rw [List.length_cons];exact ⟨zO,zO⟩
theorem yR (gs:List Gt) (n:Int):(cE gs n).1.t.length<=gs.length/\(cE gs n).1.o.length<=4:=by
 unfold cE;split
 ·have h:=inB_iff.1 ‹_›;have h1:=yQ gs (cg n);have e:cg n=⟨n,0,[],mw n.toNat⟩:=by unfold cg;rw [if_pos ‹_›]
  rw [e] at h1 ⊢;simp only [List.length_nil,fx] at h1;exact ⟨zO,zO⟩
 ·exact ⟨by simp [Po.zero],by simp [Po.zero]⟩
theorem JH {p:Prop} (h:p:=by rw [<- HQ.out,List.drop_eq_nil_of_le (by have:=HL.out;omega)];rfl):p:=h
theorem pp {p:Prop} (h:p:=by rw [HQQ.out]):p:=h
theorem vY (A:Option Addr) (n cap:Nat) (gs:List Gt) (N:Int) (w:World) (h:RdG w A n gs) (hn:n<=68719476736) :
  Calls Tryz.prog 77 #[.slice A n cap,N] w (hJ (cE gs N) w):=by
 have H:=zH h;have HL:=zH h.1;clear h;have X0:=zH (Bx.new w 88 #[(0:Int),(0:Int),.slice none 0 0,.slice none 0 0]);have BZ:Hid (Below w w (w.alloc ZO.zP)):=zH ((zW).alloc zR _);obtain ⟨R,hR⟩:∃ R,cE gs N=R:=⟨_,rfl⟩;have HR:=zH hR;rw [hR];clear hR;cases hin:ee N 1 4
 ·have HI:=zH hin;have HZ:Hid (R=(Po.zero,false)):=zH (by rw [<- HR.out];unfold cE;rw [hin];rfl);rw [HZ.out];clear hin;obtain ⟨r0,r1,r2,r3,_⟩:=X0.four;go_enter Tryz.func77,Tryz.ntmps77;go_wp2_with fail;refine (eK _ _ _ _).mono ?_;rintro e w' ⟨rfl,rfl⟩;rw [HI.out];go_wp2_with fail;refine bodyPost_ret (v:=.tuple #[.agg #[(0:Int),(0:Int),.slice none 0 0,.slice none 0 0],.bool false]) (by simp [results,Tryz.results77,go_sem]) rfl ⟨_,rfl,⟨none,0,none,0,rfl,World.ownsRow_nil _ _ _ _,World.ownsRow_nil _ _ _ _⟩,?_⟩;exact (by repeat (first | exact zW | assumption | refine Below.drew ?_ | refine Below.alloc ?_ zS _))
 ·have HI:=zH hin;have HC:Hid (cp (cg N) gs=R):=zH (by rw [<- HR.out];unfold cE;rw [hin];rfl);obtain ⟨hN1,hN4⟩:=inB_iff.1 hin;have hid0:(cg N).t.length=0/\(cg N).o.length<=4:=by
   have e:cg N=⟨N,0,[],mw N.toNat⟩:=by unfold cg;rw [if_pos hin]
   rw [e];exact ⟨rfl,by rw [fx];omega⟩
  have HID:=zH hid0;clear hin hN1 hN4 hid0 HR;go_enter Tryz.func77,Tryz.ntmps77;go_wp2_with fail;refine (eK _ _ _ _).mono ?_;rintro e w' ⟨rfl,rfl⟩;rw [HI.out];go_wp2_with fail;refine (P7 _ _).mono ?_;rintro e w1 ⟨v,rfl,⟨A1,c1,B1,d1,rfl,t1,o1⟩,b1⟩;have X1:=zH ((X0.below b1).alloc (.cells #[.int .i64 (cg N).N,.int .i64 (cg N).H,.slice A1 (cg N).t.length c1,.slice B1 (cg N).o.length d1] 88));have XP:=zH (Bx.new w1 88 #[.int .i64 (cg N).N,.int .i64 (cg N).H,.slice A1 (cg N).t.length c1,.slice B1 (cg N).o.length d1]);have T1:=zH (ae (t1.alloc (.cells #[.int .i64 (cg N).N,.int .i64 (cg N).H,.slice A1 (cg N).t.length c1,.slice B1 (cg N).o.length d1] 88)) (show w.heap.size+1<=_ by simp));have O1:=zH (ae (o1.alloc (.cells #[.int .i64 (cg N).N,.int .i64 (cg N).H,.slice A1 (cg N).t.length c1,.slice B1 (cg N).o.length d1] 88)) (show w.heap.size+1<=_ by simp))
  have BB:=zH ((aa BZ b1).alloc (aa BZ b1).size (.cells #[.int .i64 (cg N).N,.int .i64 (cg N).H,.slice A1 (cg N).t.length c1,.slice B1 (cg N).o.length d1] 88));have hs1:w.heap.size < w1.heap.size:=(X0.below b1).lt;clear t1 o1 b1 X0 BZ;generalize cg N=p0 at HC HID X1 XP T1 O1 BB ⊢;go_wp2_with fail;generalize hgp:w1.heap.size=gp at XP hs1 ⊢;go_loopg [19] n (fun r i wr=>∃ (k:Nat) (p:Po) (A2:Option Addr) (c2:Nat) (B2:Option Addr) (d2:Nat),k+r=n/\i=.int .i64 k/\cp p (gs.drop k)=R/\p.t.length<=k/\p.o.length<=4/\Bx wr w 88 #[(0:Int),(0:Int),.slice none 0 0,.slice none 0 0]/\Bx wr gp 88 #[p.N,p.H,.slice A2 p.t.length c2,.slice B2 p.o.length d2]/\wr.ownsRow (w.heap.size+1) 128 2 (.slice A2 p.t.length c2) p.t.length (aj p.t)/\wr.ownsRow (w.heap.size+1) 93 2 (.slice B2 p.o.length d2) p.o.length (aj p.o)/\Below w w wr)
  case atStart=>exact ⟨0,p0,A1,c1,B1,d1,zO,rfl,HC.out,by have:=HID.out.1;omega,HID.out.2,X1.out,XP.out,T1.out,O1.out,BB.out⟩
  case round =>
   clear X1 XP T1 O1 BB HC HID;obtain ⟨k,p,A2,c2,B2,d2,hk,rfl,hq,htl,hol,hx0,hxp,ht,ho,hbw⟩:=hrel;have HQ:=zH hq;have HX0:=zH hx0;have HXP:=zH hxp;have HT:=zH ht;have HO:=zH ho;have HB:=zH hbw;have hbs:=hbw.size;have hcap:=ao ht;have hl0:=hx0.lt;have hlp:=hxp.lt;clear hq hx0 hxp ht ho hbw;obtain ⟨p0',p1,p2,p3,f0,f1,f2,f3⟩:=HXP.four;by_cases hlt:k < n
   ·obtain ⟨bb,off,g,rfl,hBb,hd,c0,c1',c2',c3⟩:=(H.below HB.out).at_ hlt;have HD:=zH hd;have hkI:(k:Int) < (n:Int):=zO;have hk0:(0:Int)<=(k:Int):=zO;clear hd;have GB:=zH (Bx.new wr 39 #[g.k,g.a,g.b,g.c]);go_wp2_with fail;refine (nZ p.N p.H A2 p.t.length c2 p.t B2 p.o.length d2 p.o g _ (RdP.own (HT.alloc _)) (RdP.own (HO.alloc _)) zO zO hcap).mono ?_;rintro e w5 ⟨v,rfl,⟨A5,c5,B5,d5,rfl,t5,o5⟩,b5'⟩;have b5:=aD b5';have hbd:=iM p g;obtain ⟨q,hq⟩:∃ q,aJ p g=q:=⟨_,rfl⟩;rw [show aJ ⟨p.N,p.H,p.t,p.o⟩ g=q from hq] at t5 o5 ⊢;rw [hq] at hbd;have hb1:=hbd.1;have hb2:=hbd.2.1;clear hbd;have HQQ:=zH hq;have X5:=zH (HX0.below b5);have XP5:=zH (HXP.below b5);have B5w:=zH (aa HB b5);have hl05:=X5.lt;have hlp5:=XP5.lt;obtain ⟨r0,r1,r2,r3,e0,e1,e2,e3⟩:=X5.four;obtain ⟨s0,s1,s2,s3,g0,g1,g2,g3⟩:=XP5.four
    have T5:=zH (ae t5 (show w.heap.size+1<=_ by simp;omega));have O5:=zH (ae o5 (show w.heap.size+1<=_ by simp;omega));have hcap5:=ao t5;clear t5 o5 b5 b5' hq p0' p1 p2 p3 f0 f1 f2 f3;obtain ⟨⟨qN,qH,qt,qo⟩,qb⟩:=q
    dsimp only at *
    cases qb
    ·have HZ:Hid (R=(Po.zero,false)):=zH (by rw [<- HQ.out,HD.out,n6 pp]);go_wp2_with fail;refine bodyPost_ret (v:=.tuple #[.agg #[(0:Int),(0:Int),.slice none 0 0,.slice none 0 0],.bool false]) (by simp [results,Tryz.results77,go_sem,r0,r1,r2,r3,hl05]) rfl ⟨_,by rw [HZ.out],by rw [HZ.out];exact ⟨none,0,none,0,rfl,World.ownsRow_nil _ _ _ _,World.ownsRow_nil _ _ _ _⟩,?_⟩;exact ia (aF B5w.out zR)
    ·go_wp2_with fail;go_roundg (gk - 1)
     case measure=>omega
     case rel =>
      exact ⟨k+1,⟨qN,qH,qt,qo⟩,A5,c5,B5,d5,zO,by go_num,by rw [<- HQ.out,HD.out,ew pp,HQQ.out],by show qt.length<=k+1;omega,by show qo.length<=4;omega,(mQ X5.out zO).alloc _,((((XP5.s0 _).s1 _).s2 _).s3 _).alloc _,(bD T5.out (am T5.out XP5.out zD)).alloc _,(bD O5.out (am O5.out XP5.out zD)).alloc _,ia (aF B5w.out zO)⟩
   ·have hkn:k=n:=zO;have HZ:Hid (R=(p,true)):=zH JH;obtain ⟨r0,r1,r2,r3,e0,e1,e2,e3⟩:=HX0.four;go_wp2_with fail;refine bodyPost_ret (v:=.tuple #[.agg #[p.N,p.H,.slice A2 p.t.length c2,.slice B2 p.o.length d2],.bool true]) (by simp [results,Tryz.results77,go_sem,r0,r1,r2,r3]) rfl ⟨_,by rw [HZ.out],by rw [HZ.out];exact ⟨A2,c2,B2,d2,rfl,ae (aW HT.out zO) zO,ae (aW HO.out zO) zO⟩,?_⟩;exact aF HB.out zR
def au:List (Int × Int)->Int->Int
 |[],_=>0
 |p :: r,m=>if (p.1 == m)=true then p.2 else au r m
def cF (c f:Int):Int:=if (f == 1)=true then (-c) % 8 else c
def dI (t:List (Int × Int)):Po->List Int->List Gt->List Gt->List Gt
 |_,_,acc,[]=>acc
 |p,met,acc,g :: r =>
  if (al g.k == 0)=true then dI t (aJ p g).1 met (acc++[g]) r
  else if met.any (· == (dg p.o g.a).1)=true then dI t (aJ p g).1 met acc r
  else dI t (aJ p g).1 (met++[(dg p.o g.a).1]) (acc++cG (cF (au t (dg p.o g.a).1) (dg p.o g.a).2) g.a) r
def dh (gs:List Gt) (n:Int):List Gt × Int :=
 if (cE gs n).2=true then
  (dI (cE gs n).1.t (cg n) [] [] gs,((cE gs n).1.H - (cE (dI (cE gs n).1.t (cg n) [] [] gs) n).1.H) % 8)
 else (gs,0)
theorem sy {gs:List Gt} {n:Int} (h:(cE gs n).2=false):dh gs n=(gs,0):=by unfold dh;rw [h];rfl
theorem pq {gs:List Gt} {n:Int} (h:(cE gs n).2=true):dh gs n=(dI (cE gs n).1.t (cg n) [] [] gs,((cE gs n).1.H - (cE (dI (cE gs n).1.t (cg n) [] [] gs) n).1.H) % 8):=by unfold dh;rw [if_pos h]
theorem iN (t:List (Int × Int)):∀ (r:List Gt) (p:Po) (met:List Int) (acc:List Gt),(dI t p met acc r).length<=acc.length+2 * r.length
 |[],_,_,acc=>by simp [dI]
 |g :: r,p,met,acc=>by
  rw [dI];split
  ·have:=iN t r (aJ p g).1 met (acc++[g]);simp at this ⊢;omega
  ·split
   ·have:=iN t r (aJ p g).1 met acc;simp at this ⊢;omega
   ·have:=iN t r (aJ p g).1 (met++[(dg p.o g.a).1]) (acc++cG (cF (au t (dg p.o g.a).1) (dg p.o g.a).2) g.a);have h2:=jU (cF (au t (dg p.o g.a).1) (dg p.o g.a).2) g.a;have h3:=fS (cF (au t (dg p.o g.a).1) (dg p.o g.a).2);rw [List.length_append] at this;rw [List.length_cons];omega
theorem pr (gs:List Gt) (n:Int):(dh gs n).1.length<=2 * gs.length:=by
 unfold dh;split
 ·have:=iN (cE gs n).1.t gs (cg n) [] [];simpa using this
 ·show gs.length<=_;omega
theorem i7 {p:Po} {g:Gt} {r:List Gt} (h:(cp p (g :: r)).2=true):(aJ p g).2=true/\(cp (aJ p g).1 r).2=true:=by
 cases h2:(aJ p g).2
 ·rw [n6 h2] at h;cases h
 ·rw [ew h2] at h;exact ⟨rfl,h⟩
theorem gN {p:Po} {g:Gt} (h:(aJ p g).2=true):lN p g=true:=by
 cases h2:lN p g
 ·rw [j6 h2] at h;cases h
 ·rfl
theorem uy {p:Po} {g:Gt} {r:List Gt} (h:(cp p (g :: r)).2=true):0<=g.a/\g.a < p.o.length/\p.o.length<=4:=by
 have h1:=cL (gN (i7 h).1);have h2:=eI h1.1;omega
theorem vZ {t:List (Int × Int)} {p q:Po} {met:List Int} {acc:List Gt} {g:Gt} {r:List Gt} (hu:(al g.k == 0)=true) (hq:aJ p g=(q,true)):dI t p met acc (g :: r)=dI t q met (acc++[g]) r:=by
 rw [dI,if_pos hu,hq]
theorem pt {t:List (Int × Int)} {p q:Po} {met:List Int} {acc:List Gt} {g:Gt} {r:List Gt} {x y:Int} (hu:(al g.k == 0)=false) (hx:dg p.o g.a=(x,y)) (hm:met.any (· == x)=true) (hq:aJ p g=(q,true)):dI t p met acc (g :: r)=dI t q met acc r:=by
 rw [dI,if_neg (by rw [hu];simp),hx,if_pos hm,hq]
theorem pu {t:List (Int × Int)} {p q:Po} {met:List Int} {acc:List Gt} {g:Gt} {r:List Gt} {x y:Int} (hu:(al g.k == 0)=false) (hx:dg p.o g.a=(x,y)) (hm:met.any (· == x)=false) (hq:aJ p g=(q,true)):dI t p met acc (g :: r)=dI t q (met++[x]) (acc++cG (cF (au t x) y) g.a) r:=by
 rw [dI,if_neg (by rw [hu];simp),hx,if_neg (by rw [hm];simp),hq]
theorem DF {c y:Int} (h:(y == 1)=true):cF c y=(-c) % 8:=by unfold cF;rw [if_pos h]
theorem DG {c y:Int} (h:(y == 1)=false):cF c y=c:=by unfold cF;rw [if_neg (by rw [h];simp)]
theorem sA {p q:Po} {g:Gt} {r:List Gt} (h:(cp p (g :: r)).2=true) (hq:aJ p g=(q,true)):(cp q r).2=true:=by
 have:=(i7 h).2;rw [hq] at this;exact this
theorem n7 {gs:List Gt} {n:Int} {M:Po} (h:cE gs n=(M,true)):ee n 1 4=true/\cp (cg n) gs=(M,true):=by
 cases hin:ee n 1 4
 ·unfold cE at h;rw [hin] at h;cases h
 ·unfold cE at h;rw [hin] at h;exact ⟨rfl,h⟩
theorem DH {n:Int} (h:ee n 1 4=true):(cg n).t.length=0/\(cg n).o.length<=4:=by
 obtain ⟨h1,h4⟩:=inB_iff.1 h;have e:cg n=⟨n,0,[],mw n.toNat⟩:=by unfold cg;rw [if_pos h]
 rw [e];exact ⟨rfl,by rw [fx];omega⟩
def DI (r:List Gt × Int) (w:World) (e:Ending) (w':World):Prop:=∃ A c,e=.returned (.tuple #[.slice A r.1.length c,r.2])/\w'.ownsRow w 39 4 (.slice A r.1.length c) r.1.length (af r.1)/\Below w w w'
def Marked (w w':World) (v1 v2:Value):Prop:=∃ o wm,(w.alloc o).grownBy wm v1.ownBlock/\wm.grownBy w' v2.ownBlock
section
variable {w w':World} {v1 v2:Value}
theorem Marked.size (h:Marked w w' v1 v2):w.heap.size<=w'.heap.size:=by
 obtain ⟨o,wm,h1,h2⟩:=h;have:=h1.size;have:=h2.size;simp at *;omega
theorem Marked.own {base n sz:Nat} {e:TypeId} {v:Value} {xs:List Value} (h:Marked w w' v1 v2) (ho:w.ownsRow base e sz v n xs) (a1:v.ownBlock=none\/v.ownBlock ≠ v1.ownBlock) (a2:v.ownBlock=none\/v.ownBlock ≠ v2.ownBlock):w'.ownsRow base e sz v n xs:=by
 obtain ⟨o,wm,h1,h2⟩:=h;exact ((ho.alloc o).kept h1 a1).kept h2 a2
theorem Marked.bx {g t:Nat} {cs:Array Value} (h:Marked w w' v1 v2) (hb:Bx w g t cs) (n1:some g ≠ v1.ownBlock) (n2:some g ≠ v2.ownBlock):Bx w' g t cs:=by
 obtain ⟨o,wm,h1,h2⟩:=h;exact ((hb.alloc o).grown h1 n1).grown h2 n2
theorem Marked.below {B:Nat} {a:World} (h:Marked w w' v1 v2) (hb:Below B a w) (hs:B<=w.heap.size) (l1:∀ k,v1.ownBlock=some k->B<=k) (l2:∀ k,v2.ownBlock=some k->B<=k):Below B a w':=by
 obtain ⟨o,wm,h1,h2⟩:=h;have s1:B<=(w.alloc o).heap.size:=zJ;exact ((hb.alloc hs o).grown h1 s1 l1).grown h2 (Nat.le_trans s1 h1.size) l2
end
def PolyBox (N H:Int) (t o:List (Int × Int)) (nT nO:Nat) (wz:World) (p:Value) (wx:World):Prop :=
 ∃ (g:Nat) (A:Option Addr) (c:Nat) (B:Option Addr) (d:Nat),p=.pointer (some ⟨g,0,none⟩)/\Bx wx g 88 #[N,H,.slice A nT c,.slice B nO d] ∧
  wx.ownsRow wz 128 2 (.slice A nT c) nT (aj t)/\wx.ownsRow wz 93 2 (.slice B nO d) nO (aj o)/\Below wz wz wx
section
variable {N H:Int} {t o:List (Int × Int)} {nT nO:Nat} {wz w':World} {b g:Nat} {A B:Option Addr} {c d:Nat}
theorem PolyBox.new (hT:w'.ownsRow b 128 2 (.slice A nT c) nT (aj t)) (hO:w'.ownsRow b 93 2 (.slice B nO d) nO (aj o)) (hB:Below wz wz w') (hb:wz.heap.size<=b) :
  PolyBox N H t o nT nO wz (.pointer (some ⟨w',0,none⟩)) (w'.alloc (.cells #[N,H,.slice A nT c,.slice B nO d] 88)) :=
 ⟨_,A,c,B,d,rfl,Bx.new _ _ _,(ae hT hb).alloc _,(ae hO hb).alloc _,hB.alloc hB.size _⟩
end
def lP:Po->List Gt->Po × Bool
 |p,[]=>(p,decide (p.N > 0))
 |p,g :: r=>if (aJ p g).2=true then lP (aJ p g).1 r else (Po.zero,false)
theorem NK {w':World} {g g1 i:Nat} {u a b c d:Value} (h:w'.cell? ⟨g,i,none⟩=some u) (hg:g ≠ g1):((((w'.setCell ⟨g1,0,none⟩ a).setCell ⟨g1,1,none⟩ b).setCell ⟨g1,2,none⟩ c).setCell ⟨g1,3,none⟩ d).cell? ⟨g,i,none⟩=some u:=by
 have e:((((w'.setCell ⟨g1,0,none⟩ a).setCell ⟨g1,1,none⟩ b).setCell ⟨g1,2,none⟩ c).setCell ⟨g1,3,none⟩ d).heap[g]? = w'.heap[g]? :=
  ((((Below.heap_setCell _ ⟨g1,3,none⟩ d g hg).trans (Below.heap_setCell _ ⟨g1,2,none⟩ c g hg)).trans (Below.heap_setCell _ ⟨g1,1,none⟩ b g hg)).trans (Below.heap_setCell _ ⟨g1,0,none⟩ a g hg))
 exact (World.cell?_of_block (a:=⟨g,i,none⟩) e).trans h
theorem Fz (w:World) (a:Addr):w.drew.cell? a=w.cell? a:=rfl
theorem yS {w':World} {g g1 i:Nat} {u a b c d:Value} (h:w'.cell? ⟨g,i,none⟩=some u) (hg:g ≠ g1):((((w'.setCell ⟨g1,0,none⟩ a).setCell ⟨g1,1,none⟩ b).setCell ⟨g1,2,none⟩ c).setCell ⟨g1,3,none⟩ d).drew.cell? ⟨g,i,none⟩=some u:=(Fz _ _).trans (NK h hg)
theorem sB {p:Po} {g:Gt} {r:List Gt} (h:(aJ p g).2=true):lP p (g :: r)=lP (aJ p g).1 r:=by rw [lP,if_pos h]
theorem n8 {p:Po} {g:Gt} {r:List Gt} (h:(aJ p g).2=false):lP p (g :: r)=(Po.zero,false):=by rw [lP,if_neg (by rw [h];simp)]
theorem DJ:∀ (gs:List Gt) (p:Po),0 < p.N->lP p gs=cp p gs
 |[],p,h=>by rw [lP,cp,decide_eq_true (show p.N > 0 from h)]
 |g :: r,p,h=>by
  cases h1:(aJ p g).2
  ·rw [n8 h1,n6 h1]
  ·rw [sB h1,ew h1];exact DJ r _ (by rw [(iM p g).2.2 h1];exact h)
theorem NL (gs:List Gt) (N:Int):lP (cg N) gs=cE gs N:=by
 unfold cE;cases hin:ee N 1 4
 ·rw [if_neg zI];have e:cg N=Po.zero:=by unfold cg;rw [hin];rfl
  rw [e];cases gs with
  |nil=>rfl
  |cons g r =>
   rw [n8];have:lN Po.zero g=false:=by
    unfold lN fJ;rw [show ee Po.zero.N 1 4=false from rfl];rfl
   rw [j6 this]
 ·rw [if_pos zF];have e:cg N=⟨N,0,[],mw N.toNat⟩:=by unfold cg;rw [hin];rfl
  exact DJ gs _ (by rw [e];have:=(inB_iff.1 hin).1;show 0 < N;omega)
theorem Bp {p:Prop} (h:p:=by simp [results,Tryz.results99,go_sem,r0,r1,r2,r3]):p:=h
theorem v6 (A:Option Addr) (n cap:Nat) (gs:List Gt) (N:Int) (w:World) (h:RdG w A n gs) (hn:n<=68719476736) :
  Calls Tryz.prog 99 #[.slice A n cap,N] w (hJ (cE gs N) w):=by
 have H:=zH h;have HL:=zH h.1;clear h;have X0:=zH (Bx.new w 88 #[(0:Int),(0:Int),.slice none 0 0,.slice none 0 0]);have BZ:Hid (Below w w (w.alloc ZO.zP)):=zH ((zW).alloc zR _);obtain ⟨R,hR⟩:∃ R,cE gs N=R:=⟨_,rfl⟩;have HR:=zH hR;rw [hR];clear hR;have HC:Hid (lP (cg N) gs=R):=zH (by rw [<- HR.out];exact NL gs N);have hid0:(cg N).t.length=0/\(cg N).o.length<=4:=by
  unfold cg;split
  ·exact ⟨rfl,by rw [fx];have:=inB_iff.1 ‹_›;omega⟩
  ·exact ⟨rfl,by simp [Po.zero]⟩
 have HID:=zH hid0;clear hid0 HR;go_enter Tryz.func99,Tryz.ntmps99;go_wp2_with fail;refine (PZ _ _).mono ?_;rintro e w1 ⟨v,rfl,⟨A1,c1,B1,d1,rfl,t1,o1⟩,b1⟩;have X1:=zH ((X0.below b1).alloc (.cells #[.int .i64 (cg N).N,.int .i64 (cg N).H,.slice A1 (cg N).t.length c1,.slice B1 (cg N).o.length d1] 88));have XP:=zH (Bx.new w1 88 #[.int .i64 (cg N).N,.int .i64 (cg N).H,.slice A1 (cg N).t.length c1,.slice B1 (cg N).o.length d1]);have T1:=zH (ae (t1.alloc (.cells #[.int .i64 (cg N).N,.int .i64 (cg N).H,.slice A1 (cg N).t.length c1,.slice B1 (cg N).o.length d1] 88)) (show w.heap.size+1<=_ by simp));have O1:=zH (ae (o1.alloc (.cells #[.int .i64 (cg N).N,.int .i64 (cg N).H,.slice A1 (cg N).t.length c1,.slice B1 (cg N).o.length d1] 88)) (show w.heap.size+1<=_ by simp))
 have BB:=zH ((aa BZ b1).alloc (aa BZ b1).size (.cells #[.int .i64 (cg N).N,.int .i64 (cg N).H,.slice A1 (cg N).t.length c1,.slice B1 (cg N).o.length d1] 88));have hs1:w.heap.size < w1.heap.size:=(X0.below b1).lt;clear t1 o1 b1 X0 BZ;generalize cg N=p0 at HC HID X1 XP T1 O1 BB ⊢;go_wp2_with fail;generalize hgp:w1.heap.size=gp at XP hs1 ⊢;go_loopg [7] n (fun r i wr=>∃ (k:Nat) (p:Po) (A2:Option Addr) (c2:Nat) (B2:Option Addr) (d2:Nat),k+r=n/\i=.int .i64 k/\lP p (gs.drop k)=R/\p.t.length<=k/\p.o.length<=4/\Bx wr w 88 #[(0:Int),(0:Int),.slice none 0 0,.slice none 0 0]/\Bx wr gp 88 #[p.N,p.H,.slice A2 p.t.length c2,.slice B2 p.o.length d2]/\wr.ownsRow (w.heap.size+1) 128 2 (.slice A2 p.t.length c2) p.t.length (aj p.t)/\wr.ownsRow (w.heap.size+1) 93 2 (.slice B2 p.o.length d2) p.o.length (aj p.o)/\Below w w wr)
 case atStart=>exact ⟨0,p0,A1,c1,B1,d1,zO,rfl,HC.out,by have:=HID.out.1;omega,HID.out.2,X1.out,XP.out,T1.out,O1.out,BB.out⟩
 case round =>
  clear X1 XP T1 O1 BB HC HID;obtain ⟨k,p,A2,c2,B2,d2,hk,rfl,hq,htl,hol,hx0,hxp,ht,ho,hbw⟩:=hrel;have HQ:=zH hq;have HX0:=zH hx0;have HXP:=zH hxp;have HT:=zH ht;have HO:=zH ho;have HB:=zH hbw;have hbs:=hbw.size;have hcap:=ao ht;have hl0:=hx0.lt;have hlp:=hxp.lt;clear hq hx0 hxp ht ho hbw;obtain ⟨p0',p1,p2,p3,f0,f1,f2,f3⟩:=HXP.four;by_cases hlt:k < n
  ·obtain ⟨bb,off,g,rfl,hBb,hd,c0,c1',c2',c3⟩:=(H.below HB.out).at_ hlt;have HD:=zH hd;have hkI:(k:Int) < (n:Int):=zO;have hk0:(0:Int)<=(k:Int):=zO;clear hd;have GB:=zH (Bx.new wr 39 #[g.k,g.a,g.b,g.c]);have hcap':=hcap;have hng:gp ≠ wr.heap.size:=zO;have hnb:bb ≠ wr.heap.size:=zO;go_wp2_with fail
   go_region_held3 (fun w'=>w'.cell? ⟨gp,0,none⟩=some (.int .i64 p.N)/\w'.cell? ⟨gp,1,none⟩=some (.int .i64 p.H)/\w'.cell? ⟨gp,2,none⟩=some (.slice A2 p.t.length c2)/\w'.cell? ⟨gp,3,none⟩=some (.slice B2 p.o.length d2)/\w'.cell? ⟨bb,off+k * 4,none⟩=some (.int .i64 g.k)/\w'.cell? ⟨bb,off+k * 4+1,none⟩=some (.int .i64 g.a)/\w'.cell? ⟨bb,off+k * 4+2,none⟩=some (.int .i64 g.b)/\w'.cell? ⟨bb,off+k * 4+3,none⟩=some (.int .i64 g.c))
    (first | with_reducible exact ⟨s0,s1,s2,s3,y0,y1,y2,y3⟩ | with_reducible exact ⟨NK s0 hng,NK s1 hng,NK s2 hng,NK s3 hng,NK y0 hnb,NK y1 hnb,NK y2 hnb,NK y3 hnb⟩ | go_keep)
    (first
     |(go_at_call 101;(with_reducible refine (su p.N p.H A2 p.t.length c2 p.t B2 p.o.length d2 p.o g _ (RdP.drew (RdP.own HT.out)) (RdP.drew (RdP.own HO.out)) zO zO hcap').mono ?_);rintro e w5 ⟨v,rfl,⟨A5,c5,B5,d5,rfl,t5,o5⟩,b5'⟩;have b5:=aC b5';have ⟨s0,s1,s2,s3,_,_,_,_⟩:=(HXP.out.below b5).four;have y0:=(b5.cell (p:=⟨bb,off+k * 4,none⟩) hBb).trans c0;have y1:=(b5.cell (p:=⟨bb,off+k * 4+1,none⟩) hBb).trans c1';have y2:=(b5.cell (p:=⟨bb,off+k * 4+2,none⟩) hBb).trans c2';have y3:=(b5.cell (p:=⟨bb,off+k * 4+3,none⟩) hBb).trans c3;have ny0:=World.block_lt_of_cell? _ _ y0;have ns0:=World.block_lt_of_cell? _ _ s0)
     |(go_at_call 101;(with_reducible refine (su p.N p.H A2 p.t.length c2 p.t B2 p.o.length d2 p.o g _ (RdP.drew (RdP.own (HT.out.alloc _))) (RdP.drew (RdP.own (HO.out.alloc _))) zO zO hcap').mono ?_);rintro e w5 ⟨v,rfl,⟨A5,c5,B5,d5,rfl,t5,o5⟩,b5'⟩;have b5:=aD (aC b5');have ⟨s0,s1,s2,s3,_,_,_,_⟩:=(HXP.out.below b5).four;have y0:=(b5.cell (p:=⟨bb,off+k * 4,none⟩) hBb).trans c0;have y1:=(b5.cell (p:=⟨bb,off+k * 4+1,none⟩) hBb).trans c1';have y2:=(b5.cell (p:=⟨bb,off+k * 4+2,none⟩) hBb).trans c2';have y3:=(b5.cell (p:=⟨bb,off+k * 4+3,none⟩) hBb).trans c3;have ny0:=World.block_lt_of_cell? _ _ y0;have ns0:=World.block_lt_of_cell? _ _ s0;have XB:=(show Bx w5 wr 88 #[(0:Int),(0:Int),.slice none 0 0,.slice none 0 0] from (Bx.new wr _ _).below (aC b5'));have ⟨v0,v1,v2,v3,z0,z1,z2,z3⟩:=XB.four)
     |fail)
   all_goals
    have hbd:=iM p g;obtain ⟨q,hq⟩:∃ q,aJ p g=q:=⟨_,rfl⟩;rw [show aJ ⟨p.N,p.H,p.t,p.o⟩ g=q from hq] at t5 o5 ⊢;rw [hq] at hbd;have hb1:=hbd.1;have hb2:=hbd.2.1;clear hbd;have HQQ:=zH hq;have X5:=zH (HX0.below b5);have XP5:=zH (HXP.below b5);have B5w:=zH (aa HB b5);have hl05:=X5.lt;have hlp5:=XP5.lt;clear s0 s1 s2 s3 y0 y1 y2 y3;obtain ⟨r0,r1,r2,r3,e0,e1,e2,e3⟩:=X5.four;obtain ⟨s0,s1,s2,s3,g0,g1,g2,g3⟩:=XP5.four;have T5:=zH (ae t5 (show w.heap.size+1<=_ by first | (show w.heap.size+1<=wr.heap.size;omega) | (simp;omega)));have O5:=zH (ae o5 (show w.heap.size+1<=_ by first | (show w.heap.size+1<=wr.heap.size;omega) | (simp;omega)));have hcap5:=ao t5;clear t5 o5 b5 b5' hq p0' p1 p2 p3 f0 f1 f2 f3;obtain ⟨⟨qN,qH,qt,qo⟩,qb⟩:=q
    dsimp only at *
   ·cases qb
    ·have HZ:Hid (R=(Po.zero,false)):=zH (by rw [<- HQ.out,HD.out,n8 pp]);go_wp2_with fail;refine bodyPost_ret (v:=.tuple #[.agg #[(0:Int),(0:Int),.slice none 0 0,.slice none 0 0],.bool false]) (by simp [results,Tryz.results99,go_sem,r0,r1,r2,r3,hl05]) rfl ⟨_,by rw [HZ.out],by rw [HZ.out];exact ⟨none,0,none,0,rfl,World.ownsRow_nil _ _ _ _,World.ownsRow_nil _ _ _ _⟩,?_⟩;exact ia (aF B5w.out zR)
    ·go_wp2_with fail;go_roundg (gk - 1)
     case measure=>omega
     case rel =>
      exact ⟨k+1,⟨qN,qH,qt,qo⟩,A5,c5,B5,d5,zO,by go_num,by rw [<- HQ.out,HD.out,sB pp,HQQ.out],by show qt.length<=k+1;omega,by show qo.length<=4;omega,(mQ X5.out zO).alloc _,((((XP5.s0 _).s1 _).s2 _).s3 _).alloc _,(bD T5.out (am T5.out XP5.out zD)).alloc _,(bD O5.out (am O5.out XP5.out zD)).alloc _,ia (aF B5w.out zO)⟩
   ·have hn1:w.heap.size ≠ wr.heap.size:=zO;have hn2:wr.heap.size ≠ gp:=zO;have hn3:wr.heap.size ≠ w.heap.size:=zO;have HXB:=zH XB;cases qb
    ·have HZ:Hid (R=(Po.zero,false)):=zH (by rw [<- HQ.out,HD.out,n8 pp]);go_wp2_with fail;refine bodyPost_ret (v:=.tuple #[.agg #[(0:Int),(0:Int),.slice none 0 0,.slice none 0 0],.bool false]) Bp rfl ⟨_,by rw [HZ.out],by rw [HZ.out];exact ⟨none,0,none,0,rfl,World.ownsRow_nil _ _ _ _,World.ownsRow_nil _ _ _ _⟩,?_⟩;exact aF (aF B5w.out zO) zR
    ·go_wp2_with fail;go_roundg (gk - 1)
     case measure=>omega
     case rel =>
      exact ⟨k+1,⟨qN,qH,qt,qo⟩,A5,c5,B5,d5,zO,by go_num,by rw [<- HQ.out,HD.out,sB pp,HQQ.out],by show qt.length<=k+1;omega,by show qo.length<=4;omega,mQ (mQ X5.out hn1) zO,(((((mQ XP5.out hng).s0 _).s1 _).s2 _).s3 _),bD (bD T5.out (am T5.out HXB.out zD)) (am T5.out XP5.out zD),bD (bD O5.out (am O5.out HXB.out zD)) (am O5.out XP5.out zD),aF (aF B5w.out zO) zO⟩
  ·have hkn:k=n:=zO;have HZ:Hid (R=(p,decide (p.N > 0))):=zH JH;obtain ⟨r0,r1,r2,r3,e0,e1,e2,e3⟩:=HX0.four;have hgn:gp ≠ w.heap.size:=zO;by_cases hN:0 < p.N
   ·have hNd:decide (p.N > 0)=true:=by simpa using hN
    have HND:=zH hNd;go_wp2_with fail
    go_region_held3 (fun w'=>w'.cell? ⟨gp,0,none⟩=some (.int .i64 p.N)/\w'.cell? ⟨gp,1,none⟩=some (.int .i64 p.H)/\w'.cell? ⟨gp,2,none⟩=some (.slice A2 p.t.length c2)/\w'.cell? ⟨gp,3,none⟩=some (.slice B2 p.o.length d2))
     (first | with_reducible exact ⟨p0',p1,p2,p3⟩ | with_reducible exact ⟨yS p0' hgn,yS p1 hgn,yS p2 hgn,yS p3 hgn⟩ | go_keep)
     (fail)
    go_wp2_with fail;refine bodyPost_ret (v:=.tuple #[.agg #[p.N,p.H,.slice A2 p.t.length c2,.slice B2 p.o.length d2],.bool true]) Bp rfl ⟨_,by rw [HZ.out,HND.out],by rw [HZ.out];exact ⟨A2,c2,B2,d2,rfl,ae (aq (aW HT.out zO)) zO,ae (aq (aW HO.out zO)) zO⟩,?_⟩;exact Below.drew (aF HB.out zR)
   ·have hNd:decide (p.N > 0)=false:=by simpa using hN
    have HND:=zH hNd;go_wp2_with fail
    go_region_held3 (fun w'=>w'.cell? ⟨gp,0,none⟩=some (.int .i64 p.N)/\w'.cell? ⟨gp,1,none⟩=some (.int .i64 p.H)/\w'.cell? ⟨gp,2,none⟩=some (.slice A2 p.t.length c2)/\w'.cell? ⟨gp,3,none⟩=some (.slice B2 p.o.length d2))
     (first | with_reducible exact ⟨p0',p1,p2,p3⟩ | with_reducible exact ⟨yS p0' hgn,yS p1 hgn,yS p2 hgn,yS p3 hgn⟩ | go_keep)
     (fail)
    go_wp2_with fail;refine bodyPost_ret (v:=.tuple #[.agg #[p.N,p.H,.slice A2 p.t.length c2,.slice B2 p.o.length d2],.bool false]) Bp rfl ⟨_,by rw [HZ.out,HND.out],by rw [HZ.out];exact ⟨A2,c2,B2,d2,rfl,ae (aq (aW HT.out zO)) zO,ae (aq (aW HO.out zO)) zO⟩,?_⟩;exact Below.drew (aF HB.out zR)
def nk (a b:List Gt) (q k0:Nat) (Ua Ub:Nat->List Dw):Prop :=
 (∀ i,i < 2 ^ q->t7 a (iS q i)=some (Ua i)/\t7 b (iS q i)=some (Ub i)/\(Ua i).length=2 ^ q/\(Ub i).length=2 ^ q/\(∀ v ∈ Ua i,lm v=true)/\(∀ v ∈ Ub i,lm v=true)) ∧
 k0 < 8/\(∀ j,j < 8->∀ i,i < 2 ^ q->∀ v ∈ Ub i,iR v (cV j)=some ((iR v (cV j)).getD Dw.zero))/\(∀ i,i < 2 ^ q->Ua i=sc k0 (Ub i))/\∀ j,j < k0->∃ i,i < 2 ^ q/\Ua i ≠ sc j (Ub i)
theorem jx {q k0 Q:Nat} {Ua Ub:Nat->List Dw} (hQ:2 ^ q=Q) (h:k0 < 8/\(∀ j,j < 8->∀ i,i < 2 ^ q->∀ v ∈ Ub i,iR v (cV j)=some ((iR v (cV j)).getD Dw.zero))/\(∀ i,i < 2 ^ q->Ua i=sc k0 (Ub i))/\∀ j,j < k0->∃ i,i < 2 ^ q/\Ua i ≠ sc j (Ub i)) :
  k0 < 8/\(∀ i,i < 8->∀ x ∈ (List.range Q).map Ub,∀ v ∈ x,iR v (cV i)=some ((iR v (cV i)).getD Dw.zero))/\(List.range Q).map Ua=((List.range Q).map Ub).map (sc k0)/\∀ i,i < k0->¬ (List.range Q).map Ua=((List.range Q).map Ub).map (sc i):=by
 subst hQ;obtain ⟨h1,h2,h3,h4⟩:=h;refine ⟨h1,fun i hi x hx v hv=>?_,?_,fun i hi e=>?_⟩
 ·obtain ⟨j,hj,rfl⟩:=List.mem_map.1 hx;exact h2 i hi j (List.mem_range.1 hj) v hv
 ·rw [List.map_map];exact List.map_congr_left fun j hj=>h3 j (List.mem_range.1 hj)
 ·obtain ⟨j,hj,hne⟩:=h4 i hi;rw [List.map_map] at e;exact hne (List.map_inj_left.1 e j (List.mem_range.2 hj))
theorem Sp {p:Prop} (h:p:=by simp [results,Tryz.results26,go_sem]):p:=h
theorem we {p:Prop} (h:p:=by
  clear rx1 rx2 ry1 ry2 hly vy
  go_wp2_with (first
   |(at_builtin;refine mR rfl (.tmp 46) (.tmp 48) 62 rfl Tryz.underlying62 pU rfl rfl AX1.out rfl (Bx.new w6 _ _) rfl zO zD zJ ?_;intro g1 cap1 w7 p7 g7 e7;have RX7:=RowsD.app hlx AX1.out IX.out U3.out PA.out p7 g7;have RY7:=RY6a.other g7 (fun e=>hne e.symm) (fun B m cc x hx=>hI hx AX1.out zD);have O7:=OA.kept g7 (hI OA.out AX1.out zD);have B7:=ag BA.out zJ AX1.out zR g7;have ne7:=PX hne ly e7;have ⟨hly,vy,ry1,ry2⟩:=RY7;have bs7:=B7.size)
   |(at_builtin;refine mR rfl (.tmp 50) (.tmp 52) 62 rfl Tryz.underlying62 pU rfl rfl (ry1.alloc _) rfl (Bx.new w7 _ _) rfl zO zD zJ ?_;intro g2 cap2 w8 p8 g8 e8)
   |fail)
  go_roundg (gk - 1)
  case measure=>omega
  case rel =>
   refine ⟨k+1,g1,cap1,g2,cap2,zO,by go_num,rfl,rfl,?_,?_,?_,ag (B7.alloc bs7 _) zJ (ry1.alloc _) zR g8⟩
   ·exact (PX (fun e=>ne7 e.symm) RX7.lt e8).symm
   ·rw [uv,HUA.out];exact (RX7.alloc _).other g8 ne7 (fun B m cc x hx=>hI hx (ry1.alloc _) zD)
   ·rw [uv,HUB.out];exact RowsD.app hly (ry1.alloc _) (fun j x hx=>(ry2 j x hx).imp fun B h=>h.imp fun c' h=>⟨h.1,h.2.alloc _⟩) U4.out (O7.alloc _) p8 g8):p:=h
theorem wg {p:Prop} (h:p:=by
  rintro e w9 ⟨rfl,b9⟩;go_wp2_with fail;exact bodyPost_ret (v:=.tuple #[k0,.bool true]) Sp rfl ⟨rfl,BB.trans (b9.mono BB.size)⟩):p:=h
theorem FA (k0:Nat) (Ua Ub:Nat->List Dw) (A:Option Addr) (n ca:Nat) (a:List Gt) (B:Option Addr) (m cb:Nat) (b:List Gt) (w:World) (ha:RdG w A n a) (hb:RdG w B m b) (hn:n<=1048576) (hm:m<=1048576) (hs:nk a b 1 k0 Ua Ub):Calls Tryz.prog 26 #[.slice A n ca,.slice B m cb,(1:Int)] w fun e w'=>e=.returned (.tuple #[k0,.bool true])/\Below w w w':=by
 have HA:=zH ha;have HB:=zH hb;have HS:=zH (show ∀ i,i < 2->_ from hs.1);have HK:=zH hs.2;have X0:=zH (show RowsD ((w.alloc (.cells #[] 64)).alloc (.cells #[] 64)) w.heap.size w.heap.size 0 0 ((List.range 0).map Ua) from ⟨rfl,[],(World.ownsRow_lit w #[] 0 zR zM rfl).alloc _,fun j x hx=>by simp at hx⟩);have Y0:=zH (show RowsD ((w.alloc (.cells #[] 64)).alloc (.cells #[] 64)) w.heap.size (w.heap.size+1) 0 0 ((List.range 0).map Ub) from ⟨rfl,[],en _ #[] 0 zI zI zM rfl rfl,fun j x hx=>by simp at hx⟩);have B0:=zH (show Below w w ((w.alloc (.cells #[] 64)).alloc (.cells #[] 64)) from ((zW).alloc zR _).alloc zI _);clear ha hb hs;go_enter Tryz.func26,Tryz.ntmps26;go_wp2_with fail
 go_loopg [8,9,10] 2 (fun r xs ys i wr=>∃ (k gx cx gy cy:Nat),k+r=2/\i=.int .i64 k/\xs=.slice (some ⟨gx,0,none⟩) k cx/\ys=.slice (some ⟨gy,0,none⟩) k cy/\gx ≠ gy/\RowsD wr w.heap.size gx k cx ((List.range k).map Ua)/\RowsD wr w.heap.size gy k cy ((List.range k).map Ub)/\Below w w wr)
 case atStart=>exact ⟨0,w.heap.size,0,w.heap.size+1,0,zO,rfl,rfl,rfl,zO,X0.out,Y0.out,B0.out⟩
 case round =>
  obtain ⟨k,gx,cx,gy,cy,hk,rfl,rfl,rfl,hne,hx,hy,hbb⟩:=hrel;have RX:=zH hx;have RY:=zH hy;have BB:=zH hbb;clear hx hy hbb X0 Y0 B0;by_cases hlt:k < 2
  ·obtain ⟨u1,u2,u3,u4,u5,u6⟩:=HS.out k hlt;obtain ⟨ua,hua⟩:∃ u,Ua k=u:=⟨_,rfl⟩;obtain ⟨ub,hub⟩:∃ u,Ub k=u:=⟨_,rfl⟩;rw [hua] at u1 u3 u5;rw [hub] at u2 u4 u6;have U1:=zH u1;have U2:=zH u2;have U3:=zH (show ua.length=2 from u3);have U4:=zH (show ub.length=2 from u4);have HUA:=zH hua;have HUB:=zH hub;clear u1 u2 u3 u4 u5 u6 hua hub;go_wp2_with fail;refine (ju 1 k _ zO zO hlt).mono ?_;rintro e w3 ⟨A3,c3,rfl,o3,b3⟩;have R3:=zH (show RdD w3 A3 2 (iS 1 k) from RdD.own o3);clear o3;go_wp2_with fail;refine (fN _ n _ a _ 2 _ 1 _ ua _ ((HA.below BB).below b3) hn R3 zO zO zD U1).mono ?_;rintro e w4 ⟨A4,c4,rfl,o4,b4⟩;have V4:=aa b3 b4;have O4:=zH (ae o4 (show w.heap.size<=w3.heap.size from Nat.le_trans BB.size b3.size));have RX4:=zH (RX.below V4);have RY4:=zH (RY.below V4);have B4:=zH (BB.trans (V4.mono BB.size));clear o4 b3 b4 V4 R3 RX RY BB;go_wp2_with fail
   refine (ju 1 k _ zO zO hlt).mono ?_;rintro e w5 ⟨A5,c5,rfl,o5,b5⟩;have R5:=zH (show RdD w5 A5 2 (iS 1 k) from RdD.own o5);clear o5;go_wp2_with fail;refine (fN _ m _ b _ 2 _ 1 _ ub _ ((HB.below B4).below b5) hm R5 zO zO zD U2).mono ?_;rintro e w6 ⟨A6,c6,rfl,o6,b6⟩;have V6:=aa b5 b6;have O6:=zH (ae o6 (show w.heap.size<=w5.heap.size from Nat.le_trans B4.size b5.size));have P4:=zH (ab O4 V6);have RX6:=zH (RX4.below V6);have RY6:=zH (RY4.below V6);have B6:=zH (B4.trans (V6.mono B4.size));clear o6 b5 b6 V6 R5 O4 RX4 RY4 B4;have lx:=RX6.lt;have ly:=RY6.lt;have bs:=B6.size;obtain ⟨hlx,vx,rx1,rx2⟩:=RX6.out;obtain ⟨hly,vy,ry1,ry2⟩:=RY6.out;have AX1:=zH (rx1.alloc (.cells #[.slice A4 2 c4] 64));have RY6a:=zH (RY6.alloc (.cells #[.slice A4 2 c4] 64))
   have IX:=zH (show ∀ (j:Nat) (x:List Dw),((List.range k).map Ua)[j]? = some x->∃ B c',vx[j]? = some (Value.slice B x.length c')/\(w6.alloc (.cells #[.slice A4 2 c4] 64)).ownsRow w 110 5 (.slice B x.length c') x.length (bL x) from fun j x hx=>(rx2 j x hx).imp fun B h=>h.imp fun c' h=>⟨h.1,h.2.alloc _⟩);have PA:=zH (P4.alloc (.cells #[.slice A4 2 c4] 64));have OA:=zH (O6.alloc (.cells #[.slice A4 2 c4] 64));have BA:=zH (B6.alloc bs (.cells #[.slice A4 2 c4] 64));exact we
  ·obtain rfl:k=2:=zO;have HLA:=zH (show ∀ x ∈ (List.range 2).map Ua,x.length=2/\∀ v ∈ x,lm v=true from fun x hx=>by
    obtain ⟨j,hj,rfl⟩:=List.mem_map.1 hx;obtain ⟨_,_,h3,_,h5,_⟩:=HS.out j (List.mem_range.1 hj);exact ⟨h3,h5⟩)
   have HLB:=zH (show ∀ x ∈ (List.range 2).map Ub,x.length=2/\∀ v ∈ x,lm v=true from fun x hx=>by
    obtain ⟨j,hj,rfl⟩:=List.mem_map.1 hx;obtain ⟨_,_,_,h4,_,h6⟩:=HS.out j (List.mem_range.1 hj);exact ⟨h4,h6⟩)
   have HP:=zH (jx (Q:=2) zD HK);go_wp2_with fail;refine (mz _ 2 _ 1 _ _ ((List.range 2).map Ua) ((List.range 2).map Ub) k0 _ RX.rd RY.rd zO zO zD HLA HLB HP.out.1 HP.out.2.1 HP.out.2.2.1 HP.out.2.2.2).mono ?_;exact wg
theorem FB (k0:Nat) (Ua Ub:Nat->List Dw) (A:Option Addr) (n ca:Nat) (a:List Gt) (B:Option Addr) (m cb:Nat) (b:List Gt) (w:World) (ha:RdG w A n a) (hb:RdG w B m b) (hn:n<=1048576) (hm:m<=1048576) (hs:nk a b 2 k0 Ua Ub):Calls Tryz.prog 26 #[.slice A n ca,.slice B m cb,(2:Int)] w fun e w'=>e=.returned (.tuple #[k0,.bool true])/\Below w w w':=by
 have HA:=zH ha;have HB:=zH hb;have HS:=zH (show ∀ i,i < 4->_ from hs.1);have HK:=zH hs.2;have X0:=zH (show RowsD ((w.alloc (.cells #[] 64)).alloc (.cells #[] 64)) w.heap.size w.heap.size 0 0 ((List.range 0).map Ua) from ⟨rfl,[],(World.ownsRow_lit w #[] 0 zR zM rfl).alloc _,fun j x hx=>by simp at hx⟩);have Y0:=zH (show RowsD ((w.alloc (.cells #[] 64)).alloc (.cells #[] 64)) w.heap.size (w.heap.size+1) 0 0 ((List.range 0).map Ub) from ⟨rfl,[],en _ #[] 0 zI zI zM rfl rfl,fun j x hx=>by simp at hx⟩);have B0:=zH (show Below w w ((w.alloc (.cells #[] 64)).alloc (.cells #[] 64)) from ((zW).alloc zR _).alloc zI _);clear ha hb hs;go_enter Tryz.func26,Tryz.ntmps26;go_wp2_with fail
 go_loopg [8,9,10] 4 (fun r xs ys i wr=>∃ (k gx cx gy cy:Nat),k+r=4/\i=.int .i64 k/\xs=.slice (some ⟨gx,0,none⟩) k cx/\ys=.slice (some ⟨gy,0,none⟩) k cy/\gx ≠ gy/\RowsD wr w.heap.size gx k cx ((List.range k).map Ua)/\RowsD wr w.heap.size gy k cy ((List.range k).map Ub)/\Below w w wr)
 case atStart=>exact ⟨0,w.heap.size,0,w.heap.size+1,0,zO,rfl,rfl,rfl,zO,X0.out,Y0.out,B0.out⟩
 case round =>
  obtain ⟨k,gx,cx,gy,cy,hk,rfl,rfl,rfl,hne,hx,hy,hbb⟩:=hrel;have RX:=zH hx;have RY:=zH hy;have BB:=zH hbb;clear hx hy hbb X0 Y0 B0;by_cases hlt:k < 4
  ·obtain ⟨u1,u2,u3,u4,u5,u6⟩:=HS.out k hlt;obtain ⟨ua,hua⟩:∃ u,Ua k=u:=⟨_,rfl⟩;obtain ⟨ub,hub⟩:∃ u,Ub k=u:=⟨_,rfl⟩;rw [hua] at u1 u3 u5;rw [hub] at u2 u4 u6;have U1:=zH u1;have U2:=zH u2;have U3:=zH (show ua.length=4 from u3);have U4:=zH (show ub.length=4 from u4);have HUA:=zH hua;have HUB:=zH hub;clear u1 u2 u3 u4 u5 u6 hua hub;go_wp2_with fail;refine (ju 2 k _ zO zO hlt).mono ?_;rintro e w3 ⟨A3,c3,rfl,o3,b3⟩;have R3:=zH (show RdD w3 A3 4 (iS 2 k) from RdD.own o3);clear o3;go_wp2_with fail;refine (fN _ n _ a _ 4 _ 2 _ ua _ ((HA.below BB).below b3) hn R3 zO zO zD U1).mono ?_;rintro e w4 ⟨A4,c4,rfl,o4,b4⟩;have V4:=aa b3 b4;have O4:=zH (ae o4 (show w.heap.size<=w3.heap.size from Nat.le_trans BB.size b3.size));have RX4:=zH (RX.below V4);have RY4:=zH (RY.below V4);have B4:=zH (BB.trans (V4.mono BB.size));clear o4 b3 b4 V4 R3 RX RY BB;go_wp2_with fail
   refine (ju 2 k _ zO zO hlt).mono ?_;rintro e w5 ⟨A5,c5,rfl,o5,b5⟩;have R5:=zH (show RdD w5 A5 4 (iS 2 k) from RdD.own o5);clear o5;go_wp2_with fail;refine (fN _ m _ b _ 4 _ 2 _ ub _ ((HB.below B4).below b5) hm R5 zO zO zD U2).mono ?_;rintro e w6 ⟨A6,c6,rfl,o6,b6⟩;have V6:=aa b5 b6;have O6:=zH (ae o6 (show w.heap.size<=w5.heap.size from Nat.le_trans B4.size b5.size));have P4:=zH (ab O4 V6);have RX6:=zH (RX4.below V6);have RY6:=zH (RY4.below V6);have B6:=zH (B4.trans (V6.mono B4.size));clear o6 b5 b6 V6 R5 O4 RX4 RY4 B4;have lx:=RX6.lt;have ly:=RY6.lt;have bs:=B6.size;obtain ⟨hlx,vx,rx1,rx2⟩:=RX6.out;obtain ⟨hly,vy,ry1,ry2⟩:=RY6.out;have AX1:=zH (rx1.alloc (.cells #[.slice A4 4 c4] 64));have RY6a:=zH (RY6.alloc (.cells #[.slice A4 4 c4] 64))
   have IX:=zH (show ∀ (j:Nat) (x:List Dw),((List.range k).map Ua)[j]? = some x->∃ B c',vx[j]? = some (Value.slice B x.length c')/\(w6.alloc (.cells #[.slice A4 4 c4] 64)).ownsRow w 110 5 (.slice B x.length c') x.length (bL x) from fun j x hx=>(rx2 j x hx).imp fun B h=>h.imp fun c' h=>⟨h.1,h.2.alloc _⟩);have PA:=zH (P4.alloc (.cells #[.slice A4 4 c4] 64));have OA:=zH (O6.alloc (.cells #[.slice A4 4 c4] 64));have BA:=zH (B6.alloc bs (.cells #[.slice A4 4 c4] 64));exact we
  ·obtain rfl:k=4:=zO;have HLA:=zH (show ∀ x ∈ (List.range 4).map Ua,x.length=4/\∀ v ∈ x,lm v=true from fun x hx=>by
    obtain ⟨j,hj,rfl⟩:=List.mem_map.1 hx;obtain ⟨_,_,h3,_,h5,_⟩:=HS.out j (List.mem_range.1 hj);exact ⟨h3,h5⟩)
   have HLB:=zH (show ∀ x ∈ (List.range 4).map Ub,x.length=4/\∀ v ∈ x,lm v=true from fun x hx=>by
    obtain ⟨j,hj,rfl⟩:=List.mem_map.1 hx;obtain ⟨_,_,_,h4,_,h6⟩:=HS.out j (List.mem_range.1 hj);exact ⟨h4,h6⟩)
   have HP:=zH (jx (Q:=4) zD HK);go_wp2_with fail;refine (mz _ 4 _ 2 _ _ ((List.range 4).map Ua) ((List.range 4).map Ub) k0 _ RX.rd RY.rd zO zO zD HLA HLB HP.out.1 HP.out.2.1 HP.out.2.2.1 HP.out.2.2.2).mono ?_;exact wg
theorem FC (k0:Nat) (Ua Ub:Nat->List Dw) (A:Option Addr) (n ca:Nat) (a:List Gt) (B:Option Addr) (m cb:Nat) (b:List Gt) (w:World) (ha:RdG w A n a) (hb:RdG w B m b) (hn:n<=1048576) (hm:m<=1048576) (hs:nk a b 3 k0 Ua Ub):Calls Tryz.prog 26 #[.slice A n ca,.slice B m cb,(3:Int)] w fun e w'=>e=.returned (.tuple #[k0,.bool true])/\Below w w w':=by
 have HA:=zH ha;have HB:=zH hb;have HS:=zH (show ∀ i,i < 8->_ from hs.1);have HK:=zH hs.2;have X0:=zH (show RowsD ((w.alloc (.cells #[] 64)).alloc (.cells #[] 64)) w.heap.size w.heap.size 0 0 ((List.range 0).map Ua) from ⟨rfl,[],(World.ownsRow_lit w #[] 0 zR zM rfl).alloc _,fun j x hx=>by simp at hx⟩);have Y0:=zH (show RowsD ((w.alloc (.cells #[] 64)).alloc (.cells #[] 64)) w.heap.size (w.heap.size+1) 0 0 ((List.range 0).map Ub) from ⟨rfl,[],en _ #[] 0 zI zI zM rfl rfl,fun j x hx=>by simp at hx⟩);have B0:=zH (show Below w w ((w.alloc (.cells #[] 64)).alloc (.cells #[] 64)) from ((zW).alloc zR _).alloc zI _);clear ha hb hs;go_enter Tryz.func26,Tryz.ntmps26;go_wp2_with fail
 go_loopg [8,9,10] 8 (fun r xs ys i wr=>∃ (k gx cx gy cy:Nat),k+r=8/\i=.int .i64 k/\xs=.slice (some ⟨gx,0,none⟩) k cx/\ys=.slice (some ⟨gy,0,none⟩) k cy/\gx ≠ gy/\RowsD wr w.heap.size gx k cx ((List.range k).map Ua)/\RowsD wr w.heap.size gy k cy ((List.range k).map Ub)/\Below w w wr)
 case atStart=>exact ⟨0,w.heap.size,0,w.heap.size+1,0,zO,rfl,rfl,rfl,zO,X0.out,Y0.out,B0.out⟩
 case round =>
  obtain ⟨k,gx,cx,gy,cy,hk,rfl,rfl,rfl,hne,hx,hy,hbb⟩:=hrel;have RX:=zH hx;have RY:=zH hy;have BB:=zH hbb;clear hx hy hbb X0 Y0 B0;by_cases hlt:k < 8
  ·obtain ⟨u1,u2,u3,u4,u5,u6⟩:=HS.out k hlt;obtain ⟨ua,hua⟩:∃ u,Ua k=u:=⟨_,rfl⟩;obtain ⟨ub,hub⟩:∃ u,Ub k=u:=⟨_,rfl⟩;rw [hua] at u1 u3 u5;rw [hub] at u2 u4 u6;have U1:=zH u1;have U2:=zH u2;have U3:=zH (show ua.length=8 from u3);have U4:=zH (show ub.length=8 from u4);have HUA:=zH hua;have HUB:=zH hub;clear u1 u2 u3 u4 u5 u6 hua hub;go_wp2_with fail;refine (ju 3 k _ zO zO hlt).mono ?_;rintro e w3 ⟨A3,c3,rfl,o3,b3⟩;have R3:=zH (show RdD w3 A3 8 (iS 3 k) from RdD.own o3);clear o3;go_wp2_with fail;refine (fN _ n _ a _ 8 _ 3 _ ua _ ((HA.below BB).below b3) hn R3 zO zO zD U1).mono ?_;rintro e w4 ⟨A4,c4,rfl,o4,b4⟩;have V4:=aa b3 b4;have O4:=zH (ae o4 (show w.heap.size<=w3.heap.size from Nat.le_trans BB.size b3.size));have RX4:=zH (RX.below V4);have RY4:=zH (RY.below V4);have B4:=zH (BB.trans (V4.mono BB.size));clear o4 b3 b4 V4 R3 RX RY BB;go_wp2_with fail
   refine (ju 3 k _ zO zO hlt).mono ?_;rintro e w5 ⟨A5,c5,rfl,o5,b5⟩;have R5:=zH (show RdD w5 A5 8 (iS 3 k) from RdD.own o5);clear o5;go_wp2_with fail;refine (fN _ m _ b _ 8 _ 3 _ ub _ ((HB.below B4).below b5) hm R5 zO zO zD U2).mono ?_;rintro e w6 ⟨A6,c6,rfl,o6,b6⟩;have V6:=aa b5 b6;have O6:=zH (ae o6 (show w.heap.size<=w5.heap.size from Nat.le_trans B4.size b5.size));have P4:=zH (ab O4 V6);have RX6:=zH (RX4.below V6);have RY6:=zH (RY4.below V6);have B6:=zH (B4.trans (V6.mono B4.size));clear o6 b5 b6 V6 R5 O4 RX4 RY4 B4;have lx:=RX6.lt;have ly:=RY6.lt;have bs:=B6.size;obtain ⟨hlx,vx,rx1,rx2⟩:=RX6.out;obtain ⟨hly,vy,ry1,ry2⟩:=RY6.out;have AX1:=zH (rx1.alloc (.cells #[.slice A4 8 c4] 64));have RY6a:=zH (RY6.alloc (.cells #[.slice A4 8 c4] 64))
   have IX:=zH (show ∀ (j:Nat) (x:List Dw),((List.range k).map Ua)[j]? = some x->∃ B c',vx[j]? = some (Value.slice B x.length c')/\(w6.alloc (.cells #[.slice A4 8 c4] 64)).ownsRow w 110 5 (.slice B x.length c') x.length (bL x) from fun j x hx=>(rx2 j x hx).imp fun B h=>h.imp fun c' h=>⟨h.1,h.2.alloc _⟩);have PA:=zH (P4.alloc (.cells #[.slice A4 8 c4] 64));have OA:=zH (O6.alloc (.cells #[.slice A4 8 c4] 64));have BA:=zH (B6.alloc bs (.cells #[.slice A4 8 c4] 64));exact we
  ·obtain rfl:k=8:=zO;have HLA:=zH (show ∀ x ∈ (List.range 8).map Ua,x.length=8/\∀ v ∈ x,lm v=true from fun x hx=>by
    obtain ⟨j,hj,rfl⟩:=List.mem_map.1 hx;obtain ⟨_,_,h3,_,h5,_⟩:=HS.out j (List.mem_range.1 hj);exact ⟨h3,h5⟩)
   have HLB:=zH (show ∀ x ∈ (List.range 8).map Ub,x.length=8/\∀ v ∈ x,lm v=true from fun x hx=>by
    obtain ⟨j,hj,rfl⟩:=List.mem_map.1 hx;obtain ⟨_,_,_,h4,_,h6⟩:=HS.out j (List.mem_range.1 hj);exact ⟨h4,h6⟩)
   have HP:=zH (jx (Q:=8) zD HK);go_wp2_with fail;refine (mz _ 8 _ 3 _ _ ((List.range 8).map Ua) ((List.range 8).map Ub) k0 _ RX.rd RY.rd zO zO zD HLA HLB HP.out.1 HP.out.2.1 HP.out.2.2.1 HP.out.2.2.2).mono ?_;exact wg
theorem FD (k0:Nat) (Ua Ub:Nat->List Dw) (A:Option Addr) (n ca:Nat) (a:List Gt) (B:Option Addr) (m cb:Nat) (b:List Gt) (w:World) (ha:RdG w A n a) (hb:RdG w B m b) (hn:n<=1048576) (hm:m<=1048576) (hs:nk a b 4 k0 Ua Ub):Calls Tryz.prog 26 #[.slice A n ca,.slice B m cb,(4:Int)] w fun e w'=>e=.returned (.tuple #[k0,.bool true])/\Below w w w':=by
 have HA:=zH ha;have HB:=zH hb;have HS:=zH (show ∀ i,i < 16->_ from hs.1);have HK:=zH hs.2;have X0:=zH (show RowsD ((w.alloc (.cells #[] 64)).alloc (.cells #[] 64)) w.heap.size w.heap.size 0 0 ((List.range 0).map Ua) from ⟨rfl,[],(World.ownsRow_lit w #[] 0 zR zM rfl).alloc _,fun j x hx=>by simp at hx⟩);have Y0:=zH (show RowsD ((w.alloc (.cells #[] 64)).alloc (.cells #[] 64)) w.heap.size (w.heap.size+1) 0 0 ((List.range 0).map Ub) from ⟨rfl,[],en _ #[] 0 zI zI zM rfl rfl,fun j x hx=>by simp at hx⟩);have B0:=zH (show Below w w ((w.alloc (.cells #[] 64)).alloc (.cells #[] 64)) from ((zW).alloc zR _).alloc zI _);clear ha hb hs;go_enter Tryz.func26,Tryz.ntmps26;go_wp2_with fail
 go_loopg [8,9,10] 16 (fun r xs ys i wr=>∃ (k gx cx gy cy:Nat),k+r=16/\i=.int .i64 k/\xs=.slice (some ⟨gx,0,none⟩) k cx/\ys=.slice (some ⟨gy,0,none⟩) k cy/\gx ≠ gy/\RowsD wr w.heap.size gx k cx ((List.range k).map Ua)/\RowsD wr w.heap.size gy k cy ((List.range k).map Ub)/\Below w w wr)
 case atStart=>exact ⟨0,w.heap.size,0,w.heap.size+1,0,zO,rfl,rfl,rfl,zO,X0.out,Y0.out,B0.out⟩
 case round =>
  obtain ⟨k,gx,cx,gy,cy,hk,rfl,rfl,rfl,hne,hx,hy,hbb⟩:=hrel;have RX:=zH hx;have RY:=zH hy;have BB:=zH hbb;clear hx hy hbb X0 Y0 B0;by_cases hlt:k < 16
  ·obtain ⟨u1,u2,u3,u4,u5,u6⟩:=HS.out k hlt;obtain ⟨ua,hua⟩:∃ u,Ua k=u:=⟨_,rfl⟩;obtain ⟨ub,hub⟩:∃ u,Ub k=u:=⟨_,rfl⟩;rw [hua] at u1 u3 u5;rw [hub] at u2 u4 u6;have U1:=zH u1;have U2:=zH u2;have U3:=zH (show ua.length=16 from u3);have U4:=zH (show ub.length=16 from u4);have HUA:=zH hua;have HUB:=zH hub;clear u1 u2 u3 u4 u5 u6 hua hub;go_wp2_with fail;refine (ju 4 k _ zO zO hlt).mono ?_;rintro e w3 ⟨A3,c3,rfl,o3,b3⟩;have R3:=zH (show RdD w3 A3 16 (iS 4 k) from RdD.own o3);clear o3;go_wp2_with fail;refine (fN _ n _ a _ 16 _ 4 _ ua _ ((HA.below BB).below b3) hn R3 zO zO zD U1).mono ?_;rintro e w4 ⟨A4,c4,rfl,o4,b4⟩;have V4:=aa b3 b4;have O4:=zH (ae o4 (show w.heap.size<=w3.heap.size from Nat.le_trans BB.size b3.size));have RX4:=zH (RX.below V4);have RY4:=zH (RY.below V4);have B4:=zH (BB.trans (V4.mono BB.size));clear o4 b3 b4 V4 R3 RX RY BB;go_wp2_with fail
   refine (ju 4 k _ zO zO hlt).mono ?_;rintro e w5 ⟨A5,c5,rfl,o5,b5⟩;have R5:=zH (show RdD w5 A5 16 (iS 4 k) from RdD.own o5);clear o5;go_wp2_with fail;refine (fN _ m _ b _ 16 _ 4 _ ub _ ((HB.below B4).below b5) hm R5 zO zO zD U2).mono ?_;rintro e w6 ⟨A6,c6,rfl,o6,b6⟩;have V6:=aa b5 b6;have O6:=zH (ae o6 (show w.heap.size<=w5.heap.size from Nat.le_trans B4.size b5.size));have P4:=zH (ab O4 V6);have RX6:=zH (RX4.below V6);have RY6:=zH (RY4.below V6);have B6:=zH (B4.trans (V6.mono B4.size));clear o6 b5 b6 V6 R5 O4 RX4 RY4 B4;have lx:=RX6.lt;have ly:=RY6.lt;have bs:=B6.size;obtain ⟨hlx,vx,rx1,rx2⟩:=RX6.out;obtain ⟨hly,vy,ry1,ry2⟩:=RY6.out;have AX1:=zH (rx1.alloc (.cells #[.slice A4 16 c4] 64));have RY6a:=zH (RY6.alloc (.cells #[.slice A4 16 c4] 64))
   have IX:=zH (show ∀ (j:Nat) (x:List Dw),((List.range k).map Ua)[j]? = some x->∃ B c',vx[j]? = some (Value.slice B x.length c')/\(w6.alloc (.cells #[.slice A4 16 c4] 64)).ownsRow w 110 5 (.slice B x.length c') x.length (bL x) from fun j x hx=>(rx2 j x hx).imp fun B h=>h.imp fun c' h=>⟨h.1,h.2.alloc _⟩);have PA:=zH (P4.alloc (.cells #[.slice A4 16 c4] 64));have OA:=zH (O6.alloc (.cells #[.slice A4 16 c4] 64));have BA:=zH (B6.alloc bs (.cells #[.slice A4 16 c4] 64));exact we
  ·obtain rfl:k=16:=zO;have HLA:=zH (show ∀ x ∈ (List.range 16).map Ua,x.length=16/\∀ v ∈ x,lm v=true from fun x hx=>by
    obtain ⟨j,hj,rfl⟩:=List.mem_map.1 hx;obtain ⟨_,_,h3,_,h5,_⟩:=HS.out j (List.mem_range.1 hj);exact ⟨h3,h5⟩)
   have HLB:=zH (show ∀ x ∈ (List.range 16).map Ub,x.length=16/\∀ v ∈ x,lm v=true from fun x hx=>by
    obtain ⟨j,hj,rfl⟩:=List.mem_map.1 hx;obtain ⟨_,_,_,h4,_,h6⟩:=HS.out j (List.mem_range.1 hj);exact ⟨h4,h6⟩)
   have HP:=zH (jx (Q:=16) zD HK);go_wp2_with fail;refine (mz _ 16 _ 4 _ _ ((List.range 16).map Ua) ((List.range 16).map Ub) k0 _ RX.rd RY.rd zO zO zD HLA HLB HP.out.1 HP.out.2.1 HP.out.2.2.1 HP.out.2.2.2).mono ?_;exact wg
end Go.Proofs.YtmenmibfkojnoaaGreat
