/- Contracts of IsPermutation (spec and impl). At most 2^40 numbers. Plain: when a list of numbers is a permutation. Nothing is asked. Contracts of the laws' helpers on slices of numbers: toIntS, eqIntS, sameInts, markIntS, heldIntS. At most 2^20 numbers where they are made, 2^40 else. Reads at a known place; slices of slices of gates. Nothing is asked. Tableaus as values and boxes; reads of their ... -/
import Derived.Test.YtmenmibfkojnoaaGreatV01
import Derived.Test.YtmenmibfkojnoaaGreatV03
import Derived.Test.YtmenmibfkojnoaaGreatV06
import Derived.Test.YtmenmibfkojnoaaGreatV13
import Derived.Test.YtmenmibfkojnoaaGreatV05
import Derived.Test.YtmenmibfkojnoaaGreatV10
import Derived.Test.YtmenmibfkojnoaaGreatV11
import Derived.Deep.QuietTactic
import Derived.BigQuiet
import Derived.Test.YtmenmibfkojnoaaGreatProg
import Derived.Deep.RegionHeld3
import Derived.Deep.DeepCutAuto
import Derived.StillTailTactics
set_option maxHeartbeats 16000000
namespace Go.Proofs.YtmenmibfkojnoaaGreat
open Go.RowKit
def permOk (n:Int):List Int->List Int->Bool
 |_,[]=>true
 |pre,x :: r=>inB x 0 (n - 1) && (!hasI pre x && permOk n (pre++[x]) r)
def isPerm (zs:List Int):Bool:=permOk zs.length [] zs && inB zs.length 1 4
theorem permOk_iff (n:Int):∀ (r pre:List Int),permOk n pre r=true ↔ (∀ y ∈ r,0<=y/\y<=n - 1)/\(∀ y ∈ r,y ∉ pre)/\r.Nodup
 |[],pre=>by simp [permOk]
 |x :: r,pre=>by
  rw [permOk,Bool.and_eq_true,Bool.and_eq_true,inB_iff,permOk_iff n r (pre++[x])]
  have hh:(!hasI pre x)=true ↔ x ∉ pre:=by
   simp [hasI]
   exact ⟨fun h hx=>h x hx rfl,fun h y hy e=>h (e ▸ hy)⟩
  rw [hh]
  simp only [List.mem_cons,List.nodup_cons,List.mem_append,not_or,List.not_mem_nil,or_false]
  constructor
  ·rintro ⟨h1,h2,h3,h4,h5⟩
   refine ⟨?_,?_,?_,h5⟩
   ·rintro y (rfl | hy)
    ·exact h1
    ·exact h3 y hy
   ·rintro y (rfl | hy)
    ·exact h2
    ·exact (h4 y hy).1
   ·exact fun hx=>(h4 x hx).2 rfl
  ·rintro ⟨h1,h2,h3,h4⟩
   exact ⟨h1 x (.inl rfl),h2 x (.inl rfl),fun y hy=>h1 y (.inr hy),fun y hy=>⟨h2 y (.inr hy),fun e=>h3 (e ▸ hy)⟩,h4⟩
theorem isPerm_iff (z:List Int):isPerm z=true ↔ (∀ y ∈ z,0<=y/\y<=(z.length:Int) - 1)/\z.Nodup/\1<=z.length/\z.length<=4:=by
 unfold isPerm
 rw [Bool.and_eq_true,inB_iff,permOk_iff]
 simp only [List.not_mem_nil,not_false_eq_true,implies_true,true_and]
 constructor
 ·rintro ⟨h1,h2⟩
  first | exact ⟨h1.1,h1.2,by omega,by omega⟩ | exact ⟨h2.1,h2.2,by omega,by omega⟩
 ·rintro ⟨h1,h2,h3,h4⟩
  first | exact ⟨⟨h1,h2⟩,by omega,by omega⟩ | exact ⟨⟨by omega,by omega⟩,h1,h2⟩
theorem infoInt1:(Tryz.prog.info? 3).map (fun i=>(i.zero,i.size,i.bytes))=some (some (.int .i64 0),1,8):=by kernel_rfl
theorem RdG.first {w:World} {A:Option Addr} {n:Nat} {gs:List Gt} (h:RdG w A n gs) (hn:0 < n):∃ b off,A=some ⟨b,off,none⟩:=by
 obtain ⟨b,off,e,_⟩:=h.2.2 hn
 exact ⟨b,off,e⟩
theorem RdG.cellsAt {w:World} {b off n k:Nat} {gs r:List Gt} {g:Gt} (h:RdG w (some ⟨b,off,none⟩) n gs) (hd:gs.drop k=g :: r) :
  b < w.heap.size/\w.cell? ⟨b,off+k * 4,none⟩=some (.int .i64 g.k)/\w.cell? ⟨b,off+k * 4+1,none⟩=some (.int .i64 g.a)/\w.cell? ⟨b,off+k * 4+2,none⟩=some (.int .i64 g.b)/\w.cell? ⟨b,off+k * 4+3,none⟩=some (.int .i64 g.c):=by
 have hk:k < n:=by
  rcases Nat.lt_or_ge k gs.length with h1 | h1
  ·have:=h.1;omega
  ·rw [List.drop_eq_nil_of_le h1] at hd;cases hd
 obtain ⟨b',off',g',e,hb,hd',c⟩:=h.at_ hk
 injection e with e
 injection e with e1 e2
 subst e1 e2
 rw [hd] at hd'
 injection hd' with e3 _
 subst e3
 exact ⟨hb,c⟩
theorem RdG.mid {w:World} {A:Option Addr} {n:Nat} {gs:List Gt} (h:RdG w A n gs) {lo hi cap:Nat} (h1:lo<=hi) (h2:hi<=n) (hc:n<=cap):RdG w (if cap=lo then A else A.map (·.add (lo * 4))) (hi - lo) ((gs.drop lo).take (hi - lo)) :=
 (h.cut (k:=lo) (by omega) hc).pre (by omega)
theorem sl_lh (A:Option Addr) (n c lo hi:Nat) (h1:lo<=hi) (h2:hi<=c) (w:World) :
  (Instr.slice 24 (.slice A n c) (some (.int .i64 (lo:Int))) (some (.int .i64 (hi:Int))) none).run Tryz.prog w=.ok (.slice (if c=lo then A else A.map (·.add (lo * 4))) (hi - lo) (c - lo)) w:=by
 have hz:(sizeOf (Tryz.prog.elem 24)).run Tryz.prog w=.ok 4 w:=by kernel_rfl
 rw [run_slice_lh w 24 A n c (by kernel_rfl) .i64 .i64 lo hi (by omega) (by omega) (by omega),hz]
 simp only [Result.andThen,sliced,Int.toNat_natCast]
theorem sl_l (A:Option Addr) (n c lo:Nat) (h1:lo<=n) (w:World) :
  (Instr.slice 24 (.slice A n c) (some (.int .i64 (lo:Int))) none none).run Tryz.prog w=.ok (.slice (if c=lo then A else A.map (·.add (lo * 4))) (n - lo) (c - lo)) w:=by
 have hz:(sizeOf (Tryz.prog.elem 24)).run Tryz.prog w=.ok 4 w:=by kernel_rfl
 rw [run_slice_l w 24 A n c (by kernel_rfl) .i64 lo (by omega) (by omega),hz]
 simp only [Result.andThen,sliced,Int.toNat_natCast]
theorem sl_h (A:Option Addr) (n c hi:Nat) (h2:hi<=c) (w:World) :
  (Instr.slice 24 (.slice A n c) none (some (.int .i64 (hi:Int))) none).run Tryz.prog w=.ok (.slice A hi c) w:=by
 have hz:(sizeOf (Tryz.prog.elem 24)).run Tryz.prog w=.ok 4 w:=by kernel_rfl
 rw [run_slice_h w 24 A n c (by kernel_rfl) .i64 hi (by omega) (by omega),hz]
 simp only [Result.andThen,sliced,Int.toNat_natCast]
 cases A<;>simp [Addr.add]
section
variable {P:Program} {w:World}
theorem step_app0 {ops:Array Oper} {o:Oper} {a:Act} {K:Act->World->Prop} {Q:Exit->Act->World->Prop} {E:Prop} (hgd:o.guard=none) (s x:Operand) (t:TypeId)
  (ho:o.op=.call { callee:=.builtin .append,args:=#[s,x],argTypes:=#[t,t] })
  {base e:Nat} {z:Value} {size bytes:Nat} (ht:P.underlying t=some (.slice e)) (hinfo:(P.info? e).map (fun i=>(i.zero,i.size,i.bytes))=some (some z,size,bytes))
  (hzs:z.cells.size=size) (hsz:0 < size) {A:Option Addr} {c:Nat} (hs:a.eval s=.slice A 0 c) (hown:w.ownsRow base e size (.slice A 0 c) 0 [])
  {A':Option Addr} {m c':Nat} {news:List Value} (hx:a.eval x=.slice A' m c') (hr:Rd w size A' m news) (h1:∀ u ∈ news,u.oneCell'=true)
  (hbytes:m * bytes<=140737488355328) (hby:0 < bytes) (hbase:base<=w.heap.size)
  (h:∀ A'' c'' w',w'.ownsRow base e size (.slice A'' m c'') m news->w.grownBy w' (Value.slice A 0 c).ownBlock->K (a.put o.dst (.slice A'' m c'')) w') :
  if Region.wanted o (yielded ops a.tmps)=true then Oper.wp P o a w K Q else E:=by
 have hw:Region.wanted o (yielded ops a.tmps)=true:=by simp [Region.wanted,hgd]
 rw [if_pos hw]
 refine wp_app s x t ho ht hinfo hzs hsz hs hown hx hr h1 (by simpa using hbytes) hby hbase ?_
 intro A'' c'' w' h1 h2
 rw [Nat.zero_add] at h1 ⊢
 rw [List.nil_append] at h1
 exact h A'' c'' w' h1 h2
theorem wpList_app0 {ops:Array Oper} {rest:List Oper} {o:Oper} {a:Act} {Q:Exit->Act->World->Prop} (hgd:o.guard=none) (s x:Operand) (t:TypeId)
  (ho:o.op=.call { callee:=.builtin .append,args:=#[s,x],argTypes:=#[t,t] })
  {base e:Nat} {z:Value} {size bytes:Nat} (ht:P.underlying t=some (.slice e)) (hinfo:(P.info? e).map (fun i=>(i.zero,i.size,i.bytes))=some (some z,size,bytes))
  (hzs:z.cells.size=size) (hsz:0 < size) {A:Option Addr} {c:Nat} (hs:a.eval s=.slice A 0 c) (hown:w.ownsRow base e size (.slice A 0 c) 0 [])
  {A':Option Addr} {m c':Nat} {news:List Value} (hx:a.eval x=.slice A' m c') (hr:Rd w size A' m news) (h1:∀ u ∈ news,u.oneCell'=true)
  (hbytes:m * bytes<=140737488355328) (hby:0 < bytes) (hbase:base<=w.heap.size)
  (h:∀ A'' c'' w',w'.ownsRow base e size (.slice A'' m c'') m news->w.grownBy w' (Value.slice A 0 c).ownBlock->wpList P ops Q rest (a.put o.dst (.slice A'' m c'')) w'):wpList P ops Q (o :: rest) a w :=
 wpList_app hgd s x t ho ht hinfo hzs hsz hs hown hx hr h1 (by simpa using hbytes) hby hbase fun A'' c'' w' h1 h2=>by
  rw [Nat.zero_add] at h1 ⊢
  rw [List.nil_append] at h1
  exact h A'' c'' w' h1 h2
end
set_option linter.unusedVariables false
theorem infoPauli:(Tryz.prog.info? 151).map (fun i=>(i.zero,i.size,i.bytes))=some (some (.agg #[.int .i64 0,.int .i64 0,.int .i64 0,.int .i64 0]),4,32):=by kernel_rfl
def pg (n:Nat) (a:Pq):Gt:=⟨n,a.x,a.z,a.p⟩
def pgs (n:Nat) (r:List Pq):List Gt:=r.map (pg n)
theorem pgs_len (n:Nat) (r:List Pq):(pgs n r).length=r.length:=by unfold pgs;simp
theorem pgs_app (n:Nat) (r s:List Pq):pgs n (r++s)=pgs n r++pgs n s:=by unfold pgs;simp
theorem pgs_drop {n k:Nat} {r:List Pq} {a:Pq} (h:r[k]? = some a):(pgs n r).drop k=pg n a :: (pgs n r).drop (k+1):=by
 obtain ⟨hk,e⟩:=List.getElem?_eq_some_iff.1 h
 rw [drop_cons (l:=pgs n r) (by rw [pgs_len];exact hk)]
 unfold pgs
 rw [List.getElem_map,e]
def TBx (w:World) (g n:Nat) (A:Option Addr) (m c:Nat) (r:List Pq) (wx:World):Prop :=
 Bx wx g 73 #[.int .i64 (n:Nat),.slice A m c]/\RdG wx A m (pgs n r)/\Below w.heap.size w wx/\w.heap.size<=g
section
variable {w wx w':World} {g n m c:Nat} {A:Option Addr} {r:List Pq}
theorem TBx.below (h:TBx w g n A m c r wx) (hb:Below wx.heap.size wx w'):TBx w g n A m c r w':=⟨h.1.below hb,h.2.1.below hb,below_trans h.2.2.1 hb,h.2.2.2⟩
theorem TBx.alloc (h:TBx w g n A m c r wx) (o:Obj):TBx w g n A m c r (wx.alloc o):=h.below ((zW).alloc zR _)
theorem TBx.drew (h:TBx w g n A m c r wx):TBx w g n A m c r wx.drew:=h.below (zW).drew
theorem TBx.cells (h:TBx w g n A m c r wx):(wx.cell? ⟨g,0,none⟩=some (.int .i64 ((n:Nat):Int))/\wx.cell? ⟨g,1,none⟩=some (.slice (A) m c)):=⟨h.1.cell 0,h.1.cell 1⟩
theorem TBx.row {b off k:Nat} {a:Pq} (h:TBx w g n (some ⟨b,off,none⟩) m c r wx) (ha:r[k]? = some a):b < wx.heap.size/\(wx.cell? ⟨b,off+k * 4,none⟩=some (.int .i64 ((n:Nat):Int))/\wx.cell? ⟨b,off+k * 4+1,none⟩=some (.int .i64 ((a.x:Nat):Int))/\wx.cell? ⟨b,off+k * 4+2,none⟩=some (.int .i64 ((a.z:Nat):Int))/\wx.cell? ⟨b,off+k * 4+3,none⟩=some (.int .i64 ((a.p:Nat):Int))):=h.2.1.cellsAt (pgs_drop ha)
end
theorem Bx.four4 {wx:World} {g t:Nat} {x y z v:Value} (h:Bx wx g t #[x,y,z,v]):wx.cell? ⟨g,0,none⟩=some x/\wx.cell? ⟨g,1,none⟩=some y/\wx.cell? ⟨g,2,none⟩=some z/\wx.cell? ⟨g,3,none⟩=some v:=⟨h.cell 0,h.cell 1,h.cell 2,h.cell 3⟩
theorem get_lt {α:Type} {l:List α} {k:Nat} (h:k < l.length):∃ a,l[k]? = some a:=⟨l[k],List.getElem?_eq_getElem h⟩
theorem sl_hP (A:Option Addr) (n c hi:Nat) (h2:hi<=c) (w:World) :
  (Instr.slice 71 (.slice A n c) none (some (.int .i64 (hi:Int))) none).run Tryz.prog w=.ok (.slice A hi c) w:=by
 have hz:(sizeOf (Tryz.prog.elem 71)).run Tryz.prog w=.ok 4 w:=by kernel_rfl
 rw [run_slice_h w 71 A n c (by kernel_rfl) .i64 hi (by omega) (by omega),hz]
 simp only [Result.andThen,sliced,Int.toNat_natCast]
 cases A<;>simp [Addr.add]
set_option linter.unusedVariables false
theorem okT_at {n k:Nat} {r:List Pq} {a:Pq} (h:okT n r) (ha:r[k]? = some a):okQn n a=true/\herQ a=true:=h.2.1 a (List.mem_of_getElem? ha)
set_option maxRecDepth 100000 in
theorem s_IsTab (n m c:Nat) (A:Option Addr) (r:List Pq) (w:World) (hn:1<=n/\n<=4) (hr:RdG w A m (pgs n r)) (hok:okT n r):Calls Tryz.prog 149 #[.agg #[.int .i64 (n:Nat),.slice A m c]] w fun e w'=>e=.returned (.bool true)/\Below w.heap.size w w':=by
 have hm:m=2 * n:=by rw [<- hr.1,pgs_len,hok.1]
 obtain ⟨b,off,rfl⟩:=hr.first (by omega)
 have hmi:(m:Int)=2 * (n:Int):=by omega
 have T0:=zH (show TBx w w.heap.size n (some ⟨b,off,none⟩) m c r (w.alloc (.cells #[.int .i64 (n:Nat),.slice (some ⟨b,off,none⟩) m c] 73)) from ⟨Bx.new _ _ _,hr.alloc _,(zW).alloc zR _,zR⟩)
 have HR:=zH hok
 have HL:=zH (show r.length=m by rw [hok.1,hm])
 have HI:=zH (show inB (n:Int) 1 4=true from inB_t (by omega) (by omega))
 have HM:=zH hm
 have hm8:m<=8:=by omega
 clear hr hok hm
 obtain ⟨t0,t1⟩:=T0.out.cells
 go_enter Tryz.func149,Tryz.ntmps149
 go_wp2_with fail
 refine (s_in _ _ _ _).mono ?_
 rintro e w1 ⟨rfl,rfl⟩
 rw [HI.out]
 go_wp2_with fail
 go_loopg [3] m (fun q i wr=>∃ k:Nat,k+q=m/\i=.int .i64 k/\TBx w w.heap.size n (some ⟨b,off,none⟩) m c r wr)
 case atStart=>exact ⟨0,by omega,rfl,T0.out⟩
 case round =>
  clear T0 t0 t1
  obtain ⟨k,hk,rfl,hT⟩:=hrel
  have T1:=zH hT
  clear hT
  obtain ⟨t0,t1⟩:=T1.out.cells
  by_cases hlt:k < m
  ·obtain ⟨a,ha⟩:=get_lt (l:=r) (k:=k) (by rw [HL.out];exact hlt)
   have HA:=zH ha
   obtain ⟨hb,c0,c1,c2,c3⟩:=T1.out.row ha
   obtain ⟨ok1,ok2⟩:=okT_at HR.out ha
   have OK:=zH ok1
   have OH:=zH ok2
   clear ha ok1 ok2
   go_wp2_with fail
   have TD:=T1.out.drew
   go_region_held3 (fun w'=>(w'.cell? ⟨w.heap.size,0,none⟩=some (.int .i64 ((n:Nat):Int))/\w'.cell? ⟨w.heap.size,1,none⟩=some (.slice (some ⟨b,off,none⟩) m c))/\(w'.cell? ⟨b,off+k * 4,none⟩=some (.int .i64 ((n:Nat):Int))/\w'.cell? ⟨b,off+k * 4+1,none⟩=some (.int .i64 ((a.x:Nat):Int))/\w'.cell? ⟨b,off+k * 4+2,none⟩=some (.int .i64 ((a.z:Nat):Int))/\w'.cell? ⟨b,off+k * 4+3,none⟩=some (.int .i64 ((a.p:Nat):Int))))
    (first | exact ⟨⟨t0,t1⟩,c0,c1,c2,c3⟩ | exact ⟨T2.cells,(T2.row HA.out).2⟩ | go_keep)
    (first
     |(go_at_call 182;refine (s_HerPau n a _ hn OK.out).mono ?_;rintro e w2 ⟨rfl,b2⟩;rw [OH.out];have T2:=TD.below b2)
     |fail)
   clear t0 t1 c0 c1 c2 c3 hb
   go_wp2_with fail
   obtain ⟨gm,rfl⟩:∃ x,x=gk:=⟨_,rfl⟩
   go_loopg [4] k (fun q i wr=>∃ j:Nat,j+q=k/\i=.int .i64 j/\TBx w w.heap.size n (some ⟨b,off,none⟩) m c r wr)
   case atStart=>exact ⟨0,by omega,rfl,T2⟩
   case round =>
    clear T2 TD
    obtain ⟨j,hj,rfl,hT⟩:=hrel
    have T3:=zH hT
    clear hT
    obtain ⟨t0,t1⟩:=T3.out.cells
    by_cases hlt2:j < k
    ·obtain ⟨d,hd⟩:=get_lt (l:=r) (k:=j) (by rw [HL.out];omega)
     have HD:=zH hd
     obtain ⟨hb,d0,d1,d2,d3⟩:=T3.out.row hd
     obtain ⟨_,c0,c1,c2,c3⟩:=T3.out.row HA.out
     have OD:=zH (okT_at HR.out hd).1
     have CQ:=zH (HR.out.2.2 j k d a hlt2 hd HA.out)
     clear hd
     have BD:=T3.out.drew
     have jm:(j:Int) < 2 * (n:Int):=by omega
     have km:(k:Int) < 2 * (n:Int):=by omega
     have jm':(j:Int) < (m:Int):=by omega
     have jn:IntKind.i64.wrap ((j:Int)+(n:Int))=(j:Int)+(n:Int):=i64T (by omega) (by omega)
     by_cases hkj:k=j+n
     ·have CQ2:=zH (show comQ d a=false by rw [CQ.out];simp [hkj])
      have hke:((k:Int) == (j:Int)+(n:Int))=true:=by simp;omega
      clear CQ hkj
      go_wp2_with fail
      go_region_held3 (fun w'=>(w'.cell? ⟨w.heap.size,0,none⟩=some (.int .i64 ((n:Nat):Int))/\w'.cell? ⟨w.heap.size,1,none⟩=some (.slice (some ⟨b,off,none⟩) m c))/\((w'.cell? ⟨b,off+j * 4,none⟩=some (.int .i64 ((n:Nat):Int))/\w'.cell? ⟨b,off+j * 4+1,none⟩=some (.int .i64 ((d.x:Nat):Int))/\w'.cell? ⟨b,off+j * 4+2,none⟩=some (.int .i64 ((d.z:Nat):Int))/\w'.cell? ⟨b,off+j * 4+3,none⟩=some (.int .i64 ((d.p:Nat):Int)))/\(w'.cell? ⟨b,off+k * 4,none⟩=some (.int .i64 ((n:Nat):Int))/\w'.cell? ⟨b,off+k * 4+1,none⟩=some (.int .i64 ((a.x:Nat):Int))/\w'.cell? ⟨b,off+k * 4+2,none⟩=some (.int .i64 ((a.z:Nat):Int))/\w'.cell? ⟨b,off+k * 4+3,none⟩=some (.int .i64 ((a.p:Nat):Int)))))
       (first | exact ⟨⟨t0,t1⟩,⟨d0,d1,d2,d3⟩,c0,c1,c2,c3⟩ | exact ⟨T4.cells,(T4.row HD.out).2,(T4.row HA.out).2⟩ | go_keep)
       (first
        |(go_at_call 183;refine (s_ComPau n d a _ hn OD.out OK.out).mono ?_;rintro e w4 ⟨rfl,b4⟩;rw [CQ2.out];have T4:=BD.below b4)
        |fail)
      go_wp2_with fail
      go_roundg (gk - 1)
      all_goals first
       |omega
       |exact ⟨j+1,by omega,by go_num,T4⟩
     ·have CQ2:=zH (show comQ d a=true by rw [CQ.out];simp [hkj])
      have hke:((k:Int) == (j:Int)+(n:Int))=false:=by simp;omega
      clear CQ hkj
      go_wp2_with fail
      go_region_held3 (fun w'=>(w'.cell? ⟨w.heap.size,0,none⟩=some (.int .i64 ((n:Nat):Int))/\w'.cell? ⟨w.heap.size,1,none⟩=some (.slice (some ⟨b,off,none⟩) m c))/\((w'.cell? ⟨b,off+j * 4,none⟩=some (.int .i64 ((n:Nat):Int))/\w'.cell? ⟨b,off+j * 4+1,none⟩=some (.int .i64 ((d.x:Nat):Int))/\w'.cell? ⟨b,off+j * 4+2,none⟩=some (.int .i64 ((d.z:Nat):Int))/\w'.cell? ⟨b,off+j * 4+3,none⟩=some (.int .i64 ((d.p:Nat):Int)))/\(w'.cell? ⟨b,off+k * 4,none⟩=some (.int .i64 ((n:Nat):Int))/\w'.cell? ⟨b,off+k * 4+1,none⟩=some (.int .i64 ((a.x:Nat):Int))/\w'.cell? ⟨b,off+k * 4+2,none⟩=some (.int .i64 ((a.z:Nat):Int))/\w'.cell? ⟨b,off+k * 4+3,none⟩=some (.int .i64 ((a.p:Nat):Int)))))
       (first | exact ⟨⟨t0,t1⟩,⟨d0,d1,d2,d3⟩,c0,c1,c2,c3⟩ | exact ⟨T4.cells,(T4.row HD.out).2,(T4.row HA.out).2⟩ | go_keep)
       (first
        |(go_at_call 183;refine (s_ComPau n d a _ hn OD.out OK.out).mono ?_;rintro e w4 ⟨rfl,b4⟩;rw [CQ2.out];have T4:=BD.below b4)
        |fail)
      go_wp2_with fail
      go_roundg (gk - 1)
      all_goals first
       |omega
       |exact ⟨j+1,by omega,by go_num,T4⟩
    ·obtain rfl:j=k:=by omega
     go_wp2_with fail
     go_roundg (gm - 1)
     all_goals first
      |omega
      |exact ⟨j+1,by omega,by go_num,T3.out⟩
  ·obtain rfl:k=m:=by omega
   go_wp2_with fail
   go_ret
   exact ⟨rfl,T1.out.2.2.1⟩
set_option linter.unusedVariables false
set_option maxRecDepth 100000 in
theorem i_IsTab (n m c:Nat) (A:Option Addr) (r:List Pq) (w:World) (hn:1<=n/\n<=4) (hr:RdG w A m (pgs n r)) (hc:m<=c) (hok:okT n r):Calls Tryz.prog 155 #[.agg #[.int .i64 (n:Nat),.slice A m c]] w fun e w'=>e=.returned (.bool true)/\Below w.heap.size w w':=by
 have hm:m=2 * n:=by rw [<- hr.1,pgs_len,hok.1]
 obtain ⟨b,off,rfl⟩:=hr.first (by omega)
 have hmi:(m:Int)=2 * (n:Int):=by omega
 have T0:=zH (show TBx w w.heap.size n (some ⟨b,off,none⟩) m c r (w.alloc (.cells #[.int .i64 (n:Nat),.slice (some ⟨b,off,none⟩) m c] 73)) from ⟨Bx.new _ _ _,hr.alloc _,(zW).alloc zR _,zR⟩)
 have HR:=zH hok
 have HL:=zH (show r.length=m by rw [hok.1,hm])
 have HI:=zH (show inB (n:Int) 1 4=true from inB_t (by omega) (by omega))
 have HM:=zH hm
 have hm8:m<=8:=by omega
 clear hr hok hm
 obtain ⟨t0,t1⟩:=T0.out.cells
 go_enter Tryz.func155,Tryz.ntmps155
 go_wp2_with fail
 refine (i_in _ _ _ _).mono ?_
 rintro e w1 ⟨rfl,rfl⟩
 rw [HI.out]
 go_wp2_with fail
 go_loopg [23] m (fun q i wr=>∃ k:Nat,k+q=m/\i=.int .i64 k/\TBx w w.heap.size n (some ⟨b,off,none⟩) m c r wr)
 case atStart=>exact ⟨0,by omega,rfl,T0.out⟩
 case round =>
  clear T0 t0 t1
  obtain ⟨k,hk,rfl,hT⟩:=hrel
  by_cases hlt:k < m
  ·obtain ⟨a,ha⟩:=get_lt (l:=r) (k:=k) (by rw [HL.out];exact hlt)
   have HA:=zH ha
   obtain ⟨hb,c0,c1,c2,c3⟩:=hT.row ha
   obtain ⟨ok1,ok2⟩:=okT_at HR.out ha
   have OK:=zH ok1
   have OH:=zH ok2
   clear ha ok1 ok2
   have T1:=zH (hT.alloc (.cells #[.int .i64 (n:Nat),.int .i64 (a.x:Nat),.int .i64 (a.z:Nat),.int .i64 (a.p:Nat)] 151))
   have P1:=zH (Bx.new wr 151 #[.int .i64 (n:Nat),.int .i64 (a.x:Nat),.int .i64 (a.z:Nat),.int .i64 (a.p:Nat)])
   obtain ⟨t0,t1⟩:=T1.out.cells
   clear hT
   have km:(k:Int) < 2 * (n:Int):=by omega
   have km':(k:Int) < (m:Int):=by omega
   go_wp2_with fail
   refine (i_HerPau n a _ hn OK.out).mono ?_
   rintro e w2 ⟨rfl,b2⟩
   rw [OH.out]
   have T2:=zH (T1.out.below b2)
   have P2:=zH (P1.out.below b2)
   clear T1 P1 t0 t1 b2 c0 c1 c2 c3 hb
   obtain ⟨t0,t1⟩:=T2.out.cells
   have hsl:=sl_hP (some ⟨b,off,none⟩) m c k (by omega)
   go_wp2_with fail
   obtain ⟨gm,rfl⟩:∃ x,x=gk:=⟨_,rfl⟩
   obtain ⟨P,hP⟩:∃ P,P=wr.heap.size:=⟨_,rfl⟩
   rw [<- hP] at P2 ⊢
   clear hP
   go_loopg [43] k (fun q i wr=>∃ j:Nat,j+q=k/\i=.int .i64 j/\TBx w w.heap.size n (some ⟨b,off,none⟩) m c r wr/\Bx wr P 151 #[.int .i64 (n:Nat),.int .i64 (a.x:Nat),.int .i64 (a.z:Nat),.int .i64 (a.p:Nat)])
   case atStart=>exact ⟨0,by omega,rfl,T2.out,P2.out⟩
   case round =>
    clear T2 P2 t0 t1
    obtain ⟨j,hj,rfl,hT,hP⟩:=hrel
    by_cases hlt2:j < k
    ·obtain ⟨d,hd⟩:=get_lt (l:=r) (k:=j) (by rw [HL.out];omega)
     have HD:=zH hd
     obtain ⟨hb,d0,d1,d2,d3⟩:=hT.row hd
     have OD:=zH (okT_at HR.out hd).1
     have CQ:=zH (HR.out.2.2 j k d a hlt2 hd HA.out)
     clear hd
     have T3:=zH (hT.alloc (.cells #[.int .i64 (n:Nat),.int .i64 (d.x:Nat),.int .i64 (d.z:Nat),.int .i64 (d.p:Nat)] 151))
     have P3:=zH (hP.alloc (.cells #[.int .i64 (n:Nat),.int .i64 (d.x:Nat),.int .i64 (d.z:Nat),.int .i64 (d.p:Nat)] 151))
     have X3:=zH (Bx.new wr 151 #[.int .i64 (n:Nat),.int .i64 (d.x:Nat),.int .i64 (d.z:Nat),.int .i64 (d.p:Nat)])
     clear hT hP
     have jm:(j:Int) < 2 * (n:Int):=by omega
     have jm':(j:Int) < (m:Int):=by omega
     have jn:IntKind.i64.wrap ((j:Int)+(n:Int))=(j:Int)+(n:Int):=i64T (by omega) (by omega)
     have BD:=T3.out.drew
     obtain ⟨t0,t1⟩:=T3.out.cells
     obtain ⟨p0,p1,p2,p3,_⟩:=P3.out.four
     obtain ⟨x0,x1,x2,x3,_⟩:=X3.out.four
     by_cases hkj:k=j+n
     ·have CQ2:=zH (show comQ d a=false by rw [CQ.out];simp [hkj])
      have hke:((k:Int) == (j:Int)+(n:Int))=true:=by simp;omega
      clear CQ hkj
      go_wp2_with fail
      go_region_held3 (fun w'=>(w'.cell? ⟨w.heap.size,0,none⟩=some (.int .i64 ((n:Nat):Int))/\w'.cell? ⟨w.heap.size,1,none⟩=some (.slice (some ⟨b,off,none⟩) m c))/\((w'.cell? ⟨P,0,none⟩=some (.int .i64 ((n:Nat):Int))/\w'.cell? ⟨P,1,none⟩=some (.int .i64 ((a.x:Nat):Int))/\w'.cell? ⟨P,2,none⟩=some (.int .i64 ((a.z:Nat):Int))/\w'.cell? ⟨P,3,none⟩=some (.int .i64 ((a.p:Nat):Int)))/\(w'.cell? ⟨wr.heap.size,0,none⟩=some (.int .i64 ((n:Nat):Int))/\w'.cell? ⟨wr.heap.size,1,none⟩=some (.int .i64 ((d.x:Nat):Int))/\w'.cell? ⟨wr.heap.size,2,none⟩=some (.int .i64 ((d.z:Nat):Int))/\w'.cell? ⟨wr.heap.size,3,none⟩=some (.int .i64 ((d.p:Nat):Int)))))
       (first | exact ⟨⟨t0,t1⟩,⟨p0,p1,p2,p3⟩,x0,x1,x2,x3⟩ | exact ⟨T4.cells,(P3.out.drew.below b4).four4,(X3.out.drew.below b4).four4⟩ | go_keep)
       (first
        |(go_at_call 192;refine (i_ComPau n d a _ hn OD.out OK.out).mono ?_;rintro e w4 ⟨rfl,b4⟩;rw [CQ2.out];have T4:=BD.below b4)
        |fail)
      go_wp2_with fail
      go_roundg (gk - 1)
      all_goals first
       |omega
       |exact ⟨j+1,by omega,by go_num,T4,P3.out.drew.below b4⟩
     ·have CQ2:=zH (show comQ d a=true by rw [CQ.out];simp [hkj])
      have hke:((k:Int) == (j:Int)+(n:Int))=false:=by simp;omega
      clear CQ hkj
      go_wp2_with fail
      go_region_held3 (fun w'=>(w'.cell? ⟨w.heap.size,0,none⟩=some (.int .i64 ((n:Nat):Int))/\w'.cell? ⟨w.heap.size,1,none⟩=some (.slice (some ⟨b,off,none⟩) m c))/\((w'.cell? ⟨P,0,none⟩=some (.int .i64 ((n:Nat):Int))/\w'.cell? ⟨P,1,none⟩=some (.int .i64 ((a.x:Nat):Int))/\w'.cell? ⟨P,2,none⟩=some (.int .i64 ((a.z:Nat):Int))/\w'.cell? ⟨P,3,none⟩=some (.int .i64 ((a.p:Nat):Int)))/\(w'.cell? ⟨wr.heap.size,0,none⟩=some (.int .i64 ((n:Nat):Int))/\w'.cell? ⟨wr.heap.size,1,none⟩=some (.int .i64 ((d.x:Nat):Int))/\w'.cell? ⟨wr.heap.size,2,none⟩=some (.int .i64 ((d.z:Nat):Int))/\w'.cell? ⟨wr.heap.size,3,none⟩=some (.int .i64 ((d.p:Nat):Int)))))
       (first | exact ⟨⟨t0,t1⟩,⟨p0,p1,p2,p3⟩,x0,x1,x2,x3⟩ | exact ⟨T4.cells,(P3.out.drew.below b4).four4,(X3.out.drew.below b4).four4⟩ | go_keep)
       (first
        |(go_at_call 192;refine (i_ComPau n d a _ hn OD.out OK.out).mono ?_;rintro e w4 ⟨rfl,b4⟩;rw [CQ2.out];have T4:=BD.below b4)
        |fail)
      go_wp2_with fail
      go_roundg (gk - 1)
      all_goals first
       |omega
       |exact ⟨j+1,by omega,by go_num,T4,P3.out.drew.below b4⟩
    ·obtain rfl:j=k:=by omega
     go_wp2_with fail
     go_roundg (gm - 1)
     all_goals first
      |omega
      |exact ⟨j+1,by omega,by go_num,hT⟩
  ·obtain rfl:k=m:=by omega
   go_wp2_with fail
   go_ret
   exact ⟨rfl,hT.2.2.1⟩
set_option linter.unusedVariables false
theorem own_setT {w:World} {base:Nat} {e:TypeId} {sz n:Nat} {v:Value} {xs:List Value} (h:w.ownsRow base e sz v n xs) {p:Addr} (hp:p.block < base) (u:Value):(w.setCell p u).ownsRow base e sz v n xs:=by
 have hg:w.grownBy (w.setCell p u) (some p.block):=⟨rfl,rfl,rfl,by simp [World.setCell],fun k hk hne=>Below.heap_setCell w _ _ k (fun e=>hne (by rw [e]))⟩
 refine h.kept hg ?_
 cases hv:v.ownBlock with
 |none=>exact .inl rfl
 |some k =>
  refine .inr fun e=>?_
  injection e with e
  have:=(h.lt k hv).1
  omega
theorem und_grownT {W w':World} {r:Option Nat} (h:W.drew.grownBy w' r):W.grownBy w' r:=⟨h.os,h.tape,h.output,h.size,h.block⟩
theorem rd_lit1 (w:World) (o:Obj) (e:TypeId) (cs:Array Value) (n sz:Nat) (h:cs.size=n * sz):Rd ((w.alloc o).alloc (.cells cs e)) sz (some ⟨w.heap.size+1,0,none⟩) n cs.toList:=by
 have:=Rd.lit (w.alloc o) e cs n sz h
 rw [World.size_alloc] at this
 exact this
abbrev S2 (wx:World) (r:Nat) (u0 u1:Value):World:=(wx.setCell ⟨r,0,none⟩ u0).setCell ⟨r,1,none⟩ u1
theorem Bx.far2 {wx:World} {g r t:Nat} {cs:Array Value} (h:Bx wx g t cs) (hr:g ≠ r) (u0 u1:Value):Bx (S2 wx r u0 u1) g t cs:=(h.far hr u0).far hr u1
theorem Bx.set2 {wx:World} {g t:Nat} {v0 v1:Value} (h:Bx wx g t #[v0,v1]) (u0 u1:Value):Bx (S2 wx g u0 u1) g t #[u0,u1]:=by
 have h0:Bx (wx.setCell ⟨g,0,none⟩ u0) g t #[u0,v1]:=by simpa using h.set_ 0 u0
 simpa using h0.set_ 1 u1
theorem Bx.snd {wx:World} {g t:Nat} {v0 v1:Value} (h:Bx wx g t #[v0,v1]) (u1:Value):Bx (wx.setCell ⟨g,1,none⟩ u1) g t #[v0,u1]:=by simpa using h.set_ 1 u1
theorem belowS2 {w wx:World} {r B:Nat} (h:Below B w wx) (hr:B<=r) (u0 u1:Value):Below B w (S2 wx r u0 u1):=(h.setCell hr _).setCell hr _
theorem ownS2 {w:World} {base r:Nat} {e:TypeId} {sz n:Nat} {v:Value} {xs:List Value} (h:w.ownsRow base e sz v n xs) (hp:r < base) (u0 u1:Value):(S2 w r u0 u1).ownsRow base e sz v n xs:=own_setT (own_setT h hp u0) hp u1
theorem ret_S2 {P:Program} {fn:Func} {R:Ending->World->Prop} {a:Act} {wy:World} {r t:Nat} {v0 v1 u0 u1 v:Value} (hB:Bx wy r t #[v0,v1])
  (hr:∀ wS:World,wS.cell? ⟨r,0,none⟩=some u0->wS.cell? ⟨r,1,none⟩=some u1->(results fn a.tmps).run P wS=.ok v wS)
  (hd:a.defers=[]) (hR:R (.returned v) (S2 wy r u0 u1)):bodyPost P fn R .ret a (S2 wy r u0 u1) :=
 bodyPost_ret (hr _ ((hB.set2 u0 u1).cell 0) ((hB.set2 u0 u1).cell 1)) hd hR
abbrev RetTab (n m:Nat) (r:List Pq) (w:World) (e:Ending) (w':World):Prop :=
 ∃ A c,e=.returned (.tuple #[.agg #[.int .i64 (n:Nat),.slice A m c],.bool true])/\w'.ownsRow w.heap.size 151 4 (.slice A m c) m (cellsG (pgs n r))/\Below w.heap.size w w'
abbrev RetTab1 (n m:Nat) (r:List Pq) (w:World) (e:Ending) (w':World):Prop :=
 ∃ A c,e=.returned (.agg #[.int .i64 (n:Nat),.slice A m c])/\w'.ownsRow w.heap.size 151 4 (.slice A m c) m (cellsG (pgs n r))/\Below w.heap.size w w'
def MB (w:World) (n O k:Nat) (A0:Option Addr) (c0:Nat) (rs:List Pq) (wx:World):Prop :=
 Bx wx O 73 #[.int .i64 (n:Nat),.slice A0 k c0]/\wx.ownsRow (O+1) 151 4 (.slice A0 k c0) k (cellsG (pgs n rs))/\Below w.heap.size w wx/\w.heap.size<=O/\O < wx.heap.size
section
variable {w wx w':World} {n O k c0:Nat} {A0:Option Addr} {rs:List Pq}
theorem MB.below (h:MB w n O k A0 c0 rs wx) (hb:Below wx.heap.size wx w'):MB w n O k A0 c0 rs w' :=
 ⟨h.1.below hb,ownsRow_below h.2.1 hb,below_trans h.2.2.1 hb,h.2.2.2.1,Nat.lt_of_lt_of_le h.2.2.2.2 hb.size⟩
theorem MB.alloc (h:MB w n O k A0 c0 rs wx) (o:Obj):MB w n O k A0 c0 rs (wx.alloc o):=h.below ((zW).alloc zR _)
theorem MB.drew (h:MB w n O k A0 c0 rs wx):MB w n O k A0 c0 rs wx.drew:=h.below (zW).drew
theorem MB.keeps {g t:Nat} {cs:Array Value} {w5:World} {v:Value} (h:MB w n O k A0 c0 rs wx) (hg:wx.grownBy w5 (Value.slice A0 k c0).ownBlock) (hb:Bx wx g t cs) (hgO:g < O):Bx (w5.setCell ⟨O,1,none⟩ v) g t cs:=by
 refine (hb.grown hg fun he=>?_).far (p:=⟨O,1,none⟩) (by show g ≠ O;omega) v
 have:=(h.2.1.lt _ he.symm).1
 omega
theorem MB.push {w5:World} {A5:Option Addr} {c5:Nat} {b:Pq} (h:MB w n O k A0 c0 rs wx) (hg:wx.grownBy w5 (Value.slice A0 k c0).ownBlock) (ho:w5.ownsRow (O+1) 151 4 (.slice A5 (k+1) c5) (k+1) (cellsG (pgs n rs)++[.int .i64 (n:Nat),.int .i64 (b.x:Nat),.int .i64 (b.z:Nat),.int .i64 (b.p:Nat)])) :
  MB w n O (k+1) A5 c5 (rs++[b]) (w5.setCell ⟨O,1,none⟩ (.slice A5 (k+1) c5)):=by
 have hs:=hg.size
 refine ⟨?_,?_,(below_grown h.2.2.1 (by have:=h.2.2.2.2;have:=h.2.2.2.1;omega) h.2.1 (by have:=h.2.2.2.1;omega) hg).setCell h.2.2.2.1 _,h.2.2.2.1,by have:=h.2.2.2.2;simp [World.setCell];omega⟩
 ·refine Bx.snd (h.1.grown hg fun he=>?_) _
  have:=(h.2.1.lt _ he.symm).1
  omega
 ·rw [pgs_app,cellsG_append]
  exact own_setT ho (by show O < O+1;omega) _
theorem MB.cells (h:MB w n O k A0 c0 rs wx):(wx.cell? ⟨O,0,none⟩=some (.int .i64 ((n:Nat):Int))/\wx.cell? ⟨O,1,none⟩=some (.slice (A0) k c0)):=⟨h.1.cell 0,h.1.cell 1⟩
theorem MB.grown {w5:World} (h:MB w n O k A0 c0 rs wx) (hg:wx.grownBy w5 (Value.slice A0 k c0).ownBlock):Bx w5 O 73 #[.int .i64 (n:Nat),.slice A0 k c0]:=by
 refine h.1.grown hg fun he=>?_
 have:=(h.2.1.lt _ he.symm).1
 omega
end
set_option linter.unusedVariables false
theorem take_snocT {α:Type} {l:List α} {k:Nat} {a:α} (h:l[k]? = some a):l.take (k+1)=l.take k++[a]:=by
 rw [List.take_add_one,h];rfl
set_option maxRecDepth 100000 in
theorem i_TabApp (n m c:Nat) (A:Option Addr) (r:List Pq) (g:Gt) (w:World) (hn:1<=n/\n<=4) (hr:RdG w A m (pgs n r)) (hc:m<=c) (hok:okT n r) (hg:okN n g=true) (hcl:cliff g.k=true) :
  Calls Tryz.prog 115 #[.agg #[.int .i64 (n:Nat),.slice A m c],.agg #[.int .i64 g.k,.int .i64 g.a,.int .i64 g.b,.int .i64 g.c]] w (RetTab n m (appT n g r) w):=by
 have hm:m=2 * n:=by rw [<- hr.1,pgs_len,hok.1]
 obtain ⟨b,off,rfl⟩:=hr.first (by omega)
 have T0:=zH (show Bx (((w.alloc (.cells #[.int .i64 (n:Nat),.slice (some ⟨b,off,none⟩) m c] 73)).alloc (.cells #[.int .i64 g.k,.int .i64 g.a,.int .i64 g.b,.int .i64 g.c] 39)).alloc (.cells #[.int .i64 0,.slice none 0 0] 73)) w.heap.size 73 _ from ((Bx.new w _ _).alloc _).alloc _)
 have G0:=zH (show Bx (((w.alloc (.cells #[.int .i64 (n:Nat),.slice (some ⟨b,off,none⟩) m c] 73)).alloc (.cells #[.int .i64 g.k,.int .i64 g.a,.int .i64 g.b,.int .i64 g.c] 39)).alloc (.cells #[.int .i64 0,.slice none 0 0] 73)) (w.heap.size+1) 39 _ from (Bx.new' (by simp)).alloc _)
 have R0:=zH (show Bx (((w.alloc (.cells #[.int .i64 (n:Nat),.slice (some ⟨b,off,none⟩) m c] 73)).alloc (.cells #[.int .i64 g.k,.int .i64 g.a,.int .i64 g.b,.int .i64 g.c] 39)).alloc (.cells #[.int .i64 0,.slice none 0 0] 73)) (w.heap.size+1+1) 73 _ from Bx.new' (by simp))
 have B0:=zH (show Below w.heap.size w (((w.alloc (.cells #[.int .i64 (n:Nat),.slice (some ⟨b,off,none⟩) m c] 73)).alloc (.cells #[.int .i64 g.k,.int .i64 g.a,.int .i64 g.b,.int .i64 g.c] 39)).alloc (.cells #[.int .i64 0,.slice none 0 0] 73)) from (((zW).alloc zR _).alloc (by simp) _).alloc (by simp<;>omega) _)
 have HW:=zH hr
 have HR:=zH hok
 have HL:=zH (show r.length=m by rw [hok.1,hm])
 have HG:=zH hg
 have HC:=zH hcl
 have hm8:m<=8:=by omega
 clear hr hok hm hg hcl
 have t0:=T0.out.cell 0
 have t1:=T0.out.cell 1
 go_enter Tryz.func115,Tryz.ntmps115
 go_wp2_with fail
 refine (i_IsTab n m c _ r _ hn (HW.out.below B0.out) hc HR.out).mono ?_
 rintro e w1 ⟨rfl,b1⟩
 have T1:=zH ((T0.out.below b1).alloc (.cells #[.int .i64 (n:Nat),.slice none 0 0] 73))
 have G1:=zH ((G0.out.below b1).alloc (.cells #[.int .i64 (n:Nat),.slice none 0 0] 73))
 have R1:=zH ((R0.out.below b1).alloc (.cells #[.int .i64 (n:Nat),.slice none 0 0] 73))
 have hO:w.heap.size+1+1 < w1.heap.size:=(R0.out.below b1).lt
 have M1:=zH (show MB w n w1.heap.size 0 none 0 [] (w1.alloc (.cells #[.int .i64 (n:Nat),.slice none 0 0] 73)) from ⟨Bx.new _ _ _,World.ownsRow_nil _ _ _ _,(below_trans B0.out b1).alloc (by omega) _,by omega,by simp⟩)
 have s0:=(T0.out.below b1).cell 0
 have s1:=T1.out.cell 1
 clear b1 t0 t1 T0 G0 R0 B0
 obtain ⟨O,hO2⟩:∃ O,O=w1.heap.size:=⟨_,rfl⟩
 go_wp2_with fail
 rw [<- hO2] at M1 hO ⊢
 clear hO2
 go_loopg [21] m (fun q i wr=>∃ (k:Nat) (A0:Option Addr) (c0:Nat),k+q=m/\i=.int .i64 k/\Bx wr w.heap.size 73 #[.int .i64 (n:Nat),.slice (some ⟨b,off,none⟩) m c]/\Bx wr (w.heap.size+1) 39 #[.int .i64 g.k,.int .i64 g.a,.int .i64 g.b,.int .i64 g.c]/\Bx wr (w.heap.size+1+1) 73 #[.int .i64 0,.slice none 0 0]/\MB w n O k A0 c0 (appT n g (r.take k)) wr)
 case atStart=>exact ⟨0,none,0,by omega,rfl,T1.out,G1.out,R1.out,M1.out⟩
 case round =>
  clear T1 G1 R1 M1 s0 s1
  obtain ⟨k,A0,c0,hk,rfl,hT,hG,hRr,hM⟩:=hrel
  by_cases hlt:k < m
  ·obtain ⟨a,ha⟩:=get_lt (l:=r) (k:=k) (by rw [HL.out];exact hlt)
   obtain ⟨hb,y0,y1,y2,y3⟩:=(HW.out.below hM.2.2.1).cellsAt (pgs_drop ha)
   have OK:=zH (okT_at HR.out ha).1
   have HS:=zH (show appT n g (r.take (k+1))=appT n g (r.take k)++[conjQ n g a] by rw [take_snocT ha];unfold appT;simp)
   obtain ⟨d,hd⟩:∃ d,conjQ n g a=d:=⟨_,rfl⟩
   rw [hd] at HS
   have HD:=zH hd
   have T2:=zH (hT.alloc (.cells #[.int .i64 (n:Nat),.int .i64 (a.x:Nat),.int .i64 (a.z:Nat),.int .i64 (a.p:Nat)] 151))
   have G2:=zH (hG.alloc (.cells #[.int .i64 (n:Nat),.int .i64 (a.x:Nat),.int .i64 (a.z:Nat),.int .i64 (a.p:Nat)] 151))
   have R2:=zH (hRr.alloc (.cells #[.int .i64 (n:Nat),.int .i64 (a.x:Nat),.int .i64 (a.z:Nat),.int .i64 (a.p:Nat)] 151))
   have M2:=zH (hM.alloc (.cells #[.int .i64 (n:Nat),.int .i64 (a.x:Nat),.int .i64 (a.z:Nat),.int .i64 (a.p:Nat)] 151))
   obtain ⟨g0,g1,g2,g3,_⟩:=G2.out.four
   clear ha hT hG hRr hM hd
   simp only [pg] at y0 y1 y2 y3
   go_wp2_with fail
   refine (i_ConjPau n a d g _ hn OK.out HG.out HC.out HD.out).mono ?_
   rintro e w5 ⟨rfl,b5⟩
   have T3:=zH (((T2.out.below b5).alloc (.cells #[.int .i64 (n:Nat),.int .i64 (d.x:Nat),.int .i64 (d.z:Nat),.int .i64 (d.p:Nat)] 151)).alloc (.cells #[.int .i64 (n:Nat),.int .i64 (d.x:Nat),.int .i64 (d.z:Nat),.int .i64 (d.p:Nat)] 151))
   have G3:=zH (((G2.out.below b5).alloc (.cells #[.int .i64 (n:Nat),.int .i64 (d.x:Nat),.int .i64 (d.z:Nat),.int .i64 (d.p:Nat)] 151)).alloc (.cells #[.int .i64 (n:Nat),.int .i64 (d.x:Nat),.int .i64 (d.z:Nat),.int .i64 (d.p:Nat)] 151))
   have R3:=zH (((R2.out.below b5).alloc (.cells #[.int .i64 (n:Nat),.int .i64 (d.x:Nat),.int .i64 (d.z:Nat),.int .i64 (d.p:Nat)] 151)).alloc (.cells #[.int .i64 (n:Nat),.int .i64 (d.x:Nat),.int .i64 (d.z:Nat),.int .i64 (d.p:Nat)] 151))
   have M3:=zH (((M2.out.below b5).alloc (.cells #[.int .i64 (n:Nat),.int .i64 (d.x:Nat),.int .i64 (d.z:Nat),.int .i64 (d.p:Nat)] 151)).alloc (.cells #[.int .i64 (n:Nat),.int .i64 (d.x:Nat),.int .i64 (d.z:Nat),.int .i64 (d.p:Nat)] 151))
   have OV:=zH M3.out.2.1
   have m1:=((M2.out.below b5).alloc (.cells #[.int .i64 (n:Nat),.int .i64 (d.x:Nat),.int .i64 (d.z:Nat),.int .i64 (d.p:Nat)] 151)).1.cell 1
   have hO5:O < w5.heap.size:=(M2.out.below b5).2.2.2.2
   clear T2 G2 R2 M2 b5 g0 g1 g2 g3 y0 y1 y2 y3 hb
   go_wp2_with (at_builtin;refine wpList_app rfl (.tmp 35) (.tmp 37) 71 rfl Tryz.underlying71 infoPauli rfl (by decide) rfl OV.out rfl (rd_lit1 _ _ 151 #[.int .i64 (n:Nat),.int .i64 (d.x:Nat),.int .i64 (d.z:Nat),.int .i64 (d.p:Nat)] 1 4 rfl) (by simp [Value.oneCell']) (by omega) (by decide) (by simp<;>omega) ?_;intro A5 c5 w5' o5 g5;have Y5:=(M3.out.grown g5).two;obtain ⟨e0,e1,e2,e3⟩:=Y5)
   go_roundg (gk - 1)
   all_goals first
    |omega
    |exact ⟨k+1,A5,c5,by omega,by go_num,M3.out.keeps g5 T3.out (by omega),M3.out.keeps g5 G3.out (by omega),M3.out.keeps g5 R3.out (by omega),by rw [HS.out];exact M3.out.push g5 o5⟩
  ·obtain rfl:k=m:=by omega
   obtain ⟨e0,e1⟩:=hM.cells
   obtain ⟨r0,r1,r2,r3⟩:=hRr.two
   have hrs:r.take k=r:=List.take_of_length_le (by rw [HL.out];exact zR)
   rw [hrs] at hM
   have MM:=zH hM
   have RR:=zH hRr
   clear hM hrs hRr
   go_wp2_with fail
   have RB:=RR.out
   with_reducible refine ret_S2 RB ?_ ?_ ⟨A0,c0,rfl,?_,?_⟩
   ·intro wS z0 z1;simp [results,Tryz.results115,go_sem,z0,z1]
   ·rfl
   ·exact ownsRow_base (ownS2 MM.out.2.1 (by omega) _ _) (by omega)
   ·exact belowS2 MM.out.2.2.1 (by omega) _ _
set_option linter.unusedVariables false
def okA (l:List Gt) (n:Int):Bool:=l.all fun g=>okG g.k g.a g.b g.c n
def okC (l:List Gt) (n:Int):Bool:=inB n 1 4 && (decide (l.length<=60) && okA l n)
theorem okA_cons (g:Gt) (l:List Gt) (n:Int):okA (g :: l) n=(okG g.k g.a g.b g.c n && okA l n):=rfl
set_option maxRecDepth 100000 in
theorem s_ValC (A:Option Addr) (m cap:Nat) (q:Int) (gs:List Gt) (w:World) (h:RdG w A m gs) (hn:m<=1073741824) :
  Calls Tryz.prog 65 #[.agg #[.int .i64 q,.slice A m cap]] w fun e w'=>e=.returned (.bool (okC gs q))/\Below w.heap.size w w':=by
 have H:=zH h
 have HL:=zH h.1
 clear h
 go_enter Tryz.func65,Tryz.ntmps65
 go_wp2_with fail
 go_loopg [3] m (fun r i wr=>∃ k:Nat,k+r=m/\i=.int .i64 k/\okA (gs.drop k) q=okA gs q/\Bx wr w.heap.size 45 #[.int .i64 q,.slice A m cap]/\Below w.heap.size w wr)
 case atStart=>exact ⟨0,by omega,rfl,rfl,Bx.new w _ _,(zW).alloc zR _⟩
 case round =>
  obtain ⟨k,hk,rfl,ha,hx,hb⟩:=hrel
  have HX:=zH hx
  have HA:=zH ha
  have hs0:=hb.size
  have hsl:w.heap.size < wr.heap.size:=hx.lt
  clear hx ha
  obtain ⟨p0,p1,_,_⟩:=HX.out.two
  by_cases hlt:k < m
  ·obtain ⟨b,off,g,rfl,hB,hd,c0,c1,c2,c3⟩:=(H.out.below hb).at_ hlt
   have HD:=zH hd
   clear hd
   have hi0:(0:Int)<=(k:Int):=by omega
   have hi1:(k:Int) < (m:Int):=by omega
   cases hv:okG g.k g.a g.b g.c q
   ·have HV:=zH hv
    clear hv
    go_upto_region 4 with fail
    go_region_held3 (fun w'=>w'.cell? ⟨w.heap.size,0,none⟩=some (.int .i64 q)/\w'.cell? ⟨w.heap.size,1,none⟩=some (.slice (some ⟨b,off,none⟩) m cap)/\w'.cell? ⟨b,off+k * 4,none⟩=some (.int .i64 g.k)/\w'.cell? ⟨b,off+k * 4+1,none⟩=some (.int .i64 g.a)/\w'.cell? ⟨b,off+k * 4+2,none⟩=some (.int .i64 g.b)/\w'.cell? ⟨b,off+k * 4+3,none⟩=some (.int .i64 g.c))
     (first | with_reducible exact ⟨s0,s1,s2,s3,s4,s5⟩ | go_keep)
     (first
      |(go_at_call 25;refine (s_IsValidGate g.k g.a g.b g.c q _).mono ?_;rintro e w1 ⟨rfl,b1⟩;rw [HV.out];have s0:=(b1.cell (p:=⟨w.heap.size,0,none⟩) hsl).trans p0;have s1:=(b1.cell (p:=⟨w.heap.size,1,none⟩) hsl).trans p1;have s2:=(b1.cell (p:=⟨b,off+k * 4,none⟩) hB).trans c0;have s3:=(b1.cell (p:=⟨b,off+k * 4+1,none⟩) hB).trans c1;have s4:=(b1.cell (p:=⟨b,off+k * 4+2,none⟩) hB).trans c2;have s5:=(b1.cell (p:=⟨b,off+k * 4+3,none⟩) hB).trans c3)
      |fail)
    all_goals go_wp2_with fail
    all_goals go_ret
    all_goals exact ⟨ret_bool (by unfold okC;rw [<- HA.out,HD.out,okA_cons,HV.out];simp),hb.trans ((below_drew b1).mono (by simpa using hs0))⟩
   ·have HV:=zH hv
    clear hv
    go_upto_region 4 with fail
    go_region_held3 (fun w'=>w'.cell? ⟨w.heap.size,0,none⟩=some (.int .i64 q)/\w'.cell? ⟨w.heap.size,1,none⟩=some (.slice (some ⟨b,off,none⟩) m cap)/\w'.cell? ⟨b,off+k * 4,none⟩=some (.int .i64 g.k)/\w'.cell? ⟨b,off+k * 4+1,none⟩=some (.int .i64 g.a)/\w'.cell? ⟨b,off+k * 4+2,none⟩=some (.int .i64 g.b)/\w'.cell? ⟨b,off+k * 4+3,none⟩=some (.int .i64 g.c))
     (first | with_reducible exact ⟨s0,s1,s2,s3,s4,s5⟩ | go_keep)
     (first
      |(go_at_call 25;refine (s_IsValidGate g.k g.a g.b g.c q _).mono ?_;rintro e w1 ⟨rfl,b1⟩;rw [HV.out];have s0:=(b1.cell (p:=⟨w.heap.size,0,none⟩) hsl).trans p0;have s1:=(b1.cell (p:=⟨w.heap.size,1,none⟩) hsl).trans p1;have s2:=(b1.cell (p:=⟨b,off+k * 4,none⟩) hB).trans c0;have s3:=(b1.cell (p:=⟨b,off+k * 4+1,none⟩) hB).trans c1;have s4:=(b1.cell (p:=⟨b,off+k * 4+2,none⟩) hB).trans c2;have s5:=(b1.cell (p:=⟨b,off+k * 4+3,none⟩) hB).trans c3)
      |fail)
    all_goals go_wp2_with fail
    all_goals go_roundg (gk - 1)
    all_goals first
     |omega
     |exact ⟨k+1,by omega,by go_num,by rw [<- HA.out,HD.out,okA_cons,HV.out,Bool.true_and],(HX.out.drew.below b1),hb.trans ((below_drew b1).mono (by simpa using hs0))⟩
  ·obtain rfl:k=m:=by omega
   have hok:okA gs q=true:=by rw [<- HA.out,List.drop_eq_nil_of_le (by rw [HL.out];exact zR)];rfl
   have HK:=zH hok
   clear hok
   cases hi:inB q 1 4
   ·have HI:=zH hi
    clear hi
    go_wp2_with fail
    refine (s_in _ _ _ _).mono ?_
    rintro e w1 ⟨rfl,rfl⟩
    rw [HI.out]
    go_wp2_with fail
    go_ret
    exact ⟨ret_bool (by unfold okC;rw [HI.out];rfl),hb⟩
   ·have HI:=zH hi
    clear hi
    go_wp2_with fail
    refine (s_in _ _ _ _).mono ?_
    rintro e w1 ⟨rfl,rfl⟩
    rw [HI.out]
    go_wp2_with fail
    go_ret
    exact ⟨ret_bool (by unfold okC;rw [HI.out,HK.out,HL.out];simp<;>omega),hb⟩
set_option maxRecDepth 100000 in
theorem i_ValC (A:Option Addr) (m cap:Nat) (q:Int) (gs:List Gt) (w:World) (h:RdG w A m gs) (hn:m<=1073741824) :
  Calls Tryz.prog 69 #[.agg #[.int .i64 q,.slice A m cap]] w fun e w'=>e=.returned (.bool (okC gs q))/\Below w.heap.size w w':=by
 have H:=zH h
 have HL:=zH h.1
 have X0:=zH (Bx.new w 45 #[.int .i64 q,.slice A m cap])
 have B0:=zH (show Below w.heap.size w (w.alloc (.cells #[.int .i64 q,.slice A m cap] 45)) from (zW).alloc zR _)
 clear h
 cases hi:inB q 1 4
 ·have HI:=zH hi
  clear hi
  go_enter Tryz.func69,Tryz.ntmps69
  go_wp2_with fail
  refine (i_in _ _ _ _).mono ?_
  rintro e w1 ⟨rfl,rfl⟩
  rw [HI.out]
  go_wp2_with fail
  go_ret
  exact ⟨ret_bool (by unfold okC;rw [HI.out];rfl),B0.out⟩
 ·have HI:=zH hi
  clear hi
  by_cases hm:m<=60
  ·go_enter Tryz.func69,Tryz.ntmps69
   go_wp2_with fail
   refine (i_in _ _ _ _).mono ?_
   rintro e w1 ⟨rfl,rfl⟩
   rw [HI.out]
   have hm':¬ ((60:Int) < (m:Int)):=by omega
   go_wp2_with fail
   go_loopg [18] m (fun r i wr=>∃ k:Nat,k+r=m/\i=.int .i64 k/\okA (gs.drop k) q=okA gs q/\Bx wr w.heap.size 45 #[.int .i64 q,.slice A m cap]/\Below w.heap.size w wr)
   case atStart=>exact ⟨0,by omega,rfl,rfl,X0.out,B0.out⟩
   case round =>
    clear X0 B0
    obtain ⟨k,hk,rfl,ha,hx,hb⟩:=hrel
    have HA:=zH ha
    by_cases hlt:k < m
    ·obtain ⟨b,off,g,rfl,hB,hd,c0,c1,c2,c3⟩:=(H.out.below hb).at_ hlt
     have HD:=zH hd
     have HX:=zH (hx.alloc (.cells #[.int .i64 g.k,.int .i64 g.a,.int .i64 g.b,.int .i64 g.c] 39))
     have HB:=zH (hb.alloc hb.size (.cells #[.int .i64 g.k,.int .i64 g.a,.int .i64 g.b,.int .i64 g.c] 39))
     have p0:=HX.out.cell 0
     clear hd hx ha
     have hi0:(0:Int)<=(k:Int):=by omega
     have hi1:(k:Int) < (m:Int):=by omega
     go_wp2_with fail
     refine (i_IsValidGate g.k g.a g.b g.c q _).mono ?_
     rintro e w1 ⟨rfl,b1⟩
     cases hv:okG g.k g.a g.b g.c q
     ·have HV:=zH hv
      clear hv
      go_wp2_with fail
      go_ret
      exact ⟨ret_bool (by unfold okC;rw [<- HA.out,HD.out,okA_cons,HV.out];simp),below_trans HB.out b1⟩
     ·have HV:=zH hv
      clear hv
      go_wp2_with fail
      go_roundg (gk - 1)
      all_goals first
       |omega
       |exact ⟨k+1,by omega,by go_num,by rw [<- HA.out,HD.out,okA_cons,HV.out,Bool.true_and],HX.out.below b1,below_trans HB.out b1⟩
    ·obtain rfl:k=m:=by omega
     have hok:okA gs q=true:=by rw [<- HA.out,List.drop_eq_nil_of_le (by rw [HL.out];exact zR)];rfl
     go_wp2_with fail
     go_ret
     exact ⟨ret_bool (by unfold okC;rw [HI.out,hok,HL.out];simp;omega),hb⟩
  ·go_enter Tryz.func69,Tryz.ntmps69
   go_wp2_with fail
   refine (i_in _ _ _ _).mono ?_
   rintro e w1 ⟨rfl,rfl⟩
   rw [HI.out]
   have hm':(60:Int) < (m:Int):=by omega
   go_wp2_with fail
   go_ret
   exact ⟨ret_bool (by unfold okC;rw [HL.out];simp [hm]),B0.out⟩
end Go.Proofs.YtmenmibfkojnoaaGreat
namespace Go.Proofs.YtmenmibfkojnoaaGreat
open Go.RowKit
theorem own_types {w:World} {b1 b2:Nat} {e1 e2:TypeId} {s1 s2 n1 n2:Nat} {v1 v2:Value} {x1 x2:List Value} (h1:w.ownsRow b1 e1 s1 v1 n1 x1) (h2:w.ownsRow b2 e2 s2 v2 n2 x2) (hne:e1 ≠ e2) :
  v1.ownBlock=none ∨ v1.ownBlock ≠ v2.ownBlock:=by
 rcases h1.2 with ⟨rfl,_⟩ | ⟨g,cap,cur,rfl,_,hh,_⟩
 ·exact .inl rfl
 ·rcases h2.2 with ⟨rfl,_⟩ | ⟨g',cap',cur',rfl,_,hh',_⟩
  ·exact .inr (by simp [Value.ownBlock])
  ·refine .inr fun he=>?_
   have:g=g':=by simpa [Value.ownBlock] using he
   subst this
   rw [hh] at hh'
   injection hh' with hh'
   injection hh' with _ ht
   exact hne ht
theorem infoPhaseTerm:(Tryz.prog.info? 128).map (fun i=>(i.zero,i.size,i.bytes))=some (some (.agg #[.int .i64 0,.int .i64 0]),2,16):=by kernel_rfl
theorem infoAffineForm:(Tryz.prog.info? 93).map (fun i=>(i.zero,i.size,i.bytes))=some (some (.agg #[.int .i64 0,.int .i64 0]),2,16):=by kernel_rfl
theorem own_set {w:World} {base:Nat} {e:TypeId} {sz n:Nat} {v:Value} {xs:List Value} (h:w.ownsRow base e sz v n xs) {p:Addr} (hp:p.block < base) (u:Value):(w.setCell p u).ownsRow base e sz v n xs:=by
 have hg:w.grownBy (w.setCell p u) (some p.block):=⟨rfl,rfl,rfl,by simp [World.setCell],fun k hk hne=>Below.heap_setCell w _ _ k (fun e=>hne (by rw [e]))⟩
 refine h.kept hg ?_
 cases hv:v.ownBlock with
 |none=>exact .inl rfl
 |some k =>
  refine .inr fun e=>?_
  injection e with e
  have:=(h.lt k hv).1
  omega
def OwnPoly (wx:World) (base:Nat) (N H:Int) (t o:List (Int × Int)) (v:Value):Prop :=
 ∃ (AT:Option Addr) (cT:Nat) (AO:Option Addr) (cO:Nat),v=.agg #[.int .i64 N,.int .i64 H,.slice AT t.length cT,.slice AO o.length cO]/\wx.ownsRow base 128 2 (.slice AT t.length cT) t.length (cellsP t)/\wx.ownsRow base 93 2 (.slice AO o.length cO) o.length (cellsP o)
def RetPoly (N H:Int) (t o:List (Int × Int)) (w:World) (e:Ending) (w':World):Prop:=∃ v,e=.returned v/\OwnPoly w' w.heap.size N H t o v/\Below w.heap.size w w'
structure Po where
 N:Int
 H:Int
 t:List (Int × Int)
 o:List (Int × Int)
 deriving DecidableEq
def Po.zero:Po:=⟨0,0,[],[]⟩
def atL (m:Int):Nat->List (Int × Int)->Option Nat
 |_,[]=>none
 |i,p :: r=>if (p.1 == m)=true then some i else atL m (i+1) r
def plL (m:Int):Nat->List (Int × Int)->Nat
 |i,[]=>i
 |i,p :: r=>if decide (p.1<=m)=true then plL m (i+1) r else i
def withT (t:List (Int × Int)) (m:Int):List (Int × Int) :=
 match atL m 0 t with
 |some _=>t
 |none=>t.take (plL m 0 t)++(m,0) :: t.drop (plL m 0 t)
def atT (t:List (Int × Int)) (m:Int):Nat :=
 match atL m 0 t with
 |some k=>k
 |none=>plL m 0 t
def nz (l:List (Int × Int)):List (Int × Int):=l.filter fun p=>!(p.2 == 0)
def bump (l:List (Int × Int)) (k:Nat) (c:Int):List (Int × Int):=l.set k ((l.getD k (0,0)).1,((l.getD k (0,0)).2+c) % 8)
def addT (t:List (Int × Int)) (m c:Int):List (Int × Int):=nz (bump (withT t m) (atT t m) c)
theorem plL_ge (m:Int):∀ (i:Nat) (t:List (Int × Int)),i<=plL m i t/\plL m i t<=i+t.length
 |i,[]=>⟨zR,by simp [plL]⟩
 |i,p :: r=>by
  rw [plL]
  have:=plL_ge m (i+1) r
  split
  ·exact ⟨by omega,by simp;omega⟩
  ·exact ⟨zR,by simp⟩
theorem atL_lt (m:Int):∀ (i:Nat) (t:List (Int × Int)) (k:Nat),atL m i t=some k->i<=k/\k < i+t.length
 |i,[],k,h=>by cases h
 |i,p :: r,k,h=>by
  rw [atL] at h
  split at h
  ·injection h with h;subst h;exact ⟨zR,by simp⟩
  ·have:=atL_lt m (i+1) r k h
   exact ⟨by omega,by simp;omega⟩
theorem withT_len (t:List (Int × Int)) (m:Int):t.length<=(withT t m).length/\(withT t m).length<=t.length+1:=by
 unfold withT
 split
 ·exact ⟨zR,by omega⟩
 ·have:=plL_ge m 0 t
  simp only [List.length_append,List.length_take,List.length_cons,List.length_drop]
  exact ⟨by omega,by omega⟩
theorem atT_lt (t:List (Int × Int)) (m:Int):atT t m < (withT t m).length:=by
 unfold atT withT
 split
 ·have:=atL_lt m 0 t _ (by assumption);omega
 ·have:=plL_ge m 0 t
  simp only [List.length_append,List.length_take,List.length_cons,List.length_drop]
  omega
theorem bump_len (l:List (Int × Int)) (k:Nat) (c:Int):(bump l k c).length=l.length:=by simp [bump]
theorem nz_le (l:List (Int × Int)):(nz l).length<=l.length:=List.length_filter_le _ _
theorem addT_len (t:List (Int × Int)) (m c:Int):(addT t m c).length<=t.length+1:=by
 have h1:=nz_le (bump (withT t m) (atT t m) c)
 have h2:=(withT_len t m).2
 rw [bump_len] at h1
 unfold addT
 omega
theorem bump_mod (l:List (Int × Int)) (k:Nat) (c c':Int) (h:c % 8=c' % 8):bump l k c=bump l k c':=by
 unfold bump
 rw [Int.add_emod,h,<- Int.add_emod]
theorem addT_mod (t:List (Int × Int)) (m c c':Int) (h:c % 8=c' % 8):addT t m c=addT t m c':=by
 unfold addT
 rw [bump_mod _ _ c c' h]
theorem withT_has {t:List (Int × Int)} {m:Int} {k:Nat} (h:atL m 0 t=some k):withT t m=t/\atT t m=k:=by
 unfold withT atT;rw [h];exact ⟨rfl,rfl⟩
theorem withT_new {t:List (Int × Int)} {m:Int} (h:atL m 0 t=none):withT t m=t.take (plL m 0 t)++(m,0) :: t.drop (plL m 0 t)/\atT t m=plL m 0 t:=by
 unfold withT atT;rw [h];exact ⟨rfl,rfl⟩
theorem nz_snoc (l:List (Int × Int)) (p:Int × Int):nz (l++[p])=nz l++(if (p.2 == 0)=true then [] else [p]):=by
 unfold nz
 rw [List.filter_append]
 congr 1
 by_cases h:p.2=0<;>simp [h]
theorem wrap_mod8 (n:Int):wrap64 n % 8=n % 8:=by unfold wrap64;omega
def idO (n:Nat):List (Int × Int):=(List.range n).map fun i=>((2:Int) ^ i,0)
theorem idO_snoc (k:Nat):idO (k+1)=idO k++[((2:Int) ^ k,0)]:=by simp [idO,List.range_succ]
theorem idO_len (k:Nat):(idO k).length=k:=by simp [idO]
def idP (n:Int):Po:=if inB n 1 4=true then ⟨n,0,[],idO n.toNat⟩ else Po.zero
def at2 (o:List (Int × Int)) (a:Int):Int × Int:=o.getD a.toNat (0,0)
def actP (p:Po) (g:Gt):Po × Bool :=
 if (g.k == 1)=true then (⟨p.N,p.H,p.t,p.o.set g.a.toNat ((at2 p.o g.a).1,wrap64 (1 - (at2 p.o g.a).2))⟩,true)
 else if (g.k == 9)=true then (⟨p.N,p.H,p.t,p.o.set g.b.toNat (bits .xor .i64 (at2 p.o g.a).1 (at2 p.o g.b).1,bits .xor .i64 (at2 p.o g.a).2 (at2 p.o g.b).2)⟩,true)
 else if (g.k == 11)=true then (⟨p.N,p.H,p.t,(p.o.set g.a.toNat (at2 p.o g.b)).set g.b.toNat (at2 p.o g.a)⟩,true)
 else if (units g.k == 0)=true then (Po.zero,false)
 else if ((at2 p.o g.a).2 == 0)=true then (⟨p.N,p.H,addT p.t (at2 p.o g.a).1 (units g.k),p.o⟩,true)
 else (⟨p.N,(p.H+units g.k) % 8,addT p.t (at2 p.o g.a).1 (- units g.k),p.o⟩,true)
def okP (p:Po) (g:Gt):Bool:=okG g.k g.a g.b g.c p.N && decide ((p.o.length:Int)=p.N)
def applyP (p:Po) (g:Gt):Po × Bool:=if okP p g=true then actP p g else (Po.zero,false)
def compL:Po->List Gt->Po × Bool
 |p,[]=>(p,true)
 |p,g :: r=>if (applyP p g).2=true then compL (applyP p g).1 r else (Po.zero,false)
def compP (gs:List Gt) (n:Int):Po × Bool:=if inB n 1 4=true then compL (idP n) gs else (Po.zero,false)
theorem applyP_no {p:Po} {g:Gt} (h:okP p g=false):applyP p g=(Po.zero,false):=by unfold applyP;rw [h];rfl
theorem applyP_yes {p:Po} {g:Gt} (h:okP p g=true):applyP p g=actP p g:=by unfold applyP;rw [h];rfl
def scanB (g:Gt):List Gt->Nat->Option Nat
 |[],_=>none
 |h :: r,k=>if mergeOk g h then some k else if comm g h then scanB g r (k+1) else none
def findStep:List Gt->Nat->Option (Nat × Nat)
 |[],_=>none
 |g :: r,i=>match scanB g r (i+1) with | some k=>some (i,k) | none=>findStep r (i+1)
def g0:Gt:=⟨0,0,0,0⟩
def outOf (l:List Gt) (i k:Nat):List Gt:=l.take i++((l.drop (i+1)).take (k - (i+1))++(mergeL (l.getD i g0) (l.getD k g0)++l.drop (k+1)))
def stepL (l:List Gt):List Gt:=match findStep l 0 with | none=>l | some (i,k)=>outOf l i k
def stepOk (l:List Gt):Bool:=(findStep l 0).isSome
theorem scanB_yes {g h:Gt} {r:List Gt} {k:Nat} (hm:mergeOk g h=true):scanB g (h :: r) k=some k:=by simp [scanB,hm]
theorem scanB_on {g h:Gt} {r:List Gt} {k:Nat} (hm:mergeOk g h=false) (hc:comm g h=true):scanB g (h :: r) k=scanB g r (k+1):=by simp [scanB,hm,hc]
theorem scanB_no {g h:Gt} {r:List Gt} {k:Nat} (hm:mergeOk g h=false) (hc:comm g h=false):scanB g (h :: r) k=none:=by simp [scanB,hm,hc]
theorem getD_drop {l r:List Gt} {i:Nat} {g:Gt} (h:l.drop i=g :: r):l.getD i g0=g:=by
 have hl:i < l.length:=by
  rcases Nat.lt_or_ge i l.length with h1 | h1
  ·exact h1
  ·rw [List.drop_eq_nil_of_le h1] at h;cases h
 rw [drop_cons hl] at h
 injection h with h1 _
 rw [List.getD_eq_getElem?_getD,List.getElem?_eq_getElem hl,h1];rfl
theorem mergeL_short (g h:Gt):(mergeL g h).length<=1:=by
 unfold mergeL
 split
 ·simp
 ·split
  ·rename_i h1;rw [rotG_len];simp [rotOne] at h1;omega
  ·simp
theorem out_len {l:List Gt} {i k:Nat} (h1:i < k) (h2:k < l.length):(outOf l i k).length+1<=l.length:=by
 have:=mergeL_short (l.getD i g0) (l.getD k g0)
 simp only [outOf,List.length_append,List.length_take,List.length_drop]
 omega
theorem scanB_range {g:Gt}:∀ {r:List Gt} {j k:Nat},scanB g r j=some k->j<=k/\k < j+r.length
 |[],j,k,h=>by simp [scanB] at h
 |a :: r,j,k,h=>by
  simp only [scanB] at h
  split at h
  ·injection h with h;subst h;simp
  ·split at h
   ·have:=scanB_range h;simp;omega
   ·cases h
theorem findStep_range:∀ {r:List Gt} {j i k:Nat},findStep r j=some (i,k)->j<=i/\i < k/\k < j+r.length
 |[],j,i,k,h=>by simp [findStep] at h
 |a :: r,j,i,k,h=>by
  simp only [findStep] at h
  split at h
  ·rename_i k' hk
   injection h with h
   injection h with h1 h2
   subst h1 h2
   have:=scanB_range hk
   simp;omega
  ·have:=findStep_range h
   simp;omega
theorem step_len {l:List Gt} (h:stepOk l=true):(stepL l).length+1<=l.length:=by
 unfold stepOk at h
 unfold stepL
 split
 ·rename_i hn;rw [hn] at h;cases h
 ·rename_i i k hk
  have:=findStep_range hk
  exact out_len this.2.1 (by omega)
end Go.Proofs.YtmenmibfkojnoaaGreat
