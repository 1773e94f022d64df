/- Contracts of IsPermutation (spec and imp. -/
import Derived.Test.YtmenmibfkojnoaaGreatY13
import Derived.Test.YtmenmibfkojnoaaGreatY16
set_option maxHeartbeats 16000000
set_option maxRecDepth 100000
namespace Go.Proofs.YtmenmibfkojnoaaGreat
open Go.RowKit
def rU (n:Int):List Int->List Int->Bool
 |_,[]=>true
 |pre,x :: r=>ee x 0 (n - 1) && (!gH pre x && rU n (pre++[x]) r)
def isPerm (zs:List Int):Bool:=rU zs.length [] zs && ee zs.length 1 4
theorem rV (n:Int):∀ (r pre:List Int),rU n pre r=true ↔ (∀ y ∈ r,0<=y/\y<=n - 1)/\(∀ y ∈ r,y ∉ pre)/\r.Nodup
 |[],pre=>by simp [rU]
 |x :: r,pre=>by
  rw [rU,Bool.and_eq_true,Bool.and_eq_true,inB_iff,rV n r (pre++[x])];have hh:(!gH pre x)=true ↔ x ∉ pre:=by
   simp [gH];exact ⟨fun h hx=>h x hx rfl,fun h y hy e=>h (e ▸ hy)⟩
  rw [hh];simp only [List.mem_cons,List.nodup_cons,List.mem_append,not_or,List.not_mem_nil,or_false];constructor
  ·rintro ⟨h1,h2,h3,h4,h5⟩;refine ⟨?_,?_,?_,h5⟩
   ·rintro y (rfl | hy)
    ·exact h1
    ·exact h3 y hy
   ·rintro y (rfl | hy)
    ·exact h2
    ·exact (h4 y hy).1
   ·exact fun hx=>(h4 x hx).2 rfl
  ·rintro ⟨h1,h2,h3,h4⟩;exact ⟨h1 x (.inl rfl),h2 x (.inl rfl),fun y hy=>h1 y (.inr hy),fun y hy=>⟨h2 y (.inr hy),fun e=>h3 (e ▸ hy)⟩,h4⟩
theorem isPerm_iff (z:List Int):isPerm z=true ↔ (∀ y ∈ z,0<=y/\y<=(z.length:Int) - 1)/\z.Nodup/\1<=z.length/\z.length<=4:=by
 unfold isPerm;rw [Bool.and_eq_true,inB_iff,rV];simp only [List.not_mem_nil,not_false_eq_true,implies_true,true_and];constructor
 ·rintro ⟨h1,h2⟩
  first | exact ⟨h1.1,h1.2,zO,zO⟩ | exact ⟨h2.1,h2.2,zO,zO⟩
 ·rintro ⟨h1,h2,h3,h4⟩
  first | exact ⟨⟨h1,h2⟩,zO,zO⟩ | exact ⟨⟨zO,zO⟩,h1,h2⟩
theorem a7 {a b c:World} {g:Nat} (h:a.grownBy b (some g)) (k:b.grownBy c (some g)):a.grownBy c (some g):=h.trans k
theorem yy {a b c:World} {g:Nat} (h:a.grownBy b (some g)) (k:Below b.heap.size b c):a.grownBy c (some g) :=
 ⟨k.os.trans h.os,k.tape.trans h.tape,k.output.trans h.output,Nat.le_trans h.size k.size,fun i hi hne=>(k.block i (Nat.lt_of_lt_of_le hi h.size)).trans (h.block i hi hne)⟩
theorem rW {a b c:World} {g:Nat} {row:Option Nat} (h:a.grownBy b (some g)) (k:b.grownBy c row) (hr:∀ i,row=some i->a.heap.size<=i):a.grownBy c (some g) :=
 ⟨k.os.trans h.os,k.tape.trans h.tape,k.output.trans h.output,Nat.le_trans h.size k.size,fun i hi hne=>(k.block i (Nat.lt_of_lt_of_le hi h.size) (fun e=>by have:=hr i e.symm;omega)).trans (h.block i hi hne)⟩
theorem eS {a b:World} {g:Nat} (h:a.grownBy b (some g)) {p:Addr} (hp:a.heap.size<=p.block) (u:Value):a.grownBy (b.setCell p u) (some g) :=
 rW h (row:=some p.block) ⟨rfl,rfl,rfl,by simp [World.setCell],fun k _ hk=>Below.heap_setCell b _ u k (fun e=>hk (by rw [e]))⟩ (fun i e=>by injection e with e;omega)
theorem kv {a b:World} {g:Nat} (h:a.grownBy b (some g)) (hc:Cur a g) {base e sz n:Nat} {v:Value} {xs:List Value} (ho:a.ownsRow base e sz v n xs) (hne:e ≠ 122):b.ownsRow base e sz v n xs:=by
 obtain ⟨cs,hb⟩:=hc.bx;exact ho.kept h (.inr fun he=>am ho hb hne he.symm)
theorem cl {a b:World} {g:Nat} (h:a.grownBy b (some g)) {k t:Nat} {cs:Array Value} (hb:Bx a k t cs) (hne:k ≠ g):Bx b k t cs:=hb.grown h (fun e=>hne (by injection e))
def RF (g:Nat) (w:World) (e:Ending) (w':World):Prop:=∃ b:Bool,e=.returned (.bool b)/\Cur w' g/\w.grownBy w' (some g)
theorem rX (g:Nat) (n:Int) (w:World) (h:Cur w g) (hn:n<=1000000):Calls Tryz.prog 72 #[.pointer (some ⟨g,0,none⟩),n] w (RF g w):=by
 have H:=zH h;clear h;go_enter Tryz.func72,Tryz.ntmps72;go_wp2_with fail;refine (dz _ _ _ H hn).mono ?_;rintro e w1 ⟨x,rfl,_,hc,g1⟩;go_wp2_with fail;go_ret;exact ⟨_,rfl,hc,g1⟩
theorem fM (g:Nat) (A:Option Addr) (n cap:Nat) (zs:List Int) (w:World) (h:Cur w g) (hr:w.ownsRow (g+1) 3 1 (.slice A n cap) n (aB zs)) (hn:1<=n) (hn2:n<=1000000) :
  Calls Tryz.prog 121 #[.pointer (some ⟨g,0,none⟩),.slice A n cap] w (Hd (fun x=>x ∈ zs) g w):=by
 have H:=zH h;have HR:=zH hr;clear h hr;go_enter Tryz.func121,Tryz.ntmps121;go_wp2_with fail;refine (dz _ _ _ H zO).mono ?_;rintro e w1 ⟨x,rfl,⟨hx,_⟩,hc,g1⟩;obtain ⟨hx0,hx1⟩:=hx zO;obtain ⟨k,rfl⟩:∃ k:Nat,x=k:=⟨x.toNat,zO⟩;have o1:=kv g1 H.out HR.out zD;obtain ⟨b,off,y,rfl,hB,hd,c0⟩:=(RdI.own o1).at_ (show k < n by omega);have hm:y ∈ zs:=List.mem_of_mem_drop (i:=k) (by rw [hd];simp);have HM:=zH hm;have HC:=zH hc;clear hx hd hm o1;go_wp2_with fail;go_ret;exact ⟨y,rfl,HM,HC,g1⟩
def nS (n:Nat):List Int:=(List.range n).map fun (i:Nat)=>(i:Int)
theorem Ba (n:Nat):nS (n+1)=nS n++[(n:Int)]:=by simp [nS,List.range_succ]
theorem Fq (n:Nat):(nS n).length=n:=by simp [nS]
theorem Bb (n:Nat) (h1:1<=n) (h4:n<=4):isPerm (nS n)=true:=by
 obtain h | h | h | h:n=1\/n=2\/n=3\/n=4:=zO
 all_goals subst h;decide
theorem kY (n:Nat) (w:World) (h1:1<=n) (h4:n<=4):Calls Tryz.prog 213 #[n] w (jl 3 1 (aB (nS n)) n w):=by
 have hin:Hid (ee (n:Int) 1 4=true):=zH (inB_iff.2 ⟨zO,zO⟩);go_enter Tryz.func213,Tryz.ntmps213;go_wp2_with fail;go_loopg [3,4] n (fun r v i wr=>∃ (k:Nat) (A0:Option Addr) (c0:Nat),k+r=n/\i=.int .i64 k/\v=.slice A0 k c0/\wr.ownsRow w 3 1 (.slice A0 k c0) k (aB (nS k))/\Below w w wr)
 case atStart=>exact ⟨0,_,_,zO,rfl,rfl,World.ownsRow_lit w #[] 0 zR zM rfl,(zW).alloc zR _⟩
 case round =>
  obtain ⟨k,A0,c0,hk,rfl,rfl,ho,hb⟩:=hrel;have HO:=zH ho;have hs:=hb.size;clear ho;by_cases hlt:k < n
  ·go_wp2_with fail;refine (el _ _ _ _).mono ?_;rintro e w1 ⟨rfl,rfl⟩;rw [hin.out]
   go_wp2_with (at_builtin;refine ah rfl (.tmp 15) (.tmp 17) 58 rfl Tryz.underlying58 gY rfl zD rfl (HO.alloc _) rfl (Rd.lit _ 3 #[k] 1 1 rfl) zV zO zD zS ?_;intro A2 c2 w2 o2 g2)
   go_roundg (gk - 1)
   case measure=>omega
   case rel=>exact ⟨k+1,A2,c2,zO,by go_num,rfl,by rw [Ba,mK];exact o2,ag (hb.alloc hs _) zS (HO.alloc _) zR g2⟩
  ·go_wp2_with fail;refine (el _ _ _ _).mono ?_;rintro e w1 ⟨rfl,rfl⟩;rw [hin.out];go_wp2_with fail;go_ret;obtain rfl:k=n:=zO;exact ⟨A0,c0,rfl,HO,hb⟩
def RI (P:List Int->Prop) (g:Nat) (w:World) (e:Ending) (w':World):Prop :=
 ∃ (A:Option Addr) (n c:Nat) (zs:List Int),e=.returned (.slice A n c)/\zs.length=n/\P zs/\w'.ownsRow w 3 1 (.slice A n c) n (aB zs)/\Cur w' g/\w.grownBy w' (some g)
theorem Fr {z:List Int} {i k:Nat} (h:isPerm z=true) (hi:i < z.length) (hk:k < z.length):isPerm ((z.set i z[k]).set k z[i])=true:=by
 have hp:=List.set_set_perm hi hk;rw [isPerm_iff] at h ⊢;obtain ⟨h1,h2,h3,h4⟩:=h;have hl:((z.set i z[k]).set k z[i]).length=z.length:=zI;rw [hl];exact ⟨fun y hy=>h1 y (hp.mem_iff.1 hy),hp.nodup_iff.2 h2,h3,h4⟩
theorem rY (z:List Int) (k:Nat) (x:Int):(aB z).set k (.int .i64 x)=aB (z.set k x):=by simp [aB]
theorem pc {p:Prop} (h:p:=by have:=HZL.out;omega):p:=h
theorem IM (g n:Nat) (w:World) (h:Cur w g) (h1:1<=n) (h4:n<=4):Calls Tryz.prog 199 #[.pointer (some ⟨g,0,none⟩),n] w (RI (fun zs=>zs.length=n/\isPerm zs=true) g w):=by
 have H:=zH h;have hgw:=h.lt;clear h;go_enter Tryz.func199,Tryz.ntmps199;go_wp2_with fail;refine (kY n _ h1 h4).mono ?_;rintro e w1 ⟨A1,c1,rfl,o1,b1⟩;obtain ⟨b,hA1⟩:∃ b,A1=some ⟨b,0,none⟩:=by
  rcases o1.2 with ⟨_,h0⟩ | ⟨b,cap,cur,hv,_⟩
  ·omega
  ·injection hv with hv _ _;exact ⟨b,hv⟩
 subst hA1;have hbw:w.heap.size<=b:=(o1.lt b rfl).1;have O1:=zH o1;have C1:=zH (H.below b1);have G1:=zH (yy (World.grownBy.refl w (some g)) b1);clear o1 b1 H;go_wp2_with fail;go_loopg [6] n (fun r i wr=>∃ (k:Nat) (zs:List Int),k+1=r/\k < n/\i=.int .i64 k/\zs.length=n/\isPerm zs=true/\wr.ownsRow w 3 1 (.slice (some ⟨b,0,none⟩) n c1) n (aB zs)/\Cur wr g/\w.grownBy wr (some g))
 case atStart=>exact ⟨n - 1,nS n,zO,zO,by go_num,Fq n,Bb n h1 h4,O1.out,C1.out,G1.out⟩
 case round =>
  clear O1 C1 G1;obtain ⟨k,zs,hk,hkn,rfl,hzl,hp,ho,hc,hg⟩:=hrel;have HZL:=zH hzl;have HP:=zH hp;have HO:=zH ho;have HC:=zH hc;have HG:=zH hg;clear hzl hp ho hc hg;by_cases hk0:0 < k
  ·go_wp2_with fail;refine (dz _ _ _ HC zO).mono ?_;rintro e w2 ⟨y,rfl,⟨hy,_⟩,hc2,g2⟩;obtain ⟨hy0,hy1⟩:=hy zO;obtain ⟨j,rfl⟩:∃ j:Nat,y=j:=⟨y.toNat,zO⟩;have hjn:j < n:=zO;have o2:=kv g2 HC.out HO.out zD;have ck:=(o2.cellAt k zO).trans (show (aB zs)[k]? = some (.int .i64 (zs[k]'pc)) from by simp [aB,HZL.out,hkn]);have cj:=(o2.cellAt j zO).trans (show (aB zs)[j]? = some (.int .i64 (zs[j]'pc)) from by simp [aB,HZL.out,hjn]);have fk:=o2.frozenAt k;have fj:=o2.frozenAt j;obtain ⟨xk,hxk⟩:∃ x,zs[k]'pc=x:=⟨_,rfl⟩;obtain ⟨xj,hxj⟩:∃ x,zs[j]'pc=x:=⟨_,rfl⟩;rw [hxk] at ck;rw [hxj] at cj;have HXK:=zH hxk;have HXJ:=zH hxj;have O2:=zH o2;have C2:=zH hc2;have G2:=zH (a7 HG g2);have hkI:(k:Int) < (n:Int):=zO;have hjI:(j:Int) < (n:Int):=zO;obtain ⟨v,hv⟩:=cell?_setCell_some (w:=w2) (p:=⟨b,k,none⟩) (x:=.int .i64 xj) (q:=⟨b,j,none⟩) (v:=.int .i64 xj) cj
   clear hy hxk hxj o2 hc2 g2 HO HC HG;go_wp2_with fail;go_roundg (gk - 1)
   case measure=>omega
   case rel =>
    have s1:=O2.stored k (.int .i64 xj);have s2:=s1.1.stored j (.int .i64 xk);rw [rY,rY] at s2;refine ⟨k - 1,(zs.set k xj).set j xk,zO,zO,by go_num,by simp [HZL.out],?_,s2.1,(C2.setCell (by show g < b;omega) _).setCell (by show g < b;omega) _,eS (eS G2.out hbw _) hbw _⟩;have hp:=Fr HP.out (i:=k) (k:=j) pc pc;rw [HXK.out,HXJ.out] at hp;exact hp
  ·go_wp2_with fail;go_ret;exact ⟨_,n,c1,zs,rfl,HZL,⟨HZL,HP⟩,HO,HC,HG⟩
set_option linter.unusedVariables false
theorem fc:(Tryz.prog.info? 151).map (fun i=>(i.zero,i.size,i.bytes))=some (some (.agg #[(0:Int),(0:Int),(0:Int),(0:Int)]),4,32):=zK
def pg (n:Nat) (a:Pq):Gt:=⟨n,a.x,a.z,a.p⟩
def dP (n:Nat) (r:List Pq):List Gt:=r.map (pg n)
theorem ep (n:Nat) (r:List Pq):(dP n r).length=r.length:=by unfold dP;simp
theorem Ni (n:Nat) (r s:List Pq):dP n (r++s)=dP n r++dP n s:=by unfold dP;simp
theorem aE {n k:Nat} {r:List Pq} {a:Pq} (h:r[k]? = some a):(dP n r).drop k=pg n a :: (dP n r).drop (k+1):=by
 obtain ⟨hk,e⟩:=List.getElem?_eq_some_iff.1 h;rw [ax (l:=dP n r) (by rw [ep];exact hk)];unfold dP;rw [List.getElem_map,e]
def TBx (w:World) (g n:Nat) (A:Option Addr) (m c:Nat) (r:List Pq) (wx:World):Prop :=
 Bx wx g 73 #[n,.slice A m c]/\RdG wx A m (dP n r)/\Below w w wx/\w.heap.size<=g
section
variable {w wx w':World} {g n m c:Nat} {A:Option Addr} {r:List Pq}
theorem TBx.below (h:TBx w g n A m c r wx) (hb:Below wx wx w'):TBx w g n A m c r w':=⟨h.1.below hb,h.2.1.below hb,aa h.2.2.1 hb,h.2.2.2⟩
theorem TBx.alloc (h:TBx w g n A m c r wx) (o:Obj):TBx w g n A m c r (wx.alloc o):=h.below ((zW).alloc zR _)
theorem TBx.drew (h:TBx w g n A m c r wx):TBx w g n A m c r wx.drew:=h.below (zW).drew
theorem TBx.cells (h:TBx w g n A m c r wx):(wx.cell? ⟨g,0,none⟩=some (.int .i64 ((n:Nat):Int))/\wx.cell? ⟨g,1,none⟩=some (.slice (A) m c)):=⟨h.1.cell 0,h.1.cell 1⟩
theorem TBx.row {b off k:Nat} {a:Pq} (h:TBx w g n (some ⟨b,off,none⟩) m c r wx) (ha:r[k]? = some a):b < wx.heap.size/\(wx.cell? ⟨b,off+k * 4,none⟩=some (.int .i64 ((n:Nat):Int))/\wx.cell? ⟨b,off+k * 4+1,none⟩=some (.int .i64 ((a.x:Nat):Int))/\wx.cell? ⟨b,off+k * 4+2,none⟩=some (.int .i64 ((a.z:Nat):Int))/\wx.cell? ⟨b,off+k * 4+3,none⟩=some (.int .i64 ((a.p:Nat):Int))):=h.2.1.cellsAt (aE ha)
end
theorem Bx.four4 {wx:World} {g t:Nat} {x y z v:Value} (h:Bx wx g t #[x,y,z,v]):wx.cell? ⟨g,0,none⟩=some x/\wx.cell? ⟨g,1,none⟩=some y/\wx.cell? ⟨g,2,none⟩=some z/\wx.cell? ⟨g,3,none⟩=some v:=⟨h.cell 0,h.cell 1,h.cell 2,h.cell 3⟩
theorem aV {α:Type} {l:List α} {k:Nat} (h:k < l.length):∃ a,l[k]? = some a:=⟨l[k],List.getElem?_eq_getElem h⟩
theorem UG (A:Option Addr) (n c hi:Nat) (h2:hi<=c) (w:World) :
  (Instr.slice 71 (.slice A n c) none (some (.int .i64 (hi:Int))) none).run Tryz.prog w=.ok (.slice A hi c) w:=by
 have hz:(sizeOf (Tryz.prog.elem 71)).run Tryz.prog w=.ok 4 w:=zK;rw [run_slice_h w 71 A n c zK .i64 hi zO zO,hz];simp only [Result.andThen,sliced,Int.toNat_natCast];cases A<;>simp [Addr.add]
set_option linter.unusedVariables false
theorem IN {p:Prop} (h:p:=by
  have hg:w.grownBy (w.setCell p u) (some p.block):=⟨rfl,rfl,rfl,by simp [World.setCell],fun k hk hne=>Below.heap_setCell w _ _ k (fun e=>hne (by rw [e]))⟩;refine h.kept hg ?_;cases hv:v.ownBlock with
  |none=>exact .inl rfl
  |some k =>
   refine .inr fun e=>?_
   injection e with e;have:=(h.lt k hv).1
   omega):p:=h
theorem fY {w:World} {base:Nat} {e:TypeId} {sz n:Nat} {v:Value} {xs:List Value} (h:w.ownsRow base e sz v n xs) {p:Addr} (hp:p.block < base) (u:Value):(w.setCell p u).ownsRow base e sz v n xs:=by
 exact IN
theorem gL {W w':World} {r:Option Nat} (h:W.drew.grownBy w' r):W.grownBy w' r:=⟨h.os,h.tape,h.output,h.size,h.block⟩
theorem vG (w:World) (o:Obj) (e:TypeId) (cs:Array Value) (n sz:Nat) (h:cs.size=n * sz):Rd ((w.alloc o).alloc (.cells cs e)) sz (some ⟨w.heap.size+1,0,none⟩) n cs.toList:=by
 have:=Rd.lit (w.alloc o) e cs n sz h;rw [World.size_alloc] at this;exact this
abbrev S2 (wx:World) (r:Nat) (u0 u1:Value):World:=(wx.setCell ⟨r,0,none⟩ u0).setCell ⟨r,1,none⟩ u1
theorem Bx.far2 {wx:World} {g r t:Nat} {cs:Array Value} (h:Bx wx g t cs) (hr:g ≠ r) (u0 u1:Value):Bx (S2 wx r u0 u1) g t cs:=(h.far hr u0).far hr u1
theorem Bx.set2 {wx:World} {g t:Nat} {v0 v1:Value} (h:Bx wx g t #[v0,v1]) (u0 u1:Value):Bx (S2 wx g u0 u1) g t #[u0,u1]:=by
 have h0:Bx (wx.setCell ⟨g,0,none⟩ u0) g t #[u0,v1]:=by simpa using h.set_ 0 u0
 simpa using h0.set_ 1 u1
theorem Bx.snd {wx:World} {g t:Nat} {v0 v1:Value} (h:Bx wx g t #[v0,v1]) (u1:Value):Bx (wx.setCell ⟨g,1,none⟩ u1) g t #[v0,u1]:=by simpa using h.set_ 1 u1
theorem ay {w wx:World} {r B:Nat} (h:Below B w wx) (hr:B<=r) (u0 u1:Value):Below B w (S2 wx r u0 u1):=(h.setCell hr _).setCell hr _
theorem yz {w:World} {base r:Nat} {e:TypeId} {sz n:Nat} {v:Value} {xs:List Value} (h:w.ownsRow base e sz v n xs) (hp:r < base) (u0 u1:Value):(S2 w r u0 u1).ownsRow base e sz v n xs:=fY (fY h hp u0) hp u1
theorem eD {P:Program} {fn:Func} {R:Ending->World->Prop} {a:Act} {wy:World} {r t:Nat} {v0 v1 u0 u1 v:Value} (hB:Bx wy r t #[v0,v1])
  (hr:∀ wS:World,wS.cell? ⟨r,0,none⟩=some u0->wS.cell? ⟨r,1,none⟩=some u1->(results fn a.tmps).run P wS=.ok v wS)
  (hd:a.defers=[]) (hR:R (.returned v) (S2 wy r u0 u1)):bodyPost P fn R .ret a (S2 wy r u0 u1) :=
 bodyPost_ret (hr _ ((hB.set2 u0 u1).cell 0) ((hB.set2 u0 u1).cell 1)) hd hR
abbrev rZ (n m:Nat) (r:List Pq) (w:World) (e:Ending) (w':World):Prop :=
 ∃ A c,e=.returned (.tuple #[.agg #[n,.slice A m c],.bool true])/\w'.ownsRow w 151 4 (.slice A m c) m (af (dP n r))/\Below w w w'
abbrev qL (n m:Nat) (r:List Pq) (w:World) (e:Ending) (w':World):Prop :=
 ∃ A c,e=.returned (.agg #[n,.slice A m c])/\w'.ownsRow w 151 4 (.slice A m c) m (af (dP n r))/\Below w w w'
def MB (w:World) (n O k:Nat) (A0:Option Addr) (c0:Nat) (rs:List Pq) (wx:World):Prop :=
 Bx wx O 73 #[n,.slice A0 k c0]/\wx.ownsRow (O+1) 151 4 (.slice A0 k c0) k (af (dP n rs))/\Below w w wx/\w.heap.size<=O/\O < wx.heap.size
section
variable {w wx w':World} {n O k c0:Nat} {A0:Option Addr} {rs:List Pq}
theorem MB.below (h:MB w n O k A0 c0 rs wx) (hb:Below wx wx w'):MB w n O k A0 c0 rs w' :=
 ⟨h.1.below hb,ab h.2.1 hb,aa h.2.2.1 hb,h.2.2.2.1,Nat.lt_of_lt_of_le h.2.2.2.2 hb.size⟩
theorem MB.alloc (h:MB w n O k A0 c0 rs wx) (o:Obj):MB w n O k A0 c0 rs (wx.alloc o):=h.below ((zW).alloc zR _)
theorem MB.drew (h:MB w n O k A0 c0 rs wx):MB w n O k A0 c0 rs wx.drew:=h.below (zW).drew
theorem MB.keeps {g t:Nat} {cs:Array Value} {w5:World} {v:Value} (h:MB w n O k A0 c0 rs wx) (hg:wx.grownBy w5 (Value.slice A0 k c0).ownBlock) (hb:Bx wx g t cs) (hgO:g < O):Bx (w5.setCell ⟨O,1,none⟩ v) g t cs:=by
 refine (hb.grown hg fun he=>?_).far (p:=⟨O,1,none⟩) (by show g ≠ O;omega) v;have:=(h.2.1.lt _ he.symm).1;omega
theorem MB.push {w5:World} {A5:Option Addr} {c5:Nat} {b:Pq} (h:MB w n O k A0 c0 rs wx) (hg:wx.grownBy w5 (Value.slice A0 k c0).ownBlock) (ho:w5.ownsRow (O+1) 151 4 (.slice A5 (k+1) c5) (k+1) (af (dP n rs)++[.int .i64 (n:Nat),.int .i64 (b.x:Nat),.int .i64 (b.z:Nat),.int .i64 (b.p:Nat)])) :
  MB w n O (k+1) A5 c5 (rs++[b]) (w5.setCell ⟨O,1,none⟩ (.slice A5 (k+1) c5)):=by
 have hs:=hg.size;refine ⟨?_,?_,(ag h.2.2.1 (by have:=h.2.2.2.2;have:=h.2.2.2.1;omega) h.2.1 (by have:=h.2.2.2.1;omega) hg).setCell h.2.2.2.1 _,h.2.2.2.1,by have:=h.2.2.2.2;simp [World.setCell];omega⟩
 ·refine Bx.snd (h.1.grown hg fun he=>?_) _;have:=(h.2.1.lt _ he.symm).1;omega
 ·rw [Ni,av];exact fY ho (by show O < O+1;omega) _
theorem MB.cells (h:MB w n O k A0 c0 rs wx):(wx.cell? ⟨O,0,none⟩=some (.int .i64 ((n:Nat):Int))/\wx.cell? ⟨O,1,none⟩=some (.slice (A0) k c0)):=⟨h.1.cell 0,h.1.cell 1⟩
theorem MB.grown {w5:World} (h:MB w n O k A0 c0 rs wx) (hg:wx.grownBy w5 (Value.slice A0 k c0).ownBlock):Bx w5 O 73 #[n,.slice A0 k c0]:=by
 refine h.1.grown hg fun he=>?_
 have:=(h.2.1.lt _ he.symm).1;omega
end
theorem bN:(Tryz.prog.info? 128).map (fun i=>(i.zero,i.size,i.bytes))=some (some (.agg #[(0:Int),(0:Int)]),2,16):=zK
theorem cd:(Tryz.prog.info? 93).map (fun i=>(i.zero,i.size,i.bytes))=some (some (.agg #[(0:Int),(0:Int)]),2,16):=zK
theorem fZ {w:World} {base:Nat} {e:TypeId} {sz n:Nat} {v:Value} {xs:List Value} (h:w.ownsRow base e sz v n xs) {p:Addr} (hp:p.block < base) (u:Value):(w.setCell p u).ownsRow base e sz v n xs:=by
 exact IN
def OwnPoly (wx:World) (base:Nat) (N H:Int) (t o:List (Int × Int)) (v:Value):Prop :=
 ∃ (AT:Option Addr) (cT:Nat) (AO:Option Addr) (cO:Nat),v=.agg #[N,H,.slice AT t.length cT,.slice AO o.length cO]/\wx.ownsRow base 128 2 (.slice AT t.length cT) t.length (aj t)/\wx.ownsRow base 93 2 (.slice AO o.length cO) o.length (aj o)
def qM (N H:Int) (t o:List (Int × Int)) (w:World) (e:Ending) (w':World):Prop:=∃ v,e=.returned v/\OwnPoly w' w.heap.size N H t o v/\Below w w w'
structure Po where
 N:Int
 H:Int
 t:List (Int × Int)
 o:List (Int × Int)
 deriving DecidableEq
def Po.zero:Po:=⟨0,0,[],[]⟩
def kw (m:Int):Nat->List (Int × Int)->Option Nat
 |_,[]=>none
 |i,p :: r=>if (p.1 == m)=true then some i else kw m (i+1) r
def li (m:Int):Nat->List (Int × Int)->Nat
 |i,[]=>i
 |i,p :: r=>if decide (p.1<=m)=true then li m (i+1) r else i
def cQ (t:List (Int × Int)) (m:Int):List (Int × Int) :=
 match kw m 0 t with
 |some _=>t
 |none=>t.take (li m 0 t)++(m,0) :: t.drop (li m 0 t)
def ur (t:List (Int × Int)) (m:Int):Nat :=
 match kw m 0 t with
 |some k=>k
 |none=>li m 0 t
def nz (l:List (Int × Int)):List (Int × Int):=l.filter fun p=>!(p.2 == 0)
def iY (l:List (Int × Int)) (k:Nat) (c:Int):List (Int × Int):=l.set k ((l.getD k (0,0)).1,((l.getD k (0,0)).2+c) % 8)
def cD (t:List (Int × Int)) (m c:Int):List (Int × Int):=nz (iY (cQ t m) (ur t m) c)
theorem ni (m:Int):∀ (i:Nat) (t:List (Int × Int)),i<=li m i t/\li m i t<=i+t.length
 |i,[]=>⟨zR,by simp [li]⟩
 |i,p :: r=>by
  rw [li];have:=ni m (i+1) r;split
  ·exact ⟨zO,zJ⟩
  ·exact ⟨zR,zI⟩
theorem vH (m:Int):∀ (i:Nat) (t:List (Int × Int)) (k:Nat),kw m i t=some k->i<=k/\k < i+t.length
 |i,[],k,h=>by cases h
 |i,p :: r,k,h=>by
  rw [kw] at h;split at h
  ·injection h with h;subst h;exact ⟨zR,zI⟩
  ·have:=vH m (i+1) r k h;exact ⟨zO,zJ⟩
theorem pd (t:List (Int × Int)) (m:Int):t.length<=(cQ t m).length/\(cQ t m).length<=t.length+1:=by
 unfold cQ;split
 ·exact ⟨zR,zO⟩
 ·have:=ni m 0 t;simp only [List.length_append,List.length_take,List.length_cons,List.length_drop];exact ⟨zO,zO⟩
theorem r8 (t:List (Int × Int)) (m:Int):ur t m < (cQ t m).length:=by
 unfold ur cQ;split
 ·have:=vH m 0 t _ (by assumption);omega
 ·have:=ni m 0 t;simp only [List.length_append,List.length_take,List.length_cons,List.length_drop];omega
theorem lM (l:List (Int × Int)) (k:Nat) (c:Int):(iY l k c).length=l.length:=by simp [iY]
theorem UH (l:List (Int × Int)):(nz l).length<=l.length:=List.length_filter_le _ _
theorem yA (t:List (Int × Int)) (m c:Int):(cD t m c).length<=t.length+1:=by
 have h1:=UH (iY (cQ t m) (ur t m) c);have h2:=(pd t m).2;rw [lM] at h1;unfold cD;omega
theorem IP (l:List (Int × Int)) (k:Nat) (c c':Int) (h:c % 8=c' % 8):iY l k c=iY l k c':=by
 unfold iY;rw [Int.add_emod,h,<- Int.add_emod]
theorem IQ (t:List (Int × Int)) (m c c':Int) (h:c % 8=c' % 8):cD t m c=cD t m c':=by
 unfold cD;rw [IP _ _ c c' h]
theorem mu {t:List (Int × Int)} {m:Int} {k:Nat} (h:kw m 0 t=some k):cQ t m=t/\ur t m=k:=by
 unfold cQ ur;rw [h];exact ⟨rfl,rfl⟩
theorem mv {t:List (Int × Int)} {m:Int} (h:kw m 0 t=none):cQ t m=t.take (li m 0 t)++(m,0) :: t.drop (li m 0 t)/\ur t m=li m 0 t:=by
 unfold cQ ur;rw [h];exact ⟨rfl,rfl⟩
theorem vI (l:List (Int × Int)) (p:Int × Int):nz (l++[p])=nz l++(if (p.2 == 0)=true then [] else [p]):=by
 unfold nz;rw [List.filter_append];congr 1;by_cases h:p.2=0<;>simp [h]
theorem fd (n:Int):wrap64 n % 8=n % 8:=by unfold wrap64;omega
def mw (n:Nat):List (Int × Int):=(List.range n).map fun i=>((2:Int) ^ i,0)
theorem IR (k:Nat):mw (k+1)=mw k++[((2:Int) ^ k,0)]:=by simp [mw,List.range_succ]
theorem fx (k:Nat):(mw k).length=k:=by simp [mw]
def cg (n:Int):Po:=if ee n 1 4=true then ⟨n,0,[],mw n.toNat⟩ else Po.zero
def dg (o:List (Int × Int)) (a:Int):Int × Int:=o.getD a.toNat (0,0)
def dG (p:Po) (g:Gt):Po × Bool :=
 if (g.k == 1)=true then (⟨p.N,p.H,p.t,p.o.set g.a.toNat ((dg p.o g.a).1,wrap64 (1 - (dg p.o g.a).2))⟩,true)
 else if (g.k == 9)=true then (⟨p.N,p.H,p.t,p.o.set g.b.toNat (bits .xor .i64 (dg p.o g.a).1 (dg p.o g.b).1,bits .xor .i64 (dg p.o g.a).2 (dg p.o g.b).2)⟩,true)
 else if (g.k == 11)=true then (⟨p.N,p.H,p.t,(p.o.set g.a.toNat (dg p.o g.b)).set g.b.toNat (dg p.o g.a)⟩,true)
 else if (al g.k == 0)=true then (Po.zero,false)
 else if ((dg p.o g.a).2 == 0)=true then (⟨p.N,p.H,cD p.t (dg p.o g.a).1 (al g.k),p.o⟩,true)
 else (⟨p.N,(p.H+al g.k) % 8,cD p.t (dg p.o g.a).1 (- al g.k),p.o⟩,true)
def lN (p:Po) (g:Gt):Bool:=fJ g.k g.a g.b g.c p.N && decide ((p.o.length:Int)=p.N)
def aJ (p:Po) (g:Gt):Po × Bool:=if lN p g=true then dG p g else (Po.zero,false)
def cp:Po->List Gt->Po × Bool
 |p,[]=>(p,true)
 |p,g :: r=>if (aJ p g).2=true then cp (aJ p g).1 r else (Po.zero,false)
def cE (gs:List Gt) (n:Int):Po × Bool:=if ee n 1 4=true then cp (cg n) gs else (Po.zero,false)
theorem j6 {p:Po} {g:Gt} (h:lN p g=false):aJ p g=(Po.zero,false):=by unfold aJ;rw [h];rfl
theorem er {p:Po} {g:Gt} (h:lN p g=true):aJ p g=dG p g:=by unfold aJ;rw [h];rfl
theorem Bc {p:Prop} (h:p:=by
  clear hr
  go_wp2_with (go_at_call 79;(with_reducible refine (bt _ _).mono ?_);rintro e w' ⟨rfl,rfl⟩)
  go_ret2;exact FIN.out):p:=h
theorem vJ {p:Prop} (h:p:=by
  go_wp2_with fail;go_ret2;exact FIN.out):p:=h
theorem vK (g h:Gt) (w:World):Calls Tryz.prog 83 #[.agg #[g.k,g.a,g.b,g.c],.agg #[h.k,h.a,h.b,h.c]] w (mO (aU g h) (bK g h) w):=by
 have ST:=zH (yx w g h);have hM:Tryz.prog.eqGuardType Tryz.prog.depth 39=false:=zK;have none_:∀ wx:World,aU g h=[]/\bK g h=false->Below w w wx->mO (aU g h) (bK g h) w (.returned (.tuple #[.slice none 0 0,.bool false])) wx:=fun wx h1 h2=>by
  rw [h1.1,h1.2];exact ⟨_,_,rfl,World.ownsRow_nil _ _ _ _,h2⟩
 have some_:∀ wx:World,dZ g h=true->Below w w wx->mO (aU g h) (bK g h) w (.returned (.tuple #[.slice (some ⟨wx,0,none⟩) 0 0,.bool true])) (wx.alloc (.cells #[] 39)):=fun wx h1 h2=>by
  rw [(ml h1).1,(ml h1).2];exact ⟨_,_,rfl,World.ownsRow_lit wx #[] 0 h2.size zM rfl |> fun o=>ae o zR,h2.alloc h2.size _⟩
 have NO:=zH none_;have YES:=zH some_;clear none_ some_;have hbd:=ev g.k;by_cases h0:aA g.k=0
 ·have e0:(aA g.k == 0)=true:=by simpa using h0
  have FIN:=zH (NO _ (rD (Hv (h:=h) h0) (Q9 h0)) ST.out.2.2);clear h0 hbd;go_enter Tryz.func83,Tryz.ntmps83
  go_wp2_with (go_at_call 44;(with_reducible refine (bO _ _).mono ?_);rintro e w' ⟨rfl,rfl⟩)
  go_ret2;exact FIN.out
 have e0:(aA g.k == 0)=false:=by simpa using h0
 have hpos:0 < aA g.k:=zO;have HP:=zH (show dZ g h=(ud g h || m9 g h) by simp [dZ,hpos]);clear h0 hbd hpos;go_enter Tryz.func83,Tryz.ntmps83;go_upto_region 3 with (go_at_call 44;(with_reducible refine (bO _ _).mono ?_);rintro e w' ⟨rfl,rfl⟩)
 obtain ⟨w0,hw0⟩:∃ w0,w0=(w.alloc g).alloc h:=⟨_,rfl⟩;rw [<- hw0] at ST ⊢;clear hw0;obtain ⟨p0,p1,p2,p3,q0,q1,q2,q3⟩:=ST.cells
 go_cut [14] (fun v wx=>v=.bool (ud g h)/\MgSt w w.heap.size g h wx)
 case first =>
  have hE:∀ w,(Op.equalIn 10000 39 (.agg #[h.k,h.a,h.b,h.c]) (.agg #[.int .i64 (ji g.k),g.a,g.b,g.c])).run Tryz.prog w=.ok (ud g h) w:=fun w=>Q0 _ _ _ _ _ _ _ _ w
  have U0:=ST.drew
  go_region_with (first
    |(go_at_call 126;(with_reducible refine (mN _ _ _ _ _).mono ?_);rintro e w1 ⟨rfl,b1⟩;have U1:=U0.below b1;obtain ⟨u0,u1,u2,u3,v0,v1,v2,v3⟩:=U1.cells))
  all_goals go_wp2_with fail
  all_goals go_meet
  all_goals exact ⟨rfl,U1⟩
 case rest =>
  obtain ⟨rfl,T1⟩:=hcut;obtain ⟨wd,rfl⟩:∃ wd,wd=wc:=⟨_,rfl⟩;have XT:=zH T1;clear T1 ST p0 p1 p2 p3 q0 q1 q2 q3;obtain ⟨p0,p1,p2,p3,q0,q1,q2,q3⟩:=XT.cells;cases hi:ud g h
  ·have HI:=zH hi;clear hi;go_upto_region 5 with fail
   go_cut [58] (fun v wx=>v=.bool (m9 g h)/\wd=wx)
   case first =>
    go_wp2_with fail
    all_goals go_meet
    all_goals exact ⟨by unfold m9 xV;simp [*]<;>(intros;omega),rfl⟩
   case rest =>
    obtain ⟨rfl,rfl⟩:=hcut;have hg0:=ft g.k;have hh0:=ft h.k;cases hb:m9 g h
    ·have HB:=zH (show dZ g h=false by rw [HP.out,HI.out,hb];rfl);clear hb;cases hr:rC g h
     ·have FIN:=zH (NO wd (rD HB hr) XT.out.2.2);by_cases h1:0 < al g.k
      ·have d1:(al g.k != 0)=true:=zJ;by_cases h2:0 < al h.k
       ·have d2:(al h.k != 0)=true:=zJ;have e3:(g.a == h.a)=false:=by simpa [rC,h1,h2] using hr
        exact Bc
       ·have d2:(al h.k != 0)=false:=zJ;exact Bc
      ·have d1:(al g.k != 0)=false:=zJ;exact Bc
     ·have hr':0 < al g.k/\0 < al h.k/\g.a=h.a:=by simpa [rC,and_assoc] using hr
      obtain ⟨h1,h2,h3⟩:=hr';have d1:(al g.k != 0)=true:=zJ;have d2:(al h.k != 0)=true:=zJ;have e3:(g.a == h.a)=true:=by simpa using h3
      have HR:=zH hr;have hwr:IntKind.i64.wrap (al g.k+al h.k)=al g.k+al h.k:=by rw [IntKind.wrap_i64];omega
      have HS:Hid ((al g.k+al h.k) % 8=lE g h):=rfl;clear hr h3;go_upto_region 8 with (go_at_call 79;(with_reducible refine (bt _ _).mono ?_);rintro e w' ⟨rfl,rfl⟩)
      go_cut [6] (fun v wx=>PU w g h v wx)
      case first =>
       have U0:=XT.drew;have hs0:=XT.out.2.2.size
       go_region_held3 (fun w'=>w'.cell? ⟨w,0,none⟩=some (.int .i64 g.k)/\w'.cell? ⟨w,1,none⟩=some (.int .i64 g.a)/\w'.cell? ⟨w.heap.size+1,0,none⟩=some (.int .i64 h.k))
        (first | go_keep | exact ⟨U1.cells.1,U1.cells.2.1,U1.cells.2.2.2.2.1⟩)
        (first
         |(go_at_call 79;(with_reducible refine (bt _ _).mono ?_);rintro e w' ⟨rfl,rfl⟩)
         |(go_at_call 43;(with_reducible refine (m6 _ _).mono ?_);rintro e w' ⟨rfl,rfl⟩;rw [HS.out])
         |(go_at_call 81;(with_reducible refine (kR _ _ _).mono ?_);rintro e w1 ⟨A1,c1,rfl,o1,b1⟩;have U1:=U0.below b1))
       all_goals go_wp2_with fail
       all_goals go_meet
       all_goals exact ⟨A1,c1,rfl,ae o1 hs0,U1⟩
      case rest =>
       obtain ⟨A,c,rfl,own,T2⟩:=hcut;have hl:=fS (lE g h);have hlG:=jU (lE g h) g.a;obtain ⟨m,hm⟩:∃ m,(lu (lE g h)).length=m:=⟨_,rfl⟩;have HM:=zH hm;rw [hm] at hl own hlG;rw [HM.out];have HL:=zH hlG;have OWN:=zH own;have TT:=zH T2;clear hm own T2 hlG;by_cases hm1:m<=1
       ·have hlt:(m:Int)<=1:=zO;have FIN:=zH (show mO (aU g h) (bK g h) w (.returned (.tuple #[.slice A m c,.bool true])) wc from by
         obtain ⟨e1,e2⟩:=ue HB.out HR.out (by rw [HM.out];exact hm1);rw [e1,e2];refine ⟨A,c,?_,?_,TT.out.2.2⟩
         ·rw [HL.out]
         ·rw [HL.out];exact OWN.out)
        exact vJ
       ·have hlt:¬ (m:Int)<=1:=zO;have FIN:=zH (NO.out wc (uf HB.out (by rw [HM.out];exact hm1)) TT.out.2.2);exact vJ
    ·have FIN:=zH (YES.out wd (by rw [HP.out,hb];simp) XT.out.2.2);clear hb;exact vJ
  ·have FIN:=zH (YES.out wd (by rw [HP.out,hi];rfl) XT.out.2.2);clear hi;exact vJ
section
variable {α:Type} {cs:List α->List Value} {w w':World} {sz n:Nat} {A:Option Addr}
def RdSS (cs:List α->List Value) (w:World) (sz:Nat) (A:Option Addr) (n:Nat) (l:List (List α)):Prop :=
 l.length=n/\∃ vs:List Value,Rd w 1 A n vs/\∀ (j:Nat) (x:List α),l[j]? = some x->∃ B c,vs[j]? = some (Value.slice B x.length c)/\x.length<=c/\Rd w sz B x.length (cs x)
theorem RdSS.below {l:List (List α)} (h:RdSS cs w sz A n l) (hb:Below w w w'):RdSS cs w' sz A n l:=by
 obtain ⟨h1,vs,h2,h3⟩:=h;refine ⟨h1,vs,h2.below hb,fun j x hx=>?_⟩;obtain ⟨B,c,a1,a2,a3⟩:=h3 j x hx;exact ⟨B,c,a1,a2,a3.below hb⟩
theorem RdSS.alloc {l:List (List α)} (h:RdSS cs w sz A n l) (o:Obj):RdSS cs (w.alloc o) sz A n l:=h.below ((zW).alloc zR _)
theorem RdSS.drew {l:List (List α)} (h:RdSS cs w sz A n l):RdSS cs w.drew sz A n l:=h
theorem RdSS.at_ {l:List (List α)} (h:RdSS cs w sz A n l) {k:Nat} (hk:k < n):∃ (b off:Nat) (x:List α) (B:Option Addr) (c:Nat),A=some ⟨b,off,none⟩/\b < w.heap.size/\l.drop k=x :: l.drop (k+1) ∧
  w.cell? ⟨b,off+k,none⟩=some (Value.slice B x.length c)/\x.length<=c/\Rd w sz B x.length (cs x):=by
 obtain ⟨hl,vs,hr,hi⟩:=h;obtain ⟨b,off,e,hb,hc⟩:=hr.2 zO;have hd:=ax (l:=l) (k:=k) zO;obtain ⟨B,c,a1,a2,a3⟩:=hi k l[k] (List.getElem?_eq_getElem zO);exact ⟨b,off,l[k],B,c,e,hb,hd,hc _ _ a1,a2,a3⟩
def OwnSS (cs:List α->List Value) (w:World) (base:Nat) (eo ei sz:Nat) (v:Value) (l:List (List α)):Prop :=
 ∃ vs:List Value,w.ownsRow base eo 1 v l.length vs ∧
  (∀ (j:Nat) (x:List α),l[j]? = some x->∃ B c,vs[j]? = some (Value.slice B x.length c)/\w.ownsRow base ei sz (.slice B x.length c) x.length (cs x)) ∧
  (∀ (i j:Nat) (u u':Value),i ≠ j->vs[i]? = some u->vs[j]? = some u'->u.ownBlock=none\/u.ownBlock ≠ u'.ownBlock)
theorem OwnSS.rd {base eo ei c:Nat} {l:List (List α)} (h:OwnSS cs w base eo ei sz (.slice A n c) l) (hn:l.length=n):RdSS cs w sz A n l:=by
 obtain ⟨vs,h1,h2,h3⟩:=h;subst hn;refine ⟨rfl,vs,Rd.own h1,fun j x hx=>?_⟩;obtain ⟨B,c,a1,a2⟩:=h2 j x hx;exact ⟨B,c,a1,ao a2,Rd.own a2⟩
theorem OwnSS.below {base eo ei:Nat} {v:Value} {l:List (List α)} (h:OwnSS cs w base eo ei sz v l) (hb:Below w w w'):OwnSS cs w' base eo ei sz v l:=by
 obtain ⟨vs,h1,h2,h3⟩:=h;refine ⟨vs,ab h1 hb,fun j x hx=>?_,h3⟩;obtain ⟨B,c,a1,a2⟩:=h2 j x hx;exact ⟨B,c,a1,ab a2 hb⟩
theorem OwnSS.alloc {base eo ei:Nat} {v:Value} {l:List (List α)} (h:OwnSS cs w base eo ei sz v l) (o:Obj):OwnSS cs (w.alloc o) base eo ei sz v l:=h.below ((zW).alloc zR _)
theorem OwnSS.drew {base eo ei:Nat} {v:Value} {l:List (List α)} (h:OwnSS cs w base eo ei sz v l):OwnSS cs w.drew base eo ei sz v l:=h
theorem OwnSS.base_ {base base' eo ei:Nat} {v:Value} {l:List (List α)} (h:OwnSS cs w base eo ei sz v l) (hb:base'<=base):OwnSS cs w base' eo ei sz v l:=by
 obtain ⟨vs,h1,h2,h3⟩:=h;refine ⟨vs,ae h1 hb,fun j x hx=>?_,h3⟩;obtain ⟨B,c,a1,a2⟩:=h2 j x hx;exact ⟨B,c,a1,ae a2 hb⟩
theorem OwnSS.cap {base eo ei c:Nat} {l:List (List α)} (h:OwnSS cs w base eo ei sz (.slice A n c) l) (hn:l.length=n):n<=c:=by
 obtain ⟨vs,h1,_⟩:=h;subst hn;exact ao h1
theorem OwnSS.lit0 (w:World) {base:Nat} (hb:base<=w.heap.size) (eo ei sz:Nat) (cs:List α->List Value):OwnSS cs (w.alloc (.cells #[] eo)) base eo ei sz (.slice (some ⟨w,0,none⟩) 0 0) [] :=
 ⟨[],World.ownsRow_lit w #[] 0 hb zM rfl,fun j x hx=>by simp at hx,fun i j u u' _ hu=>by simp at hu⟩
theorem RJ {w:World} {base:Nat} {e:TypeId} {sz n:Nat} {v:Value} {xs:List Value} (h:w.ownsRow base e sz v n xs) {B:Nat} (hB:w.heap.size<=B):∀ k,v.ownBlock=some k->k < B:=fun k hk=>by have:=(h.lt k hk).2;omega
theorem OwnSS.app {base B eo ei:Nat} {v v'':Value} {l l':List (List α)} {vs':List Value} {w0 w1 w2:World} (hne:eo ≠ ei)
  (h:OwnSS cs w0 base eo ei sz v l) (hB:w0.heap.size<=B) (hb:base<=B) (h01:Below w0 w0 w1)
  (h2:∀ (j:Nat) (x:List α),l'[j]? = some x->∃ D c,vs'[j]? = some (Value.slice D x.length c)/\w1.ownsRow B ei sz (.slice D x.length c) x.length (cs x))
  (h3:∀ (i j:Nat) (u u':Value),i ≠ j->vs'[i]? = some u->vs'[j]? = some u'->u.ownBlock=none\/u.ownBlock ≠ u'.ownBlock)
  (hlen:vs'.length=l'.length)
  (hg:w1.grownBy w2 v.ownBlock)
  (ho:∀ vs,w1.ownsRow base eo 1 v l.length vs->w2.ownsRow base eo 1 v'' (l.length+l'.length) (vs++vs')):OwnSS cs w2 base eo ei sz v'' (l++l'):=by
 obtain ⟨vs,a1,a2,a3⟩:=h;have b1:=ab a1 h01;have hlv:vs.length=l.length:=by simpa using a1.1
 have key:∀ (j:Nat) (x:List α) (D:Option Addr) (c:Nat),vs[j]? = some (Value.slice D x.length c)->w0.ownsRow base ei sz (.slice D x.length c) x.length (cs x)->w2.ownsRow base ei sz (.slice D x.length c) x.length (cs x):=fun j x D c _ ho' =>
  (ab ho' h01).kept hg (by
   rcases (ab ho' h01).2 with ⟨e1,_⟩ | ⟨g,cap,cur,e1,_,hh,_⟩
   ·rw [e1];exact .inl rfl
   ·rcases b1.2 with ⟨e2,_⟩ | ⟨g',cap',cur',e2,_,hh',_⟩
    ·rw [e2,e1];exact .inr (by simp [Value.ownBlock])
    ·rw [e2,e1];refine .inr fun he=>?_
     have:g=g':=by simpa [Value.ownBlock] using he
     subst this;rw [hh] at hh';injection hh' with hh'
     injection hh' with _ ht
     exact hne ht.symm)
 have key':∀ (x:List α) (D:Option Addr) (c:Nat),w1.ownsRow B ei sz (.slice D x.length c) x.length (cs x)->w2.ownsRow base ei sz (.slice D x.length c) x.length (cs x):=fun x D c ho' =>
  ae (ho'.kept hg (by
   cases hv:(Value.slice D x.length c).ownBlock with
   |none=>exact .inl rfl
   |some k =>
    refine .inr fun he=>?_
    have a:=(ho'.lt k hv).1;have b:=(a1.lt k he.symm).2;omega)) hb
 refine ⟨vs++vs',by rw [List.length_append];exact ho vs b1,fun j x hx=>?_,fun i j u u' hij hu hu'=>?_⟩
 ·rcases Nat.lt_or_ge j l.length with hj | hj
  ·rw [List.getElem?_append_left hj] at hx;obtain ⟨D,c,c1,c2⟩:=a2 j x hx;exact ⟨D,c,by rw [List.getElem?_append_left zO];exact c1,key j x D c c1 c2⟩
  ·rw [List.getElem?_append_right hj] at hx;obtain ⟨D,c,c1,c2⟩:=h2 _ x hx;exact ⟨D,c,by rw [List.getElem?_append_right zO,hlv];exact c1,key' x D c c2⟩
 ·have old:∀ (i:Nat) (u:Value),i < l.length->vs[i]? = some u->∀ k,u.ownBlock=some k->k < B:=fun i u hi hu k hk=>by
   obtain ⟨D,c,c1,c2⟩:=a2 i l[i] (List.getElem?_eq_getElem hi);rw [hu] at c1;injection c1 with c1;subst c1
   exact RJ c2 hB k hk
  have new:∀ (i:Nat) (u:Value),vs'[i]? = some u->∀ k,u.ownBlock=some k->B<=k:=fun i u hu k hk=>by
   have hi:i < l'.length:=by
    have:=(List.getElem?_eq_some_iff.1 hu).1;omega
   obtain ⟨D,c,c1,c2⟩:=h2 i l'[i] (List.getElem?_eq_getElem hi);rw [hu] at c1;injection c1 with c1;subst c1
   exact (c2.lt k hk).1
  rcases Nat.lt_or_ge i l.length with hi | hi
  ·rw [List.getElem?_append_left zO] at hu;rcases Nat.lt_or_ge j l.length with hj | hj
   ·rw [List.getElem?_append_left zO] at hu';exact a3 i j u u' hij hu hu'
   ·rw [List.getElem?_append_right zO] at hu';cases h:u.ownBlock with
    |none=>exact .inl rfl
    |some k =>
     refine .inr fun he=>?_
     have a:=old i u hi hu k h;have b:=new _ u' hu' k he.symm;omega
  ·rw [List.getElem?_append_right zO] at hu;rcases Nat.lt_or_ge j l.length with hj | hj
   ·rw [List.getElem?_append_left zO] at hu';cases h:u.ownBlock with
    |none=>exact .inl rfl
    |some k =>
     refine .inr fun he=>?_
     have a:=new _ u hu k h;have b:=old j u' hj hu' k he.symm;omega
   ·rw [List.getElem?_append_right zO] at hu';exact h3 _ _ u u' zO hu hu'
theorem OwnSS.turn {base eo ei:Nat} {v:Value} {l:List (List α)} {k:Nat} {y:List α} (hne:eo ≠ ei) (h:OwnSS cs w base eo ei sz v l) {x:List α} (hk:l[k]? = some x) (hy:y.length=x.length)
  {D:Option Addr} {c:Nat} (hat:∀ vs,w.ownsRow base eo 1 v l.length vs->vs[k]? = some (Value.slice D x.length c))
  (hg:w.grownBy w' (Value.slice D x.length c).ownBlock) (ho:w'.ownsRow base ei sz (.slice D x.length c) x.length (cs y)):OwnSS cs w' base eo ei sz v (l.set k y):=by
 obtain ⟨vs,a1,a2,a3⟩:=h;have hkv:=hat vs a1;refine ⟨vs,?_,fun j z hz=>?_,a3⟩
 ·rw [List.length_set];refine a1.kept hg ?_;obtain ⟨D',c',e1,e2⟩:=a2 k x hk;rw [hkv] at e1;injection e1 with e1;rcases a1.2 with ⟨e3,_⟩ | ⟨g,cap,cur,e3,_,hh,_⟩
  ·rw [e3];exact .inl rfl
  ·rw [<- e1] at e2;rcases e2.2 with ⟨e4,_⟩ | ⟨g',cap',cur',e4,_,hh',_⟩
   ·rw [e3,e4];exact .inr (by simp [Value.ownBlock])
   ·rw [e3,e4];refine .inr fun he=>?_
    have:g=g':=by simpa [Value.ownBlock] using he
    subst this;rw [hh] at hh';injection hh' with hh'
    injection hh' with _ ht
    exact hne ht
 ·by_cases hjk:k=j
  ·subst hjk;rw [List.getElem?_set_self (by have:=(List.getElem?_eq_some_iff.1 hk).1;omega)] at hz;injection hz with hz;subst hz
   refine ⟨D,c,?_,?_⟩
   ·rw [hy];exact hkv
   ·rw [hy];exact ho
  ·rw [List.getElem?_set_ne hjk] at hz;obtain ⟨D',c',e1,e2⟩:=a2 j z hz;exact ⟨D',c',e1,e2.kept hg (a3 j k _ _ (fun e=>hjk e.symm) e1 hkv)⟩
theorem OwnSS.at_ {base eo ei k:Nat} {v:Value} {l:List (List α)} (hne:eo ≠ ei) (h:OwnSS cs w base eo ei sz v l) (hk:k < l.length):∃ (g cap:Nat) (x:List α) (D:Option Addr) (c:Nat),v=.slice (some ⟨g,0,none⟩) l.length cap/\l.drop k=x :: l.drop (k+1) ∧
  w.cell? ⟨g,k,none⟩=some (Value.slice D x.length c)/\w.frozen? ⟨g,k,none⟩=false/\w.ownsRow base ei sz (.slice D x.length c) x.length (cs x) ∧
  (∀ (w':World) (y:List α),y.length=x.length->w.grownBy w' (Value.slice D x.length c).ownBlock->w'.ownsRow base ei sz (.slice D x.length c) x.length (cs y)->OwnSS cs w' base eo ei sz v (l.set k y)):=by
 have h0:=h;obtain ⟨vs,a1,a2,a3⟩:=h;obtain ⟨D,c,e1,e2⟩:=a2 k l[k] (List.getElem?_eq_getElem hk);obtain ⟨g,cap,hv⟩:∃ g cap,v=.slice (some ⟨g,0,none⟩) l.length cap:=by
  rcases a1.2 with ⟨_,h0⟩ | ⟨g,cap,cur,hv,_⟩
  ·omega
  ·exact ⟨g,cap,hv⟩
 subst hv;refine ⟨g,cap,l[k],D,c,rfl,ax hk,(a1.cellAt k zO).trans e1,a1.frozenAt k,e2,fun w' y hy hg ho=>h0.turn hne (List.getElem?_eq_getElem hk) hy (fun vs' b1=>?_) hg ho⟩;rw [<- b1.cellAt k zO,a1.cellAt k zO,e1]
end
end Go.Proofs.YtmenmibfkojnoaaGreat
