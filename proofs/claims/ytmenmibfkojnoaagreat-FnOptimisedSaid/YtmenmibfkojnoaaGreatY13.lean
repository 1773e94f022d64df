/- Contracts of the laws' helpers on slices. -/
import Derived.Test.YtmenmibfkojnoaaGreatY05
set_option maxHeartbeats 16000000
set_option maxRecDepth 100000
namespace Go.Proofs.YtmenmibfkojnoaaGreat
open Go.RowKit
theorem gY:(Tryz.prog.info? 3).map (fun i=>(i.zero,i.size,i.bytes))=some (some (.int .i64 0),1,8):=zK
theorem RdG.first {w:World} {A:Option Addr} {n:Nat} {gs:List Gt} (h:RdG w A n gs) (hn:0 < n):∃ b off,A=some ⟨b,off,none⟩:=by
 obtain ⟨b,off,e,_⟩:=h.2.2 hn;exact ⟨b,off,e⟩
theorem RdG.cellsAt {w:World} {b off n k:Nat} {gs r:List Gt} {g:Gt} (h:RdG w (some ⟨b,off,none⟩) n gs) (hd:gs.drop k=g :: r) :
  b < w.heap.size/\w.cell? ⟨b,off+k * 4,none⟩=some (.int .i64 g.k)/\w.cell? ⟨b,off+k * 4+1,none⟩=some (.int .i64 g.a)/\w.cell? ⟨b,off+k * 4+2,none⟩=some (.int .i64 g.b)/\w.cell? ⟨b,off+k * 4+3,none⟩=some (.int .i64 g.c):=by
 have hk:k < n:=by
  rcases Nat.lt_or_ge k gs.length with h1 | h1
  ·have:=h.1;omega
  ·rw [List.drop_eq_nil_of_le h1] at hd;cases hd
 obtain ⟨b',off',g',e,hb,hd',c⟩:=h.at_ hk;injection e with e;injection e with e1 e2;subst e1 e2
 rw [hd] at hd';injection hd' with e3 _
 subst e3;exact ⟨hb,c⟩
theorem RdG.mid {w:World} {A:Option Addr} {n:Nat} {gs:List Gt} (h:RdG w A n gs) {lo hi cap:Nat} (h1:lo<=hi) (h2:hi<=n) (hc:n<=cap):RdG w (if cap=lo then A else A.map (·.add (lo * 4))) (hi - lo) ((gs.drop lo).take (hi - lo)) :=
 (h.cut (k:=lo) zO hc).pre zO
theorem PS (A:Option Addr) (n c lo hi:Nat) (h1:lo<=hi) (h2:hi<=c) (w:World) :
  (Instr.slice 24 (.slice A n c) (some (.int .i64 (lo:Int))) (some (.int .i64 (hi:Int))) none).run Tryz.prog w=.ok (.slice (if c=lo then A else A.map (·.add (lo * 4))) (hi - lo) (c - lo)) w:=by
 have hz:(sizeOf (Tryz.prog.elem 24)).run Tryz.prog w=.ok 4 w:=zK;rw [run_slice_lh w 24 A n c zK .i64 .i64 lo hi zO zO zO,hz];simp only [Result.andThen,sliced,Int.toNat_natCast]
theorem UB (A:Option Addr) (n c lo:Nat) (h1:lo<=n) (w:World) :
  (Instr.slice 24 (.slice A n c) (some (.int .i64 (lo:Int))) none none).run Tryz.prog w=.ok (.slice (if c=lo then A else A.map (·.add (lo * 4))) (n - lo) (c - lo)) w:=by
 have hz:(sizeOf (Tryz.prog.elem 24)).run Tryz.prog w=.ok 4 w:=zK;rw [run_slice_l w 24 A n c zK .i64 lo zO zO,hz];simp only [Result.andThen,sliced,Int.toNat_natCast]
theorem UC (A:Option Addr) (n c hi:Nat) (h2:hi<=c) (w:World) :
  (Instr.slice 24 (.slice A n c) none (some (.int .i64 (hi:Int))) none).run Tryz.prog w=.ok (.slice A hi c) w:=by
 have hz:(sizeOf (Tryz.prog.elem 24)).run Tryz.prog w=.ok 4 w:=zK;rw [run_slice_h w 24 A n c zK .i64 hi zO zO,hz];simp only [Result.andThen,sliced,Int.toNat_natCast];cases A<;>simp [Addr.add]
section
variable {P:Program} {w:World}
theorem Fi {ops:Array Oper} {o:Oper} {a:Act} {K:Act->World->Prop} {Q:Exit->Act->World->Prop} {E:Prop} (hgd:o.guard=none) (s x:Operand) (t:TypeId)
  (ho:o.op=.call { callee:=.builtin .append,args:=#[s,x],argTypes:=#[t,t] })
  {base e:Nat} {z:Value} {size bytes:Nat} (ht:P.underlying t=some (.slice e)) (hinfo:(P.info? e).map (fun i=>(i.zero,i.size,i.bytes))=some (some z,size,bytes))
  (hzs:z.cells.size=size) (hsz:0 < size) {A:Option Addr} {c:Nat} (hs:a.eval s=.slice A 0 c) (hown:w.ownsRow base e size (.slice A 0 c) 0 [])
  {A':Option Addr} {m c':Nat} {news:List Value} (hx:a.eval x=.slice A' m c') (hr:Rd w size A' m news) (h1:∀ u ∈ news,u.oneCell'=true)
  (hbytes:m * bytes<=140737488355328) (hby:0 < bytes) (hbase:base<=w.heap.size)
  (h:∀ A'' c'' w',w'.ownsRow base e size (.slice A'' m c'') m news->w.grownBy w' (Value.slice A 0 c).ownBlock->K (a.put o.dst (.slice A'' m c'')) w') :
  if Region.wanted o (yielded ops a.tmps)=true then Oper.wp P o a w K Q else E:=by
 have hw:Region.wanted o (yielded ops a.tmps)=true:=by simp [Region.wanted,hgd]
 rw [if_pos hw];refine Am s x t ho ht hinfo hzs hsz hs hown hx hr h1 (by simpa using hbytes) hby hbase ?_;intro A'' c'' w' h1 h2;rw [Nat.zero_add] at h1 ⊢;rw [List.nil_append] at h1;exact h A'' c'' w' h1 h2
theorem jv {ops:Array Oper} {rest:List Oper} {o:Oper} {a:Act} {Q:Exit->Act->World->Prop} (hgd:o.guard=none) (s x:Operand) (t:TypeId)
  (ho:o.op=.call { callee:=.builtin .append,args:=#[s,x],argTypes:=#[t,t] })
  {base e:Nat} {z:Value} {size bytes:Nat} (ht:P.underlying t=some (.slice e)) (hinfo:(P.info? e).map (fun i=>(i.zero,i.size,i.bytes))=some (some z,size,bytes))
  (hzs:z.cells.size=size) (hsz:0 < size) {A:Option Addr} {c:Nat} (hs:a.eval s=.slice A 0 c) (hown:w.ownsRow base e size (.slice A 0 c) 0 [])
  {A':Option Addr} {m c':Nat} {news:List Value} (hx:a.eval x=.slice A' m c') (hr:Rd w size A' m news) (h1:∀ u ∈ news,u.oneCell'=true)
  (hbytes:m * bytes<=140737488355328) (hby:0 < bytes) (hbase:base<=w.heap.size)
  (h:∀ A'' c'' w',w'.ownsRow base e size (.slice A'' m c'') m news->w.grownBy w' (Value.slice A 0 c).ownBlock->wpList P ops Q rest (a.put o.dst (.slice A'' m c'')) w'):wpList P ops Q (o :: rest) a w :=
 ah hgd s x t ho ht hinfo hzs hsz hs hown hx hr h1 (by simpa using hbytes) hby hbase fun A'' c'' w' h1 h2=>by
  rw [Nat.zero_add] at h1 ⊢;rw [List.nil_append] at h1;exact h A'' c'' w' h1 h2
end
def gA (gs:List Gt):Bool:=gs.all fun g=>bh g.k
def yi (k:Int):Int:=if k=7\/k=8 then 1000 else if 9<=k/\k<=12 then 10 else 1
def aR:List Gt->Int
 |[]=>0
 |g :: r=>yi g.k+aR r
theorem fL (k:Int):((k=7\/k=8)/\yi k=1000)\/((9<=k/\k<=12)/\yi k=10)\/((k ≠ 7/\k ≠ 8/\(k < 9\/12 < k))/\yi k=1):=by
 unfold yi;by_cases h:k=7\/k=8
 ·rw [if_pos h];exact .inl ⟨h,rfl⟩
 ·rw [if_neg h];by_cases h2:9<=k/\k<=12
  ·rw [if_pos h2];exact .inr (.inl ⟨h2,rfl⟩)
  ·rw [if_neg h2];exact .inr (.inr ⟨zO,rfl⟩)
theorem nR (l:List Gt):0<=aR l/\aR l<=1000 * l.length:=by
 induction l with
 |nil=>simp [aR]
 |cons g r ih=>simp only [aR,List.length_cons];rcases fL g.k with ⟨_,h⟩ | ⟨_,h⟩ | ⟨_,h⟩<;>omega
theorem Iw {l:List Gt} {k:Nat} (h:l.length<=k):aR (l.drop k)=0:=by rw [List.drop_eq_nil_of_le h];rfl
theorem Ix {p:Prop} (h:p:=by
  rintro e w' ⟨rfl,rfl⟩;rw [HA.out];go_wp2_with fail;go_ret;exact ⟨aw hv.symm,(zW).alloc zR _⟩):p:=h
theorem Iy {p:Prop} (h:p:=by
  rintro e w' ⟨rfl,rfl⟩;rw [HA.out];go_wp2_with fail;go_ret;exact ⟨aw rfl,(zW).alloc zR _⟩):p:=h
theorem AQ {p:Prop} (h:p:=by
  go_enter Tryz.func62,Tryz.ntmps62;go_wp2_with fail;refine (bX _ _).mono ?_;exact Iy):p:=h
theorem AR {p:Prop} (h:p:=by
  go_enter Tryz.func62,Tryz.ntmps62;go_wp2_with fail;refine (bX _ _).mono ?_;exact Ix):p:=h
theorem kq (k a b c:Int) (w:World) :
  Calls Tryz.prog 62 #[.agg #[k,a,b,c]] w fun e w'=>e=.returned (.bool (bh k))/\Below w w w':=by
 rcases bd k with ⟨h1,h2,ha⟩ | ⟨h1,h2,ha⟩ | ⟨h1,ha⟩ | ⟨h1,ha⟩
 ·have HA:=zH ha;clear ha;by_cases h7:k=7
  ·subst h7;exact AQ
  by_cases h8:k=8
  ·subst h8;exact AQ
  have e7:(k != 7)=true:=by simpa using h7
  have e8:(k != 8)=true:=by simpa using h8
  have e12:(k != 12)=true:=zJ;have hv:=zH (qA h1 zO h7 h8);clear h7 h8;exact AR
 ·have HA:=zH ha;clear ha;have e7:(k != 7)=true:=zJ;have e8:(k != 8)=true:=zJ;have e12:(k != 12)=true:=zJ;have hv:=zH (qA (k:=k) zO h2 zO zO);exact AR
 ·have HA:=zH ha;clear ha;subst h1;exact AQ
 ·have HA:=zH ha;clear ha;have hv:=zH (CN (k:=k) zO);exact AR
theorem AS {p:Prop} (h:p:=by
  go_enter Tryz.func66,Tryz.ntmps66;go_wp2_with fail;refine (bO _ _).mono ?_;exact Iy):p:=h
theorem AU {p:Prop} (h:p:=by
  go_enter Tryz.func66,Tryz.ntmps66;go_wp2_with fail;refine (bO _ _).mono ?_;exact Ix):p:=h
theorem kr (k a b c:Int) (w:World) :
  Calls Tryz.prog 66 #[.agg #[k,a,b,c]] w fun e w'=>e=.returned (.bool (bh k))/\Below w w w':=by
 rcases bd k with ⟨h1,h2,ha⟩ | ⟨h1,h2,ha⟩ | ⟨h1,ha⟩ | ⟨h1,ha⟩
 ·have HA:=zH ha;clear ha;by_cases h7:k=7
  ·subst h7;exact AS
  by_cases h8:k=8
  ·subst h8;exact AS
  have e7:(k != 7)=true:=by simpa using h7
  have e8:(k != 8)=true:=by simpa using h8
  have e12:(k != 12)=true:=zJ;have hv:=zH (qA h1 zO h7 h8);clear h7 h8;exact AU
 ·have HA:=zH ha;clear ha;have e7:(k != 7)=true:=zJ;have e8:(k != 8)=true:=zJ;have e12:(k != 12)=true:=zJ;have hv:=zH (qA (k:=k) zO h2 zO zO);exact AU
 ·have HA:=zH ha;clear ha;subst h1;exact AS
 ·have HA:=zH ha;clear ha;have hv:=zH (CN (k:=k) zO);exact AU
theorem Iz {p:Prop} (h:p:=by rw [<- HX.out,List.drop_eq_nil_of_le (by have:=H.out.1;omega)];rfl):p:=h
theorem tT (A:Option Addr) (n cap:Nat) (gs:List Gt) (w:World) (h:RdG w A n gs) (hn:n<=1099511627776) :
  Calls Tryz.prog 31 #[.slice A n cap] w fun e w'=>e=.returned (.bool (gA gs))/\Below w w w':=by
 have H:=zH h;clear h;go_enter Tryz.func31,Tryz.ntmps31;go_wp2;go_loopg [3] n (fun m i wr=>∃ (k:Nat),k+m=n/\i=.int .i64 k/\gA (gs.drop k)=gA gs/\Below w w wr)
 case atStart=>exact ⟨0,zO,rfl,zI,zW⟩
 case round =>
  obtain ⟨k,hk,rfl,hx,hb⟩:=hrel;have HX:=zH hx;clear hx;by_cases hlt:k < n
  ·obtain ⟨b,off,g,rfl,hB,hd,c0,c1,c2,c3⟩:=(H.below hb).at_ hlt;have HD:=zH hd;clear hd;cases hc:bh g.k
   ·have HC:=zH hc;clear hc;go_wp2_with fail;refine (kq _ _ _ _ _).mono ?_;rintro e w1 ⟨rfl,hb1⟩;rw [HC.out];go_wp2_with fail;go_ret;exact ⟨aw (by rw [<- HX.out,HD.out];simp [gA,HC.out]),hb.trans (hb1.mono hb.size)⟩
   ·have HC:=zH hc;clear hc;go_wp2_with fail;refine (kq _ _ _ _ _).mono ?_;rintro e w1 ⟨rfl,hb1⟩;rw [HC.out];go_wp2_with fail;go_roundg (gk - 1)
    case measure=>omega
    case rel=>exact ⟨k+1,zO,by go_num,by rw [<- HX.out,HD.out];simp [gA,HC.out],hb.trans (hb1.mono hb.size)⟩
  ·go_wp2_with fail;go_ret;exact ⟨aw Iz,hb⟩
theorem tU (A:Option Addr) (n cap:Nat) (gs:List Gt) (w:World) (h:RdG w A n gs) (hn:n<=1099511627776) :
  Calls Tryz.prog 36 #[.slice A n cap] w fun e w'=>e=.returned (.bool (gA gs))/\Below w w w':=by
 have H:=zH h;clear h;go_enter Tryz.func36,Tryz.ntmps36;go_wp2;go_loopg [7] n (fun m i wr=>∃ (k:Nat),k+m=n/\i=.int .i64 k/\gA (gs.drop k)=gA gs/\Below w w wr)
 case atStart=>exact ⟨0,zO,rfl,zI,zW⟩
 case round =>
  obtain ⟨k,hk,rfl,hx,hb⟩:=hrel;have HX:=zH hx;clear hx;by_cases hlt:k < n
  ·obtain ⟨b,off,g,rfl,hB,hd,c0,c1,c2,c3⟩:=(H.below hb).at_ hlt;have HD:=zH hd;clear hd;cases hc:bh g.k
   ·have HC:=zH hc;clear hc;go_wp2_with fail;refine (kr _ _ _ _ _).mono ?_;rintro e w1 ⟨rfl,hb1⟩;rw [HC.out];go_wp2_with fail;go_ret;exact ⟨aw (by rw [<- HX.out,HD.out];simp [gA,HC.out]),hb.trans ((aD hb1).mono hb.size)⟩
   ·have HC:=zH hc;clear hc;go_wp2_with fail;refine (kr _ _ _ _ _).mono ?_;rintro e w1 ⟨rfl,hb1⟩;rw [HC.out];go_wp2_with fail;go_roundg (gk - 1)
    case measure=>omega
    case rel=>exact ⟨k+1,zO,by go_num,by rw [<- HX.out,HD.out];simp [gA,HC.out],hb.trans ((aD hb1).mono hb.size)⟩
  ·go_wp2_with fail;go_ret;exact ⟨aw Iz,hb⟩
theorem IA {p:Prop} (h:p:=by
  go_wp2_with fail;go_roundg (gk - 1)
  case measure=>omega
  case rel =>
   have:=HX.out;rw [HD.out,aR,HC.out] at this;exact ⟨k+1,x+1000,zO,by go_num,by go_num,zO,zO,zO,hb⟩):p:=h
theorem IB {p:Prop} (h:p:=by
  go_wp2_with fail;go_ret;have:=HX.out;rw [Iw (by have:=H.out.1;omega)] at this;exact ⟨cR zO,hb⟩):p:=h
theorem kt (A:Option Addr) (n cap:Nat) (gs:List Gt) (w:World) (h:RdG w A n gs) (hn:n<=1099511627776) :
  Calls Tryz.prog 33 #[.slice A n cap] w fun e w'=>e=.returned (.int .i64 (aR gs))/\Below w w w':=by
 have H:=zH h;clear h;go_enter Tryz.func33,Tryz.ntmps33;go_wp2;go_loopg [3,4] n (fun m s i wr=>∃ (k:Nat) (x:Int),k+m=n/\i=.int .i64 k/\s=.int .i64 x/\0<=x/\x<=1000 * k/\x+aR (gs.drop k)=aR gs/\Below w w wr)
 case atStart=>exact ⟨0,0,zO,rfl,rfl,zO,zO,zI,zW⟩
 case round =>
  obtain ⟨k,x,hk,rfl,rfl,h0,h1,hx,hb⟩:=hrel;have HX:=zH hx;clear hx;by_cases hlt:k < n
  ·obtain ⟨b,off,g,rfl,hB,hd,c0,c1,c2,c3⟩:=(H.below hb).at_ hlt;have HD:=zH hd;clear hd;rcases fL g.k with ⟨hc,hv⟩ | ⟨hc,hv⟩ | ⟨hc,hv⟩
   ·have HC:=zH hv;clear hv;by_cases h7:(g.k == 7)=true
    ·clear hc;exact IA
    ·have h7':(g.k == 7)=false:=by simpa using h7
     have h8:(g.k == 8)=true:=by simp at h7 ⊢;omega
     clear hc h7;exact IA
   ·have HC:=zH hv;have h7:(g.k == 7)=false:=zJ;have h8:(g.k == 8)=false:=zJ;have ha:2<=aA g.k:=by rcases bd g.k with h | h | h | h<;>omega
    have hb3:=(ev g.k).2;clear hv hc;go_wp2_with fail;refine (bX _ _).mono ?_;rintro e w' ⟨rfl,rfl⟩;go_wp2_with fail;go_roundg (gk - 1)
    case measure=>omega
    case rel =>
     have:=HX.out;rw [HD.out,aR,HC.out] at this;exact ⟨k+1,x+10,zO,by go_num,by go_num,zO,zO,zO,hb⟩
   ·have HC:=zH hv;have h7:(g.k == 7)=false:=zJ;have h8:(g.k == 8)=false:=zJ;have ha:aA g.k<=1:=by rcases bd g.k with h | h | h | h<;>omega
    clear hv hc;go_wp2_with fail;refine (bX _ _).mono ?_;rintro e w' ⟨rfl,rfl⟩;go_wp2_with fail;go_roundg (gk - 1)
    case measure=>omega
    case rel =>
     have:=HX.out;rw [HD.out,aR,HC.out] at this;exact ⟨k+1,x+1,zO,by go_num,by go_num,zO,zO,zO,hb⟩
  ·exact IB
theorem IC {p:Prop} (h:p:=by
  go_wp2_with fail;go_roundg (gk - 1)
  case measure=>omega
  case rel =>
   have:=HX.out;rw [HD.out,aR,HC.out] at this;exact ⟨k+1,x+1000,zO,by go_num,by go_num,zO,zO,zO,hb.alloc hb.size _⟩):p:=h
theorem gK (A:Option Addr) (n cap:Nat) (gs:List Gt) (w:World) (h:RdG w A n gs) (hn:n<=1099511627776) :
  Calls Tryz.prog 21 #[.slice A n cap] w fun e w'=>e=.returned (.int .i64 (aR gs))/\Below w w w':=by
 have H:=zH h;clear h;go_enter Tryz.func21,Tryz.ntmps21;go_wp2;go_loopg [3,8] n (fun m s i wr=>∃ (k:Nat) (x:Int),k+m=n/\i=.int .i64 k/\s=.int .i64 x/\0<=x/\x<=1000 * k/\x+aR (gs.drop k)=aR gs/\Below w w wr)
 case atStart=>exact ⟨0,0,zO,rfl,rfl,zO,zO,zI,zW⟩
 case round =>
  obtain ⟨k,x,hk,rfl,rfl,h0,h1,hx,hb⟩:=hrel;have HX:=zH hx;clear hx;by_cases hlt:k < n
  ·obtain ⟨b,off,g,rfl,hB,hd,c0,c1,c2,c3⟩:=(H.below hb).at_ hlt;have HD:=zH hd;clear hd;rcases fL g.k with ⟨hc,hv⟩ | ⟨hc,hv⟩ | ⟨hc,hv⟩
   ·have HC:=zH hv;clear hv;by_cases h7:(g.k == 7)=true
    ·clear hc;exact IC
    ·have h7':(g.k == 7)=false:=by simpa using h7
     have h8:(g.k == 8)=true:=by simp at h7 ⊢;omega
     clear hc h7;exact IC
   ·have HC:=zH hv;have h7:(g.k == 7)=false:=zJ;have h8:(g.k == 8)=false:=zJ;have ha:2<=aA g.k:=by rcases bd g.k with h | h | h | h<;>omega
    have hb3:=(ev g.k).2;clear hv hc;go_wp2_with fail;refine (bO _ _).mono ?_;rintro e w' ⟨rfl,rfl⟩;go_wp2_with fail;go_roundg (gk - 1)
    case measure=>omega
    case rel =>
     have:=HX.out;rw [HD.out,aR,HC.out] at this;exact ⟨k+1,x+10,zO,by go_num,by go_num,zO,zO,zO,hb.alloc hb.size _⟩
   ·have HC:=zH hv;have h7:(g.k == 7)=false:=zJ;have h8:(g.k == 8)=false:=zJ;have ha:aA g.k<=1:=by rcases bd g.k with h | h | h | h<;>omega
    clear hv hc;go_wp2_with fail;refine (bO _ _).mono ?_;rintro e w' ⟨rfl,rfl⟩;go_wp2_with fail;go_roundg (gk - 1)
    case measure=>omega
    case rel =>
     have:=HX.out;rw [HD.out,aR,HC.out] at this;exact ⟨k+1,x+1,zO,by go_num,by go_num,zO,zO,zO,hb.alloc hb.size _⟩
  ·exact IB
set_option linter.unusedVariables false
def Ak (l:List Gt) (n:Int):Bool:=l.all fun g=>fJ g.k g.a g.b g.c n
def qG (l:List Gt) (n:Int):Bool:=ee n 1 4 && (decide (l.length<=60) && Ak l n)
theorem rQ (g:Gt) (l:List Gt) (n:Int):Ak (g :: l) n=(fJ g.k g.a g.b g.c n && Ak l n):=rfl
theorem ID {p:Prop} (h:p:=by unfold qG;rw [<- HA.out,HD.out,rQ,HV.out];simp):p:=h
theorem AV (A:Option Addr) (m cap:Nat) (q:Int) (gs:List Gt) (w:World) (h:RdG w A m gs) (hn:m<=1073741824) :
  Calls Tryz.prog 65 #[.agg #[q,.slice A m cap]] w fun e w'=>e=.returned (.bool (qG gs q))/\Below w w w':=by
 have H:=zH h;have HL:=zH h.1;clear h;go_enter Tryz.func65,Tryz.ntmps65;go_wp2_with fail;go_loopg [3] m (fun r i wr=>∃ k:Nat,k+r=m/\i=.int .i64 k/\Ak (gs.drop k) q=Ak gs q/\Bx wr w 45 #[q,.slice A m cap]/\Below w w wr)
 case atStart=>exact ⟨0,zO,rfl,rfl,Bx.new w _ _,(zW).alloc zR _⟩
 case round =>
  obtain ⟨k,hk,rfl,ha,hx,hb⟩:=hrel;have HX:=zH hx;have HA:=zH ha;have hs0:=hb.size;have hsl:w.heap.size < wr.heap.size:=hx.lt;clear hx ha;obtain ⟨p0,p1,_,_⟩:=HX.two;by_cases hlt:k < m
  ·obtain ⟨b,off,g,rfl,hB,hd,c0,c1,c2,c3⟩:=(H.below hb).at_ hlt;have HD:=zH hd;clear hd;have hi0:(0:Int)<=(k:Int):=zO;have hi1:(k:Int) < (m:Int):=zO;cases hv:fJ g.k g.a g.b g.c q
   ·have HV:=zH hv;clear hv;go_upto_region 4 with fail
    go_region_held3 (fun w'=>w'.cell? ⟨w,0,none⟩=some (.int .i64 q)/\w'.cell? ⟨w,1,none⟩=some (.slice (some ⟨b,off,none⟩) m cap)/\w'.cell? ⟨b,off+k * 4,none⟩=some (.int .i64 g.k)/\w'.cell? ⟨b,off+k * 4+1,none⟩=some (.int .i64 g.a)/\w'.cell? ⟨b,off+k * 4+2,none⟩=some (.int .i64 g.b)/\w'.cell? ⟨b,off+k * 4+3,none⟩=some (.int .i64 g.c))
     (first | with_reducible exact ⟨s0,s1,s2,s3,s4,s5⟩ | go_keep)
     (first
      |(go_at_call 25;refine (aY g.k g.a g.b g.c q _).mono ?_;rintro e w1 ⟨rfl,b1⟩;rw [HV.out];have s0:=(b1.cell (p:=⟨w,0,none⟩) hsl).trans p0;have s1:=(b1.cell (p:=⟨w,1,none⟩) hsl).trans p1;have s2:=(b1.cell (p:=⟨b,off+k * 4,none⟩) hB).trans c0;have s3:=(b1.cell (p:=⟨b,off+k * 4+1,none⟩) hB).trans c1;have s4:=(b1.cell (p:=⟨b,off+k * 4+2,none⟩) hB).trans c2;have s5:=(b1.cell (p:=⟨b,off+k * 4+3,none⟩) hB).trans c3)
      |fail)
    all_goals go_wp2_with fail
    all_goals go_ret
    all_goals exact ⟨aw ID,hb.trans ((aC b1).mono (by simpa using hs0))⟩
   ·have HV:=zH hv;clear hv;go_upto_region 4 with fail
    go_region_held3 (fun w'=>w'.cell? ⟨w,0,none⟩=some (.int .i64 q)/\w'.cell? ⟨w,1,none⟩=some (.slice (some ⟨b,off,none⟩) m cap)/\w'.cell? ⟨b,off+k * 4,none⟩=some (.int .i64 g.k)/\w'.cell? ⟨b,off+k * 4+1,none⟩=some (.int .i64 g.a)/\w'.cell? ⟨b,off+k * 4+2,none⟩=some (.int .i64 g.b)/\w'.cell? ⟨b,off+k * 4+3,none⟩=some (.int .i64 g.c))
     (first | with_reducible exact ⟨s0,s1,s2,s3,s4,s5⟩ | go_keep)
     (first
      |(go_at_call 25;refine (aY g.k g.a g.b g.c q _).mono ?_;rintro e w1 ⟨rfl,b1⟩;rw [HV.out];have s0:=(b1.cell (p:=⟨w,0,none⟩) hsl).trans p0;have s1:=(b1.cell (p:=⟨w,1,none⟩) hsl).trans p1;have s2:=(b1.cell (p:=⟨b,off+k * 4,none⟩) hB).trans c0;have s3:=(b1.cell (p:=⟨b,off+k * 4+1,none⟩) hB).trans c1;have s4:=(b1.cell (p:=⟨b,off+k * 4+2,none⟩) hB).trans c2;have s5:=(b1.cell (p:=⟨b,off+k * 4+3,none⟩) hB).trans c3)
      |fail)
    all_goals go_wp2_with fail
    all_goals go_roundg (gk - 1)
    all_goals first
     |omega
     |exact ⟨k+1,zO,by go_num,by rw [<- HA.out,HD.out,rQ,HV.out,Bool.true_and],(HX.drew.below b1),hb.trans ((aC b1).mono (by simpa using hs0))⟩
  ·obtain rfl:k=m:=zO;have hok:Ak gs q=true:=by rw [<- HA.out,List.drop_eq_nil_of_le (by rw [HL.out];exact zR)];rfl
   have HK:=zH hok;clear hok;cases hi:ee q 1 4
   ·have HI:=zH hi;clear hi;go_wp2_with fail;refine (el _ _ _ _).mono ?_;rintro e w1 ⟨rfl,rfl⟩;rw [HI.out];go_wp2_with fail;go_ret;exact ⟨aw (by unfold qG;rw [HI.out];rfl),hb⟩
   ·have HI:=zH hi;clear hi;go_wp2_with fail;refine (el _ _ _ _).mono ?_;rintro e w1 ⟨rfl,rfl⟩;rw [HI.out];go_wp2_with fail;go_ret;exact ⟨aw (by unfold qG;rw [HI.out,HK.out,HL.out];simp<;>omega),hb⟩
theorem AX (A:Option Addr) (m cap:Nat) (q:Int) (gs:List Gt) (w:World) (h:RdG w A m gs) (hn:m<=1073741824) :
  Calls Tryz.prog 69 #[.agg #[q,.slice A m cap]] w fun e w'=>e=.returned (.bool (qG gs q))/\Below w w w':=by
 have H:=zH h;have HL:=zH h.1;have X0:=zH (Bx.new w 45 #[q,.slice A m cap]);have B0:=zH (show Below w w (w.alloc (.cells #[q,.slice A m cap] 45)) from (zW).alloc zR _);clear h;cases hi:ee q 1 4
 ·have HI:=zH hi;clear hi;go_enter Tryz.func69,Tryz.ntmps69;go_wp2_with fail;refine (eK _ _ _ _).mono ?_;rintro e w1 ⟨rfl,rfl⟩;rw [HI.out];go_wp2_with fail;go_ret;exact ⟨aw (by unfold qG;rw [HI.out];rfl),B0.out⟩
 ·have HI:=zH hi;clear hi;by_cases hm:m<=60
  ·go_enter Tryz.func69,Tryz.ntmps69;go_wp2_with fail;refine (eK _ _ _ _).mono ?_;rintro e w1 ⟨rfl,rfl⟩;rw [HI.out];have hm':¬ ((60:Int) < (m:Int)):=zO;go_wp2_with fail;go_loopg [18] m (fun r i wr=>∃ k:Nat,k+r=m/\i=.int .i64 k/\Ak (gs.drop k) q=Ak gs q/\Bx wr w 45 #[q,.slice A m cap]/\Below w w wr)
   case atStart=>exact ⟨0,zO,rfl,rfl,X0.out,B0.out⟩
   case round =>
    clear X0 B0;obtain ⟨k,hk,rfl,ha,hx,hb⟩:=hrel;have HA:=zH ha;by_cases hlt:k < m
    ·obtain ⟨b,off,g,rfl,hB,hd,c0,c1,c2,c3⟩:=(H.below hb).at_ hlt;have HD:=zH hd;have HX:=zH (hx.alloc g);have HB:=zH (hb.alloc hb.size g);have p0:=HX.cell 0;clear hd hx ha;have hi0:(0:Int)<=(k:Int):=zO;have hi1:(k:Int) < (m:Int):=zO;go_wp2_with fail;refine (bZ g.k g.a g.b g.c q _).mono ?_;rintro e w1 ⟨rfl,b1⟩;cases hv:fJ g.k g.a g.b g.c q
     ·have HV:=zH hv;clear hv;go_wp2_with fail;go_ret;exact ⟨aw ID,aa HB.out b1⟩
     ·have HV:=zH hv;clear hv;go_wp2_with fail;go_roundg (gk - 1)
      all_goals first
       |omega
       |exact ⟨k+1,zO,by go_num,by rw [<- HA.out,HD.out,rQ,HV.out,Bool.true_and],HX.below b1,aa HB.out b1⟩
    ·obtain rfl:k=m:=zO;have hok:Ak gs q=true:=by rw [<- HA.out,List.drop_eq_nil_of_le (by rw [HL.out];exact zR)];rfl
     go_wp2_with fail;go_ret;exact ⟨aw (by unfold qG;rw [HI.out,hok,HL.out];simp;omega),hb⟩
  ·go_enter Tryz.func69,Tryz.ntmps69;go_wp2_with fail;refine (eK _ _ _ _).mono ?_;rintro e w1 ⟨rfl,rfl⟩;rw [HI.out];have hm':(60:Int) < (m:Int):=zO;go_wp2_with fail;go_ret;exact ⟨aw (by unfold qG;rw [HL.out];simp [hm]),B0.out⟩
end Go.Proofs.YtmenmibfkojnoaaGreat
namespace Go.Proofs.YtmenmibfkojnoaaGreat
open Go.RowKit
theorem aN {w:World} {b1 b2:Nat} {e1 e2:TypeId} {s1 s2 n1 n2:Nat} {v1 v2:Value} {x1 x2:List Value} (h1:w.ownsRow b1 e1 s1 v1 n1 x1) (h2:w.ownsRow b2 e2 s2 v2 n2 x2) (hne:e1 ≠ e2) :
  v1.ownBlock=none\/v1.ownBlock ≠ v2.ownBlock:=by
 rcases h1.2 with ⟨rfl,_⟩ | ⟨g,cap,cur,rfl,_,hh,_⟩
 ·exact .inl rfl
 ·rcases h2.2 with ⟨rfl,_⟩ | ⟨g',cap',cur',rfl,_,hh',_⟩
  ·exact .inr (by simp [Value.ownBlock])
  ·refine .inr fun he=>?_
   have:g=g':=by simpa [Value.ownBlock] using he
   subst this;rw [hh] at hh';injection hh' with hh'
   injection hh' with _ ht
   exact hne ht
def dF (g:Gt):List Gt->Nat->Option Nat
 |[],_=>none
 |h :: r,k=>if bK g h then some k else if jI g h then dF g r (k+1) else none
def bf:List Gt->Nat->Option (Nat × Nat)
 |[],_=>none
 |g :: r,i=>match dF g r (i+1) with | some k=>some (i,k) | none=>bf r (i+1)
def g0:Gt:=⟨0,0,0,0⟩
def jZ (l:List Gt) (i k:Nat):List Gt:=l.take i++((l.drop (i+1)).take (k - (i+1))++(aU (l.getD i g0) (l.getD k g0)++l.drop (k+1)))
def d9 (l:List Gt):List Gt:=match bf l 0 with | none=>l | some (i,k)=>jZ l i k
def eR (l:List Gt):Bool:=(bf l 0).isSome
theorem ul {g h:Gt} {r:List Gt} {k:Nat} (hm:bK g h=true):dF g (h :: r) k=some k:=by simp [dF,hm]
theorem yj {g h:Gt} {r:List Gt} {k:Nat} (hm:bK g h=false) (hc:jI g h=true):dF g (h :: r) k=dF g r (k+1):=by simp [dF,hm,hc]
theorem yk {g h:Gt} {r:List Gt} {k:Nat} (hm:bK g h=false) (hc:jI g h=false):dF g (h :: r) k=none:=by simp [dF,hm,hc]
theorem iH {l r:List Gt} {i:Nat} {g:Gt} (h:l.drop i=g :: r):l.getD i g0=g:=by
 have hl:i < l.length:=by
  rcases Nat.lt_or_ge i l.length with h1 | h1
  ·exact h1
  ·rw [List.drop_eq_nil_of_le h1] at h;cases h
 rw [ax hl] at h;injection h with h1 _;rw [List.getD_eq_getElem?_getD,List.getElem?_eq_getElem hl,h1];rfl
theorem iA (g h:Gt):(aU g h).length<=1:=by
 unfold aU;split
 ·simp
 ·split
  ·rename_i h1;rw [jU];simp [oY] at h1;omega
  ·simp
theorem M9 {l:List Gt} {i k:Nat} (h1:i < k) (h2:k < l.length):(jZ l i k).length+1<=l.length:=by
 have:=iA (l.getD i g0) (l.getD k g0);simp only [jZ,List.length_append,List.length_take,List.length_drop];omega
theorem lK {g:Gt}:∀ {r:List Gt} {j k:Nat},dF g r j=some k->j<=k/\k < j+r.length
 |[],j,k,h=>by simp [dF] at h
 |a :: r,j,k,h=>by
  simp only [dF] at h;split at h
  ·injection h with h;subst h;simp
  ·split at h
   ·have:=lK h;simp;omega
   ·cases h
theorem lL:∀ {r:List Gt} {j i k:Nat},bf r j=some (i,k)->j<=i/\i < k/\k < j+r.length
 |[],j,i,k,h=>by simp [bf] at h
 |a :: r,j,i,k,h=>by
  simp only [bf] at h;split at h
  ·rename_i k' hk;injection h with h;injection h with h1 h2;subst h1 h2
   have:=lK hk;simp;omega
  ·have:=lL h;simp;omega
theorem rR {l:List Gt} (h:eR l=true):(d9 l).length+1<=l.length:=by
 unfold eR at h;unfold d9;split
 ·rename_i hn;rw [hn] at h;cases h
 ·rename_i i k hk;have:=lL hk;exact M9 this.2.1 zO
end Go.Proofs.YtmenmibfkojnoaaGreat
