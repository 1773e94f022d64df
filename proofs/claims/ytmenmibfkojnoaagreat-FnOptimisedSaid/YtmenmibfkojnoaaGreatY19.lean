/- Contracts of IsValidTableau (spec), for . -/
import Derived.Test.YtmenmibfkojnoaaGreatY10
import Derived.Test.YtmenmibfkojnoaaGreatY18
import Derived.Deep.AppendLies
set_option maxHeartbeats 16000000
set_option maxRecDepth 100000
namespace Go.Proofs.YtmenmibfkojnoaaGreat
open Go.RowKit
set_option linter.unusedVariables false
theorem io {n k:Nat} {r:List Pq} {a:Pq} (h:ed n r) (ha:r[k]? = some a):ci n a=true/\kW a=true:=h.2.1 a (List.mem_of_getElem? ha)
theorem IW {p:Prop} (h:p:=by
  clear CQ hkj;go_wp2_with fail
  go_region_held3 (fun w'=>(w'.cell? ⟨w,0,none⟩=some (.int .i64 ((n:Nat):Int))/\w'.cell? ⟨w,1,none⟩=some (.slice (some ⟨b,off,none⟩) m c))/\((w'.cell? ⟨b,off+j * 4,none⟩=some (.int .i64 ((n:Nat):Int))/\w'.cell? ⟨b,off+j * 4+1,none⟩=some (.int .i64 ((d.x:Nat):Int))/\w'.cell? ⟨b,off+j * 4+2,none⟩=some (.int .i64 ((d.z:Nat):Int))/\w'.cell? ⟨b,off+j * 4+3,none⟩=some (.int .i64 ((d.p:Nat):Int)))/\(w'.cell? ⟨b,off+k * 4,none⟩=some (.int .i64 ((n:Nat):Int))/\w'.cell? ⟨b,off+k * 4+1,none⟩=some (.int .i64 ((a.x:Nat):Int))/\w'.cell? ⟨b,off+k * 4+2,none⟩=some (.int .i64 ((a.z:Nat):Int))/\w'.cell? ⟨b,off+k * 4+3,none⟩=some (.int .i64 ((a.p:Nat):Int)))))
   (first | exact ⟨⟨t0,t1⟩,⟨d0,d1,d2,d3⟩,c0,c1,c2,c3⟩ | exact ⟨T4.cells,(T4.row HD.out).2,(T4.row HA.out).2⟩ | go_keep)
   (first
    |(go_at_call 183;refine (Hr n d a _ hn OD.out OK.out).mono ?_;rintro e w4 ⟨rfl,b4⟩;rw [CQ2.out];have T4:=BD.below b4)
    |fail)
  go_wp2_with fail;go_roundg (gk - 1)
  all_goals first
   |omega
   |exact ⟨j+1,zO,by go_num,T4⟩):p:=h
theorem my (n m c:Nat) (A:Option Addr) (r:List Pq) (w:World) (hn:1<=n/\n<=4) (hr:RdG w A m (dP n r)) (hok:ed n r):Calls Tryz.prog 149 #[.agg #[n,.slice A m c]] w fun e w'=>e=.returned (.bool true)/\Below w w w':=by
 have hm:m=2 * n:=by rw [<- hr.1,ep,hok.1]
 obtain ⟨b,off,rfl⟩:=hr.first zO;have hmi:(m:Int)=2 * (n:Int):=zO;have T0:=zH (show TBx w w.heap.size n (some ⟨b,off,none⟩) m c r (w.alloc (.cells #[n,.slice (some ⟨b,off,none⟩) m c] 73)) from ⟨Bx.new _ _ _,hr.alloc _,(zW).alloc zR _,zR⟩);have HR:=zH hok;have HL:=zH (show r.length=m by rw [hok.1,hm]);have HI:=zH (show ee (n:Int) 1 4=true from bG zO zO);have HM:=zH hm;have hm8:m<=8:=zO;clear hr hok hm;obtain ⟨t0,t1⟩:=T0.cells;go_enter Tryz.func149,Tryz.ntmps149;go_wp2_with fail;refine (el _ _ _ _).mono ?_;rintro e w1 ⟨rfl,rfl⟩;rw [HI.out];go_wp2_with fail;go_loopg [3] m (fun q i wr=>∃ k:Nat,k+q=m/\i=.int .i64 k/\TBx w w.heap.size n (some ⟨b,off,none⟩) m c r wr)
 case atStart=>exact ⟨0,zO,rfl,T0.out⟩
 case round =>
  clear T0 t0 t1;obtain ⟨k,hk,rfl,hT⟩:=hrel;have T1:=zH hT;clear hT;obtain ⟨t0,t1⟩:=T1.cells;by_cases hlt:k < m
  ·obtain ⟨a,ha⟩:=aV (l:=r) (k:=k) (by rw [HL.out];exact hlt);have HA:=zH ha;obtain ⟨hb,c0,c1,c2,c3⟩:=T1.row ha;obtain ⟨ok1,ok2⟩:=io HR.out ha;have OK:=zH ok1;have OH:=zH ok2;clear ha ok1 ok2;go_wp2_with fail;have TD:=T1.drew
   go_region_held3 (fun w'=>(w'.cell? ⟨w,0,none⟩=some (.int .i64 ((n:Nat):Int))/\w'.cell? ⟨w,1,none⟩=some (.slice (some ⟨b,off,none⟩) m c))/\(w'.cell? ⟨b,off+k * 4,none⟩=some (.int .i64 ((n:Nat):Int))/\w'.cell? ⟨b,off+k * 4+1,none⟩=some (.int .i64 ((a.x:Nat):Int))/\w'.cell? ⟨b,off+k * 4+2,none⟩=some (.int .i64 ((a.z:Nat):Int))/\w'.cell? ⟨b,off+k * 4+3,none⟩=some (.int .i64 ((a.p:Nat):Int))))
    (first | exact ⟨⟨t0,t1⟩,c0,c1,c2,c3⟩ | exact ⟨T2.cells,(T2.row HA.out).2⟩ | go_keep)
    (first
     |(go_at_call 182;refine (Ht n a _ hn OK.out).mono ?_;rintro e w2 ⟨rfl,b2⟩;rw [OH.out];have T2:=TD.below b2)
     |fail)
   clear t0 t1 c0 c1 c2 c3 hb;go_wp2_with fail;obtain ⟨gm,rfl⟩:∃ x,x=gk:=⟨_,rfl⟩;go_loopg [4] k (fun q i wr=>∃ j:Nat,j+q=k/\i=.int .i64 j/\TBx w w.heap.size n (some ⟨b,off,none⟩) m c r wr)
   case atStart=>exact ⟨0,zO,rfl,T2⟩
   case round =>
    clear T2 TD;obtain ⟨j,hj,rfl,hT⟩:=hrel;have T3:=zH hT;clear hT;obtain ⟨t0,t1⟩:=T3.cells;by_cases hlt2:j < k
    ·obtain ⟨d,hd⟩:=aV (l:=r) (k:=j) (by rw [HL.out];omega);have HD:=zH hd;obtain ⟨hb,d0,d1,d2,d3⟩:=T3.row hd;obtain ⟨_,c0,c1,c2,c3⟩:=T3.row HA.out;have OD:=zH (io HR.out hd).1;have CQ:=zH (HR.out.2.2 j k d a hlt2 hd HA);clear hd;have BD:=T3.drew;have jm:(j:Int) < 2 * (n:Int):=zO;have km:(k:Int) < 2 * (n:Int):=zO;have jm':(j:Int) < (m:Int):=zO;have jn:IntKind.i64.wrap ((j:Int)+(n:Int))=(j:Int)+(n:Int):=E8 zO zO;by_cases hkj:k=j+n
     ·have CQ2:=zH (show il d a=false by rw [CQ.out];simp [hkj]);have hke:((k:Int) == (j:Int)+(n:Int))=true:=zJ;exact IW
     ·have CQ2:=zH (show il d a=true by rw [CQ.out];simp [hkj]);have hke:((k:Int) == (j:Int)+(n:Int))=false:=zJ;exact IW
    ·obtain rfl:j=k:=zO;go_wp2_with fail;go_roundg (gm - 1)
     all_goals first
      |omega
      |exact ⟨j+1,zO,by go_num,T3.out⟩
  ·obtain rfl:k=m:=zO;go_wp2_with fail;go_ret;exact ⟨rfl,T1.out.2.2.1⟩
theorem IY {p:Prop} (h:p:=by
  clear CQ hkj;go_wp2_with fail
  go_region_held3 (fun w'=>(w'.cell? ⟨w,0,none⟩=some (.int .i64 ((n:Nat):Int))/\w'.cell? ⟨w,1,none⟩=some (.slice (some ⟨b,off,none⟩) m c))/\((w'.cell? ⟨P,0,none⟩=some (.int .i64 ((n:Nat):Int))/\w'.cell? ⟨P,1,none⟩=some (.int .i64 ((a.x:Nat):Int))/\w'.cell? ⟨P,2,none⟩=some (.int .i64 ((a.z:Nat):Int))/\w'.cell? ⟨P,3,none⟩=some (.int .i64 ((a.p:Nat):Int)))/\(w'.cell? ⟨wr,0,none⟩=some (.int .i64 ((n:Nat):Int))/\w'.cell? ⟨wr,1,none⟩=some (.int .i64 ((d.x:Nat):Int))/\w'.cell? ⟨wr,2,none⟩=some (.int .i64 ((d.z:Nat):Int))/\w'.cell? ⟨wr,3,none⟩=some (.int .i64 ((d.p:Nat):Int)))))
   (first | exact ⟨⟨t0,t1⟩,⟨p0,p1,p2,p3⟩,x0,x1,x2,x3⟩ | exact ⟨T4.cells,(P3.drew.below b4).four4,(X3.drew.below b4).four4⟩ | go_keep)
   (first
    |(go_at_call 192;refine (Hs n d a _ hn OD.out OK.out).mono ?_;rintro e w4 ⟨rfl,b4⟩;rw [CQ2.out];have T4:=BD.below b4)
    |fail)
  go_wp2_with fail;go_roundg (gk - 1)
  all_goals first
   |omega
   |exact ⟨j+1,zO,by go_num,T4,P3.drew.below b4⟩):p:=h
theorem nU (n m c:Nat) (A:Option Addr) (r:List Pq) (w:World) (hn:1<=n/\n<=4) (hr:RdG w A m (dP n r)) (hc:m<=c) (hok:ed n r):Calls Tryz.prog 155 #[.agg #[n,.slice A m c]] w fun e w'=>e=.returned (.bool true)/\Below w w w':=by
 have hm:m=2 * n:=by rw [<- hr.1,ep,hok.1]
 obtain ⟨b,off,rfl⟩:=hr.first zO;have hmi:(m:Int)=2 * (n:Int):=zO;have T0:=zH (show TBx w w.heap.size n (some ⟨b,off,none⟩) m c r (w.alloc (.cells #[n,.slice (some ⟨b,off,none⟩) m c] 73)) from ⟨Bx.new _ _ _,hr.alloc _,(zW).alloc zR _,zR⟩);have HR:=zH hok;have HL:=zH (show r.length=m by rw [hok.1,hm]);have HI:=zH (show ee (n:Int) 1 4=true from bG zO zO);have HM:=zH hm;have hm8:m<=8:=zO;clear hr hok hm;obtain ⟨t0,t1⟩:=T0.cells;go_enter Tryz.func155,Tryz.ntmps155;go_wp2_with fail;refine (eK _ _ _ _).mono ?_;rintro e w1 ⟨rfl,rfl⟩;rw [HI.out];go_wp2_with fail;go_loopg [23] m (fun q i wr=>∃ k:Nat,k+q=m/\i=.int .i64 k/\TBx w w.heap.size n (some ⟨b,off,none⟩) m c r wr)
 case atStart=>exact ⟨0,zO,rfl,T0.out⟩
 case round =>
  clear T0 t0 t1;obtain ⟨k,hk,rfl,hT⟩:=hrel;by_cases hlt:k < m
  ·obtain ⟨a,ha⟩:=aV (l:=r) (k:=k) (by rw [HL.out];exact hlt);have HA:=zH ha;obtain ⟨hb,c0,c1,c2,c3⟩:=hT.row ha;obtain ⟨ok1,ok2⟩:=io HR.out ha;have OK:=zH ok1;have OH:=zH ok2;clear ha ok1 ok2;have T1:=zH (hT.alloc (.cells #[n,a.x,a.z,a.p] 151));have P1:=zH (Bx.new wr 151 #[n,a.x,a.z,a.p]);obtain ⟨t0,t1⟩:=T1.cells;clear hT;have km:(k:Int) < 2 * (n:Int):=zO;have km':(k:Int) < (m:Int):=zO;go_wp2_with fail;refine (Hu n a _ hn OK).mono ?_;rintro e w2 ⟨rfl,b2⟩;rw [OH.out];have T2:=zH (T1.below b2);have P2:=zH (P1.below b2);clear T1 P1 t0 t1 b2 c0 c1 c2 c3 hb;obtain ⟨t0,t1⟩:=T2.cells;have hsl:=UG (some ⟨b,off,none⟩) m c k zO;go_wp2_with fail;obtain ⟨gm,rfl⟩:∃ x,x=gk:=⟨_,rfl⟩;obtain ⟨P,hP⟩:∃ P,P=wr.heap.size:=⟨_,rfl⟩;rw [<- hP] at P2 ⊢;clear hP
   go_loopg [43] k (fun q i wr=>∃ j:Nat,j+q=k/\i=.int .i64 j/\TBx w w.heap.size n (some ⟨b,off,none⟩) m c r wr/\Bx wr P 151 #[n,a.x,a.z,a.p])
   case atStart=>exact ⟨0,zO,rfl,T2.out,P2.out⟩
   case round =>
    clear T2 P2 t0 t1;obtain ⟨j,hj,rfl,hT,hP⟩:=hrel;by_cases hlt2:j < k
    ·obtain ⟨d,hd⟩:=aV (l:=r) (k:=j) (by rw [HL.out];omega);have HD:=zH hd;obtain ⟨hb,d0,d1,d2,d3⟩:=hT.row hd;have OD:=zH (io HR.out hd).1;have CQ:=zH (HR.out.2.2 j k d a hlt2 hd HA);clear hd;have T3:=zH (hT.alloc (.cells #[n,d.x,d.z,d.p] 151));have P3:=zH (hP.alloc (.cells #[n,d.x,d.z,d.p] 151));have X3:=zH (Bx.new wr 151 #[n,d.x,d.z,d.p]);clear hT hP;have jm:(j:Int) < 2 * (n:Int):=zO;have jm':(j:Int) < (m:Int):=zO;have jn:IntKind.i64.wrap ((j:Int)+(n:Int))=(j:Int)+(n:Int):=E8 zO zO;have BD:=T3.drew;obtain ⟨t0,t1⟩:=T3.cells;obtain ⟨p0,p1,p2,p3,_⟩:=P3.four;obtain ⟨x0,x1,x2,x3,_⟩:=X3.four;by_cases hkj:k=j+n
     ·have CQ2:=zH (show il d a=false by rw [CQ.out];simp [hkj]);have hke:((k:Int) == (j:Int)+(n:Int))=true:=zJ;exact IY
     ·have CQ2:=zH (show il d a=true by rw [CQ.out];simp [hkj]);have hke:((k:Int) == (j:Int)+(n:Int))=false:=zJ;exact IY
    ·obtain rfl:j=k:=zO;go_wp2_with fail;go_roundg (gm - 1)
     all_goals first
      |omega
      |exact ⟨j+1,zO,by go_num,hT⟩
  ·obtain rfl:k=m:=zO;go_wp2_with fail;go_ret;exact ⟨rfl,hT.2.2.1⟩
theorem r9 {g:Gt}:∀ (vs:List Dw) (i:Nat) (o o':List Dw),nE g i vs o=some o'->o'.length=o.length
 |[],i,o,o',h=>by rw [nE] at h;injection h with h;rw [h]
 |x :: r,i,o,o',h=>by
  rw [nE] at h;by_cases hz:x=Dw.zero
  ·rw [if_pos hz] at h;exact r9 r _ _ _ h
  ·rw [if_neg hz] at h;cases hp:fR x (bU g i) o with
   |none=>rw [hp] at h;cases h
   |some o2 =>
    rw [hp] at h;rw [r9 r _ _ _ h];exact putAll_len _ _ _ hp
where
 putAll_len {x:Dw}:∀ (l:List (Nat × Dw)) (o o':List Dw),fR x l o=some o'->o'.length=o.length
 |[],o,o',h=>by rw [fR] at h;injection h with h;rw [h]
 |t :: r,o,o',h=>by
  rw [fR] at h;cases hp:vf x o t with
  |none=>rw [hp] at h;cases h
  |some o2 =>
   rw [hp] at h;rw [putAll_len r _ _ h,Ia hp]
theorem IZ {g:Gt} {vs o:List Dw} (h:tP g vs=some o):o.length=vs.length:=by
 unfold tP at h;split at h
 ·rw [r9 _ _ _ _ h,List.length_replicate]
 ·cases h
theorem fN (A:Option Addr) (n cap:Nat) (gs:List Gt) (B:Option Addr) (m c q:Nat) (vs out:List Dw) (w:World) (hg:RdG w A n gs) (hng:n<=1048576) (h:RdD w B m vs) (h1:1<=q) (h4:q<=4) (hm:m=2 ^ q) (ho:t7 gs vs=some out):Calls Tryz.prog 52 #[.slice A n cap,.slice B m c] w (Ie m out w):=by
 have hp:(∀ x ∈ vs,lm x=true)/\nF gs vs=some out:=by
  unfold t7 at ho;split at ho
  ·rename_i h1;simp only [Bool.and_eq_true,PF,List.all_eq_true] at h1;exact ⟨h1.1,ho⟩
  ·cases ho
 have h16:m<=16/\2<=m:=by rw [hm];exact ng h1 h4
 have G:=zH hg;have H:=zH h;have HM:=zH hm;have HV:=zH hp.1;have HO:=zH hp.2;clear hg h hm hp ho;go_enter Tryz.func52,Tryz.ntmps52;go_wp2_with fail;refine (jW _ m _ q vs _ H h1 h4 HM HV).mono ?_;rintro e w1 ⟨rfl,b1⟩;have H1:=zH (H.below b1);go_wp2_with fail;refine (My _ _ _ vs _ H1 zO).mono ?_;rintro e w2 ⟨A2,c2,rfl,o2,b2⟩;have B2:=zH (aa b1 b2);have O2:=zH (ae o2 b1.size);clear b1 b2 o2 H1;go_wp2_with fail;go_loopg [7,6] n (fun r i s wr=>∃ (k:Nat) (cu:List Dw) (C:Option Addr) (cc:Nat),k+r=n/\i=.int .i64 k/\s=.slice C m cc/\cu.length=m/\nF (gs.drop k) cu=some out/\wr.ownsRow w 110 5 (.slice C m cc) m (bL cu)/\Below w w wr)
 case atStart=>exact ⟨0,vs,A2,c2,zO,rfl,rfl,H.out.1,HO.out,O2.out,B2.out⟩
 case round =>
  obtain ⟨k,cu,C,cc,hk,rfl,rfl,hcu,hap,hown,hb⟩:=hrel;have HCU:=zH hcu;have HAP:=zH hap;have HOW:=zH hown;clear hcu hap hown O2 HO;by_cases hlt:k < n
  ·obtain ⟨b,off,g,rfl,hB,hd,c0,c1,c2',c3⟩:=(G.below hb).at_ hlt;have e:=HAP.out;rw [hd,nF] at e;obtain ⟨o,ho1,ho2⟩:∃ o,tP g cu=some o/\nF (gs.drop (k+1)) o=some out:=by
    cases hq:tP g cu with
    |none=>rw [hq] at e;cases e
    |some o=>rw [hq] at e;exact ⟨o,rfl,e⟩
   have HO1:=zH ho1;have HO2:=zH ho2;clear e hd ho1 ho2 HAP;have hi0:(0:Int)<=(k:Int):=zO;have hi1:(k:Int) < (n:Int):=zO;go_wp2_with fail;refine (Ig g _ m _ q cu o _ (RdD.own HOW) h1 h4 HM HO1).mono ?_;rintro e w3 ⟨A3,c3',rfl,o3,b3⟩;have B3:=zH (hb.trans (b3.mono hb.size));have O3:=zH (ae o3 hb.size);clear c0 c1 c2' c3 o3 b3 hb HOW;go_wp2_with fail;go_roundg (gk - 1)
   case measure=>omega
   case rel=>exact ⟨k+1,o,A3,c3',zO,by go_num,rfl,by rw [IZ HO1.out];exact HCU.out,HO2.out,O3.out,B3.out⟩
  ·have e:=HAP.out;rw [List.drop_eq_nil_of_le (by have:=G.out.1;omega),nF] at e;injection e with e;subst e
   go_wp2_with fail;exact bodyPost_ret (v:=.tuple #[.slice C m cc,.bool true]) (by simp [results,Tryz.results52,go_sem]) rfl ⟨_,_,rfl,HOW.out,hb⟩
end Go.Proofs.YtmenmibfkojnoaaGreat
namespace Go.Proofs.YtmenmibfkojnoaaGreat
open Go.RowKit
set_option linter.unusedVariables false
theorem pU:(Tryz.prog.info? 64).map (fun i=>(i.zero,i.size,i.bytes))=some (some (.slice none 0 0),1,24):=zK
theorem sd (A:Option Addr) (n cap q:Nat) (l:List (List Dw)) (w:World) (h:RdSS bL w 5 A n l) (h1:1<=q) (h4:q<=4) (hn:n=2 ^ q) (hl:∀ x ∈ l,x.length=n/\∀ v ∈ x,lm v=true):Calls Tryz.prog 93 #[.slice A n cap] w fun e w'=>e=.returned (.bool true)/\Below w w w':=by
 have H:=zH h;have HN:=zH hn;have HL:=zH hl;have hn16:n<=16/\2<=n:=by rw [hn];exact ng h1 h4
 clear h hn hl;go_enter Tryz.func93,Tryz.ntmps93;go_wp2_with fail;go_loopg [3] n (fun r v wr=>∃ k:Nat,k+r=n/\v=.int .i64 k/\Below w w wr)
 case atStart=>exact ⟨0,zO,rfl,zW⟩
 case round =>
  obtain ⟨k,hk,rfl,hb⟩:=hrel;by_cases hlt:k < n
  ·obtain ⟨b,off,x,B,c,rfl,hB,hd,c0,hxc,hxr⟩:=(H.below hb).at_ hlt;obtain ⟨hxl,hxv⟩:=HL.out x (List.mem_of_mem_drop (i:=k) (by rw [hd];simp));rw [hxl] at c0 hxc hxr;have RX:=zH (show RdD wr B n x from ⟨hxl,hxr⟩);have HXV:=zH hxv;clear hd hxl hxv hxr;have hi0:(0:Int)<=(k:Int):=zO;have hi1:(k:Int) < (n:Int):=zO;go_wp2_with fail;refine (jW _ n _ q x _ RX h1 h4 HN HXV).mono ?_;rintro e w1 ⟨rfl,b1⟩;have hb2:=hb.trans (b1.mono hb.size);clear c0 hb b1;go_wp2_with fail;go_roundg (gk - 1)
   case measure=>omega
   case rel=>exact ⟨k+1,zO,by go_num,hb2⟩
  ·go_wp2_with fail;go_ret;exact ⟨aw zJ,hb⟩
def vL (i:Int) (o:Int × Int):Int:=(gT (bits .and .i64 i o.1)+o.2) % 2
theorem Wl (a b:Int):bits .xor .i64 (a % 2) (b % 2)=(a+b) % 2:=by
 have h1:a % 2=0\/a % 2=1:=zO;have h2:b % 2=0\/b % 2=1:=zO;have e00:bits .xor .i64 0 0=0:=zD;have e01:bits .xor .i64 0 1=1:=zD;have e10:bits .xor .i64 1 0=1:=zD;have e11:bits .xor .i64 1 1=0:=zD;rcases h1 with h1 | h1<;>rcases h2 with h2 | h2<;>rw [h1,h2]
 ·rw [e00];omega
 ·rw [e01];omega
 ·rw [e10];omega
 ·rw [e11];omega
end Go.Proofs.YtmenmibfkojnoaaGreat
