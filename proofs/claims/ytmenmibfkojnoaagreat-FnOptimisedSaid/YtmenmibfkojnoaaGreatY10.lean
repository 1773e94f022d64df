/- Contract of ApplyGate (spec): where the . -/
import Derived.Test.YtmenmibfkojnoaaGreatY09
set_option maxHeartbeats 16000000
set_option maxRecDepth 100000
namespace Go.Proofs.YtmenmibfkojnoaaGreat
open Go.RowKit
set_option linter.unusedVariables false
theorem Da {ar m:Int} (hm:0<=m):∀ (l seen:List Int),tZ ar m seen l=true->∀ x ∈ l,0<=x/\x<=m
 |[],_,_=>by simp
 |y :: r,seen,h=>by
  rw [tZ] at h;by_cases hb:jL ar m seen.length seen y=true
  ·rw [if_pos hb] at h;cases h
  ·rw [if_neg hb] at h;intro x hx;rcases List.mem_cons.1 hx with rfl | hx
   ·unfold jL at hb;by_cases hlt:(seen.length:Int) < ar
    ·rw [if_pos hlt] at hb;rcases eO x 0 m with ⟨_,h1⟩ | ⟨h1,_⟩
     ·exact h1
     ·rw [h1] at hb;simp at hb
    ·rw [if_neg hlt] at hb;have:x=0:=by simpa using hb
     omega
   ·exact Da hm r _ h x hx
theorem MK {g:Gt} {q:Nat} (h1:1<=q) (h4:q<=4) (h:fJ g.k g.a g.b g.c q=true):∃ a b c:Nat,g.a=a/\g.b=b/\g.c=c/\(a < q/\b < q/\c < q)/\(1<=g.k/\g.k<=12):=by
 unfold fJ at h;simp only [Bool.and_eq_true,decide_eq_true_eq] at h;have hb:=Da zO _ _ h.2.2;have ha:=hb g.a zI;have hbb:=hb g.b zI;have hcc:=hb g.c zI;refine ⟨g.a.toNat,g.b.toNat,g.c.toNat,zO,zO,zO,⟨zO,zO,zO⟩,?_⟩;rcases bd g.k with ⟨h1,h2,h3⟩ | ⟨h1,h2,h3⟩ | ⟨h1,h3⟩ | ⟨h1,h3⟩<;>omega
theorem nM {q:Nat} (h1:1<=q) (h4:q<=4):Me (2 ^ q)=q:=by
 obtain rfl | rfl | rfl | rfl:q=1\/q=2\/q=3\/q=4:=zO
 all_goals rfl
theorem Fa {g:Gt} {vs out:List Dw} {q:Nat} (h1:1<=q) (h4:q<=4) (hl:vs.length=2 ^ q) (h:tP g vs=some out):(∀ x ∈ vs,lm x=true)/\fJ g.k g.a g.b g.c q=true/\nE g 0 vs (List.replicate (2 ^ q) Dw.zero)=some out:=by
 unfold tP at h;rw [hl,nM h1 h4] at h;split at h
 ·rename_i h1;simp only [Bool.and_eq_true,PF,List.all_eq_true] at h1;exact ⟨h1.1.1,h1.2,h⟩
 ·cases h
theorem Ia {x:Dw} {o o':List Dw} {t:Nat × Dw} (h:vf x o t=some o'):o'.length=o.length:=by
 unfold vf at h;cases hm:iR x t.2 with
 |none=>rw [hm] at h;cases h
 |some y =>
  rw [hm] at h;simp only at h;cases ha:rp (o.getD t.1 Dw.zero) y with
  |none=>rw [ha] at h;cases h
  |some z =>
   rw [ha] at h;injection h with h;rw [<- h,List.length_set]
theorem Fb {x:Dw} {o o':List Dw} {t:Nat} {ty:Dw} (h:vf x o (t,ty)=some o'):∃ m z,iR x ty=some m/\rp (o.getD t Dw.zero) m=some z/\o'=o.set t z:=by
 unfold vf at h;cases hm:iR x ty with
 |none=>rw [hm] at h;cases h
 |some y =>
  rw [hm] at h;simp only at h;cases ha:rp (o.getD t Dw.zero) y with
  |none=>rw [ha] at h;cases h
  |some z =>
   rw [ha] at h;injection h with h;exact ⟨y,z,rfl,ha,h.symm⟩
theorem RdD.get {w:World} {b off n k:Nat} {vs r:List Dw} {x:Dw} (h:RdD w (some ⟨b,off,none⟩) n vs) (hk:k < n) (hd:vs.drop k=x :: r):b < w.heap.size/\w.cell? ⟨b,off+k * 5,none⟩=some (.int .i64 x.n.a)/\w.cell? ⟨b,off+k * 5+1,none⟩=some (.int .i64 x.n.b)/\w.cell? ⟨b,off+k * 5+2,none⟩=some (.int .i64 x.n.c)/\w.cell? ⟨b,off+k * 5+3,none⟩=some (.int .i64 x.n.d)/\w.cell? ⟨b,off+k * 5+4,none⟩=some (.int .i64 x.e):=by
 obtain ⟨b',off',x',e,hb,hd',c⟩:=h.at_ hk;injection e with e;injection e with e1 e2;subst e1 e2
 rw [hd] at hd';injection hd' with e3 _
 subst e3;exact ⟨hb,c⟩
theorem Ue {w:World} {g:Nat} {t:TypeId} {a b c d e:Value} (h:Bx w g t #[a,b,c,d,e]):w.cell? ⟨g,0,none⟩=some a/\w.cell? ⟨g,1,none⟩=some b/\w.cell? ⟨g,2,none⟩=some c/\w.cell? ⟨g,3,none⟩=some d/\w.cell? ⟨g,4,none⟩=some e/\w.frozen? ⟨g,0,none⟩=false/\w.frozen? ⟨g,1,none⟩=false/\w.frozen? ⟨g,2,none⟩=false/\w.frozen? ⟨g,3,none⟩=false/\w.frozen? ⟨g,4,none⟩=false:=⟨h.cell 0,h.cell 1,h.cell 2,h.cell 3,h.cell 4,h.free 0,h.free 1,h.free 2,h.free 3,h.free 4⟩
theorem ug {B:Nat} {a w:World} {g:Nat} {u0 u1 u2 u3 u4:Value} (h:Below B a w) (hg:B<=g):Below B a (((((w.setCell ⟨g,0,none⟩ u0).setCell ⟨g,1,none⟩ u1).setCell ⟨g,2,none⟩ u2).setCell ⟨g,3,none⟩ u3).setCell ⟨g,4,none⟩ u4):=((((h.setCell hg _).setCell hg _).setCell hg _).setCell hg _).setCell hg _
theorem vr {w:World} {g:Nat} {t:TypeId} {a b c d e a' b' c' d' e':Value} (h:Bx w g t #[a,b,c,d,e]):Bx (((((w.setCell ⟨g,0,none⟩ a').setCell ⟨g,1,none⟩ b').setCell ⟨g,2,none⟩ c').setCell ⟨g,3,none⟩ d').setCell ⟨g,4,none⟩ e') g t #[a',b',c',d',e']:=((((h.set_ 0 a').set_ 1 b').set_ 2 c').set_ 3 d').set_ 4 e'
theorem RdSn.store {w:World} {A:Option Addr} {n R:Nat} {ls:List (Nat × Dw)} (h:RdSn w A n ls) (hne:∀ b off,A=some ⟨b,off,none⟩->b ≠ R) (z:Dw) (o:Nat):RdSn (Mz w R o z).drew A n ls :=
 ⟨h.1,(((((h.2.setCell (p:=⟨R,o,none⟩) _ hne).setCell (p:=⟨R,o+1,none⟩) _ hne).setCell (p:=⟨R,o+2,none⟩) _ hne).setCell (p:=⟨R,o+3,none⟩) _ hne).setCell (p:=⟨R,o+4,none⟩) _ hne).drew⟩
theorem vu:∀ q:Fin 5,∀ i:Fin 16,∀ p:Fin 4,(i:Nat) < 2 ^ (q:Nat)->(p:Nat) < q->cU i p < 2 ^ (q:Nat):=by decide +kernel
theorem nN {i p q:Nat} (h4:q<=4) (hi:i < 2 ^ q) (hp:p < q):cU i p < 2 ^ q:=by
 have h16:2 ^ q<=16:=Nat.pow_le_pow_right zO h4;exact vu ⟨q,zO⟩ ⟨i,zO⟩ ⟨p,zO⟩ hi hp
theorem fV {α:Type} {c:Prop} [Decidable c] {a b:List α} {P:α->Prop} (ha:∀ t ∈ a,P t) (hb:∀ t ∈ b,P t):∀ t ∈ (if c then a else b),P t:=by split<;>assumption
theorem iU {p:Prop} (h:p:=by intro t ht;(first | unfold As at ht | unfold Mf at ht | skip);simp only [List.mem_cons,List.not_mem_nil,or_false] at ht;subst ht;dsimp only;first | assumption | (split<;>assumption)):p:=h
theorem ML {g:Gt} {i q a b c:Nat} (h4:q<=4) (hi:i < 2 ^ q) (ea:g.a=a) (eb:g.b=b) (ec:g.c=c) (hr:a < q/\b < q/\c < q):∀ t ∈ bU g i,t.1 < 2 ^ q:=by
 have f1:=nN h4 hi hr.1;have f2:=nN h4 hi hr.2.1;have f3:=nN h4 hi hr.2.2;have f4:=nN h4 f1 hr.2.1;unfold bU;rw [ea,eb,ec];simp only [Int.toNat_natCast];exact fV iU (fV iU (fV iU (fV iU (fV iU (fV iU (fV iU (fV iU (fV iU (fV iU (fV iU ((by intro t ht;simp only [List.mem_cons,List.not_mem_nil,or_false] at ht;rcases ht with rfl | rfl<;>(dsimp only;split<;>assumption)))))))))))))
theorem fW {α:Type} {c:Prop} [Decidable c] {a b:List α} {n:Nat} (ha:a.length<=n) (hb:b.length<=n):(if c then a else b).length<=n:=by split<;>assumption
theorem iV {p:Prop} (h:p:=by first | (unfold As;simp) | (unfold Mf;simp) | simp):p:=h
theorem Ib (g:Gt) (i:Nat):(bU g i).length<=2:=by
 unfold bU;exact fW iV (fW iV (fW iV (fW iV (fW iV (fW iV (fW iV (fW iV (fW iV (fW iV (fW iV zI))))))))))
theorem Wf {x:Dw} (h1:x.n.a=0) (h2:x.n.b=0) (h3:x.n.c=0) (h4:x.n.d=0) (h5:x.e=0):true=decide (x=Dw.zero):=by
 obtain ⟨⟨a,b,c,d⟩,e⟩:=x;simp only at h1 h2 h3 h4 h5;subst h1 h2 h3 h4 h5;rfl
theorem Ic {x:Dw} (h:¬ x.n.a=0\/¬ x.n.b=0\/¬ x.n.c=0\/¬ x.n.d=0\/¬ x.e=0):false=decide (x=Dw.zero):=by
 refine (decide_eq_false fun e=>?_).symm;subst e;simp [Dw.zero,Zw.zero] at h
def GSt (w:World) (g:Gt) (R n:Nat) (cur:List Dw) (wr:World):Prop :=
 Bx wr w 39 #[g.k,g.a,g.b,g.c]/\wr.ownsRow (w.heap.size+1) 110 5 (.slice (some ⟨R,0,none⟩) n n) n (bL cur)/\Below w w wr
theorem GSt.below {w wr w':World} {g:Gt} {R n:Nat} {cur:List Dw} (h:GSt w g R n cur wr) (hb:Below wr wr w'):GSt w g R n cur w':=⟨h.1.below hb,ab h.2.1 hb,aa h.2.2 hb⟩
theorem GSt.cells {w wr:World} {g:Gt} {R n:Nat} {cur:List Dw} (h:GSt w g R n cur wr):wr.cell? ⟨w,0,none⟩=some (.int .i64 g.k)/\wr.cell? ⟨w,1,none⟩=some (.int .i64 g.a)/\wr.cell? ⟨w,2,none⟩=some (.int .i64 g.b)/\wr.cell? ⟨w,3,none⟩=some (.int .i64 g.c):=⟨h.1.cell 0,h.1.cell 1,h.1.cell 2,h.1.cell 3⟩
theorem GSt.store {w wr:World} {g:Gt} {R n:Nat} {cur:List Dw} (h:GSt w g R n cur wr) {k:Nat} (hk:k < cur.length) (hR:w.heap.size+1<=R) (z:Dw):GSt w g R n (cur.set k z) (Mz wr R (k * 5) z).drew:=by
 have hne:w.heap.size ≠ R:=zO;exact ⟨(((((h.1.far hne _).far hne _).far hne _).far hne _).far hne _).drew,aq (xX h.2.1 hk z),(rE h.2.2 zO z).drew⟩
def Ie (n:Nat) (vs:List Dw) (w:World) (e:Ending) (w':World):Prop :=
 ∃ A c,e=.returned (.tuple #[.slice A n c,.bool true])/\w'.ownsRow w 110 5 (.slice A n c) n (bL vs)/\Below w w w'
theorem jM {p:Prop} (h:p:=by assumption):p:=h
theorem If {p:Prop} (h:p:=by first | exact aa VA b6 | exact aa V0 b6):p:=h
theorem Ig (g:Gt) (A:Option Addr) (n cap q:Nat) (vs out:List Dw) (w:World) (h:RdD w A n vs) (h1:1<=q) (h4:q<=4) (hn:n=2 ^ q) (ho:tP g vs=some out):Calls Tryz.prog 91 #[.agg #[g.k,g.a,g.b,g.c],.slice A n cap] w (Ie n out w):=by
 obtain ⟨hv,hg,hl⟩:=Fa h1 h4 (by rw [h.1,hn]) ho;rw [<- hn] at hl;have h16:n<=16/\2<=n:=by rw [hn];exact ng h1 h4
 have H:=zH h;have HN:=zH hn;have HV:=zH hv;have HG:=zH hg;have HL:=zH hl;have hmk:=iF (P:=Tryz.prog) Tryz.underlying64 fC n zO zO;have X0:=zH (show Bx (w.alloc g) w 39 #[g.k,g.a,g.b,g.c] from Bx.new w _ _);have B0:=zH (show Below w w (w.alloc g) from (zW).alloc zR _);clear h hn hv hg hl ho;go_enter Tryz.func91,Tryz.ntmps91;go_upto_region 1 with fail
 go_cut [23] (fun v wx=>v=.bool false/\Bx wx w 39 #[g.k,g.a,g.b,g.c]/\Below w w wx)
 case first =>
  have XD:=X0.drew;have BD:=B0.drew;obtain ⟨x0,x1,x2,x3,_⟩:=XD.four;have RD:=H.below BD
  go_region_held3 (fun w'=>w'.cell? ⟨w,0,none⟩=some (.int .i64 g.k)/\w'.cell? ⟨w,1,none⟩=some (.int .i64 g.a)/\w'.cell? ⟨w,2,none⟩=some (.int .i64 g.b)/\w'.cell? ⟨w,3,none⟩=some (.int .i64 g.c))
   (first | exact ⟨X2.cell 0,X2.cell 1,X2.cell 2,X2.cell 3⟩ | exact ⟨X1.cell 0,X1.cell 1,X1.cell 2,X1.cell 3⟩ | go_keep)
   (first
    |(go_at_call 89;refine (jW _ n _ q vs _ RD h1 h4 HN.out HV.out).mono ?_;rintro e w1 ⟨rfl,b1⟩;have X1:=XD.below b1;have B1:=BD.trans (b1.mono (Below.size BD)))
    |(go_at_call 135;refine (xW _ n _ q _ h1 h4 HN.out).mono ?_;rintro e w1 ⟨rfl,rfl⟩)
    |(go_at_call 25;refine (aY _ _ _ _ _ _).mono ?_;rintro e w2 ⟨rfl,b2⟩;rw [HG.out];have X2:=X1.below b2;have B2:=B1.trans (b2.mono (Below.size B1))))
  all_goals go_wp2_with fail
  all_goals go_meet
  all_goals exact ⟨zI,X2,B2⟩
 case rest =>
  obtain ⟨rfl,xb,bb⟩:=hcut;obtain ⟨w0,rfl⟩:∃ w0,w0=wc:=⟨_,rfl⟩;have hs:w.heap.size+1<=w0.heap.size:=xb.lt;have S1:=zH (show GSt w g w0.heap.size n (List.replicate n Dw.zero) (w0.alloc (.cells (madeCells (Value.agg #[(0:Int),(0:Int),(0:Int),(0:Int),(0:Int)]).cells (n * 5)) 110)) from ⟨xb.alloc _,ae (lH w0 h1 h4 HN.out) hs,bb.alloc bb.size _⟩);clear xb bb X0 B0;go_wp2_with fail;go_loopg [7] n (fun r v wr=>∃ (i:Nat) (cur:List Dw),i+r=n/\v=.int .i64 i/\cur.length=n/\nE g i (vs.drop i) cur=some out/\GSt w g w0.heap.size n cur wr)
  case atStart=>exact ⟨0,List.replicate n Dw.zero,zO,rfl,zI,HL.out,S1.out⟩
  case round =>
   obtain ⟨i,cur,hi,rfl,hcl,hap,hst⟩:=hrel;have HAP:=zH hap;have HS:=zH hst;have HCL:=zH hcl;clear hap hst hcl S1 HL hmk;obtain ⟨g0,g1,g2,g3⟩:=HS.cells;by_cases hlt:i < n
   ·obtain ⟨b,off,x,rfl,hB,hd,c0,c1,c2,c3,c4⟩:=(H.below HS.out.2.2).at_ hlt;have hi0:(0:Int)<=(i:Int):=zO;have hi1:(i:Int) < (n:Int):=zO;have HD:=zH hd;clear hd;go_upto_region 7 with fail
    go_cut [39] (fun v wx=>v=.bool (decide (x=Dw.zero))/\wr=wx)
    case first =>
     go_wp2_with fail
     all_goals go_meet
     all_goals first
      |exact ⟨congrArg Value.bool (Wf jM jM jM jM jM),rfl⟩
      |exact ⟨congrArg Value.bool (Ic (.inl jM)),rfl⟩
      |exact ⟨congrArg Value.bool (Ic (.inr (.inl jM))),rfl⟩
      |exact ⟨congrArg Value.bool (Ic (.inr (.inr (.inl jM)))),rfl⟩
      |exact ⟨congrArg Value.bool (Ic (.inr (.inr (.inr (.inl jM))))),rfl⟩
      |exact ⟨congrArg Value.bool (Ic (.inr (.inr (.inr (.inr jM))))),rfl⟩
    case rest =>
     obtain ⟨rfl,rfl⟩:=hcut;by_cases hz:x=Dw.zero
     ·rw [decide_eq_true hz];have e:=HAP.out;rw [HD.out,nE,if_pos hz] at e;have HAP2:=zH e;clear e HAP hz c0 c1 c2 c3 c4;go_wp2_with fail;go_roundg (gk - 1)
      case measure=>omega
      case rel=>exact ⟨i+1,cur,zO,by go_num,HCL.out,HAP2.out,HS.out⟩
     ·rw [decide_eq_false hz];have e:=HAP.out;rw [HD.out,nE,if_neg hz] at e;obtain ⟨tY,hp2,ha2⟩:∃ c2,fR x (bU g i) cur=some c2/\nE g (i+1) (vs.drop (i+1)) c2=some out:=by
       cases hq:fR x (bU g i) cur with
       |none=>rw [hq] at e;cases e
       |some o=>rw [hq] at e;exact ⟨o,rfl,e⟩
      obtain ⟨p,qb,qc,ea,eb,ec,hr,hk12⟩:=MK h1 h4 HG.out;have hgl:=ML h4 (by rw [<- HN.out];exact hlt) ea eb ec hr;obtain ⟨gs,hgs⟩:∃ l,bU g i=l:=⟨_,rfl⟩;obtain ⟨L,hL⟩:∃ L,gs.length=L:=⟨_,rfl⟩;have hL2:L<=2:=by rw [<- hL,<- hgs];exact Ib g i
      rw [hgs] at hp2 hgl;rw [<- HN.out] at hgl;have HP2:=zH hp2;have HA2:=zH ha2;have HGL:=zH hgl;have HGS:=zH hgs;have HLL:=zH hL;have EA:=zH ea;have EB:=zH eb;have EC:=zH ec;clear e HAP hz c0 c1 c2 c3 c4 hp2 ha2 hgl hgs hL ea eb ec;have hRlt:=(HS.out.2.1.lt w0.heap.size rfl).2;go_wp2_with fail;refine (E9 g p qb qc i _ EA EB EC zO zO zO zO hk12).mono ?_;rintro e w5 ⟨A5,c5,rfl,o5,b5⟩;rw [HGS.out] at o5 ⊢;rw [HLL.out] at o5 ⊢;have S5:=zH (HS.below b5);have R5:=zH (RdSn.own o5);have NE:=zH (show ∀ b off,A5=some ⟨b,off,none⟩->b ≠ w0.heap.size from fun b off e=>by
       subst e;have:=(o5.lt b rfl).1;omega)
      clear o5 b5 HS g0 g1 g2 g3 hRlt;obtain ⟨go,rfl⟩:∃ go,go=gk:=⟨_,rfl⟩;go_wp2_with fail;go_loopg [9] L (fun r v wr=>∃ (k:Nat) (cu:List Dw),k+r=L/\v=.int .i64 k/\cu.length=n/\fR x (gs.drop k) cu=some tY/\GSt w g w0.heap.size n cu wr/\RdSn wr A5 L gs)
      case atStart=>exact ⟨0,cur,zO,rfl,HCL.out,HP2.out,S5.out,R5.out⟩
      case round =>
       obtain ⟨k,cu,hk,rfl,hcu,hpa,hst,hrs⟩:=hrel;have HPA:=zH hpa;have HS:=zH hst;have HCU:=zH hcu;clear S5 R5 hpa hst hcu HP2 HCL;by_cases hkl:k < L
       ·obtain ⟨lb,lo,⟨tt,ty⟩,rfl,hlB,htd,s0,s1,s2,s3,s4,s5⟩:=hrs.at_ hkl;have RS:=zH hrs;simp only at s0 s1 s2 s3 s4 s5;have htn:tt < n:=HGL.out (tt,ty) (List.mem_of_mem_drop (i:=k) (by rw [htd];simp));have e:=HPA.out;rw [htd,fR] at e;obtain ⟨m,z,hm,hz2,hput⟩:∃ m z,iR x ty=some m/\rp (cu.getD tt Dw.zero) m=some z/\fR x (gs.drop (k+1)) (cu.set tt z)=some tY:=by
         cases hq:vf x cu (tt,ty) with
         |none=>rw [hq] at e;cases e
         |some o =>
          rw [hq] at e;obtain ⟨m,z,q1,q2,q3⟩:=Fb hq;exact ⟨m,z,q1,q2,by rw [<- q3];exact e⟩
        obtain ⟨y,hy⟩:∃ y,cu.getD tt Dw.zero=y:=⟨_,rfl⟩;rw [hy] at hz2;have hdy:cu.drop tt=y :: cu.drop (tt+1):=by
         have hlen:tt < cu.length:=by rw [HCU.out];exact htn
         rw [<- hy,List.getD_eq_getElem?_getD,List.getElem?_eq_getElem hlen];exact ax hlen
        obtain ⟨hB,c0,c1,c2,c3,c4⟩:=(H.below HS.out.2.2).get hlt HD.out;have hkI:(k:Int) < (L:Int):=zO;have hk0:(0:Int)<=(k:Int):=zO;have ht0:(0:Int)<=(tt:Int):=zO;have ht1:(tt:Int) < (n:Int):=zO;have HM:=zH hm;have HZ:=zH hz2;have HPU:=zH hput;have HDY:=zH hdy;clear e htd hm hz2 hput hy hdy HPA hrs;go_upto_region 12 with fail
        go_cut [10,11] (fun v10 v11 wx=>v11=.bool true/\∃ X,v10=.pointer (some ⟨X,0,none⟩)/\Bx wx X 110 #[m.n.a,m.n.b,m.n.c,m.n.d,m.e]/\Below wr wr wx/\wr.heap.size<=X)
        case first =>
         have HSS:=zH (show ∀ wx:World,Below wr wr wx->(wx.cell? ⟨b,off+i * 5,none⟩=some (.int .i64 x.n.a)/\wx.cell? ⟨b,off+i * 5+1,none⟩=some (.int .i64 x.n.b)/\wx.cell? ⟨b,off+i * 5+2,none⟩=some (.int .i64 x.n.c)/\wx.cell? ⟨b,off+i * 5+3,none⟩=some (.int .i64 x.n.d)/\wx.cell? ⟨b,off+i * 5+4,none⟩=some (.int .i64 x.e))/\(wx.cell? ⟨lb,lo+k * 6+1,none⟩=some (.int .i64 ty.n.a)/\wx.cell? ⟨lb,lo+k * 6+2,none⟩=some (.int .i64 ty.n.b)/\wx.cell? ⟨lb,lo+k * 6+3,none⟩=some (.int .i64 ty.n.c)/\wx.cell? ⟨lb,lo+k * 6+4,none⟩=some (.int .i64 ty.n.d)/\wx.cell? ⟨lb,lo+k * 6+5,none⟩=some (.int .i64 ty.e)) from fun wx hb=>⟨⟨(hb.cell (p:=⟨b,off+i * 5,none⟩) hB).trans c0,(hb.cell (p:=⟨b,off+i * 5+1,none⟩) hB).trans c1,(hb.cell (p:=⟨b,off+i * 5+2,none⟩) hB).trans c2,(hb.cell (p:=⟨b,off+i * 5+3,none⟩) hB).trans c3,(hb.cell (p:=⟨b,off+i * 5+4,none⟩) hB).trans c4⟩,(hb.cell (p:=⟨lb,lo+k * 6+1,none⟩) hlB).trans s1,(hb.cell (p:=⟨lb,lo+k * 6+2,none⟩) hlB).trans s2,(hb.cell (p:=⟨lb,lo+k * 6+3,none⟩) hlB).trans s3,(hb.cell (p:=⟨lb,lo+k * 6+4,none⟩) hlB).trans s4,(hb.cell (p:=⟨lb,lo+k * 6+5,none⟩) hlB).trans s5⟩)
         have V0:Below wr wr wr.drew:=(zW).drew;have VA:Below wr wr (wr.alloc (.cells #[(0:Int),(0:Int),(0:Int),(0:Int),(0:Int)] 110)).drew:=((zW).alloc zR _).drew
         go_region_held3 (fun w'=>(w'.cell? ⟨b,off+i * 5,none⟩=some (.int .i64 x.n.a)/\w'.cell? ⟨b,off+i * 5+1,none⟩=some (.int .i64 x.n.b)/\w'.cell? ⟨b,off+i * 5+2,none⟩=some (.int .i64 x.n.c)/\w'.cell? ⟨b,off+i * 5+3,none⟩=some (.int .i64 x.n.d)/\w'.cell? ⟨b,off+i * 5+4,none⟩=some (.int .i64 x.e))/\(w'.cell? ⟨lb,lo+k * 6+1,none⟩=some (.int .i64 ty.n.a)/\w'.cell? ⟨lb,lo+k * 6+2,none⟩=some (.int .i64 ty.n.b)/\w'.cell? ⟨lb,lo+k * 6+3,none⟩=some (.int .i64 ty.n.c)/\w'.cell? ⟨lb,lo+k * 6+4,none⟩=some (.int .i64 ty.n.d)/\w'.cell? ⟨lb,lo+k * 6+5,none⟩=some (.int .i64 ty.e)))
          (first | exact HSS.out _ V6 | exact HSS.out _ (V6.alloc (Below.size V6) _) | exact HSS.out _ (ug V6 zR) | exact HSS.out _ VA | exact HSS.out _ V0 | go_keep)
          (first
           |(go_at_call 137;refine (GV x ty m _ HM.out).mono ?_;rintro e w6 ⟨rfl,b6⟩;have V6:Below wr wr w6:=If;(try (have ZX:=(Bx.new wr 110 #[(0:Int),(0:Int),(0:Int),(0:Int),(0:Int)]).drew.below b6;have ⟨z0,z1,z2,z3,z4,f0,f1,f2,f3,f4⟩:=Ue ZX)))
           |fail)
         all_goals go_wp2_with fail
         all_goals go_meet
         all_goals refine ⟨rfl,_,rfl,?_,?_,?_⟩
         all_goals first
          |(with_reducible exact Bx.new w6 _ _)
          |(with_reducible exact vr ZX)
          |(with_reducible exact V6.alloc (Below.size V6) _)
          |(with_reducible exact ug V6 zR)
          |(with_reducible exact Below.size V6)
          |(with_reducible exact zR)
        case rest =>
         obtain ⟨rfl,X,rfl,xb,bb,hX⟩:=hcut;obtain ⟨w7,rfl⟩:∃ w7,w7=wc:=⟨_,rfl⟩;have S7:=zH (HS.below bb);have RS7:=zH (RS.below bb);have sa:=(bb.cell (p:=⟨lb,lo+k * 6,none⟩) hlB).trans s0;have hlB7:lb < w7.heap.size:=Nat.lt_of_lt_of_le hlB bb.size;have hRB:w0.heap.size < w7.heap.size:=(S7.out.2.1.lt w0.heap.size rfl).2;obtain ⟨_,d0,d1,d2,d3,d4⟩:=(RdD.own S7.out.2.1).get htn HDY.out;simp only [Nat.zero_add] at d0 d1 d2 d3 d4;have hXB:=xb.lt;obtain ⟨x0,x1,x2,x3,x4,_⟩:=Ue xb;have XB:=zH xb;clear s0 s1 s2 s3 s4 s5 c0 c1 c2 c3 c4 HS RS bb xb hlB hB HM hX;go_upto_region 13 with fail
         go_cut [12,13] (fun v10 v11 wx=>v11=.bool true/\∃ Y,v10=.pointer (some ⟨Y,0,none⟩)/\Bx wx Y 110 #[z.n.a,z.n.b,z.n.c,z.n.d,z.e]/\Below w7 w7 wx/\w7.heap.size<=Y)
         case first =>
          have HSS:=zH (show ∀ wx:World,Below w7 w7 wx->wx.cell? ⟨lb,lo+k * 6,none⟩=some (.int .i64 (tt:Int))/\(wx.cell? ⟨w0.heap.size,tt * 5,none⟩=some (.int .i64 y.n.a)/\wx.cell? ⟨w0.heap.size,tt * 5+1,none⟩=some (.int .i64 y.n.b)/\wx.cell? ⟨w0.heap.size,tt * 5+2,none⟩=some (.int .i64 y.n.c)/\wx.cell? ⟨w0.heap.size,tt * 5+3,none⟩=some (.int .i64 y.n.d)/\wx.cell? ⟨w0.heap.size,tt * 5+4,none⟩=some (.int .i64 y.e))/\(wx.cell? ⟨X,0,none⟩=some (.int .i64 m.n.a)/\wx.cell? ⟨X,1,none⟩=some (.int .i64 m.n.b)/\wx.cell? ⟨X,2,none⟩=some (.int .i64 m.n.c)/\wx.cell? ⟨X,3,none⟩=some (.int .i64 m.n.d)/\wx.cell? ⟨X,4,none⟩=some (.int .i64 m.e)) from fun wx hb=>⟨(hb.cell (p:=⟨lb,lo+k * 6,none⟩) hlB7).trans sa,⟨(hb.cell (p:=⟨w0.heap.size,tt * 5,none⟩) hRB).trans d0,(hb.cell (p:=⟨w0.heap.size,tt * 5+1,none⟩) hRB).trans d1,(hb.cell (p:=⟨w0.heap.size,tt * 5+2,none⟩) hRB).trans d2,(hb.cell (p:=⟨w0.heap.size,tt * 5+3,none⟩) hRB).trans d3,(hb.cell (p:=⟨w0.heap.size,tt * 5+4,none⟩) hRB).trans d4⟩,(hb.cell (p:=⟨X,0,none⟩) hXB).trans x0,(hb.cell (p:=⟨X,1,none⟩) hXB).trans x1,(hb.cell (p:=⟨X,2,none⟩) hXB).trans x2,(hb.cell (p:=⟨X,3,none⟩) hXB).trans x3,(hb.cell (p:=⟨X,4,none⟩) hXB).trans x4⟩)
          have V0:Below w7 w7 w7.drew:=(zW).drew;have VA:Below w7 w7 (w7.alloc (.cells #[(0:Int),(0:Int),(0:Int),(0:Int),(0:Int)] 110)).drew:=((zW).alloc zR _).drew
          go_region_held3 (fun w'=>w'.cell? ⟨lb,lo+k * 6,none⟩=some (.int .i64 (tt:Int))/\(w'.cell? ⟨w0.heap.size,tt * 5,none⟩=some (.int .i64 y.n.a)/\w'.cell? ⟨w0.heap.size,tt * 5+1,none⟩=some (.int .i64 y.n.b)/\w'.cell? ⟨w0.heap.size,tt * 5+2,none⟩=some (.int .i64 y.n.c)/\w'.cell? ⟨w0.heap.size,tt * 5+3,none⟩=some (.int .i64 y.n.d)/\w'.cell? ⟨w0.heap.size,tt * 5+4,none⟩=some (.int .i64 y.e))/\(w'.cell? ⟨X,0,none⟩=some (.int .i64 m.n.a)/\w'.cell? ⟨X,1,none⟩=some (.int .i64 m.n.b)/\w'.cell? ⟨X,2,none⟩=some (.int .i64 m.n.c)/\w'.cell? ⟨X,3,none⟩=some (.int .i64 m.n.d)/\w'.cell? ⟨X,4,none⟩=some (.int .i64 m.e)))
           (first | exact HSS.out _ V6 | exact HSS.out _ (V6.alloc (Below.size V6) _) | exact HSS.out _ (ug V6 zR) | exact HSS.out _ VA | exact HSS.out _ V0 | go_keep)
           (first
            |(go_at_call 138;refine (QD y m z _ HZ.out).mono ?_;rintro e w6 ⟨rfl,b6⟩;have V6:Below w7 w7 w6:=If;(try (have ZX:=(Bx.new w7 110 #[(0:Int),(0:Int),(0:Int),(0:Int),(0:Int)]).drew.below b6;have ⟨z0,z1,z2,z3,z4,f0,f1,f2,f3,f4⟩:=Ue ZX)))
            |fail)
          all_goals go_wp2_with fail
          all_goals go_meet
          all_goals refine ⟨rfl,_,rfl,?_,?_,?_⟩
          all_goals first
           |(with_reducible exact Bx.new w6 _ _)
           |(with_reducible exact vr ZX)
           |(with_reducible exact V6.alloc (Below.size V6) _)
           |(with_reducible exact ug V6 zR)
           |(with_reducible exact Below.size V6)
           |(with_reducible exact zR)
         case rest =>
          obtain ⟨rfl,Y,rfl,yb,bb,hY⟩:=hcut;obtain ⟨w8,rfl⟩:∃ w8,w8=wc:=⟨_,rfl⟩;have S8:=zH (S7.below bb);have RS8:=zH (RS7.below bb);have sb:=(bb.cell (p:=⟨lb,lo+k * 6,none⟩) hlB7).trans sa;obtain ⟨y0,y1,y2,y3,y4,_⟩:=Ue yb;obtain ⟨⟨⟨e0,q0⟩,⟨e1,q1⟩,⟨e2,q2⟩,⟨e3,q3⟩,⟨e4,q4⟩⟩,f0,f1,f2,f3,f4⟩:=Ux S8.out.2.1 htn;have hYR:Y ≠ w0.heap.size:=zO;clear sa d0 d1 d2 d3 d4 x0 x1 x2 x3 x4 S7 RS7 XB bb yb hXB HZ HDY;go_upto_region 16 with fail
          go_region
          all_goals go_wp2_with fail
          go_roundg (gk - 1)
          case measure=>omega
          case rel=>exact ⟨k+1,cu.set tt z,zO,by go_num,by rw [List.length_set];exact HCU.out,HPU.out,S8.store (by rw [HCU.out];exact htn) hs z,RS8.store NE.out z (tt * 5)⟩
       ·have e:=HPA.out;rw [List.drop_eq_nil_of_le (by have:=HLL.out;omega),fR] at e;injection e with e;subst e
        go_wp2_with fail;go_roundg (go - 1)
        case measure=>omega
        case rel=>exact ⟨i+1,cu,zO,by go_num,HCU.out,HA2.out,HS.out⟩
   ·have e:=HAP.out;rw [List.drop_eq_nil_of_le (by have:=H.out.1;omega),nE] at e;injection e with e;subst e
    go_wp2_with fail;exact bodyPost_ret (v:=.tuple #[.slice (some ⟨w0,0,none⟩) n n,.bool true]) (by simp [results,Tryz.results91,go_sem]) rfl ⟨_,_,rfl,ae HS.out.2.1 zO,HS.out.2.2⟩
end Go.Proofs.YtmenmibfkojnoaaGreat
