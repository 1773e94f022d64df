/- Contract of IdentityTableau (spec), for one to four qubits. Contracts of coefficient (impl) and l33Coef (spec); what the loops of FoldPhases keep. At most 2^40 terms. Contract of FoldPhases (spec). At most 2^20 gates. -/
import Derived.Test.YtmenmibfkojnoaaGreatV19
import Derived.Test.YtmenmibfkojnoaaGreatV04
import Derived.Test.YtmenmibfkojnoaaGreatV25
import Derived.Test.YtmenmibfkojnoaaGreatV16
import Derived.Outline
import Derived.WideMake
set_option maxHeartbeats 16000000
namespace Go.Proofs.YtmenmibfkojnoaaGreat
open Go.RowKit
set_option linter.unusedVariables false
theorem idT_row {n k:Nat} (h:k < 2 * n):(idT n)[k]? = some (if decide (n<=k)=true then zQ (if n<=k then k - n else k) else xQ (if n<=k then k - n else k)):=by
 by_cases hk:n<=k
 ·simp only [hk,decide_true,if_true]
  have:=idT_z (n:=n) (k:=k - n) (by omega)
  rwa [show n+(k - n)=k by omega] at this
 ·simp only [hk,decide_false,if_false]
  exact idT_x (by omega)
set_option maxRecDepth 100000 in
theorem s_IdTab (n:Nat) (w:World) (hn:1<=n/\n<=4):Calls Tryz.prog 110 #[.int .i64 (n:Nat)] w (RetTab1 n (2 * n) (idT n) w):=by
 have HI:=zH (show inB (n:Int) 1 4=true from inB_t (by omega) (by omega))
 have R0:=zH (show Bx ((w.alloc (.cells #[.int .i64 0,.slice none 0 0] 73)).alloc (.cells #[.int .i64 (n:Nat),.slice none 0 0] 73)) w.heap.size 73 #[.int .i64 0,.slice none 0 0] from (Bx.new _ _ _).alloc _)
 have M0:=zH (show MB w n (w.heap.size+1) 0 none 0 ((idT n).take 0) ((w.alloc (.cells #[.int .i64 0,.slice none 0 0] 73)).alloc (.cells #[.int .i64 (n:Nat),.slice none 0 0] 73)) from ⟨Bx.new' (by simp),World.ownsRow_nil _ _ _ _,((zW).alloc zR _).alloc (by simp) _,by omega,by simp⟩)
 have hz2:(Value.agg #[.int .i64 0,.int .i64 0,.int .i64 0,.int .i64 0]).cells.size=4:=rfl
 have n2:IntKind.i64.wrap (2 * (n:Int))=2 * (n:Int):=i64T (by omega) (by omega)
 go_enter Tryz.func110,Tryz.ntmps110
 go_wp2_with fail
 refine (s_in _ _ _ _).mono ?_
 rintro e w1 ⟨rfl,rfl⟩
 rw [HI.out]
 go_wp2_with fail
 go_loopg [4] (2 * n) (fun q i wr=>∃ (k:Nat) (A0:Option Addr) (c0:Nat),k+q=2 * n/\i=.int .i64 k/\Bx wr w.heap.size 73 #[.int .i64 0,.slice none 0 0]/\MB w n (w.heap.size+1) k A0 c0 ((idT n).take k) wr)
 case atStart=>exact ⟨0,none,0,by omega,rfl,R0.out,M0.out⟩
 case round =>
  clear R0 M0
  obtain ⟨k,A0,c0,hk,rfl,hR,hM⟩:=hrel
  have m0:=hM.1.cell 0
  have m1:=hM.1.cell 1
  have hO:=hM.2.2.2.2
  have RR:=zH hR
  have MM:=zH hM
  clear hR hM
  by_cases hlt:k < 2 * n
  ·obtain ⟨d,hd⟩:∃ d,(if decide (n<=k)=true then zQ (if n<=k then k - n else k) else xQ (if n<=k then k - n else k))=d:=⟨_,rfl⟩
   obtain ⟨j,hj⟩:∃ j,(if n<=k then k - n else k)=j:=⟨_,rfl⟩
   obtain ⟨z,hz⟩:∃ z,decide (n<=k)=z:=⟨_,rfl⟩
   have HT:=zH (show (idT n).take (k+1)=(idT n).take k++[d] by rw [take_snocT (idT_row hlt),hd])
   rw [hj,hz] at hd
   have j4:j < 4:=by rw [<- hj];split<;>omega
   have HD:=zH hd
   have rm:((k:Int)).tmod (n:Int)=(j:Int):=by
    rw [Int.tmod_eq_emod_of_nonneg (by omega),<- Int.natCast_emod,<- hj]
    congr 1
    split
    ·rename_i h
     rw [Nat.mod_eq_sub_mod h,Nat.mod_eq_of_lt (by omega)]
    ·exact Nat.mod_eq_of_lt (by omega)
   have rm':(k:Int) % (n:Int)=(j:Int):=by rw [<- Int.tmod_eq_emod_of_nonneg (by omega)];exact rm
   have hzz:decide (n<=k)=z:=hz
   have hn0:¬ (n=0):=by omega
   clear hj hz hd
   go_wp2_with fail
   have EN:∀ w5,Below wr.heap.size wr w5->MB w n (w.heap.size+1) k A0 c0 ((idT n).take k) w5:=fun w5 b=>MM.out.below b
   go_region_law (first
    |(go_simp;go_at_call 148;(with_reducible refine (s_Single n j z d _ j4 HD.out).mono ?_);rintro e w4 ⟨rfl,b4⟩;have M4:MB w n (w.heap.size+1) k A0 c0 ((idT n).take k) w4:=EN _ (below_drew b4);have ⟨e0,e1⟩:=M4.cells;have hO4:=M4.2.2.2.2)
    |(refine step_app (by rfl) (.tmp 18) (.tmp 27) 71 (by rfl) Tryz.underlying71 infoPauli hz2 (by decide) (by simp [Act.eval]<;>rfl) (M4.alloc _).2.1 (by simp [Act.eval]<;>rfl) (Rd.lit _ 151 #[.int .i64 (n:Nat),.int .i64 (d.x:Nat),.int .i64 (d.z:Nat),.int .i64 (d.p:Nat)] 1 4 rfl) (by simp [Value.oneCell']) (by omega) (by decide) (by simp<;>omega) ?_;intro A5 c5 w5 o5 g5;have Y2:=(M4.alloc _).grown g5;have ⟨q0,q1,e0,e1⟩:=Y2.two)
    |fail)
   all_goals go_wp2_with fail
   all_goals go_roundg (gk - 1)
   all_goals first
    |omega
    |exact ⟨k+1,A5,c5,by omega,by go_num,(M4.alloc _).keeps g5 ((RR.out.below (below_drew b4)).alloc _) (by omega),by rw [HT.out];exact (M4.alloc _).push g5 o5⟩
  ·obtain rfl:k=2 * n:=by omega
   obtain ⟨r0,r1,r2,r3⟩:=RR.out.two
   have hrs:(idT n).take (2 * n)=idT n:=List.take_of_length_le (by rw [idT_len];exact zR)
   have HM:=MM.out
   rw [hrs] at HM
   go_wp2_with fail
   have RB:=RR.out
   with_reducible refine ret_S2 RB ?_ ?_ ⟨A0,c0,rfl,?_,?_⟩
   ·intro wS z0 z1;simp [results,Tryz.results110,go_sem,z0,z1]
   ·rfl
   ·exact ownsRow_base (ownS2 HM.2.1 (by omega) _ _) (by omega)
   ·exact belowS2 HM.2.2.1 (by omega) _ _
theorem coefT_hit {t r:List (Int × Int)} {k:Nat} {x y m:Int} (hd:t.drop k=(x,y) :: r) (h:(x == m)=true):coefT (t.drop k) m=y:=by rw [hd,coefT,if_pos h]
theorem coefT_miss {t r:List (Int × Int)} {k:Nat} {x y m:Int} (hd:t.drop k=(x,y) :: r) (h:(x == m)=false):coefT (t.drop k) m=coefT r m:=by rw [hd,coefT,if_neg (by rw [h];simp)]
theorem i_coef (N H:Int) (AT AO:Option Addr) (nT cT nO cO:Nat) (t:List (Int × Int)) (m:Int) (w:World) (hT:RdP w AT nT t) (b1:nT<=1099511627776) :
  Calls Tryz.prog 80 #[.agg #[.int .i64 N,.int .i64 H,.slice AT nT cT,.slice AO nO cO],.int .i64 m] w fun e w'=>e=.returned (.int .i64 (coefT t m))/\Below w.heap.size w w':=by
 have HT:=zH hT
 clear hT
 have BZ:=zH ((Below.refl w.heap.size w).alloc zR (.cells #[.int .i64 N,.int .i64 H,.slice AT nT cT,.slice AO nO cO] 88))
 obtain ⟨R,hR⟩:∃ R,coefT t m=R:=⟨_,rfl⟩
 rw [hR]
 have HR:=zH hR
 clear hR
 go_enter Tryz.func80,Tryz.ntmps80
 go_wp2_with fail
 go_loopg [10] nT (fun r j wr=>∃ k:Nat,k+r=nT/\j=.int .i64 k/\coefT (t.drop k) m=R/\Below w.heap.size w wr)
 case atStart=>exact ⟨0,by omega,rfl,HR.out,BZ.out⟩
 case round =>
  obtain ⟨k,hk,rfl,hq,hb⟩:=hrel
  have HQ:=zH hq
  have HB:=zH hb
  have hbs:=hb.size
  clear hq hb
  by_cases hlt:k < nT
  ·obtain ⟨g,off,x,y,rfl,hBb,hd,c0,c1⟩:=(HT.out.below HB.out).at_ hlt
   have HD:=zH hd
   have hkI:(k:Int) < (nT:Int):=by omega
   clear hd
   cases hxm:x == m
   ·have H1:=zH hxm
    go_wp2_with fail
    go_roundg (gk - 1)
    case measure=>omega
    case rel=>exact ⟨k+1,by omega,by go_num,by rw [<- HQ.out,coefT_miss HD.out H1.out],HB.out.alloc hbs _⟩
   ·have H1:=zH hxm
    go_wp2_with fail
    go_ret
    exact ⟨ret_int (by rw [<- HQ.out,coefT_hit HD.out H1.out]),HB.out.alloc hbs _⟩
  ·have HE:Hid (0=R):=zH (by rw [<- HQ.out,List.drop_eq_nil_of_le (by have:=HT.out.1;omega)];rfl)
   go_wp2_with fail
   go_ret
   exact ⟨ret_int HE.out,HB.out⟩
theorem s_coef (N H:Int) (AT AO:Option Addr) (nT cT nO cO:Nat) (t:List (Int × Int)) (m:Int) (w:World) (hT:RdP w AT nT t) (b1:nT<=1099511627776) :
  Calls Tryz.prog 103 #[.agg #[.int .i64 N,.int .i64 H,.slice AT nT cT,.slice AO nO cO],.int .i64 m] w fun e w'=>e=.returned (.int .i64 (coefT t m))/\Below w.heap.size w w':=by
 have BZ:=zH ((Below.refl w.heap.size w).alloc zR (.cells #[.int .i64 N,.int .i64 H,.slice AT nT cT,.slice AO nO cO] 88))
 have HT:=zH (hT.below BZ.out)
 clear hT
 have X0:=zH (Bx.new w 88 #[.int .i64 N,.int .i64 H,.slice AT nT cT,.slice AO nO cO])
 obtain ⟨R,hR⟩:∃ R,coefT t m=R:=⟨_,rfl⟩
 rw [hR]
 have HR:=zH hR
 clear hR
 go_enter Tryz.func103,Tryz.ntmps103
 go_wp2_with fail
 generalize w.alloc (.cells #[.int .i64 N,.int .i64 H,.slice AT nT cT,.slice AO nO cO] 88)=wz at HT X0 BZ ⊢
 obtain ⟨p0,p1,p2,p3,_⟩:=X0.out.four
 go_loopg [5] nT (fun r j wr=>∃ k:Nat,k+r=nT/\j=.int .i64 k/\coefT (t.drop k) m=R/\wr=wz)
 case atStart=>exact ⟨0,by omega,rfl,HR.out,rfl⟩
 case round =>
  obtain ⟨k,hk,rfl,hq,rfl⟩:=hrel
  have HQ:=zH hq
  clear hq
  by_cases hlt:k < nT
  ·obtain ⟨g,off,x,y,rfl,hBb,hd,c0,c1⟩:=HT.out.at_ hlt
   have HD:=zH hd
   have hkI:(k:Int) < (nT:Int):=by omega
   clear hd
   cases hxm:x == m
   ·have H1:=zH hxm
    go_wp2_with fail
    go_roundg (gk - 1)
    case measure=>omega
    case rel=>exact ⟨k+1,by omega,by go_num,by rw [<- HQ.out,coefT_miss HD.out H1.out],rfl⟩
   ·have H1:=zH hxm
    go_wp2_with fail
    go_ret
    exact ⟨ret_int (by rw [<- HQ.out,coefT_hit HD.out H1.out]),BZ.out⟩
  ·have HE:Hid (0=R):=zH (by rw [<- HQ.out,List.drop_eq_nil_of_le (by have:=HT.out.1;omega)];rfl)
   go_wp2_with fail
   go_ret
   exact ⟨ret_int HE.out,BZ.out⟩
theorem own_new_ne {w:World} {base:Nat} {e:TypeId} {sz n:Nat} {v:Value} {xs:List Value} (h:w.ownsRow base e sz v n xs):some w.heap.size ≠ v.ownBlock:=fun he=>by have:=(h.lt _ he.symm).2;omega
theorem own_map_ne {w:World} {base:Nat} {e:TypeId} {sz n:Nat} {v:Value} {xs:List Value} {r:Nat} {es:Array MapEntry} {ck:Nat} (h:w.ownsRow base e sz v n xs) (hm:w.heap[r]? = some (.map es ck)):some r ≠ v.ownBlock:=by
 rcases h.2 with ⟨rfl,_⟩ | ⟨g',cap,cur,rfl,_,hh,_⟩
 ·simp [Value.ownBlock]
 ·intro he
  have:r=g':=by simpa [Value.ownBlock] using he
  subst this
  rw [hm] at hh
  cases hh
theorem bx_map_ne {w:World} {g t r:Nat} {cs:Array Value} {es:Array MapEntry} {ck:Nat} (h:Bx w g t cs) (hm:w.heap[r]? = some (.map es ck)):g ≠ r:=by
 rintro rfl
 unfold Bx at h
 rw [hm] at h
 cases h
theorem own_setObjI {w:World} {base:Nat} {e:TypeId} {sz n:Nat} {v:Value} {xs:List Value} {r:Nat} {es:Array MapEntry} {ck:Nat} (h:w.ownsRow base e sz v n xs) (hm:w.heap[r]? = some (.map es ck)) (o:Obj):({ w with heap:=w.heap.setIfInBounds r o }:World).ownsRow base e sz v n xs:=by
 have hne:=own_map_ne h hm
 refine ⟨h.1,?_⟩
 rcases h.2 with h0 | ⟨g,cap,cur,hv,h2,h3,h4⟩
 ·exact .inl h0
 ·refine .inr ⟨g,cap,cur,hv,h2,?_,h4⟩
  show (w.heap.setIfInBounds r o)[g]? = _
  rw [Array.getElem?_setIfInBounds_ne (by intro e;subst e;exact hne (by rw [hv];rfl))]
  exact h3
theorem map_grown {w w':World} {r:Nat} {o:Obj} {row:Option Nat} (h:w.heap[r]? = some o) (hg:w.grownBy w' row) (hne:some r ≠ row):w'.heap[r]? = some o:=(hg.block r (Array.getElem?_eq_some_iff.1 h).1 hne).trans h
theorem map_set {w:World} {r:Nat} {o:Obj} (h:w.heap[r]? = some o) {p:Addr} (u:Value) (hne:r ≠ p.block):(w.setCell p u).heap[r]? = some o:=(Below.heap_setCell w p u r hne).trans h
def FI (g6 g10:Nat) (M:Po) (AW:Option Addr) (cW:Nat) (BW:Option Addr) (dW:Nat) (w0:World) (p:Po) (A2:Option Addr) (c2:Nat) (B2:Option Addr) (d2:Nat) (gm:Nat) (es:Array MapEntry) (ck:Nat) (met:List Int) (A:Option Addr) (c:Nat) (acc:List Gt) (wr:World):Prop :=
 Bx wr g6 88 #[.int .i64 M.N,.int .i64 M.H,.slice AW M.t.length cW,.slice BW M.o.length dW]/\Bx wr g10 88 #[.int .i64 p.N,.int .i64 p.H,.slice A2 p.t.length c2,.slice B2 p.o.length d2] ∧
  wr.ownsRow w0.heap.size 128 2 (.slice AW M.t.length cW) M.t.length (cellsP M.t)/\wr.ownsRow w0.heap.size 128 2 (.slice A2 p.t.length c2) p.t.length (cellsP p.t)/\wr.ownsRow w0.heap.size 93 2 (.slice B2 p.o.length d2) p.o.length (cellsP p.o) ∧
  wr.ownsRow w0.heap.size 39 4 (.slice A acc.length c) acc.length (cellsG acc)/\(wr.heap[gm]? = some (.map es ck)/\EntsI es.toList met/\w0.heap.size<=gm)/\Below w0.heap.size w0 wr/\w0.heap.size<=g10/\g6 ≠ g10
def FS (g6 g10:Nat) (M:Po) (AW:Option Addr) (cW:Nat) (BW:Option Addr) (dW:Nat) (w0:World) (p:Po) (A2:Option Addr) (c2:Nat) (B2:Option Addr) (d2:Nat) (AM:Option Addr) (cM:Nat) (met:List Int) (A:Option Addr) (c:Nat) (acc:List Gt) (wr:World):Prop :=
 Bx wr g6 88 #[.int .i64 M.N,.int .i64 M.H,.slice AW M.t.length cW,.slice BW M.o.length dW]/\Bx wr g10 88 #[.int .i64 p.N,.int .i64 p.H,.slice A2 p.t.length c2,.slice B2 p.o.length d2] ∧
  wr.ownsRow w0.heap.size 128 2 (.slice AW M.t.length cW) M.t.length (cellsP M.t)/\wr.ownsRow w0.heap.size 128 2 (.slice A2 p.t.length c2) p.t.length (cellsP p.t)/\wr.ownsRow w0.heap.size 93 2 (.slice B2 p.o.length d2) p.o.length (cellsP p.o) ∧
  wr.ownsRow w0.heap.size 39 4 (.slice A acc.length c) acc.length (cellsG acc)/\wr.ownsRow w0.heap.size 3 1 (.slice AM met.length cM) met.length (cellsI met)/\Below w0.heap.size w0 wr/\w0.heap.size<=g10/\g6 ≠ g10
section
variable {g6 g10:Nat} {M:Po} {AW:Option Addr} {cW:Nat} {BW:Option Addr} {dW:Nat} {w0:World} {p:Po} {A2:Option Addr} {c2:Nat} {B2:Option Addr} {d2:Nat} {gm:Nat} {es:Array MapEntry} {ck:Nat} {met:List Int} {A:Option Addr} {c:Nat} {acc:List Gt} {wr w':World}
theorem FI.alloc (h:FI g6 g10 M AW cW BW dW w0 p A2 c2 B2 d2 gm es ck met A c acc wr) (o:Obj):FI g6 g10 M AW cW BW dW w0 p A2 c2 B2 d2 gm es ck met A c acc (wr.alloc o):=by
 obtain ⟨x6,x10,tw,tp,op,ga,⟨hm,he,hgm⟩,hb,h10,hne⟩:=h
 exact ⟨x6.alloc o,x10.alloc o,tw.alloc o,tp.alloc o,op.alloc o,ga.alloc o,⟨map_allocI hm,he,hgm⟩,hb.alloc hb.size o,h10,hne⟩
theorem FI.below (h:FI g6 g10 M AW cW BW dW w0 p A2 c2 B2 d2 gm es ck met A c acc wr) (b:Below wr.heap.size wr w'):FI g6 g10 M AW cW BW dW w0 p A2 c2 B2 d2 gm es ck met A c acc w':=by
 obtain ⟨x6,x10,tw,tp,op,ga,⟨hm,he,hgm⟩,hb,h10,hne⟩:=h
 exact ⟨x6.below b,x10.below b,ownsRow_below tw b,ownsRow_below tp b,ownsRow_below op b,ownsRow_below ga b,⟨map_belowI hm b,he,hgm⟩,below_trans hb b,h10,hne⟩
theorem FI.app (h:FI g6 g10 M AW cW BW dW w0 p A2 c2 B2 d2 gm es ck met A c acc wr) {A':Option Addr} {n' c':Nat} {acc':List Gt} (hg:wr.grownBy w' (Value.slice A acc.length c).ownBlock) (ho:w'.ownsRow w0.heap.size 39 4 (.slice A' n' c') n' (cellsG acc')):FI g6 g10 M AW cW BW dW w0 p A2 c2 B2 d2 gm es ck met A' c' acc' w':=by
 obtain ⟨x6,x10,tw,tp,op,ga,⟨hm,he,hgm⟩,hb,h10,hne⟩:=h
 have hn:n'=acc'.length:=by have:=ho.1;rw [length_cellsG] at this;omega
 subst hn
 exact ⟨kept_app ga hg x6 (by decide),kept_app ga hg x10 (by decide),tw.kept hg (own_types tw ga (by decide)),tp.kept hg (own_types tp ga (by decide)),op.kept hg (own_types op ga (by decide)),ho,⟨map_grown hm hg (own_map_ne ga hm),he,hgm⟩,below_grown hb hb.size ga zR hg,h10,hne⟩
theorem FI.poly (h:FI g6 g10 M AW cW BW dW w0 p A2 c2 B2 d2 gm es ck met A c acc wr) {b:Nat} {q:Po} {A6:Option Addr} {c6:Nat} {B6:Option Addr} {d6:Nat} (ht:wr.ownsRow b 128 2 (.slice A6 q.t.length c6) q.t.length (cellsP q.t)) (ho:wr.ownsRow b 93 2 (.slice B6 q.o.length d6) q.o.length (cellsP q.o)) (hbb:w0.heap.size<=b):FI g6 g10 M AW cW BW dW w0 q A6 c6 B6 d6 gm es ck met A c acc ((((wr.setCell ⟨g10,0,none⟩ (.int .i64 q.N)).setCell ⟨g10,1,none⟩ (.int .i64 q.H)).setCell ⟨g10,2,none⟩ (.slice A6 q.t.length c6)).setCell ⟨g10,3,none⟩ (.slice B6 q.o.length d6)):=by
 obtain ⟨x6,x10,tw,tp,op,ga,⟨hm,he,hgm⟩,hb,h10,hne⟩:=h
 exact ⟨set4K x6 hne,(((x10.s0 _).s1 _).s2 _).s3 _,own_set_ne4 tw (own_bx_ne tw x10 (by decide)),own_set_ne4 (ownsRow_base ht hbb) (own_bx_ne ht x10 (by decide)),own_set_ne4 (ownsRow_base ho hbb) (own_bx_ne ho x10 (by decide)),own_set_ne4 ga (own_bx_ne ga x10 (by decide)),⟨map_set (map_set (map_set (map_set hm _ (bx_map_ne x10 hm).symm) _ (bx_map_ne x10 hm).symm) _ (bx_map_ne x10 hm).symm) _ (bx_map_ne x10 hm).symm,he,hgm⟩,below_set4 hb h10,h10,hne⟩
theorem FI.upd (h:FI g6 g10 M AW cW BW dW w0 p A2 c2 B2 d2 gm es ck met A c acc wr) (x:Int):FI g6 g10 M AW cW BW dW w0 p A2 c2 B2 d2 gm (es.push { key:=.int .i64 x,val:=.bool true,born:=ck }) (ck+1) (met++[x]) A c acc { wr with heap:=wr.heap.setIfInBounds gm (.map (es.push { key:=.int .i64 x,val:=.bool true,born:=ck }) (ck+1)) }:=by
 obtain ⟨x6,x10,tw,tp,op,ga,⟨hm,he,hgm⟩,hb,h10,hne⟩:=h
 exact ⟨x6.setObjI (bx_map_ne x6 hm) _,x10.setObjI (bx_map_ne x10 hm) _,own_setObjI tw hm _,own_setObjI tp hm _,own_setObjI op hm _,own_setObjI ga hm _,⟨map_setObjI hm,he.push x ck,hgm⟩,below_setObjI hb hgm _,h10,hne⟩
end
section
variable {g6 g10:Nat} {M:Po} {AW:Option Addr} {cW:Nat} {BW:Option Addr} {dW:Nat} {w0:World} {p:Po} {A2:Option Addr} {c2:Nat} {B2:Option Addr} {d2:Nat} {AM:Option Addr} {cM:Nat} {met:List Int} {A:Option Addr} {c:Nat} {acc:List Gt} {wr w':World}
theorem FS.alloc (h:FS g6 g10 M AW cW BW dW w0 p A2 c2 B2 d2 AM cM met A c acc wr) (o:Obj):FS g6 g10 M AW cW BW dW w0 p A2 c2 B2 d2 AM cM met A c acc (wr.alloc o):=by
 obtain ⟨x6,x10,tw,tp,op,ga,hm,hb,h10,hne⟩:=h
 exact ⟨x6.alloc o,x10.alloc o,tw.alloc o,tp.alloc o,op.alloc o,ga.alloc o,hm.alloc o,hb.alloc hb.size o,h10,hne⟩
theorem FS.below (h:FS g6 g10 M AW cW BW dW w0 p A2 c2 B2 d2 AM cM met A c acc wr) (b:Below wr.heap.size wr w'):FS g6 g10 M AW cW BW dW w0 p A2 c2 B2 d2 AM cM met A c acc w':=by
 obtain ⟨x6,x10,tw,tp,op,ga,hm,hb,h10,hne⟩:=h
 exact ⟨x6.below b,x10.below b,ownsRow_below tw b,ownsRow_below tp b,ownsRow_below op b,ownsRow_below ga b,ownsRow_below hm b,below_trans hb b,h10,hne⟩
theorem FS.app (h:FS g6 g10 M AW cW BW dW w0 p A2 c2 B2 d2 AM cM met A c acc wr) {A':Option Addr} {n' c':Nat} {acc':List Gt} (hg:wr.grownBy w' (Value.slice A acc.length c).ownBlock) (ho:w'.ownsRow w0.heap.size 39 4 (.slice A' n' c') n' (cellsG acc')):FS g6 g10 M AW cW BW dW w0 p A2 c2 B2 d2 AM cM met A' c' acc' w':=by
 obtain ⟨x6,x10,tw,tp,op,ga,hm,hb,h10,hne⟩:=h
 have hn:n'=acc'.length:=by have:=ho.1;rw [length_cellsG] at this;omega
 subst hn
 exact ⟨kept_app ga hg x6 (by decide),kept_app ga hg x10 (by decide),tw.kept hg (own_types tw ga (by decide)),tp.kept hg (own_types tp ga (by decide)),op.kept hg (own_types op ga (by decide)),ho,hm.kept hg (own_types hm ga (by decide)),below_grown hb hb.size ga zR hg,h10,hne⟩
theorem FS.poly (h:FS g6 g10 M AW cW BW dW w0 p A2 c2 B2 d2 AM cM met A c acc wr) {b:Nat} {q:Po} {A6:Option Addr} {c6:Nat} {B6:Option Addr} {d6:Nat} (ht:wr.ownsRow b 128 2 (.slice A6 q.t.length c6) q.t.length (cellsP q.t)) (ho:wr.ownsRow b 93 2 (.slice B6 q.o.length d6) q.o.length (cellsP q.o)) (hbb:w0.heap.size<=b):FS g6 g10 M AW cW BW dW w0 q A6 c6 B6 d6 AM cM met A c acc ((((wr.setCell ⟨g10,0,none⟩ (.int .i64 q.N)).setCell ⟨g10,1,none⟩ (.int .i64 q.H)).setCell ⟨g10,2,none⟩ (.slice A6 q.t.length c6)).setCell ⟨g10,3,none⟩ (.slice B6 q.o.length d6)):=by
 obtain ⟨x6,x10,tw,tp,op,ga,hm,hb,h10,hne⟩:=h
 exact ⟨set4K x6 hne,(((x10.s0 _).s1 _).s2 _).s3 _,own_set_ne4 tw (own_bx_ne tw x10 (by decide)),own_set_ne4 (ownsRow_base ht hbb) (own_bx_ne ht x10 (by decide)),own_set_ne4 (ownsRow_base ho hbb) (own_bx_ne ho x10 (by decide)),own_set_ne4 ga (own_bx_ne ga x10 (by decide)),own_set_ne4 hm (own_bx_ne hm x10 (by decide)),below_set4 hb h10,h10,hne⟩
theorem FS.metApp (h:FS g6 g10 M AW cW BW dW w0 p A2 c2 B2 d2 AM cM met A c acc wr) {A':Option Addr} {n' c':Nat} {met':List Int} (hg:wr.grownBy w' (Value.slice AM met.length cM).ownBlock) (ho:w'.ownsRow w0.heap.size 3 1 (.slice A' n' c') n' (cellsI met')):FS g6 g10 M AW cW BW dW w0 p A2 c2 B2 d2 A' c' met' A c acc w':=by
 obtain ⟨x6,x10,tw,tp,op,ga,hm,hb,h10,hne⟩:=h
 have hn:n'=met'.length:=by have:=ho.1;rw [length_cellsI] at this;omega
 subst hn
 exact ⟨kept_app hm hg x6 (by decide),kept_app hm hg x10 (by decide),tw.kept hg (own_types tw hm (by decide)),tp.kept hg (own_types tp hm (by decide)),op.kept hg (own_types op hm (by decide)),ga.kept hg (own_types ga hm (by decide)),ho,below_grown hb hb.size hm zR hg,h10,hne⟩
end
set_option maxRecDepth 100000 in
theorem s_FoldP (A:Option Addr) (n cap:Nat) (gs:List Gt) (N:Int) (w:World) (h:RdG w A n gs) (hn:n<=1073741824) :
  Calls Tryz.prog 57 #[.slice A n cap,.int .i64 N] w (RetGI (foldP gs N) w):=by
 have H:=zH h
 have HL:=zH h.1
 clear h
 obtain ⟨⟨M,mb⟩,hM⟩:∃ R,compP gs N=R:=⟨_,rfl⟩
 have HM:=zH hM
 have hbd:=compP_bd gs N
 rw [hM,HL.out] at hbd
 obtain ⟨hb1,hb2⟩:M.t.length<=n/\M.o.length<=4:=hbd
 cases mb
 ·have HF:=zH (foldP_no (gs:=gs) (n:=N) (by rw [hM]))
  clear hM
  rw [HF.out]
  go_enter Tryz.func57,Tryz.ntmps57
  go_wp2_with fail
  refine (s_CompP _ _ _ gs N _ H.out (by omega)).mono ?_
  rintro e w1 ⟨v,rfl,⟨A1,c1,B1,d1,rfl,t1,o1⟩,b1⟩
  rw [HM.out] at t1 o1 ⊢
  dsimp only at t1 o1 ⊢
  have BX:=zH (b1.alloc b1.size (.cells #[.int .i64 M.N,.int .i64 M.H,.slice A1 M.t.length c1,.slice B1 M.o.length d1] 88))
  have OG:=zH (show ((w1.alloc (.cells #[.int .i64 M.N,.int .i64 M.H,.slice A1 M.t.length c1,.slice B1 M.o.length d1] 88)).alloc (.cells #[] 39)).ownsRow w.heap.size 39 4 (.slice (some ⟨w1.heap.size+1,0,none⟩) 0 0) 0 [] from own0_bx (by have:=b1.size;omega) (Bx.new' (by simp)))
  have HA:=zH (H.out.below (BX.out.alloc BX.out.size (.cells #[] 39)))
  have hz4:(Value.agg #[.int .i64 0,.int .i64 0,.int .i64 0,.int .i64 0]).cells.size=4:=rfl
  have hl:=HL.out
  subst hl
  go_wp2_with (at_builtin;refine wpList_app0 rfl (.tmp 25) (.tmp 26) 24 rfl Tryz.underlying24 infoGate hz4 (by decide) rfl OG.out rfl HA.out.2 one_cellsG (by omega) (by decide) (by have:=b1.size;simp<;>omega) ?_;intro A7 c7 w7 o7 g7)
  go_ret2
  exact ⟨A7,c7,rfl,o7,below_grown (BX.out.alloc BX.out.size _) (by have:=b1.size;simp<;>omega) OG.out zR g7⟩
 ·have HF:=zH (foldP_yes (gs:=gs) (n:=N) (by rw [hM]))
  obtain ⟨hin,hcl⟩:=compP_in hM
  obtain ⟨i1,i2⟩:=idP_len hin
  have I1:=zH i1
  clear i1
  have HC:=zH hcl
  clear hM hin hcl
  rw [HF.out,HM.out]
  dsimp only
  have hOl:=foldL_len M.t gs (idP N) [] []
  rw [HL.out,List.length_nil,Nat.zero_add] at hOl
  obtain ⟨OUT,hO⟩:∃ O,foldL M.t (idP N) [] [] gs=O:=⟨_,rfl⟩
  rw [hO] at hOl ⊢
  have HO:=zH hO
  clear hO
  obtain ⟨Q,hQ⟩:∃ Q,compP OUT N=Q:=⟨_,rfl⟩
  rw [hQ]
  have HQ:=zH hQ
  clear hQ
  go_enter Tryz.func57,Tryz.ntmps57
  go_wp2_with fail
  refine (s_CompP _ _ _ gs N _ H.out (by omega)).mono ?_
  rintro e w1 ⟨v,rfl,⟨A1,c1,B1,d1,rfl,t1,o1⟩,b1⟩
  rw [HM.out] at t1 o1 ⊢
  dsimp only at t1 o1 ⊢
  have hs1:=b1.size
  obtain ⟨w3,hw3⟩:∃ w3,w3=((w1.alloc (.cells #[.int .i64 M.N,.int .i64 M.H,.slice A1 M.t.length c1,.slice B1 M.o.length d1] 88)).alloc (.cells #[] 39)).alloc (.cells #[] 3):=⟨_,rfl⟩
  have X6:=zH (show Bx w3 w1.heap.size 88 #[.int .i64 M.N,.int .i64 M.H,.slice A1 M.t.length c1,.slice B1 M.o.length d1] from hw3 ▸ ((Bx.new w1 _ _).alloc _).alloc _)
  have T1:=zH (show w3.ownsRow w.heap.size 128 2 (.slice A1 M.t.length c1) M.t.length (cellsP M.t) from hw3 ▸ ((t1.alloc _).alloc _).alloc _)
  have B3:=zH (show Below w.heap.size w w3 from hw3 ▸ ((b1.alloc (by omega) _).alloc (by simp<;>omega) _).alloc (by simp<;>omega) _)
  have OG:=zH (show w3.ownsRow w.heap.size 39 4 (.slice (some ⟨w1.heap.size+1,0,none⟩) 0 0) 0 (cellsG []) from hw3 ▸ (own0_bx (by omega) (Bx.new' (by simp))).alloc _)
  have MP:=zH (show w3.ownsRow w.heap.size 3 1 (.slice (some ⟨w1.heap.size+1+1,0,none⟩) 0 0) 0 (cellsI []) from hw3 ▸ own0_bx (by omega) (Bx.new' (by simp)))
  go_wp2_with fail
  rw [<- hw3]
  clear hw3 t1 o1 b1
  refine (s_IdP _ _).mono ?_
  rintro e w4 ⟨v,rfl,⟨A4,c4,B4,d4,rfl,t4,o4⟩,b4⟩
  have hs3:=B3.out.size
  have l6:=(X6.out.below b4).lt
  have hw1:w.heap.size<=w4.heap.size:=(below_trans B3.out b4).size
  have ST:=zH (show FS w1.heap.size w4.heap.size M A1 c1 B1 d1 w (idP N) A4 c4 B4 d4 (some ⟨w1.heap.size+1+1,0,none⟩) 0 [] (some ⟨w1.heap.size+1,0,none⟩) 0 [] (w4.alloc (.cells #[.int .i64 (idP N).N,.int .i64 (idP N).H,.slice A4 (idP N).t.length c4,.slice B4 (idP N).o.length d4] 88)) from ⟨(X6.out.below b4).alloc _,Bx.new _ _ _,(ownsRow_below T1.out b4).alloc _,(ownsRow_base t4 hs3).alloc _,(ownsRow_base o4 hs3).alloc _,(ownsRow_below OG.out b4).alloc _,(ownsRow_below MP.out b4).alloc _,(below_trans B3.out b4).alloc hw1 _,hw1,by omega⟩)
  clear t4 o4 b4 X6 T1 B3 OG MP
  go_wp2_with fail
  generalize idP N=p0 at HC HO I1 i2 ST ⊢
  generalize hg6:w1.heap.size=g6 at ST l6 ⊢
  generalize hg10:w4.heap.size=g10 at ST l6 hw1 ⊢
  clear hs1 hs3 hg6 hg10
  obtain ⟨w5,hw5⟩:∃ w5,w5=w4.alloc (.cells #[.int .i64 p0.N,.int .i64 p0.H,.slice A4 p0.t.length c4,.slice B4 p0.o.length d4] 88):=⟨_,rfl⟩
  rw [<- hw5] at ST ⊢
  clear hw5
  go_loopg [8,9,11] n (fun r s mt i wr=>∃ (k:Nat) (p:Po) (A2:Option Addr) (c2:Nat) (B2:Option Addr) (d2:Nat) (A9:Option Addr) (c9:Nat) (met:List Int) (A3:Option Addr) (c3:Nat) (acc:List Gt),k+r=n/\i=.int .i64 k/\s=.slice A3 acc.length c3/\mt=.slice A9 met.length c9/\foldL M.t p met acc (gs.drop k)=OUT/\(compL p (gs.drop k)).2=true/\p.t.length<=k/\p.o.length<=4/\acc.length<=2 * k/\met.length<=k/\FS g6 g10 M A1 c1 B1 d1 w p A2 c2 B2 d2 A9 c9 met A3 c3 acc wr)
  case atStart=>exact ⟨0,p0,A4,c4,B4,d4,_,0,[],_,0,[],by omega,rfl,rfl,rfl,HO.out,by rw [List.drop_zero,HC.out],by have:=I1.out;omega,i2,by simp,by simp,ST.out⟩
  case round =>
   clear ST HC HO I1 i2 l6
   obtain ⟨k,p,A2,c2,B2,d2,A9,c9,met,A3,c3,acc,hk,rfl,rfl,rfl,hf,hcl,htl,hol,hal,hml,hst⟩:=hrel
   have HFL:=zH hf
   have HCL:=zH hcl
   have ST:=zH hst
   clear hf hcl hst
   by_cases hlt:k < n
   ·have HB:=zH ST.out.2.2.2.2.2.2.2.1
    have hbs:=HB.out.size
    have h10:=ST.out.2.2.2.2.2.2.2.2.1
    obtain ⟨bb,off,g,rfl,hBb,hd,c0,c1',c2',c3'⟩:=(H.out.below HB.out).at_ hlt
    have HD:=zH hd
    clear hd
    have hkI:(k:Int) < (n:Int):=by omega
    have hk0:(0:Int)<=(k:Int):=by omega
    have hfit:=compL_fit (p:=p) (g:=g) (r:=gs.drop (k+1)) (by rw [<- HD.out];exact HCL.out)
    have hap:=(compL_ok (p:=p) (g:=g) (r:=gs.drop (k+1)) (by rw [<- HD.out];exact HCL.out)).1
    obtain ⟨gk',ga',gb',gc'⟩:=g
    dsimp only at c0 c1' c2' c3' hfit
    obtain ⟨a,rfl⟩:∃ a:Nat,ga'=a:=⟨ga'.toNat,by omega⟩
    obtain ⟨q,hq⟩:∃ q,applyP p ⟨gk',a,gb',gc'⟩=(q,true):=⟨_,Prod.ext rfl hap⟩
    have hbd:=applyP_bd p ⟨gk',a,gb',gc'⟩
    rw [hq] at hbd
    have hq1:q.t.length<=p.t.length+1:=hbd.1
    have hq2:q.o.length<=p.o.length:=hbd.2.1
    have HQ1:=zH hq
    have HC1:=zH (compL_next (by rw [<- HD.out];exact HCL.out) hq)
    obtain ⟨ha0,ha1,ha2⟩:=hfit
    have haN:a < p.o.length:=by omega
    have haI:(a:Int) < (p.o.length:Int):=by omega
    have ha0':(0:Int)<=(a:Int):=by omega
    obtain ⟨gB,hB2,hgB1,hgB2,u0,u1,_,_⟩:=own2At ST.out.2.2.2.2.1 haN
    subst hB2
    obtain ⟨⟨x,y⟩,hxy⟩:∃ z,p.o.getD a (0,0)=z:=⟨_,rfl⟩
    rw [hxy] at u0 u1
    dsimp only at u0 u1
    have HXY:Hid (at2 p.o (a:Int)=(x,y)):=zH (by show p.o.getD (Int.toNat a) _=_;rw [Int.toNat_natCast];exact hxy)
    clear hap hq hbd hxy ha0 ha1 ha2
    have lg6:=ST.out.1.lt
    have lg10:=ST.out.2.1.lt
    obtain ⟨s0,s1,s2,s3,t0,t1,t2,t3⟩:=ST.out.2.1.four
    have hz4:(Value.agg #[.int .i64 0,.int .i64 0,.int .i64 0,.int .i64 0]).cells.size=4:=rfl
    have HNE:=zH (own_new_ne ST.out.2.2.2.2.2.1)
    have S2:=zH (FS.alloc (FS.alloc ST.out (.cells #[.int .i64 gk',.int .i64 (a:Int),.int .i64 gb',.int .i64 gc'] 39)) (.cells #[.int .i64 x,.int .i64 y] 93))
    have G2:=zH ((Bx.new wr 39 #[.int .i64 gk',.int .i64 (a:Int),.int .i64 gb',.int .i64 gc']).alloc (.cells #[.int .i64 x,.int .i64 y] 93))
    have V2:=zH (Bx.new (wr.alloc (.cells #[.int .i64 gk',.int .i64 (a:Int),.int .i64 gb',.int .i64 gc'] 39)) 93 #[.int .i64 x,.int .i64 y])
    obtain ⟨W2,hW2⟩:∃ W2,W2=(wr.alloc (.cells #[.int .i64 gk',.int .i64 (a:Int),.int .i64 gb',.int .i64 gc'] 39)).alloc (.cells #[.int .i64 x,.int .i64 y] 93):=⟨_,rfl⟩
    rw [<- hW2] at S2 G2 V2
    have HW2:=zH hW2
    clear hW2
    have hgs:(wr.alloc (.cells #[.int .i64 gk',.int .i64 (a:Int),.int .i64 gb',.int .i64 gc'] 39)).heap.size=wr.heap.size+1:=by simp
    rw [hgs] at V2
    clear hgs
    go_wp2_with fail
    rw [<- HW2.out]
    have ST:=S2
    refine (s_ApplyP p.N p.H A2 p.t.length c2 p.t _ p.o.length d2 p.o ⟨gk',a,gb',gc'⟩ _ (RdP.own ST.out.2.2.2.1) (RdP.own ST.out.2.2.2.2.1) (by omega) (by omega) (ownsRow_cap ST.out.2.2.2.1)).mono ?_
    rintro e w8 ⟨v,rfl,⟨A8,c8,B8,d8,rfl,t8,o8⟩,b8⟩
    rw [show applyP ⟨p.N,p.H,p.t,p.o⟩ ⟨gk',a,gb',gc'⟩=(q,true) from HQ1.out] at t8 o8 ⊢
    dsimp only at t8 o8 ⊢
    clear s0 s1 s2 s3 t0 t1 t2 t3 u0 u1 c0 c1' c2' c3'
    have hs8:=ST.out.2.2.2.2.2.2.2.1.size
    have S8:=zH (FS.below ST.out b8)
    obtain ⟨s0,s1,s2,s3,t0,t1,t2,t3⟩:=S8.out.2.1.four
    have l8:=S8.out.2.1.lt
    have S9:=zH (FS.poly S8.out t8 o8 hs8)
    have G9:=zH (show Bx ((((w8.setCell ⟨g10,0,none⟩ (.int .i64 q.N)).setCell ⟨g10,1,none⟩ (.int .i64 q.H)).setCell ⟨g10,2,none⟩ (.slice A8 q.t.length c8)).setCell ⟨g10,3,none⟩ (.slice B8 q.o.length d8)) wr.heap.size 39 _ from set4K (G2.out.below b8) (by omega))
    have V9:=zH (show Bx ((((w8.setCell ⟨g10,0,none⟩ (.int .i64 q.N)).setCell ⟨g10,1,none⟩ (.int .i64 q.H)).setCell ⟨g10,2,none⟩ (.slice A8 q.t.length c8)).setCell ⟨g10,3,none⟩ (.slice B8 q.o.length d8)) (wr.heap.size+1) 93 _ from Bx.far (Bx.far (Bx.far (Bx.far (V2.out.below b8) (by show _ ≠ g10;omega) _) (by show _ ≠ g10;omega) _) (by show _ ≠ g10;omega) _) (by show _ ≠ g10;omega) _)
    clear t8 o8 b8 S2 ST S8 G2 V2
    go_upto_region 13 with fail
    generalize ((((w8.setCell ⟨g10,0,none⟩ (.int .i64 q.N)).setCell ⟨g10,1,none⟩ (.int .i64 q.H)).setCell ⟨g10,2,none⟩ (.slice A8 q.t.length c8)).setCell ⟨g10,3,none⟩ (.slice B8 q.o.length d8))=W9 at S9 G9 V9 ⊢
    clear s0 s1 s2 s3 t0 t1 t2 t3 l8 hs8
    obtain ⟨z0,z1,_,_⟩:=V9.out.two
    obtain ⟨y0,y1,y2,y3,_,_,_,_⟩:=G9.out.four
    have hs9:=S9.out.2.2.2.2.2.2.2.1.size
    have hz4:(Value.agg #[.int .i64 0,.int .i64 0,.int .i64 0,.int .i64 0]).cells.size=4:=rfl
    have hz1:(Value.int .i64 0).cells.size=1:=rfl
    cases hu:(units gk' == 0)
    rotate_left
    ·have HU:=zH hu
     go_wp2_with fail
     refine (s_RotationUnits _ _).mono ?_
     rintro e w' ⟨rfl,rfl⟩
     have SA:=zH (FS.alloc S9.out (.cells #[.int .i64 gk',.int .i64 (a:Int),.int .i64 gb',.int .i64 gc'] 39))
     have RL2:=zH (Rd.lit W9 39 #[.int .i64 gk',.int .i64 (a:Int),.int .i64 gb',.int .i64 gc'] 1 4 rfl)
     go_wp2_with (at_builtin;refine wpList_app rfl (.tmp 58) (.tmp 60) 24 rfl Tryz.underlying24 infoGate hz4 (by decide) rfl SA.out.2.2.2.2.2.1 rfl RL2.out (by simp [Value.oneCell']) (by omega) (by decide) (by simp<;>omega) ?_;intro A7 c7 w7 o7 g7;have S7:=zH (FS.app SA.out (acc':=acc++[⟨gk',a,gb',gc'⟩]) g7 (by rw [cellsG_append];exact o7)))
     go_roundg (gk - 1)
     case measure=>omega
     case rel=>exact ⟨k+1,q,A8,c8,B8,d8,_,_,met,_,_,acc++[⟨gk',a,gb',gc'⟩],by omega,by go_num,(by first | rfl | (rw [HTC.out];simp [rotG]) | simp),(by first | rfl | simp),by rw [<- HFL.out,HD.out,foldL_0 HU.out HQ1.out],HC1.out,by omega,by omega,by have:=hal;simp;omega,by omega,S7.out⟩
    ·have HU:=zH hu
     have MR:=zH S9.out.2.2.2.2.2.2.1
     go_wp2_with fail
     refine (s_RotationUnits _ _).mono ?_
     rintro e w' ⟨rfl,rfl⟩
     go_wp2_with fail
     refine (s_hasI _ _ _ met x _ (RdI.own MR.out) (by omega)).mono ?_
     rintro e w' ⟨rfl,rfl⟩
     cases hm:met.any (· == x)
     rotate_left
     ·have HMT:=zH hm
      rw [show hasI met x=true from hm]
      clear hm
      go_wp2_with fail
      go_roundg (gk - 1)
      case measure=>omega
      case rel=>exact ⟨k+1,q,A8,c8,B8,d8,_,_,met,_,_,acc,by omega,by go_num,(by first | rfl | (rw [HTC.out];simp [rotG]) | simp),(by first | rfl | simp),by rw [<- HFL.out,HD.out,foldL_old HU.out HXY.out HMT.out HQ1.out],HC1.out,by omega,by omega,by omega,by omega,S9.out⟩
     ·have HMT:=zH hm
      rw [show hasI met x=false from hm]
      clear hm
      obtain ⟨cv,hcv⟩:∃ c,coefT M.t x=c:=⟨_,rfl⟩
      have HCV:=zH hcv
      have SA:=zH (FS.alloc S9.out (.cells #[.int .i64 x] 3))
      have GA:=zH (G9.out.alloc (.cells #[.int .i64 x] 3))
      have VA:=zH (V9.out.alloc (.cells #[.int .i64 x] 3))
      have RL2:=zH (Rd.lit W9 3 #[.int .i64 x] 1 1 rfl)
      go_wp2_with (at_builtin;refine wpList_app rfl (.tmp 66) (.tmp 69) 58 rfl Tryz.underlying58 infoInt1 hz1 (by decide) rfl SA.out.2.2.2.2.2.2.1 rfl RL2.out (by simp [Value.oneCell']) (by omega) (by decide) (by simp<;>omega) ?_;intro A6 c6 w6 o6 g6';have S6:=zH (FS.metApp SA.out (met':=met++[x]) g6' (by rw [cellsI_append];exact o6));have G6:=zH (kept_app SA.out.2.2.2.2.2.2.1 g6' GA.out (by decide));have V6:=zH (kept_app SA.out.2.2.2.2.2.2.1 g6' VA.out (by decide));have ⟨r0,r1,r2,r3,_,_,_,_⟩:=S6.out.1.four;have ⟨z0',z1',_,_⟩:=V6.out.two)
      refine (s_coef _ _ _ _ _ _ _ _ M.t x _ (RdP.own S6.out.2.2.1) (by omega)).mono ?_
      rintro e w4 ⟨rfl,bk⟩
      rw [hcv]
      clear hcv
      have S4:=zH (FS.below S6.out bk)
      have G4:=zH (G6.out.below bk)
      have V4:=zH (V6.out.below bk)
      clear z0 z1 y0 y1 y2 y3
      obtain ⟨z0,z1,_,_⟩:=V4.out.two
      obtain ⟨y0,y1,y2,y3,_,_,_,_⟩:=G4.out.four
      clear bk S9 G9 V9 SA GA VA RL2 S6 G6 V6 MR
      cases hy1:(y == 1)
      ·have HY1:=zH hy1
       have HTC:Hid (turnC (coefT M.t x) y=cv):=zH (by rw [HCV.out];exact turnC_0 hy1)
       obtain ⟨cc,hcc⟩:∃ c,cv=c:=⟨_,rfl⟩
       subst hcc
       have hrk:=rotK_len cv
       go_wp2_with fail
       refine (s_RotationGates _ _ _).mono ?_
       rintro e w5 ⟨A5,c5,rfl,o5,b5⟩
       have O5:=zH o5
       have S5:=zH (FS.below S4.out b5)
       have hs5:=S5.out.2.2.2.2.2.2.2.1.size
       clear o5 b5 z0 z1 y0 y1 y2 y3 hy1
       go_wp2_with (at_builtin;refine wpList_app rfl (.tmp 81) (.tmp 85) 24 rfl Tryz.underlying24 infoGate hz4 (by decide) rfl S5.out.2.2.2.2.2.1 rfl (Rd.own O5.out) one_cellsG (by omega) (by decide) (by omega) ?_;intro A7 c7 w7 o7 g7;have S7:=zH (FS.app S5.out (acc':=acc++rotG (turnC (coefT M.t x) y) (a:Int)) g7 (by rw [HTC.out,cellsG_append];exact o7)))
       go_roundg (gk - 1)
       case measure=>omega
       case rel=>exact ⟨k+1,q,A8,c8,B8,d8,_,_,met++[x],_,_,acc++rotG (turnC (coefT M.t x) y) (a:Int),by omega,by go_num,(by first | rfl | (rw [HTC.out];simp [rotG]) | simp),(by first | rfl | simp),by rw [<- HFL.out,HD.out,foldL_new HU.out HXY.out HMT.out HQ1.out],HC1.out,by omega,by omega,by have h1:=rotG_len (turnC (coefT M.t x) y) (a:Int);have h2:=rotK_len (turnC (coefT M.t x) y);rw [List.length_append];omega,by rw [List.length_append,List.length_singleton];omega,S7.out⟩
      ·have HY1:=zH hy1
       have HTC:Hid (turnC (coefT M.t x) y=((-cv) % 8)):=zH (by rw [HCV.out];exact turnC_1 hy1)
       go_wp2_with fail
       refine (s_l32Rest _ _).mono ?_
       rintro e w' ⟨rfl,rfl⟩
       rw [wrap_mod8]
       obtain ⟨cc,hcc⟩:∃ c,((-cv) % 8)=c:=⟨_,rfl⟩
       rw [hcc] at HTC ⊢
       clear hcc
       have hrk:=rotK_len cc
       go_wp2_with fail
       refine (s_RotationGates _ _ _).mono ?_
       rintro e w5 ⟨A5,c5,rfl,o5,b5⟩
       have O5:=zH o5
       have S5:=zH (FS.below S4.out b5)
       have hs5:=S5.out.2.2.2.2.2.2.2.1.size
       clear o5 b5 z0 z1 y0 y1 y2 y3 hy1
       go_wp2_with (at_builtin;refine wpList_app rfl (.tmp 81) (.tmp 85) 24 rfl Tryz.underlying24 infoGate hz4 (by decide) rfl S5.out.2.2.2.2.2.1 rfl (Rd.own O5.out) one_cellsG (by omega) (by decide) (by omega) ?_;intro A7 c7 w7 o7 g7;have S7:=zH (FS.app S5.out (acc':=acc++rotG (turnC (coefT M.t x) y) (a:Int)) g7 (by rw [HTC.out,cellsG_append];exact o7)))
       go_roundg (gk - 1)
       case measure=>omega
       case rel=>exact ⟨k+1,q,A8,c8,B8,d8,_,_,met++[x],_,_,acc++rotG (turnC (coefT M.t x) y) (a:Int),by omega,by go_num,(by first | rfl | (rw [HTC.out];simp [rotG]) | simp),(by first | rfl | simp),by rw [<- HFL.out,HD.out,foldL_new HU.out HXY.out HMT.out HQ1.out],HC1.out,by omega,by omega,by have h1:=rotG_len (turnC (coefT M.t x) y) (a:Int);have h2:=rotK_len (turnC (coefT M.t x) y);rw [List.length_append];omega,by rw [List.length_append,List.length_singleton];omega,S7.out⟩
   ·have hkn:k=n:=by omega
    have hE:acc=OUT:=by have e:=HFL.out;rw [List.drop_eq_nil_of_le (by have:=HL.out;omega)] at e;exact e
    subst hE
    clear HFL HCL hkn
    have GA:=zH ST.out.2.2.2.2.2.1
    go_wp2_with fail
    refine (s_CompP _ _ _ acc N _ (RdG.own GA.out) (by omega)).mono ?_
    rintro e w8 ⟨v,rfl,⟨A8,c8,B8,d8,rfl,t8,o8⟩,b8⟩
    rw [HQ.out] at t8 o8 ⊢
    have S8:=zH (FS.below ST.out b8)
    obtain ⟨r0,r1,r2,r3,_,_,_,_⟩:=S8.out.1.four
    have l8:=S8.out.1.lt
    have hb8:=S8.out.2.2.2.2.2.2.2.1.size
    clear t8 o8 b8
    go_wp2_with fail
    refine (s_l32Rest _ _).mono ?_
    rintro e w' ⟨rfl,rfl⟩
    rw [wrap_mod8]
    go_wp2_with fail
    go_ret2
    exact ⟨A3,c3,rfl,S8.out.2.2.2.2.2.1.alloc _,S8.out.2.2.2.2.2.2.2.1.alloc hb8 _⟩
end Go.Proofs.YtmenmibfkojnoaaGreat
