/- Contracts of IsValidGate (impl and spec). Nothing is asked. Plain: numbers of D[omega], and how gates act on rows of them. No program in sight; nothing is asked. Numbers of D[omega] as cells; slices of them; places where an amplitude is sent. Nothing is asked. Contracts of the numbers of Z[omega] (spec): l2Near, IsValidZOmega, l2If, AddZOmega, NegZOmega, MulZOmega, DivSqrt2. Where a partial ... -/
import Derived.Test.YtmenmibfkojnoaaGreatV01
import Derived.Test.YtmenmibfkojnoaaGreatV03
import Derived.Test.YtmenmibfkojnoaaGreatV04
import Derived.Test.YtmenmibfkojnoaaGreatV02
import Derived.Deep.QuietTactic
import Derived.BigQuiet
import Derived.Test.YtmenmibfkojnoaaGreatProg
import Derived.StillTailTactics
import Derived.Deep.RegionHeld3
import Derived.Deep.DeepCutAuto
set_option maxHeartbeats 16000000
namespace Go.Proofs.YtmenmibfkojnoaaGreat
open Go.RowKit
def badQ (ar m:Int) (i:Nat) (seen:List Int) (x:Int):Bool:=if (i:Int) < ar then (!inB x 0 m) || hasI seen x else !(x == 0)
def okQ (ar m:Int):List Int->List Int->Bool
 |_,[]=>true
 |seen,x :: r=>if badQ ar m seen.length seen x then false else okQ ar m (seen++[x]) r
def okG (k a b c n:Int):Bool:=inB n 1 4 && (decide (0 < arity k) && okQ (arity k) (n - 1) [] [a,b,c])
theorem inB_casesQ (x lo hi:Int):(inB x lo hi=true/\lo<=x/\x<=hi) ∨ (inB x lo hi=false/\(x < lo ∨ hi < x)):=by
 by_cases h1:lo<=x
 ·by_cases h2:x<=hi
  ·exact .inl ⟨inB_t h1 h2,h1,h2⟩
  ·exact .inr ⟨inB_f (.inr (by omega)),.inr (by omega)⟩
 ·exact .inr ⟨inB_f (.inl (by omega)),.inl (by omega)⟩
theorem take_snocI {zs:List Int} {k:Nat} {x:Int} (hd:zs.drop k=x :: zs.drop (k+1)):zs.take (k+1)=zs.take k++[x]:=by
 have hk:k < zs.length:=by
  rcases Nat.lt_or_ge k zs.length with h | h
  ·exact h
  ·rw [List.drop_eq_nil_of_le h] at hd;cases hd
 have:zs[k]? = some x:=by
  have:=congrArg (fun l=>l[0]?) hd
  simpa using this
 rw [List.take_add_one,this];rfl
theorem okQ_step {ar m:Int} {zs:List Int} {k:Nat} {x:Int} (hd:zs.drop k=x :: zs.drop (k+1)):okQ ar m (zs.take k) (zs.drop k)=if badQ ar m k (zs.take k) x then false else okQ ar m (zs.take (k+1)) (zs.drop (k+1)):=by
 have hk:k < zs.length:=by
  rcases Nat.lt_or_ge k zs.length with h | h
  ·exact h
  ·rw [List.drop_eq_nil_of_le h] at hd;cases hd
 have hl:(zs.take k).length=k:=by simp;omega
 rw [hd,okQ,hl,take_snocI hd]
theorem gqn_take (k a b c:Int) (j:Nat) (h:(j:Int)<=arity k):(gqn k a b c).take j=[a,b,c].take j:=by
 unfold gqn
 rw [List.take_take,Nat.min_eq_left (by omega)]
set_option maxRecDepth 100000 in
theorem s_IsValidGate (k a b c n:Int) (w:World):Calls Tryz.prog 25 #[.agg #[.int .i64 k,.int .i64 a,.int .i64 b,.int .i64 c],.int .i64 n] w fun e w'=>e=.returned (.bool (okG k a b c n))/\Below w.heap.size w w':=by
 have hbd:=arity_bd k
 obtain ⟨ar,har⟩:∃ ar:Nat,arity k=ar:=⟨(arity k).toNat,by omega⟩
 have HAR:=zH har
 have har4:ar<=3:=by omega
 have HT:Hid ((arity k).toNat=ar):=zH (by omega)
 obtain ⟨R,hR⟩:∃ R,okQ ar (wrap64 (n - 1)) [] [a,b,c]=R:=⟨_,rfl⟩
 have HR:=zH hR
 have HC:Hid (okG k a b c n=(inB n 1 4 && (decide (0 < ar) && R))):=zH (by
  unfold okG
  cases hin:inB n 1 4
  ·simp
  ·have:1<=n/\n<=4:=by rcases inB_casesQ n 1 4 with ⟨_,h⟩ | ⟨h,_⟩<;>simp_all
   have e1:wrap64 (n - 1)=n - 1:=by unfold wrap64;omega
   rw [<- hR,e1,har]
   simp)
 have X0:=zH (Bx.new w 39 #[.int .i64 k,.int .i64 a,.int .i64 b,.int .i64 c])
 obtain ⟨zs,hz⟩:∃ zs:List Int,[a,b,c]=zs:=⟨_,rfl⟩
 have hzl:zs.length=3:=by rw [<- hz];rfl
 have HZ:=zH hz
 have HG:Hid (∀ j:Nat,j<=ar->(gqn k a b c).take j=zs.take j):=zH (fun j hj=>by rw [<- hz];exact gqn_take k a b c j (by omega))
 rw [hz] at hR
 clear har hbd hR hz
 go_enter Tryz.func25,Tryz.ntmps25
 go_wp2_with fail
 refine (s_GateQubitsC _ _ _ _ _).mono ?_
 rintro e w1 ⟨A1,c1,rfl,r1,b1,hc1⟩
 rw [HT.out] at r1 hc1 ⊢
 have R1:=zH r1
 have b01:=below_alloc b1
 have X1:=X0.out.below b1
 obtain ⟨p0,p1,p2,p3,_⟩:=X1.four
 clear r1 b1
 go_wp2_with fail
 have YZ:=zH (Bx.new w1 3 #[.int .i64 a,.int .i64 b,.int .i64 c])
 have RZ:Hid (RdI (w1.alloc (.cells #[.int .i64 a,.int .i64 b,.int .i64 c] 3)) (some ⟨w1.heap.size,0,none⟩) 3 zs):=zH (by
  rw [<- HZ.out];exact YZ.out.rdI (zs:=[a,b,c]) rfl)
 have RQ:=zH (R1.out.alloc (.cells #[.int .i64 a,.int .i64 b,.int .i64 c] 3))
 have b02:Below w.heap.size w (w1.alloc (.cells #[.int .i64 a,.int .i64 b,.int .i64 c] 3)):=b01.alloc b01.size _
 obtain ⟨wo,hwo⟩:∃ wo,wo=w1.alloc (.cells #[.int .i64 a,.int .i64 b,.int .i64 c] 3):=⟨_,rfl⟩
 rw [<- hwo] at RZ RQ b02 ⊢
 clear p0 p1 p2 p3 X1 b01 R1 YZ hwo
 generalize w1.heap.size=gz at RZ ⊢
 go_loopg [7] 3 (fun m i wr=>∃ (j:Nat),j+m=3/\i=.int .i64 j/\okQ ar (wrap64 (n - 1)) (zs.take j) (zs.drop j)=R/\Below wo.heap.size wo wr)
 case atStart=>exact ⟨0,by omega,rfl,by simpa [HZ.out] using HR.out,zW⟩
 case round =>
  obtain ⟨j,hj,rfl,hx,hb⟩:=hrel
  have HX:=zH hx
  clear hx
  have b03:=below_trans b02 hb
  by_cases hlt:j < 3
  ·obtain ⟨bb,off,x,hA,hB,hd,c0⟩:=(RZ.out.below hb).at_ hlt
   injection hA with hA
   injection hA with hA1 hA2 _
   subst hA1 hA2
   rw [Nat.zero_add] at c0
   have hi0:(0:Int)<=(j:Int):=by omega
   have hi1:(j:Int) < 3:=by omega
   have HS:=zH (okQ_step (ar:=ar) (m:=wrap64 (n - 1)) hd)
   clear hd
   by_cases hja:j < ar
   ·have RH:=zH ((RQ.out.below hb).pre (k:=j) (by omega))
    rw [HG.out j (by omega)] at RH
    have hi2:(j:Int)<=(c1:Int):=by omega
    have hg0:decide (ar<=j)=false:=by simp;omega
    have hg1:decide (j < ar)=true:=by simp;omega
    have HB:Hid (badQ ar (wrap64 (n - 1)) j (zs.take j) x=((!inB x 0 (wrap64 (n - 1))) || hasI (zs.take j) x)):=zH (by unfold badQ;rw [if_pos (by omega)])
    cases h1:inB x 0 (wrap64 (n - 1))
    ·have H1:=zH h1
     go_wp2_with fail
     go_quiet ((go_at_call 50;exact quiet_left (s_in _ _ _ _)))
     go_wp2_with fail
     go_ret
     refine ⟨ret_bool ?_,below_drewN b03 _⟩
     rw [HC.out,<- HX.out,HS.out,HB.out,H1.out];simp
    ·have H1:=zH h1
     cases h2:hasI (zs.take j) x
     ·have H2:=zH h2
      go_wp2_with fail
      go_quiet (first | (go_at_call 50;exact quiet_left (s_in _ _ _ _)) | (go_at_call 51;exact quiet_left (s_hasI _ _ _ (zs.take j) _ _ RH.out (by omega))))
      go_wp2_with fail
      go_roundg (gk - 1)
      case measure=>omega
      case rel=>exact ⟨j+1,by omega,by go_num,by rw [<- HX.out,HS.out,HB.out,H1.out,H2.out];rfl,below_drewN hb _⟩
     ·have H2:=zH h2
      go_wp2_with fail
      go_quiet (first | (go_at_call 50;exact quiet_left (s_in _ _ _ _)) | (go_at_call 51;exact quiet_left (s_hasI _ _ _ (zs.take j) _ _ RH.out (by omega))))
      go_wp2_with fail
      go_ret
      refine ⟨ret_bool ?_,below_drewN b03 _⟩
      rw [HC.out,<- HX.out,HS.out,HB.out,H1.out,H2.out];simp
   ·have hg0:decide (ar<=j)=true:=by simp;omega
    have hg1:decide (j < ar)=false:=by simp;omega
    have HB:Hid (badQ ar (wrap64 (n - 1)) j (zs.take j) x = !(x == 0)):=zH (by unfold badQ;rw [if_neg (by omega)])
    cases h1:(x == 0)
    ·have H1:=zH h1
     have h2:(x != 0)=true:=by simp [bne,h1]
     go_wp2_with fail
     go_quiet (fail)
     go_wp2_with fail
     go_ret
     refine ⟨ret_bool ?_,below_drewN b03 _⟩
     rw [HC.out,<- HX.out,HS.out,HB.out,H1.out];simp
    ·have H1:=zH h1
     have h2:(x != 0)=false:=by simp [bne,h1]
     go_wp2_with fail
     go_quiet (fail)
     go_wp2_with fail
     go_roundg (gk - 1)
     case measure=>omega
     case rel=>exact ⟨j+1,by omega,by go_num,by rw [<- HX.out,HS.out,HB.out,H1.out];rfl,below_drewN hb _⟩
  ·have HE:Hid (R=true):=zH (by rw [<- HX.out,List.drop_eq_nil_of_le (by omega)];rfl)
   by_cases h0:0 < ar
   ·have hg0:decide ((ar:Int) > 0)=true:=by simp;omega
    go_wp2_with fail
    refine (s_in _ _ _ _).mono ?_
    rintro e w' ⟨rfl,rfl⟩
    go_wp2_with fail
    go_ret
    refine ⟨ret_bool ?_,b03⟩
    rw [HC.out,HE.out];simp [h0]
   ·have hg0:decide ((ar:Int) > 0)=false:=by simp;omega
    go_wp2_with fail
    go_ret
    refine ⟨ret_bool ?_,b03⟩
    rw [HC.out];simp [h0]
set_option maxRecDepth 100000 in
theorem i_IsValidGate (k a b c n:Int) (w:World):Calls Tryz.prog 39 #[.agg #[.int .i64 k,.int .i64 a,.int .i64 b,.int .i64 c],.int .i64 n] w fun e w'=>e=.returned (.bool (okG k a b c n))/\Below w.heap.size w w':=by
 have hbd:=arity_bd k
 obtain ⟨ar,har⟩:∃ ar:Nat,arity k=ar:=⟨(arity k).toNat,by omega⟩
 have HAR:=zH har
 have har4:ar<=3:=by omega
 obtain ⟨R,hR⟩:∃ R,okQ ar (wrap64 (n - 1)) [] [a,b,c]=R:=⟨_,rfl⟩
 have HC:Hid (okG k a b c n=(inB n 1 4 && (decide (0 < ar) && R))):=zH (by
  unfold okG
  cases hin:inB n 1 4
  ·simp
  ·have:1<=n/\n<=4:=by rcases inB_casesQ n 1 4 with ⟨_,h⟩ | ⟨h,_⟩<;>simp_all
   have e1:wrap64 (n - 1)=n - 1:=by unfold wrap64;omega
   rw [<- hR,e1,har]
   simp)
 have X0:=zH (Bx.new w 39 #[.int .i64 k,.int .i64 a,.int .i64 b,.int .i64 c])
 obtain ⟨zs,hz⟩:∃ zs:List Int,[a,b,c]=zs:=⟨_,rfl⟩
 have hzl:zs.length=3:=by rw [<- hz];rfl
 have HZ:=zH hz
 rw [hz] at hR
 have HR:=zH hR
 clear har hbd hR hz
 cases hn0:inB n 1 4
 ·have HN:=zH hn0
  clear hn0
  go_enter Tryz.func39,Tryz.ntmps39
  go_wp2_with fail
  refine (i_in _ _ _ _).mono ?_
  rintro e w' ⟨rfl,rfl⟩
  rw [HN.out]
  go_wp2_with fail
  go_ret
  refine ⟨ret_bool ?_,(zW).alloc zR _⟩
  rw [HC.out,HN.out];rfl
 ·have HN:=zH hn0
  clear hn0
  obtain ⟨p0,p1,p2,p3,_⟩:=X0.out.four
  by_cases h0:ar=0
  ·have h0':((ar:Int) == 0)=true:=by simp [h0]
   go_enter Tryz.func39,Tryz.ntmps39
   go_wp2_with fail
   refine (i_in _ _ _ _).mono ?_
   rintro e w' ⟨rfl,rfl⟩
   rw [HN.out]
   go_wp2_with fail
   refine (i_Arity _ _).mono ?_
   rintro e w' ⟨rfl,rfl⟩
   rw [HAR.out]
   go_wp2_with fail
   go_ret
   refine ⟨ret_bool ?_,(zW).alloc zR _⟩
   rw [HC.out,h0];simp
  ·have h0':((ar:Int) == 0)=false:=by simp [h0]
   have hmk:=run_makeMap_plain (P:=Tryz.prog) (w:=(w.alloc (.cells #[.int .i64 k,.int .i64 a,.int .i64 b,.int .i64 c] 39)).alloc (.cells #[.int .i64 a,.int .i64 b,.int .i64 c] 3)) 78
   go_enter Tryz.func39,Tryz.ntmps39
   go_wp2_with fail
   refine (i_in _ _ _ _).mono ?_
   rintro e w' ⟨rfl,rfl⟩
   rw [HN.out]
   go_wp2_with fail
   refine (i_Arity _ _).mono ?_
   rintro e w' ⟨rfl,rfl⟩
   rw [HAR.out]
   go_wp2_with fail
   clear p0 p1 p2 p3
   go_loopg [28] 3 (fun m i wr=>∃ (j:Nat) (es:Array MapEntry) (clock:Nat),j+m=3/\i=.int .i64 j/\okQ ar (wrap64 (n - 1)) (zs.take j) (zs.drop j)=R/\(j<=ar->EntsI es.toList (zs.take j))/\wr.heap[w.heap.size+1+1]? = some (.map es clock)/\Bx wr w.heap.size 39 #[.int .i64 k,.int .i64 a,.int .i64 b,.int .i64 c]/\Bx wr (w.heap.size+1) 3 #[.int .i64 a,.int .i64 b,.int .i64 c]/\Below w.heap.size w wr)
   case atStart =>
    refine ⟨0,#[],0,by omega,rfl,by simpa using HR.out,fun _=>by simp [EntsI],?_,((Bx.new w _ _).alloc _).alloc _,(Bx.new' (by simp)).alloc _,(((zW).alloc zR _).alloc (by simp) _).alloc (by simp<;>omega) _⟩
    have:=heap_alloc_new ((w.alloc (.cells #[.int .i64 k,.int .i64 a,.int .i64 b,.int .i64 c] 39)).alloc (.cells #[.int .i64 a,.int .i64 b,.int .i64 c] 3)) (.map #[] 0)
    simpa using this
   case round =>
    clear hmk
    obtain ⟨j,es,clock,hj,rfl,hok,hents,hmap,hx,hy,hb⟩:=hrel
    have HO:=zH hok
    have HE:=zH hents
    have HX:=zH hx
    have HY:=zH hy
    have HMp:=zH hmap
    have hs0:=hb.size
    clear hok hents hx hy hmap
    obtain ⟨p0,p1,p2,p3,_⟩:=HX.out.four
    have hrlt:w.heap.size+1+1 < wr.heap.size:=(Array.getElem?_eq_some_iff.1 HMp.out).1
    have RZ:RdI wr (some ⟨w.heap.size+1,0,none⟩) 3 zs:=by
     have:=HY.out.rdI (zs:=[a,b,c]) rfl
     rw [HZ.out] at this
     rw [hzl] at this
     exact this
    by_cases hlt:j < 3
    ·obtain ⟨bb,off,x,hA,hB,hd,c0⟩:=RZ.at_ hlt
     injection hA with hA
     injection hA with hA1 hA2 _
     subst hA1 hA2
     rw [Nat.zero_add] at c0
     have HS:=zH (okQ_step (ar:=ar) (m:=wrap64 (n - 1)) hd)
     have HD:=zH hd
     clear hd RZ
     by_cases hja:j < ar
     ·have HB:Hid (badQ ar (wrap64 (n - 1)) j (zs.take j) x=((!inB x 0 (wrap64 (n - 1))) || hasI (zs.take j) x)):=zH (by unfold badQ;rw [if_pos (by omega)])
      cases h1:inB x 0 (wrap64 (n - 1))
      ·have H1:=zH h1
       clear h1
       go_wp2_with fail
       refine (i_Arity _ _).mono ?_
       rintro e w' ⟨rfl,rfl⟩
       rw [HAR.out]
       go_wp2_with fail
       refine (i_in _ _ _ _).mono ?_
       rintro e w' ⟨rfl,rfl⟩
       rw [H1.out]
       go_wp2_with fail
       go_ret
       refine ⟨ret_bool ?_,hb⟩
       rw [HC.out,<- HO.out,HS.out,HB.out,H1.out];simp
      ·have H1:=zH h1
       clear h1
       cases h2:hasI (zs.take j) x
       ·have H2:=zH h2
        have hl:(Instr.lookup 78 (.map (some (w.heap.size+1+1))) (.int .i64 x) false).run Tryz.prog wr=.ok (.bool false) wr:=by
         have:=run_lookup_i (w.heap.size+1+1) clock x es (zs.take j) wr HMp.out (HE.out (by omega))
         rw [show (zs.take j).any (· == x)=false from h2] at this
         exact this
        have hu:(Instr.mapUpdate 78 (.map (some (w.heap.size+1+1))) (.int .i64 x) (.bool true)).run Tryz.prog wr=.ok () _:=run_update_i (w.heap.size+1+1) clock x es (zs.take j) wr HMp.out (HE.out (by omega)) h2
        clear h2
        go_wp2_with fail
        refine (i_Arity _ _).mono ?_
        rintro e w' ⟨rfl,rfl⟩
        rw [HAR.out]
        go_wp2_with fail
        refine (i_in _ _ _ _).mono ?_
        rintro e w' ⟨rfl,rfl⟩
        rw [H1.out]
        go_wp2_with fail
        go_roundg (gk - 1)
        case measure=>omega
        case rel =>
         refine ⟨j+1,_,_,by omega,by go_num,?_,?_,map_setObjI HMp.out,HX.out.setObjI (by omega) _,HY.out.setObjI (by omega) _,below_setObjI hb (by omega) _⟩
         ·rw [<- HO.out,HS.out,HB.out,H1.out,H2.out];rfl
         ·intro _
          rw [take_snocI HD.out];exact (HE.out (by omega)).push x clock
       ·have H2:=zH h2
        have hl:(Instr.lookup 78 (.map (some (w.heap.size+1+1))) (.int .i64 x) false).run Tryz.prog wr=.ok (.bool true) wr:=by
         have:=run_lookup_i (w.heap.size+1+1) clock x es (zs.take j) wr HMp.out (HE.out (by omega))
         rw [show (zs.take j).any (· == x)=true from h2] at this
         exact this
        clear h2
        go_wp2_with fail
        refine (i_Arity _ _).mono ?_
        rintro e w' ⟨rfl,rfl⟩
        rw [HAR.out]
        go_wp2_with fail
        refine (i_in _ _ _ _).mono ?_
        rintro e w' ⟨rfl,rfl⟩
        rw [H1.out]
        go_wp2_with fail
        go_ret
        refine ⟨ret_bool ?_,hb⟩
        rw [HC.out,<- HO.out,HS.out,HB.out,H1.out,H2.out];simp
     ·have HB:Hid (badQ ar (wrap64 (n - 1)) j (zs.take j) x = !(x == 0)):=zH (by unfold badQ;rw [if_neg (by omega)])
      cases h1:(x == 0)
      ·have H1:=zH h1
       go_wp2_with fail
       refine (i_Arity _ _).mono ?_
       rintro e w' ⟨rfl,rfl⟩
       rw [HAR.out]
       go_wp2_with fail
       go_ret
       refine ⟨ret_bool ?_,hb⟩
       rw [HC.out,<- HO.out,HS.out,HB.out,H1.out];simp
      ·have H1:=zH h1
       go_wp2_with fail
       refine (i_Arity _ _).mono ?_
       rintro e w' ⟨rfl,rfl⟩
       rw [HAR.out]
       go_wp2_with fail
       go_roundg (gk - 1)
       case measure=>omega
       case rel =>
        refine ⟨j+1,es,clock,by omega,by go_num,?_,fun hh=>absurd hh (by omega),HMp.out,HX.out,HY.out,hb⟩
        rw [<- HO.out,HS.out,HB.out,H1.out];rfl
    ·have HE:Hid (R=true):=zH (by rw [<- HO.out,List.drop_eq_nil_of_le (by omega)];rfl)
     go_wp2_with fail
     go_ret
     refine ⟨ret_bool ?_,hb⟩
     rw [HC.out,HE.out,HN.out];simp;omega
def bitB (i q:Nat):Bool:=i / 2 ^ q % 2 == 1
end Go.Proofs.YtmenmibfkojnoaaGreat
namespace Go.Proofs.YtmenmibfkojnoaaGreat
open Go.RowKit
set_option linter.unusedVariables false
end Go.Proofs.YtmenmibfkojnoaaGreat
namespace Go.Proofs.YtmenmibfkojnoaaGreat
open Go.RowKit
set_option linter.unusedVariables false
end Go.Proofs.YtmenmibfkojnoaaGreat
namespace Go.Proofs.YtmenmibfkojnoaaGreat
open Go.RowKit
set_option linter.unusedVariables false
structure Pq where
 x:Nat
 z:Nat
 p:Nat
 deriving DecidableEq
def popQ (k:Nat):Nat:=k % 2+k / 2 % 2+k / 4 % 2+k / 8 % 2
def okQn (n:Nat) (a:Pq):Bool:=decide (a.x < 2 ^ n) && (decide (a.z < 2 ^ n) && decide (a.p < 4))
def mulQ (a b:Pq):Pq:=⟨a.x ^^^ b.x,a.z ^^^ b.z,(a.p+b.p+2 * popQ (a.z &&& b.x)) % 4⟩
def comQ (a b:Pq):Bool:=(popQ (a.x &&& b.z)+popQ (a.z &&& b.x)) % 2 == 0
def herQ (a:Pq):Bool:=(a.p+popQ (a.x &&& a.z)) % 2 == 0
def xQ (q:Nat):Pq:=⟨2 ^ q,0,0⟩
def zQ (q:Nat):Pq:=⟨0,2 ^ q,0⟩
def actsQ (g:Gt) (q:Nat):Bool:=g.a == (q:Int) || (arity g.k == 2 && g.b == (q:Int))
def imX (g:Gt) (q:Nat):Pq :=
 if actsQ g q=false then xQ q
 else if g.k=2 then ⟨2 ^ q,0,2⟩
 else if g.k=3 then ⟨2 ^ q,0,2⟩
 else if g.k=4 then zQ q
 else if g.k=5 then ⟨2 ^ q,2 ^ q,1⟩
 else if g.k=6 then ⟨2 ^ q,2 ^ q,3⟩
 else if g.k=9 then (if (q:Int)=g.a then ⟨2 ^ q ||| 2 ^ g.b.toNat,0,0⟩ else xQ q)
 else if g.k=10 then ⟨2 ^ q,2 ^ (g.a+g.b - q).toNat,0⟩
 else if g.k=11 then xQ (g.a+g.b - q).toNat
 else xQ q
def imZ (g:Gt) (q:Nat):Pq :=
 if actsQ g q=false then zQ q
 else if g.k=1 then ⟨0,2 ^ q,2⟩
 else if g.k=2 then ⟨0,2 ^ q,2⟩
 else if g.k=4 then xQ q
 else if g.k=9 then (if (q:Int)=g.b then ⟨0,2 ^ q ||| 2 ^ g.a.toNat,0⟩ else zQ q)
 else if g.k=11 then zQ (g.a+g.b - q).toNat
 else zQ q
def conjStep (g:Gt) (a o:Pq) (q:Nat):Pq :=
 let o1:=if bitB a.x q=true then mulQ o (imX g q) else o
 if bitB a.z q=true then mulQ o1 (imZ g q) else o1
def conjL (g:Gt) (a:Pq):List Nat->Pq->Pq
 |[],o=>o
 |q :: r,o=>conjL g a r (conjStep g a o q)
def conjQ (n:Nat) (g:Gt) (a:Pq):Pq:=conjL g a (List.range n) ⟨0,0,a.p⟩
theorem okQn_iff {n:Nat} {a:Pq}:okQn n a=true ↔ a.x < 2 ^ n/\a.z < 2 ^ n/\a.p < 4:=by
 unfold okQn
 simp only [Bool.and_eq_true,decide_eq_true_eq]
def okT (n:Nat) (r:List Pq):Prop:=r.length=2 * n/\(∀ a ∈ r,okQn n a=true/\herQ a=true)/\∀ i k a b,i < k->r[i]? = some a->r[k]? = some b->comQ a b = !(decide (k=i+n))
def appT (n:Nat) (g:Gt) (r:List Pq):List Pq:=r.map (conjQ n g)
def idT (n:Nat):List Pq:=((List.range n).map xQ)++(List.range n).map zQ
def runT (n:Nat):List Gt->List Pq->List Pq
 |[],r=>r
 |g :: l,r=>runT n l (appT n g r)
end Go.Proofs.YtmenmibfkojnoaaGreat
