/- Contracts of NormalFormGates (spec and impl), for valid normal forms. Contracts of RunCost (spec and impl). -/
import Derived.Test.YtmenmibfkojnoaaGreatV43
set_option maxHeartbeats 16000000
namespace Go.Proofs.YtmenmibfkojnoaaGreat
open Go.RowKit
set_option linter.unusedVariables false
def sylW (l:List Nat):List Gt:=l.flatMap fun k=>rep k++[g1 7]
theorem sylW_snoc {s:List Nat} {k k1:Nat} (h:s[k]? = some k1):sylW (s.take (k+1))=sylW (s.take k)++rep k1++[g1 7]:=by
 rw [take_snocT h]
 unfold sylW
 rw [List.flatMap_append]
 simp
theorem sylW_len (l:List Nat):(sylW l).length<=3 * l.length:=by
 unfold sylW
 induction l with
 |nil=>simp
 |cons k r ih =>
  have:=(rep_ok k).2.1
  simp only [List.flatMap_cons,List.length_append,List.length_cons,List.length_nil] at ih ⊢
  omega
theorem nfW_eq (s:Nf):nfW s=sylW s.1++cw s.2:=rfl
set_option maxRecDepth 100000 in
theorem s_NfGates (m c d:Nat) (A D:Option Addr) (s:Nf) (w:World) (hs:RdI w A m (sylI s.1)) (hm:m<=1073741824) (ht:RdG w D 2 (pgs 1 s.2)) (hd:2<=d) (h1:okSyl s.1) (h2:okT 1 s.2) :
  Calls Tryz.prog 108 #[.agg #[.slice A m c,.int .i64 1,.slice D 2 d]] w (Ret 39 4 (cellsG (nfW s)) (nfW s).length w):=by
 have hz4:(Value.agg #[.int .i64 0,.int .i64 0,.int .i64 0,.int .i64 0]).cells.size=4:=rfl
 have HS:=zH hs
 have HT:=zH ht
 have HO:=zH h2
 have HY:=zH h1
 have HL:=zH (sylI_len' s hs)
 have OKC:=zH (cw_ok h2)
 have X0:=zH (show Bx ((w.alloc (.cells #[.slice A m c,.int .i64 1,.slice D 2 d] 100)).alloc (.cells #[] 39)) w.heap.size 100 _ from (Bx.new w _ _).alloc _)
 have B0:=zH (show Below w.heap.size w ((w.alloc (.cells #[.slice A m c,.int .i64 1,.slice D 2 d] 100)).alloc (.cells #[] 39)) from ((zW).alloc zR _).alloc (by simp) _)
 have O0:=zH (show ((w.alloc (.cells #[.slice A m c,.int .i64 1,.slice D 2 d] 100)).alloc (.cells #[] 39)).ownsRow w.heap.size 39 4 (.slice (some ⟨w.heap.size+1,0,none⟩) 0 0) 0 (cellsG []) by
  have:=World.ownsRow_lit (base:=w.heap.size) (e:=39) (size:=4) (w.alloc (.cells #[.slice A m c,.int .i64 1,.slice D 2 d] 100)) #[] 0 (by simp) (by simp [maxLen]) rfl
  rw [World.size_alloc] at this
  exact this)
 clear hs ht h1 h2
 obtain ⟨x0,x1,x2,_⟩:=X0.out.three
 go_enter Tryz.func108,Tryz.ntmps108
 go_wp2_with fail
 refine (s_IsNf m c d A D s _ (HS.out.below B0.out) hm (HT.out.below B0.out) hd HY.out HO.out).mono ?_
 rintro e w2 ⟨rfl,b2⟩
 have X2:=zH (X0.out.below b2)
 have B2:=zH (B0.out.trans (b2.mono B0.out.size))
 have O2:=zH (ownsRow_below O0.out b2)
 clear b2 X0 B0 O0 x0 x1 x2
 obtain ⟨x0,x1,x2,_⟩:=X2.out.three
 go_wp2_with fail
 go_loopg [3,4] m (fun g v3 i wr=>∃ (k:Nat) (A3:Option Addr) (c3:Nat) (L:List Gt),k+g=m/\i=.int .i64 (k:Nat)/\v3=.slice A3 L.length c3/\sylW (s.1.take k)=L/\wr.ownsRow w.heap.size 39 4 (.slice A3 L.length c3) L.length (cellsG L)/\Bx wr w.heap.size 100 #[.slice A m c,.int .i64 1,.slice D 2 d]/\Below w.heap.size w wr)
 case atStart=>exact ⟨0,_,0,[],by omega,rfl,rfl,rfl,O2.out,X2.out,B2.out⟩
 case round =>
  clear O2 X2 B2 x0 x1 x2
  obtain ⟨k,A3,c3,L,hk,rfl,rfl,hLL,hO,hX,hB⟩:=hrel
  have HLL:=zH hLL
  have O3:=zH hO
  have X3:=zH hX
  have B3:=zH hB
  have l3:=hB.size
  have hLk:L.length<=3 * k:=by
   have:=sylW_len (s.1.take k)
   rw [hLL,List.length_take] at this
   omega
  clear hLL hO hX hB
  obtain ⟨x0,x1,x2,_⟩:=X3.out.three
  by_cases hlt:k < m
  ·obtain ⟨k1,hk1⟩:=get_lt (l:=s.1) (k:=k) (by rw [HL.out];exact hlt)
   have hk2:k1<=2:=(HY.out k k1 hk1).1
   have hk3:=(rep_ok k1).2.1
   have HSN:=zH (show sylW (s.1.take (k+1))=L++rep k1++[g1 7] by rw [sylW_snoc hk1,HLL.out])
   obtain ⟨b,off,rfl,hbl,hc⟩:=(HS.out.below B3.out).2.2 (by omega)
   have y0:=hc k _ (sylI_at hk1)
   have kn:(k:Int) < (m:Int):=by omega
   have k0:(0:Int)<=(k:Int):=by omega
   clear hk1 hc
   go_wp2_with fail
   refine (s_Rep' k1 _ hk2).mono ?_
   rintro e w4 ⟨A4,c4,rfl,o4,b4⟩
   have O4:=zH (ownsRow_below O3.out b4)
   have X4:=zH (X3.out.below b4)
   have B4:=zH (B3.out.trans (b4.mono l3))
   have P4:=zH (RdG.own o4)
   have l4:=B4.out.size
   clear o4 b4 O3 X3 B3 x0 x1 x2 y0
   go_wp2_with (at_builtin;refine wpList_app rfl (.tmp 19) (.tmp 25) 24 rfl Tryz.underlying24 infoGate hz4 (by decide) rfl O4.out rfl P4.out.2 one_cellsG (by omega) (by decide) l4 ?_;intro A5 c5 w5 o5 g5;have B5:=zH (below_grown B4.out l4 O4.out zR g5);have X5:=zH (kept_app O4.out g5 X4.out (by decide));have O5:=zH o5;clear o5 g5)
   refine (s_one _ _ _).mono ?_
   rintro e w6 ⟨rfl,b6⟩
   have l5:=B5.out.size
   have O6:=zH ((ownsRow_below O5.out b6).alloc (.cells #[.int .i64 7,.int .i64 0,.int .i64 0,.int .i64 0] 39))
   have X6:=zH ((X5.out.below b6).alloc (.cells #[.int .i64 7,.int .i64 0,.int .i64 0,.int .i64 0] 39))
   have B6:=zH ((B5.out.trans (b6.mono l5)).alloc (Nat.le_trans l5 b6.size) (.cells #[.int .i64 7,.int .i64 0,.int .i64 0,.int .i64 0] 39))
   have l6:=B6.out.size
   clear b6 O4 P4 X4 B4 O5 X5 B5
   go_wp2_with (at_builtin;refine wpList_app rfl (.tmp 26) (.tmp 28) 24 rfl Tryz.underlying24 infoGate hz4 (by decide) rfl O6.out rfl (Rd.lit w6 39 #[.int .i64 7,.int .i64 0,.int .i64 0,.int .i64 0] 1 4 rfl) (by simp [Value.oneCell']) (by omega) (by decide) l6 ?_;intro A7 c7 w7 o7 g7;have B7:=zH (below_grown B6.out l6 O6.out zR g7);have X7:=zH (kept_app O6.out g7 X6.out (by decide));have O7:=zH o7;clear o7 g7)
   go_roundg (gk - 1)
   case measure=>omega
   case rel =>
    refine ⟨k+1,A7,c7,L++rep k1++[g1 7],by omega,by go_num,by simp [Nat.add_assoc],HSN.out,?_,X7.out,B7.out⟩
    have:=O7.out
    simp only [List.length_append,List.length_cons,List.length_nil,cellsG_append] at this ⊢
    exact this
  ·obtain rfl:k=m:=by omega
   have HF:=zH (show sylW s.1=L by rw [<- HLL.out,List.take_of_length_le (by rw [HL.out];exact zR)])
   have hc4:=OKC.out.1
   go_wp2_with fail
   refine (s_Word d D s.2 _ (HT.out.below B3.out) HO.out).mono ?_
   rintro e w4 ⟨A4,c4,rfl,o4,b4⟩
   have O4:=zH (ownsRow_below O3.out b4)
   have B4:=zH (B3.out.trans (b4.mono l3))
   have P4:=zH (RdG.own o4)
   have l4:=B4.out.size
   clear o4 b4 O3 X3 B3 x0 x1 x2
   go_wp2_with (at_builtin;refine wpList_app rfl (.tmp 36) (.tmp 37) 24 rfl Tryz.underlying24 infoGate hz4 (by decide) rfl O4.out rfl P4.out.2 one_cellsG (by omega) (by decide) l4 ?_;intro A5 c5 w5 o5 g5;have B5:=zH (below_grown B4.out l4 O4.out zR g5);have O5:=zH o5;clear o5 g5)
   go_ret
   refine ⟨A5,c5,?_,?_,B5.out⟩
   ·rw [nfW_eq,HF.out,List.length_append];rfl
   ·rw [nfW_eq,HF.out,List.length_append,cellsG_append]
    exact O5.out
set_option maxRecDepth 100000 in
theorem i_NfGates (m c d:Nat) (A D:Option Addr) (s:Nf) (w:World) (hs:RdI w A m (sylI s.1)) (hm:m<=1073741824) (ht:RdG w D 2 (pgs 1 s.2)) (hd:2<=d) (h1:okSyl s.1) (h2:okT 1 s.2) :
  Calls Tryz.prog 87 #[.agg #[.slice A m c,.int .i64 1,.slice D 2 d]] w (Ret 39 4 (cellsG (nfW s)) (nfW s).length w):=by
 have hz4:(Value.agg #[.int .i64 0,.int .i64 0,.int .i64 0,.int .i64 0]).cells.size=4:=rfl
 have HS:=zH hs
 have HT:=zH ht
 have HO:=zH h2
 have HY:=zH h1
 have HL:=zH (sylI_len' s hs)
 have OKC:=zH (cw_ok h2)
 have X0:=zH (Bx.new w 100 #[.slice A m c,.int .i64 1,.slice D 2 d])
 have B0:=zH (show Below w.heap.size w (w.alloc (.cells #[.slice A m c,.int .i64 1,.slice D 2 d] 100)) from (zW).alloc zR _)
 clear hs ht h1 h2
 obtain ⟨x0,x1,x2,_⟩:=X0.out.three
 go_enter Tryz.func87,Tryz.ntmps87
 go_wp2_with fail
 refine (i_IsNf m c d A D s _ (HS.out.below B0.out) hm (HT.out.below B0.out) hd HY.out HO.out).mono ?_
 rintro e w2 ⟨rfl,b2⟩
 have X2:=zH ((X0.out.below b2).alloc (.cells #[] 39))
 have B2:=zH ((B0.out.trans (b2.mono B0.out.size)).alloc (Nat.le_trans B0.out.size b2.size) (.cells #[] 39))
 have O2:=zH (World.ownsRow_lit (base:=w.heap.size) (e:=39) (size:=4) w2 #[] 0 (Nat.le_trans B0.out.size b2.size) (by simp [maxLen]) rfl)
 clear b2 X0 B0 x0 x1 x2
 obtain ⟨x0,x1,x2,_⟩:=X2.out.three
 go_wp2_with fail
 go_loopg [3,15] m (fun g v3 i wr=>∃ (k:Nat) (A3:Option Addr) (c3:Nat) (L:List Gt),k+g=m/\i=.int .i64 (k:Nat)/\v3=.slice A3 L.length c3/\sylW (s.1.take k)=L/\wr.ownsRow w.heap.size 39 4 (.slice A3 L.length c3) L.length (cellsG L)/\Bx wr w.heap.size 100 #[.slice A m c,.int .i64 1,.slice D 2 d]/\Below w.heap.size w wr)
 case atStart=>exact ⟨0,_,0,[],by omega,rfl,rfl,rfl,O2.out,X2.out,B2.out⟩
 case round =>
  clear O2 X2 B2 x0 x1 x2
  obtain ⟨k,A3,c3,L,hk,rfl,rfl,hLL,hO,hX,hB⟩:=hrel
  have HLL:=zH hLL
  have O3:=zH hO
  have X3:=zH hX
  have B3:=zH hB
  have l3:=hB.size
  have hLk:L.length<=3 * k:=by
   have:=sylW_len (s.1.take k)
   rw [hLL,List.length_take] at this
   omega
  clear hLL hO hX hB
  obtain ⟨x0,x1,x2,_⟩:=X3.out.three
  by_cases hlt:k < m
  ·obtain ⟨k1,hk1⟩:=get_lt (l:=s.1) (k:=k) (by rw [HL.out];exact hlt)
   have hk2:k1<=2:=(HY.out k k1 hk1).1
   have hk3:=(rep_ok k1).2.1
   have HSN:=zH (show sylW (s.1.take (k+1))=L++rep k1++[g1 7] by rw [sylW_snoc hk1,HLL.out])
   obtain ⟨b,off,rfl,hbl,hc⟩:=(HS.out.below B3.out).2.2 (by omega)
   have y0:=hc k _ (sylI_at hk1)
   have kn:(k:Int) < (m:Int):=by omega
   have k0:(0:Int)<=(k:Int):=by omega
   clear hk1 hc
   go_wp2_with fail
   refine (i_Rep' k1 _ hk2).mono ?_
   rintro e w4 ⟨A4,c4,rfl,o4,b4⟩
   have O4:=zH (ownsRow_below O3.out b4)
   have X4:=zH (X3.out.below b4)
   have B4:=zH (B3.out.trans (b4.mono l3))
   have P4:=zH (RdG.own o4)
   have l4:=B4.out.size
   clear o4 b4 O3 X3 B3 x0 x1 x2 y0
   go_wp2_with (at_builtin;refine wpList_app rfl (.tmp 19) (.tmp 21) 24 rfl Tryz.underlying24 infoGate hz4 (by decide) rfl O4.out rfl P4.out.2 one_cellsG (by omega) (by decide) l4 ?_;intro A5 c5 w5 o5 g5;have B5:=zH (below_grown B4.out l4 O4.out zR g5);have X5:=zH (kept_app O4.out g5 X4.out (by decide));have O5:=zH o5;clear o5 g5)
   refine (i_one _ _ _).mono ?_
   rintro e w6 ⟨rfl,b6⟩
   have l5:=B5.out.size
   have O6:=zH ((ownsRow_below O5.out b6).alloc (.cells #[.int .i64 7,.int .i64 0,.int .i64 0,.int .i64 0] 39))
   have X6:=zH ((X5.out.below b6).alloc (.cells #[.int .i64 7,.int .i64 0,.int .i64 0,.int .i64 0] 39))
   have B6:=zH ((B5.out.trans (b6.mono l5)).alloc (Nat.le_trans l5 b6.size) (.cells #[.int .i64 7,.int .i64 0,.int .i64 0,.int .i64 0] 39))
   have l6:=B6.out.size
   clear b6 O4 P4 X4 B4 O5 X5 B5
   go_wp2_with (at_builtin;refine wpList_app rfl (.tmp 22) (.tmp 24) 24 rfl Tryz.underlying24 infoGate hz4 (by decide) rfl O6.out rfl (Rd.lit w6 39 #[.int .i64 7,.int .i64 0,.int .i64 0,.int .i64 0] 1 4 rfl) (by simp [Value.oneCell']) (by omega) (by decide) l6 ?_;intro A7 c7 w7 o7 g7;have B7:=zH (below_grown B6.out l6 O6.out zR g7);have X7:=zH (kept_app O6.out g7 X6.out (by decide));have O7:=zH o7;clear o7 g7)
   go_roundg (gk - 1)
   case measure=>omega
   case rel =>
    refine ⟨k+1,A7,c7,L++rep k1++[g1 7],by omega,by go_num,by simp [Nat.add_assoc],HSN.out,?_,X7.out,B7.out⟩
    have:=O7.out
    simp only [List.length_append,List.length_cons,List.length_nil,cellsG_append] at this ⊢
    exact this
  ·obtain rfl:k=m:=by omega
   have HF:=zH (show sylW s.1=L by rw [<- HLL.out,List.take_of_length_le (by rw [HL.out];exact zR)])
   have hc4:=OKC.out.1
   go_wp2_with fail
   refine (i_Word d D s.2 _ (HT.out.below B3.out) HO.out).mono ?_
   rintro e w4 ⟨A4,c4,rfl,o4,b4⟩
   have O4:=zH (ownsRow_below O3.out b4)
   have B4:=zH (B3.out.trans (b4.mono l3))
   have P4:=zH (RdG.own o4)
   have l4:=B4.out.size
   clear o4 b4 O3 X3 B3 x0 x1 x2
   go_wp2_with (at_builtin;refine wpList_app rfl (.tmp 33) (.tmp 34) 24 rfl Tryz.underlying24 infoGate hz4 (by decide) rfl O4.out rfl P4.out.2 one_cellsG (by omega) (by decide) l4 ?_;intro A5 c5 w5 o5 g5;have B5:=zH (below_grown B4.out l4 O4.out zR g5);have O5:=zH o5;clear o5 g5)
   go_ret
   refine ⟨A5,c5,?_,?_,B5.out⟩
   ·rw [nfW_eq,HF.out,List.length_append];rfl
   ·rw [nfW_eq,HF.out,List.length_append,cellsG_append]
    exact O5.out
theorem costR_step {l:List Gt} {k:Nat} {g:Gt} (hd:l.drop k=g :: l.drop (k+1)):costR (l.drop k)=(if g.k=7 ∨ g.k=8 then 100 else 1)+costR (l.drop (k+1)):=by rw [hd];rfl
theorem costR_nil {l:List Gt} {k:Nat} (h:l.length<=k):costR (l.drop k)=0:=by rw [List.drop_eq_nil_of_le h];rfl
theorem costR_bd:∀ l:List Gt,l.length<=costR l/\costR l<=100 * l.length
 |[]=>⟨zR,zR⟩
 |g :: r=>by
  have:=costR_bd r
  rw [costR,List.length_cons]
  split<;>omega
theorem s_RunCost (A:Option Addr) (n cap:Nat) (gs:List Gt) (w:World) (h:RdG w A n gs) (hn:n<=1099511627776) :
  Calls Tryz.prog 109 #[.slice A n cap] w fun e w'=>e=.returned (.int .i64 (costR gs:Nat))/\Below w.heap.size w w':=by
 have H:=zH h
 clear h
 go_enter Tryz.func109,Tryz.ntmps109
 go_wp2_with fail
 go_loopg [3,4] n (fun m s i wr=>∃ (k:Nat) (x:Nat),k+m=n/\i=.int .i64 k/\s=.int .i64 x/\x<=100 * k/\x+costR (gs.drop k)=costR gs/\Below w.heap.size w wr)
 case atStart=>exact ⟨0,0,by omega,rfl,rfl,by omega,by simp,zW⟩
 case round =>
  obtain ⟨k,x,hk,rfl,rfl,h1,hx,hb⟩:=hrel
  have HX:=zH hx
  have HB:=zH hb
  clear hx
  by_cases hlt:k < n
  ·obtain ⟨b,off,g,rfl,hB,hd,c0,c1,c2,c3⟩:=(H.out.below hb).at_ hlt
   have HC:=zH (costR_step hd)
   have kn:(k:Int) < (n:Int):=by omega
   clear hd hb
   by_cases h7:g.k=7
   ·have h7':(g.k == 7)=true:=by simpa using h7
    have HC2:=zH (show costR (gs.drop k)=100+costR (gs.drop (k+1)) by rw [HC.out,if_pos (Or.inl h7)])
    clear h7 HC
    go_wp2_with fail
    go_roundg (gk - 1)
    case measure=>omega
    case rel =>
     have:=HX.out
     rw [HC2.out] at this
     exact ⟨k+1,x+100,by omega,by go_num,by go_num,by omega,by omega,HB.out⟩
   ·have h7':(g.k == 7)=false:=by simpa using h7
    by_cases h8:g.k=8
    ·have h8':(g.k == 8)=true:=by simpa using h8
     have HC2:=zH (show costR (gs.drop k)=100+costR (gs.drop (k+1)) by rw [HC.out,if_pos (Or.inr h8)])
     clear h7 h8 HC
     go_wp2_with fail
     go_roundg (gk - 1)
     case measure=>omega
     case rel =>
      have:=HX.out
      rw [HC2.out] at this
      exact ⟨k+1,x+100,by omega,by go_num,by go_num,by omega,by omega,HB.out⟩
    ·have h8':(g.k == 8)=false:=by simpa using h8
     have HC2:=zH (show costR (gs.drop k)=1+costR (gs.drop (k+1)) by rw [HC.out,if_neg (by omega)])
     clear h7 h8 HC
     go_wp2_with fail
     go_roundg (gk - 1)
     case measure=>omega
     case rel =>
      have:=HX.out
      rw [HC2.out] at this
      exact ⟨k+1,x+1,by omega,by go_num,by go_num,by omega,by omega,HB.out⟩
  ·go_wp2_with fail
   go_ret
   have:=HX.out
   rw [costR_nil (by have:=H.out.1;omega)] at this
   exact ⟨ret_int (by omega),hb⟩
theorem i_RunCost (A:Option Addr) (n cap:Nat) (gs:List Gt) (w:World) (h:RdG w A n gs) (hn:n<=1099511627776) :
  Calls Tryz.prog 88 #[.slice A n cap] w fun e w'=>e=.returned (.int .i64 (costR gs:Nat))/\Below w.heap.size w w':=by
 have H:=zH h
 clear h
 go_enter Tryz.func88,Tryz.ntmps88
 go_wp2_with fail
 go_loopg [3,8] n (fun m s i wr=>∃ (k:Nat) (x:Nat),k+m=n/\i=.int .i64 k/\s=.int .i64 x/\x<=100 * k/\x+costR (gs.drop k)=costR gs/\Below w.heap.size w wr)
 case atStart=>exact ⟨0,0,by omega,rfl,rfl,by omega,by simp,zW⟩
 case round =>
  obtain ⟨k,x,hk,rfl,rfl,h1,hx,hb⟩:=hrel
  have HX:=zH hx
  have HB:=zH hb
  clear hx
  by_cases hlt:k < n
  ·obtain ⟨b,off,g,rfl,hB,hd,c0,c1,c2,c3⟩:=(H.out.below hb).at_ hlt
   have HC:=zH (costR_step hd)
   have kn:(k:Int) < (n:Int):=by omega
   have GA:=(Bx.new wr 39 #[.int .i64 g.k,.int .i64 g.a,.int .i64 g.b,.int .i64 g.c])
   obtain ⟨g0,g1',g2,g3,_⟩:=GA.four
   clear hd hb
   by_cases h7:g.k=7
   ·have h7':(g.k == 7)=true:=by simpa using h7
    have HC2:=zH (show costR (gs.drop k)=100+costR (gs.drop (k+1)) by rw [HC.out,if_pos (Or.inl h7)])
    clear h7 HC
    go_wp2_with fail
    go_roundg (gk - 1)
    case measure=>omega
    case rel =>
     have:=HX.out
     rw [HC2.out] at this
     exact ⟨k+1,x+100,by omega,by go_num,by go_num,by omega,by omega,(HB.out.alloc HB.out.size _)⟩
   ·have h7':(g.k == 7)=false:=by simpa using h7
    by_cases h8:g.k=8
    ·have h8':(g.k == 8)=true:=by simpa using h8
     have HC2:=zH (show costR (gs.drop k)=100+costR (gs.drop (k+1)) by rw [HC.out,if_pos (Or.inr h8)])
     clear h7 h8 HC
     go_wp2_with fail
     go_roundg (gk - 1)
     case measure=>omega
     case rel =>
      have:=HX.out
      rw [HC2.out] at this
      exact ⟨k+1,x+100,by omega,by go_num,by go_num,by omega,by omega,(HB.out.alloc HB.out.size _)⟩
    ·have h8':(g.k == 8)=false:=by simpa using h8
     have HC2:=zH (show costR (gs.drop k)=1+costR (gs.drop (k+1)) by rw [HC.out,if_neg (by omega)])
     clear h7 h8 HC
     go_wp2_with fail
     go_roundg (gk - 1)
     case measure=>omega
     case rel =>
      have:=HX.out
      rw [HC2.out] at this
      exact ⟨k+1,x+1,by omega,by go_num,by go_num,by omega,by omega,(HB.out.alloc HB.out.size _)⟩
  ·go_wp2_with fail
   go_ret
   have:=HX.out
   rw [costR_nil (by have:=H.out.1;omega)] at this
   exact ⟨ret_int (by omega),hb⟩
end Go.Proofs.YtmenmibfkojnoaaGreat
