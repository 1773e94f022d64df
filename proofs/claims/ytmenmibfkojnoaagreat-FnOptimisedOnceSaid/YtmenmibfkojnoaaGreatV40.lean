/- Contract of wordOf (impl), for words of Clifford gates of one qubit. -/
import Derived.Test.YtmenmibfkojnoaaGreatV39
set_option maxHeartbeats 16000000
namespace Go.Proofs.YtmenmibfkojnoaaGreat
open Go.RowKit
set_option linter.unusedVariables false
set_option maxRecDepth 100000 in
theorem i_wordOf (n c:Nat) (A:Option Addr) (ws:List (List Gt)) (vs:List Value) (w:World) (hl:ws.length=n) (hr:Rd w 1 A n vs) (hi:∀ (k:Nat) (x:List Gt),ws[k]? = some x->∃ D d,vs[k]? = some (.slice D x.length d)/\RdG w D x.length x)
  (h60:ws.flatten.length<=60) (hok:∀ g ∈ ws.flatten,okN 1 g=true/\cliff g.k=true) (hn:n<=1000):Calls Tryz.prog 201 #[.slice A n c] w (RetT2 (runT 1 ws.flatten (idT 1)) w):=by
 have hz4:(Value.agg #[.int .i64 0,.int .i64 0,.int .i64 0,.int .i64 0]).cells.size=4:=rfl
 have HR:=zH hr
 have HI:=zH hi
 have HL:=zH hl
 have HK:=zH hok
 have H6:=zH h60
 have HSUM:=zH (show ∀ k,k < n->((ws.take k).flatten).length+(ws.getD k []).length<=60/\(ws.take (k+1)).flatten=(ws.take k).flatten++ws.getD k [] from fun k hk=>by
  have e:ws.take (k+1)=ws.take k++[ws.getD k []]:=by
   rw [List.take_succ_eq_append_getElem (by omega),List.getD_eq_getElem?_getD,List.getElem?_eq_getElem (by omega)]
   rfl
  have e2:(ws.take (k+1)).flatten=(ws.take k).flatten++ws.getD k []:=by rw [e];simp
  refine ⟨?_,e2⟩
  have h3:ws.flatten.length=(ws.take (k+1)).flatten.length+(ws.drop (k+1)).flatten.length:=by
   rw [<- List.length_append,<- List.flatten_append,List.take_append_drop]
  rw [e2,List.length_append] at h3
  omega)
 have R0:=zH (show Bx ((w.alloc (.cells #[.int .i64 0,.slice none 0 0] 73)).alloc (.cells #[] 39)) w.heap.size 73 #[.int .i64 0,.slice none 0 0] from (Bx.new w _ _).alloc _)
 have B0:=zH (show Below w.heap.size w ((w.alloc (.cells #[.int .i64 0,.slice none 0 0] 73)).alloc (.cells #[] 39)) from ((zW).alloc zR _).alloc (by simp) _)
 have O0:=zH (show ((w.alloc (.cells #[.int .i64 0,.slice none 0 0] 73)).alloc (.cells #[] 39)).ownsRow w.heap.size 39 4 (.slice (some ⟨w.heap.size+1,0,none⟩) ([]:List Gt).length 0) ([]:List Gt).length (cellsG []) by
  have:=World.ownsRow_lit (base:=w.heap.size) (e:=39) (size:=4) (w.alloc (.cells #[.int .i64 0,.slice none 0 0] 73)) #[] 0 (by simp) (by simp [maxLen]) rfl
  rw [World.size_alloc] at this
  exact this)
 clear hr hi hl hok h60
 go_enter Tryz.func201,Tryz.ntmps201
 go_wp2_with fail
 go_loopg [3,11] n (fun g v3 i wr=>∃ (k:Nat) (A3:Option Addr) (c3:Nat) (L:List Gt),k+g=n/\i=.int .i64 (k:Nat)/\v3=.slice A3 L.length c3/\(ws.take k).flatten=L/\wr.ownsRow w.heap.size 39 4 (.slice A3 L.length c3) L.length (cellsG L)/\Bx wr w.heap.size 73 #[.int .i64 0,.slice none 0 0]/\Below w.heap.size w wr)
 case atStart=>exact ⟨0,_,0,[],by omega,rfl,rfl,rfl,O0.out,R0.out,B0.out⟩
 case round =>
  clear O0 R0 B0
  obtain ⟨k,A3,c3,L,hk,rfl,rfl,hLL,hO,hX,hB⟩:=hrel
  have HLL:=zH hLL
  have OW:=zH hO
  have RX:=zH hX
  have BW:=zH hB
  clear hO hX hB hLL
  by_cases hlt:k < n
  ·obtain ⟨x,hx⟩:=get_lt (l:=ws) (k:=k) (by rw [HL.out];exact hlt)
   obtain ⟨D,d,hv,hd⟩:=HI.out k x hx
   have HX:=zH (hd.below BW.out)
   obtain ⟨h61,hsn⟩:=HSUM.out k hlt
   have hgx:ws.getD k []=x:=by rw [List.getD_eq_getElem?_getD,hx];rfl
   rw [hgx,HLL.out] at h61 hsn
   have HSN:=zH hsn
   obtain ⟨b,off,rfl,hbl,hc⟩:=(HR.out.below BW.out).2 (by omega)
   have y0:=hc k _ hv
   have kn:(k:Int) < (n:Int):=by omega
   have lw:=BW.out.size
   clear hx hv hd hsn hgx hc
   go_wp2_with (at_builtin;refine wpList_app rfl (.tmp 15) (.tmp 16) 24 rfl Tryz.underlying24 infoGate hz4 (by decide) rfl OW.out rfl HX.out.2 one_cellsG (by omega) (by decide) lw ?_;intro A5 c5 w5 o5 g5;have B5:=zH (below_grown BW.out lw OW.out zR g5);have R5:=zH (kept_app OW.out g5 RX.out (by decide));have O5:=zH o5;clear o5 g5)
   go_roundg (gk - 1)
   case measure=>omega
   case rel =>
    refine ⟨k+1,A5,c5,L++x,by omega,by go_num,by rw [List.length_append],HSN.out,?_,R5.out,B5.out⟩
    rw [List.length_append,cellsG_append]
    exact O5.out
  ·obtain rfl:k=n:=by omega
   have HF:=zH (show ws.flatten=L by rw [<- HLL.out,List.take_of_length_le (by rw [HL.out];exact zR)])
   rw [HF.out] at H6 HK
   go_wp2_with fail
   refine (i_WordTab L.length c3 A3 L _ (RdG.own OW.out) H6.out HK.out).mono ?_
   rintro e w4 ⟨A4,c4,rfl,o4,b4⟩
   have R4:=zH ((RX.out.below b4).alloc (.cells #[.int .i64 1,.slice A4 2 c4] 73))
   have B4:=zH ((BW.out.trans (b4.mono BW.out.size)).alloc (Nat.le_trans BW.out.size b4.size) (.cells #[.int .i64 1,.slice A4 2 c4] 73))
   have O4:=zH ((ownsRow_base o4 BW.out.size).alloc (.cells #[.int .i64 1,.slice A4 2 c4] 73))
   clear o4 b4 RX BW OW
   obtain ⟨r0,r1,r2,r3⟩:=R4.out.two
   go_wp2_with fail
   have RB:=R4.out
   with_reducible refine ret_S2 (v:=.agg #[.int .i64 1,.slice A4 2 c4]) RB ?_ ?_ ⟨A4,c4,rfl,?_,?_⟩
   ·intro wS z0 z1;simp [results,Tryz.results201,go_sem,z0,z1]
   ·rfl
   ·rw [HF.out];exact own_S2x O4.out RB (by decide)
   ·exact belowS2 B4.out zR _ _
end Go.Proofs.YtmenmibfkojnoaaGreat
