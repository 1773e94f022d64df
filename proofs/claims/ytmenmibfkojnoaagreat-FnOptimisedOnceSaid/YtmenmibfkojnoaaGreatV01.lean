/- Lists of gates, pairs and numbers; slices that read as such lists; the law for append in these words. Nothing is asked. More plain facts on rows and blocks. Nothing is asked. More plain facts on rows, draws and blocks. Nothing is asked. More plain facts: rows apart, append inside a region that draws. Nothing is asked. -/
import Derived.WalkKit
import Derived.WalkSpells
import Derived.WalkLawsBesides
import Derived.Lib.Hide
import Derived.Deep.LoopGhost
import Derived.Deep.Draws
import Derived.Laws.OwnMore
import Derived.Laws.MakeOwn
import Derived.Laws.Rows
import Derived.Maps.AppendAt
import Derived.RegionTactic
set_option maxHeartbeats 16000000
namespace Go.Proofs.YtmenmibfkojnoaaGreat
open Go.RowKit
theorem zH {p : Prop} (h : p) : Go.RowKit.Hid p := Go.Lib.hid h
theorem zR {a : Nat} : a <= a := Nat.le_refl a
theorem zW {B : Nat} {w} : Go.RowKit.Below B w w := Go.RowKit.Below.refl B w
structure Gt where
 k:Int
 a:Int
 b:Int
 c:Int
 deriving DecidableEq
def Gt.cells (g:Gt):List Value:=[.int .i64 g.k,.int .i64 g.a,.int .i64 g.b,.int .i64 g.c]
def cellsG (gs:List Gt):List Value:=gs.flatMap Gt.cells
def cellsP (ps:List (Int × Int)):List Value:=ps.flatMap fun p=>[.int .i64 p.1,.int .i64 p.2]
def cellsI (zs:List Int):List Value:=zs.map (Value.int .i64)
theorem length_cellsG (gs:List Gt):(cellsG gs).length=gs.length * 4:=by
 induction gs with
 |nil=>rfl
 |cons g r ih=>simp only [cellsG,List.flatMap_cons,List.length_append,List.length_cons] at ih ⊢;rw [ih];simp [Gt.cells];omega
theorem length_cellsP (ps:List (Int × Int)):(cellsP ps).length=ps.length * 2:=by
 induction ps with
 |nil=>rfl
 |cons g r ih=>simp only [cellsP,List.flatMap_cons,List.length_append,List.length_cons] at ih ⊢;rw [ih];simp;omega
theorem length_cellsI (zs:List Int):(cellsI zs).length=zs.length * 1:=by simp [cellsI]
theorem cellsG_append (a b:List Gt):cellsG (a++b)=cellsG a++cellsG b:=by simp [cellsG]
theorem cellsP_append (a b:List (Int × Int)):cellsP (a++b)=cellsP a++cellsP b:=by simp [cellsP]
theorem cellsI_append (a b:List Int):cellsI (a++b)=cellsI a++cellsI b:=by simp [cellsI]
theorem cellsG_take (a:List Gt) (k:Nat):cellsG (a.take k)=(cellsG a).take (k * 4):=by
 induction k generalizing a with
 |zero=>simp [cellsG]
 |succ k ih =>
  cases a with
  |nil=>simp [cellsG]
  |cons g r =>
   have h:=ih r
   simp only [cellsG,List.take_succ_cons,List.flatMap_cons] at h ⊢
   rw [h,show (k+1) * 4=k * 4+4 by omega]
   simp [Gt.cells]
theorem cellsG_drop (a:List Gt) (k:Nat):cellsG (a.drop k)=(cellsG a).drop (k * 4):=by
 induction k generalizing a with
 |zero=>simp
 |succ k ih =>
  cases a with
  |nil=>simp [cellsG]
  |cons g r =>
   have h:=ih r
   simp only [cellsG,List.drop_succ_cons,List.flatMap_cons] at h ⊢
   rw [h,show (k+1) * 4=k * 4+4 by omega]
   simp [Gt.cells]
theorem cellsP_take (a:List (Int × Int)) (k:Nat):cellsP (a.take k)=(cellsP a).take (k * 2):=by
 induction k generalizing a with
 |zero=>simp [cellsP]
 |succ k ih =>
  cases a with
  |nil=>simp [cellsP]
  |cons g r =>
   have h:=ih r
   simp only [cellsP,List.take_succ_cons,List.flatMap_cons] at h ⊢
   rw [h,show (k+1) * 2=k * 2+2 by omega]
   simp
theorem cellsP_drop (a:List (Int × Int)) (k:Nat):cellsP (a.drop k)=(cellsP a).drop (k * 2):=by
 induction k generalizing a with
 |zero=>simp
 |succ k ih =>
  cases a with
  |nil=>simp [cellsP]
  |cons g r =>
   have h:=ih r
   simp only [cellsP,List.drop_succ_cons,List.flatMap_cons] at h ⊢
   rw [h,show (k+1) * 2=k * 2+2 by omega]
   simp
theorem one_cellsG {gs:List Gt}:∀ u ∈ cellsG gs,u.oneCell'=true:=by
 intro u hu
 simp only [cellsG,List.mem_flatMap,Gt.cells] at hu
 obtain ⟨g,_,hg⟩:=hu
 simp at hg
 rcases hg with rfl | rfl | rfl | rfl<;>rfl
theorem one_cellsP {gs:List (Int × Int)}:∀ u ∈ cellsP gs,u.oneCell'=true:=by
 intro u hu
 simp only [cellsP,List.mem_flatMap] at hu
 obtain ⟨g,_,hg⟩:=hu
 simp at hg
 rcases hg with rfl | rfl<;>rfl
theorem one_cellsI {gs:List Int}:∀ u ∈ cellsI gs,u.oneCell'=true:=by
 intro u hu
 simp only [cellsI,List.mem_map] at hu
 obtain ⟨g,_,rfl⟩:=hu
 rfl
theorem drop_cons {α:Type} {l:List α} {k:Nat} (h:k < l.length):l.drop k=l[k] :: l.drop (k+1):=List.drop_eq_getElem_cons h
def Rd (w:World) (sz:Nat) (A:Option Addr) (n:Nat) (xs:List Value):Prop :=
 xs.length=n * sz/\(0 < n->∃ b off,A=some ⟨b,off,none⟩/\b < w.heap.size/\∀ j u,xs[j]? = some u->w.cell? ⟨b,off+j,none⟩=some u)
section
variable {w w':World} {sz n:Nat} {A:Option Addr} {xs:List Value}
theorem Rd.zero (w:World) (sz:Nat) (A:Option Addr):Rd w sz A 0 []:=⟨by simp,fun h=>absurd h (by omega)⟩
theorem Rd.keep (h:Rd w sz A n xs) (hs:w.heap.size<=w'.heap.size) (hk:∀ b off,A=some ⟨b,off,none⟩->b < w.heap.size->w'.heap[b]? = w.heap[b]?):Rd w' sz A n xs :=
 ⟨h.1,fun hn=>by
  obtain ⟨b,off,e,hb,hc⟩:=h.2 hn
  exact ⟨b,off,e,by omega,fun j u hu=>(World.cell?_of_block (a:=⟨b,off+j,none⟩) (hk b off e hb)).trans (hc j u hu)⟩⟩
theorem Rd.below (h:Rd w sz A n xs) (hb:Below w.heap.size w w'):Rd w' sz A n xs:=h.keep hb.size fun b _ _ hlt=>hb.block b hlt
theorem Rd.drew (h:Rd w sz A n xs):Rd w.drew sz A n xs:=h
theorem Rd.drewN (h:Rd w sz A n xs) (k:Nat):Rd (w.drewN k) sz A n xs:=h
theorem Rd.alloc (h:Rd w sz A n xs) (o:Obj):Rd (w.alloc o) sz A n xs:=h.keep (by simp) fun b _ _ hlt=>Below.heap_alloc w o b hlt
theorem Rd.setCell (h:Rd w sz A n xs) {p:Addr} (u:Value) (hp:∀ b off,A=some ⟨b,off,none⟩->b ≠ p.block):Rd (w.setCell p u) sz A n xs :=
 h.keep (by simp [World.setCell]) fun b off e _=>Below.heap_setCell w p u b (hp b off e)
theorem Rd.grown (h:Rd w sz A n xs) {row:Option Nat} (hg:w.grownBy w' row) (hr:∀ b off,A=some ⟨b,off,none⟩->some b ≠ row):Rd w' sz A n xs :=
 h.keep hg.size fun b off e hlt=>hg.block b hlt (hr b off e)
theorem Rd.pre (h:Rd w sz A n xs) {k:Nat} (hk:k<=n):Rd w sz A k (xs.take (k * sz)):=by
 have hle:k * sz<=n * sz:=Nat.mul_le_mul_right _ hk
 refine ⟨by rw [List.length_take,h.1];omega,fun hn=>?_⟩
 obtain ⟨b,off,e,hb,hc⟩:=h.2 (by omega)
 refine ⟨b,off,e,hb,fun j u hu=>hc j u ?_⟩
 rw [List.getElem?_take] at hu
 split at hu
 ·exact hu
 ·cases hu
theorem Rd.cut (h:Rd w sz A n xs) {k cap:Nat} (hk:k<=n) (hc:n<=cap):Rd w sz (if cap=k then A else A.map (·.add (k * sz))) (n - k) (xs.drop (k * sz)):=by
 refine ⟨by rw [List.length_drop,h.1,Nat.sub_mul],fun hn=>?_⟩
 obtain ⟨b,off,rfl,hb,hcell⟩:=h.2 (by omega)
 rw [if_neg (by omega)]
 refine ⟨b,off+k * sz,?_,hb,fun j u hu=>?_⟩
 ·simp only [Option.map_some,Addr.add]
  split<;>simp_all
 ·rw [Nat.add_assoc]
  exact hcell _ u (by rw [<- hu,List.getElem?_drop])
theorem Rd.own {base:Nat} {e:TypeId} {c:Nat} (h:w.ownsRow base e sz (.slice A n c) n xs):Rd w sz A n xs:=by
 refine ⟨h.1,fun hn=>?_⟩
 rcases h.2 with ⟨_,h0⟩ | ⟨g,cap,cur,hv,_,hg,hnc,_,hcs,ht⟩
 ·omega
 ·simp only [Value.slice.injEq] at hv
  obtain ⟨rfl,_,rfl⟩:=hv
  have hlt:g < w.heap.size:=(Array.getElem?_eq_some_iff.1 hg).1
  refine ⟨g,0,rfl,hlt,fun j u hu=>?_⟩
  rw [Nat.zero_add,cell_of_row w g j cur e (0,0) hg]
  rw [<- ht,List.getElem?_take] at hu
  split at hu
  ·simpa using hu
  ·cases hu
theorem Rd.lit (w:World) (e:TypeId) (cs:Array Value) (n sz:Nat) (h:cs.size=n * sz):Rd (w.alloc (.cells cs e)) sz (some ⟨w.heap.size,0,none⟩) n cs.toList :=
 ⟨by simpa using h,fun _=>⟨w.heap.size,0,rfl,by simp,fun j u hu=>by
  rw [Nat.zero_add,cell_of_row _ w.heap.size j cs e (0,0) (heap_alloc_new w _)]
  simpa using hu⟩⟩
end
def RdG (w:World) (A:Option Addr) (n:Nat) (gs:List Gt):Prop:=gs.length=n/\Rd w 4 A n (cellsG gs)
def RdP (w:World) (A:Option Addr) (n:Nat) (ps:List (Int × Int)):Prop:=ps.length=n/\Rd w 2 A n (cellsP ps)
def RdI (w:World) (A:Option Addr) (n:Nat) (zs:List Int):Prop:=zs.length=n/\Rd w 1 A n (cellsI zs)
theorem flat4 (l:List Gt) (k:Nat) (g:Gt) (r:List Gt) (h:l.drop k=g :: r) :
  (cellsG l)[k * 4]? = some (.int .i64 g.k)/\(cellsG l)[k * 4+1]? = some (.int .i64 g.a)/\(cellsG l)[k * 4+2]? = some (.int .i64 g.b)/\(cellsG l)[k * 4+3]? = some (.int .i64 g.c):=by
 have e:(cellsG l).drop (k * 4)=g.cells++cellsG r:=by rw [<- cellsG_drop,h];rfl
 have f:∀ j,(cellsG l)[k * 4+j]? = (g.cells++cellsG r)[j]?:=fun j=>by rw [<- e,List.getElem?_drop]
 refine ⟨?_,?_,?_,?_⟩
 ·simpa [Gt.cells] using f 0
 ·simpa [Gt.cells] using f 1
 ·simpa [Gt.cells] using f 2
 ·simpa [Gt.cells] using f 3
theorem flat2 (l:List (Int × Int)) (k:Nat) (g:Int × Int) (r:List (Int × Int)) (h:l.drop k=g :: r) :
  (cellsP l)[k * 2]? = some (.int .i64 g.1)/\(cellsP l)[k * 2+1]? = some (.int .i64 g.2):=by
 have e:(cellsP l).drop (k * 2)=[.int .i64 g.1,.int .i64 g.2]++cellsP r:=by rw [<- cellsP_drop,h];rfl
 have f:∀ j,(cellsP l)[k * 2+j]? = ([.int .i64 g.1,.int .i64 g.2]++cellsP r)[j]?:=fun j=>by rw [<- e,List.getElem?_drop]
 refine ⟨?_,?_⟩
 ·simpa using f 0
 ·simpa using f 1
section
variable {w w':World} {n:Nat} {A:Option Addr}
theorem RdG.at_ {gs:List Gt} (h:RdG w A n gs) {k:Nat} (hk:k < n):∃ (b off:Nat) (g:Gt),A=some ⟨b,off,none⟩/\b < w.heap.size/\gs.drop k=g :: gs.drop (k+1) ∧
  w.cell? ⟨b,off+k * 4,none⟩=some (.int .i64 g.k)/\w.cell? ⟨b,off+k * 4+1,none⟩=some (.int .i64 g.a)/\w.cell? ⟨b,off+k * 4+2,none⟩=some (.int .i64 g.b)/\w.cell? ⟨b,off+k * 4+3,none⟩=some (.int .i64 g.c):=by
 obtain ⟨hl,hr⟩:=h
 obtain ⟨b,off,e,hb,hc⟩:=hr.2 (by omega)
 have hd:=drop_cons (l:=gs) (k:=k) (by omega)
 obtain ⟨f0,f1,f2,f3⟩:=flat4 gs k _ _ hd
 exact ⟨b,off,_,e,hb,hd,hc _ _ f0,hc _ _ f1,hc _ _ f2,hc _ _ f3⟩
theorem RdP.at_ {ps:List (Int × Int)} (h:RdP w A n ps) {k:Nat} (hk:k < n):∃ (b off:Nat) (x y:Int),A=some ⟨b,off,none⟩/\b < w.heap.size/\ps.drop k=(x,y) :: ps.drop (k+1) ∧
  w.cell? ⟨b,off+k * 2,none⟩=some (.int .i64 x)/\w.cell? ⟨b,off+k * 2+1,none⟩=some (.int .i64 y):=by
 obtain ⟨hl,hr⟩:=h
 obtain ⟨b,off,e,hb,hc⟩:=hr.2 (by omega)
 have hd:=drop_cons (l:=ps) (k:=k) (by omega)
 obtain ⟨f0,f1⟩:=flat2 ps k _ _ hd
 exact ⟨b,off,_,_,e,hb,hd,hc _ _ f0,hc _ _ f1⟩
theorem RdI.at_ {zs:List Int} (h:RdI w A n zs) {k:Nat} (hk:k < n):∃ (b off:Nat) (x:Int),A=some ⟨b,off,none⟩/\b < w.heap.size/\zs.drop k=x :: zs.drop (k+1)/\w.cell? ⟨b,off+k,none⟩=some (.int .i64 x):=by
 obtain ⟨hl,hr⟩:=h
 obtain ⟨b,off,e,hb,hc⟩:=hr.2 (by omega)
 have hd:=drop_cons (l:=zs) (k:=k) (by omega)
 refine ⟨b,off,_,e,hb,hd,hc _ _ ?_⟩
 simp only [cellsI,List.getElem?_map]
 rw [List.getElem?_eq_getElem (by omega)]
 rfl
theorem RdG.below {gs:List Gt} (h:RdG w A n gs) (hb:Below w.heap.size w w'):RdG w' A n gs:=⟨h.1,h.2.below hb⟩
theorem RdP.below {gs:List (Int × Int)} (h:RdP w A n gs) (hb:Below w.heap.size w w'):RdP w' A n gs:=⟨h.1,h.2.below hb⟩
theorem RdI.below {gs:List Int} (h:RdI w A n gs) (hb:Below w.heap.size w w'):RdI w' A n gs:=⟨h.1,h.2.below hb⟩
theorem RdG.alloc {gs:List Gt} (h:RdG w A n gs) (o:Obj):RdG (w.alloc o) A n gs:=⟨h.1,h.2.alloc o⟩
theorem RdP.alloc {gs:List (Int × Int)} (h:RdP w A n gs) (o:Obj):RdP (w.alloc o) A n gs:=⟨h.1,h.2.alloc o⟩
theorem RdI.alloc {gs:List Int} (h:RdI w A n gs) (o:Obj):RdI (w.alloc o) A n gs:=⟨h.1,h.2.alloc o⟩
theorem RdG.drew {gs:List Gt} (h:RdG w A n gs):RdG w.drew A n gs:=h
theorem RdP.drew {gs:List (Int × Int)} (h:RdP w A n gs):RdP w.drew A n gs:=h
theorem RdI.drew {gs:List Int} (h:RdI w A n gs):RdI w.drew A n gs:=h
theorem RdG.own {base:Nat} {e:TypeId} {c:Nat} {gs:List Gt} (h:w.ownsRow base e 4 (.slice A n c) n (cellsG gs)):RdG w A n gs :=
 ⟨by have:=h.1;rw [length_cellsG] at this;omega,Rd.own h⟩
theorem RdP.own {base:Nat} {e:TypeId} {c:Nat} {gs:List (Int × Int)} (h:w.ownsRow base e 2 (.slice A n c) n (cellsP gs)):RdP w A n gs :=
 ⟨by have:=h.1;rw [length_cellsP] at this;omega,Rd.own h⟩
theorem RdI.own {base:Nat} {e:TypeId} {c:Nat} {gs:List Int} (h:w.ownsRow base e 1 (.slice A n c) n (cellsI gs)):RdI w A n gs :=
 ⟨by have:=h.1;rw [length_cellsI] at this;omega,Rd.own h⟩
theorem RdG.pre {gs:List Gt} (h:RdG w A n gs) {k:Nat} (hk:k<=n):RdG w A k (gs.take k) :=
 ⟨by rw [List.length_take,h.1];omega,by rw [cellsG_take];exact h.2.pre hk⟩
theorem RdG.cut {gs:List Gt} (h:RdG w A n gs) {k cap:Nat} (hk:k<=n) (hc:n<=cap):RdG w (if cap=k then A else A.map (·.add (k * 4))) (n - k) (gs.drop k) :=
 ⟨by rw [List.length_drop,h.1],by rw [cellsG_drop];exact h.2.cut hk hc⟩
theorem RdI.pre {gs:List Int} (h:RdI w A n gs) {k:Nat} (hk:k<=n):RdI w A k (gs.take k) :=
 ⟨by rw [List.length_take,h.1];omega,by have:=h.2.pre hk;simpa [cellsI] using this⟩
theorem RdI.cut {gs:List Int} (h:RdI w A n gs) {k cap:Nat} (hk:k<=n) (hc:n<=cap):RdI w (if cap=k then A else A.map (·.add k)) (n - k) (gs.drop k) :=
 ⟨by rw [List.length_drop,h.1],by have:=h.2.cut hk hc;simpa [cellsI] using this⟩
end
def Ret (et sz:Nat) (xs:List Value) (n:Nat) (w:World) (e:Ending) (w':World):Prop :=
 ∃ A c,e=.returned (.slice A n c)/\w'.ownsRow w.heap.size et sz (.slice A n c) n xs/\Below w.heap.size w w'
theorem ownsRow_shape {w:World} {base:Nat} {e:TypeId} {sz:Nat} {v:Value} {n:Nat} {xs:List Value} (h:w.ownsRow base e sz v n xs):∃ A c,v=.slice A n c:=by
 rcases h.2 with ⟨rfl,rfl⟩ | ⟨g,cap,_,rfl,_⟩
 ·exact ⟨_,_,rfl⟩
 ·exact ⟨_,_,rfl⟩
theorem ownsRow_base {w:World} {base base':Nat} {e:TypeId} {sz:Nat} {v:Value} {n:Nat} {xs:List Value} (h:w.ownsRow base e sz v n xs) (hb:base'<=base):w.ownsRow base' e sz v n xs:=by
 refine ⟨h.1,?_⟩
 rcases h.2 with h0 | ⟨g,cap,cur,h1,h2,h3⟩
 ·exact .inl h0
 ·exact .inr ⟨g,cap,cur,h1,by omega,h3⟩
theorem ownsRow_below {w w':World} {base:Nat} {e:TypeId} {sz:Nat} {v:Value} {n:Nat} {xs:List Value} (h:w.ownsRow base e sz v n xs) (hb:Below w.heap.size w w'):w'.ownsRow base e sz v n xs:=by
 refine ⟨h.1,?_⟩
 rcases h.2 with h0 | ⟨g,cap,cur,h1,h2,h3,h4⟩
 ·exact .inl h0
 ·exact .inr ⟨g,cap,cur,h1,h2,(hb.block g (Array.getElem?_eq_some_iff.1 h3).1).trans h3,h4⟩
theorem ownBlock_ge {w:World} {base:Nat} {e:TypeId} {sz:Nat} {v:Value} {n:Nat} {xs:List Value} (h:w.ownsRow base e sz v n xs):∀ k,v.ownBlock=some k->base<=k:=fun k hk=>(h.lt k hk).1
theorem below_trans {a b c:World} (h:Below a.heap.size a b) (k:Below b.heap.size b c):Below a.heap.size a c:=h.trans (k.mono h.size)
theorem below_grown {B:Nat} {a w w':World} {base:Nat} {e:TypeId} {sz:Nat} {v:Value} {n:Nat} {xs:List Value} (h:Below B a w) (hs:B<=w.heap.size) (ho:w.ownsRow base e sz v n xs) (hB:B<=base) (hg:w.grownBy w' v.ownBlock):Below B a w' :=
 h.grown hg hs fun k hk=>Nat.le_trans hB (ownBlock_ge ho k hk)
section
variable {P:Program} {w:World}
theorem run_app_nil (base:Nat) (t ty e:TypeId) (i:TypeInfo) (size:Nat) (ht:P.underlying t=some (.slice e)) (hi:P.info? e=some i)
  (v:Value) (n:Nat) (xs:List Value) (hown:w.ownsRow base e size v n xs) (c:Nat):(Builtin.append_ #[t,t] ty #[v,.slice none 0 c]).run P w=.ok v w:=by
 rcases hown.2 with ⟨rfl,rfl⟩ | ⟨g,cap,cur,rfl,_,_,hnc,_⟩
 ·simp [Builtin.append_,run_underlying ht,sizeOf,typeInfo,hi,Builtin.lenOf,Builtin.firstCells]
 ·simp [Builtin.append_,run_underlying ht,sizeOf,typeInfo,hi,Builtin.lenOf,Builtin.firstCells,hnc,storeCells]
theorem run_app (base:Nat) (t ty e:TypeId) {z:Value} {size bytes:Nat} (ht:P.underlying t=some (.slice e)) (hinfo:(P.info? e).map (fun i=>(i.zero,i.size,i.bytes))=some (some z,size,bytes))
  (hzs:z.cells.size=size) (hsz:0 < size) (A:Option Addr) (n c:Nat) (xs:List Value) (hown:w.ownsRow base e size (.slice A n c) n xs)
  (A':Option Addr) (m c':Nat) (news:List Value) (hr:Rd w size A' m news) (h1:∀ u ∈ news,u.oneCell'=true)
  (hbytes:(n+m) * bytes<=140737488355328) (hby:0 < bytes) (hbase:base<=w.heap.size) :
  ∃ A'' c'' w',(Builtin.append_ #[t,t] ty #[.slice A n c,.slice A' m c']).run P w=.ok (.slice A'' (n+m) c'') w'/\w'.ownsRow base e size (.slice A'' (n+m) c'') (n+m) (xs++news)/\w.grownBy w' (Value.slice A n c).ownBlock:=by
 obtain ⟨i,hi,hz,hs,hb⟩:=info_parts hinfo
 have h63:n+m<=maxLen:=by
  have h:=Nat.le_trans (Nat.le_mul_of_pos_right (n+m) hby) hbytes
  simp only [maxLen]
  omega
 have key:∃ v' w',(Builtin.append_ #[t,t] ty #[.slice A n c,.slice A' m c']).run P w=.ok v' w'/\w'.ownsRow base e size v' (n+m) (xs++news)/\w.grownBy w' (Value.slice A n c).ownBlock:=by
  rcases A' with _ | ad
  ·have hm:m=0:=by
    rcases Nat.eq_zero_or_pos m with h0 | h0
    ·exact h0
    ·obtain ⟨b,off,h,_⟩:=hr.2 h0
     cases h
   subst hm
   have hn:news=[]:=List.eq_nil_of_length_eq_zero (by simpa using hr.1)
   subst hn
   exact ⟨_,w,run_app_nil base t ty e i size ht hi _ n xs hown c',by simpa using hown,World.grownBy.refl w _⟩
  ·have hcells:∀ j u,news[j]? = some u->w.cell? (ad.add j)=some u:=by
    intro j u hu
    rcases Nat.eq_zero_or_pos m with h0 | h0
    ·subst h0
     have hn:news=[]:=List.eq_nil_of_length_eq_zero (by simpa using hr.1)
     subst hn
     simp at hu
    ·obtain ⟨b,off,h,_,hc⟩:=hr.2 h0
     injection h with h
     subst h
     have:=hc j u hu
     unfold Addr.add
     split
     ·subst j;simpa using this
     ·exact this
   obtain ⟨v',w',hrun,h2,h3,_⟩:=run_append_own_at (P:=P) w base t ty e i z size bytes ht hi hz hs hb hzs hsz _ n xs hown ad m c' news hr.1 hcells h1 h63 hbytes hbase
   exact ⟨v',w',hrun,h2,h3⟩
 obtain ⟨v',w',hrun,h2,h3⟩:=key
 obtain ⟨A'',c'',rfl⟩:=ownsRow_shape h2
 exact ⟨A'',c'',w',hrun,h2,h3⟩
theorem wp_app {o:Oper} {a:Act} {K:Act->World->Prop} {Q:Exit->Act->World->Prop} (s x:Operand) (t:TypeId)
  (ho:o.op=.call { callee:=.builtin .append,args:=#[s,x],argTypes:=#[t,t] })
  {base e:Nat} {z:Value} {size bytes:Nat} (ht:P.underlying t=some (.slice e)) (hinfo:(P.info? e).map (fun i=>(i.zero,i.size,i.bytes))=some (some z,size,bytes))
  (hzs:z.cells.size=size) (hsz:0 < size) {A:Option Addr} {n c:Nat} {xs:List Value} (hs:a.eval s=.slice A n c) (hown:w.ownsRow base e size (.slice A n c) n xs)
  {A':Option Addr} {m c':Nat} {news:List Value} (hx:a.eval x=.slice A' m c') (hr:Rd w size A' m news) (h1:∀ u ∈ news,u.oneCell'=true)
  (hbytes:(n+m) * bytes<=140737488355328) (hby:0 < bytes) (hbase:base<=w.heap.size)
  (h:∀ A'' c'' w',w'.ownsRow base e size (.slice A'' (n+m) c'') (n+m) (xs++news)->w.grownBy w' (Value.slice A n c).ownBlock->K (a.put o.dst (.slice A'' (n+m) c'')) w'):o.wp P a w K Q:=by
 obtain ⟨A'',c'',w',hrun,h2,h3⟩:=run_app (P:=P) base t o.type e ht hinfo hzs hsz A n c xs hown A' m c' news hr h1 hbytes hby hbase
 unfold Oper.wp execOp
 simp only [ho,resolve,invoke,builtin,Sem.run_bind,Sem.run_pure,Result.andThen_ok,List.map_toArray,List.map_cons,List.map_nil,hs,hx,hrun]
 exact h A'' c'' w' h2 h3
theorem wpList_app {ops:Array Oper} {rest:List Oper} {o:Oper} {a:Act} {Q:Exit->Act->World->Prop} (hgd:o.guard=none) (s x:Operand) (t:TypeId)
  (ho:o.op=.call { callee:=.builtin .append,args:=#[s,x],argTypes:=#[t,t] })
  {base e:Nat} {z:Value} {size bytes:Nat} (ht:P.underlying t=some (.slice e)) (hinfo:(P.info? e).map (fun i=>(i.zero,i.size,i.bytes))=some (some z,size,bytes))
  (hzs:z.cells.size=size) (hsz:0 < size) {A:Option Addr} {n c:Nat} {xs:List Value} (hs:a.eval s=.slice A n c) (hown:w.ownsRow base e size (.slice A n c) n xs)
  {A':Option Addr} {m c':Nat} {news:List Value} (hx:a.eval x=.slice A' m c') (hr:Rd w size A' m news) (h1:∀ u ∈ news,u.oneCell'=true)
  (hbytes:(n+m) * bytes<=140737488355328) (hby:0 < bytes) (hbase:base<=w.heap.size)
  (h:∀ A'' c'' w',w'.ownsRow base e size (.slice A'' (n+m) c'') (n+m) (xs++news)->w.grownBy w' (Value.slice A n c).ownBlock->wpList P ops Q rest (a.put o.dst (.slice A'' (n+m) c'')) w'):wpList P ops Q (o :: rest) a w :=
 wpList_plain hgd fun _ hK=>wp_app s x t ho ht hinfo hzs hsz hs hown hx hr h1 hbytes hby hbase fun A'' c'' w' h2 h3=>hK _ _ (h A'' c'' w' h2 h3)
theorem run_makeN {t e:TypeId} {z:Value} {size bytes:Nat} (ht:P.underlying t=some (.slice e)) (hinfo:(P.info? e).map (fun i=>(i.zero,i.size,i.bytes))=some (some z,size,bytes))
  (n:Nat) (hb:bytes * n<=281474976710656) (h63:n<=9223372036854775807) (w:World) :
  (Instr.makeSlice t (.int .i64 (n:Int)) (.int .i64 (n:Int))).run P w=.ok (.slice (some ⟨w.heap.size,0,none⟩) n n) (w.alloc (.cells (madeCells z.cells (n * size)) e)):=by
 obtain ⟨i,hi,hz,hs,hby⟩:=info_parts hinfo
 subst hs hby
 have hb':(i.bytes:Int) * (n:Int)<=281474976710656:=by
  have h:((i.bytes * n:Nat):Int)<=281474976710656:=by omega
  rwa [Int.natCast_mul] at h
 have hr:=run_make (P:=P) w t e i z ht hi hz .i64 .i64 n n (by omega) (by omega) hb' (by omega)
 simpa using hr
end
def Bx (w:World) (g:Nat) (t:TypeId) (cs:Array Value):Prop:=w.heap[g]? = some (.cells cs t (0,0))
section
variable {w w':World} {g:Nat} {t:TypeId} {cs:Array Value}
theorem Bx.lt (h:Bx w g t cs):g < w.heap.size:=(Array.getElem?_eq_some_iff.1 h).1
theorem Bx.cell (h:Bx w g t cs) (i:Nat):w.cell? ⟨g,i,none⟩=cs[i]?:=cell_of_row w g i cs t (0,0) h
theorem Bx.free (h:Bx w g t cs) (i:Nat):w.frozen? ⟨g,i,none⟩=false:=by unfold Bx at h;simp [World.frozen?,h]
theorem Bx.new (w:World) (t:TypeId) (cs:Array Value):Bx (w.alloc (.cells cs t)) w.heap.size t cs:=heap_alloc_new w _
theorem Bx.drew (h:Bx w g t cs):Bx w.drew g t cs:=h
theorem Bx.alloc (h:Bx w g t cs) (o:Obj):Bx (w.alloc o) g t cs:=(Below.heap_alloc w o g h.lt).trans h
theorem Bx.below (h:Bx w g t cs) (hb:Below w.heap.size w w'):Bx w' g t cs:=(hb.block g h.lt).trans h
theorem Bx.grown {row:Option Nat} (h:Bx w g t cs) (hb:w.grownBy w' row) (hg:some g ≠ row):Bx w' g t cs:=(hb.block g h.lt hg).trans h
theorem Bx.set_ (h:Bx w g t cs) (i:Nat) (u:Value):Bx (w.setCell ⟨g,i,none⟩ u) g t (cs.setIfInBounds i u):=by
 unfold Bx at h ⊢
 simp [World.setCell,Array.getElem?_modify,h]
theorem Bx.far (h:Bx w g t cs) {p:Addr} (hp:g ≠ p.block) (u:Value):Bx (w.setCell p u) g t cs:=(Below.heap_setCell w p u g hp).trans h
theorem Bx.one {x:Value} (h:Bx w g t #[x]):w.cell? ⟨g,0,none⟩=some x/\w.frozen? ⟨g,0,none⟩=false:=⟨h.cell 0,h.free 0⟩
theorem Bx.two {x y:Value} (h:Bx w g t #[x,y]):w.cell? ⟨g,0,none⟩=some x/\w.cell? ⟨g,1,none⟩=some y/\w.frozen? ⟨g,0,none⟩=false/\w.frozen? ⟨g,1,none⟩=false:=⟨h.cell 0,h.cell 1,h.free 0,h.free 1⟩
theorem Bx.four {x y z v:Value} (h:Bx w g t #[x,y,z,v]):w.cell? ⟨g,0,none⟩=some x/\w.cell? ⟨g,1,none⟩=some y/\w.cell? ⟨g,2,none⟩=some z/\w.cell? ⟨g,3,none⟩=some v ∧
  w.frozen? ⟨g,0,none⟩=false/\w.frozen? ⟨g,1,none⟩=false/\w.frozen? ⟨g,2,none⟩=false/\w.frozen? ⟨g,3,none⟩=false:=⟨h.cell 0,h.cell 1,h.cell 2,h.cell 3,h.free 0,h.free 1,h.free 2,h.free 3⟩
theorem below_alloc {o:Obj} (h:Below (w.alloc o).heap.size (w.alloc o) w'):Below w.heap.size w w':=((zW).alloc zR _).trans (h.mono (by simp))
theorem below_drew (h:Below w.drew.heap.size w.drew w'):Below w.heap.size w w':=(zW).drew.trans h
end
theorem ret_int {k:IntKind} {a b:Int} (h:a=b):Ending.returned (.int k a)=.returned (.int k b):=by rw [h]
theorem ret_bool {a b:Bool} (h:a=b):Ending.returned (.bool a)=.returned (.bool b):=by rw [h]
end Go.Proofs.YtmenmibfkojnoaaGreat
namespace Go.Proofs.YtmenmibfkojnoaaGreat
open Go.RowKit
theorem own_bx_ne {w:World} {base:Nat} {e t:TypeId} {sz n g:Nat} {v:Value} {xs:List Value} {cs:Array Value} (h:w.ownsRow base e sz v n xs) (hg:Bx w g t cs) (hne:e ≠ t):some g ≠ v.ownBlock:=by
 rcases h.2 with ⟨rfl,_⟩ | ⟨g',cap,cur,rfl,_,hh,_⟩
 ·simp [Value.ownBlock]
 ·intro he
  have:g=g':=by simpa [Value.ownBlock] using he
  subst this
  unfold Bx at hg
  rw [hh] at hg
  injection hg with hg
  injection hg with _ ht
  exact hne ht
theorem Bx.ne {w:World} {g g':Nat} {t t':TypeId} {cs cs':Array Value} (h:Bx w g t cs) (h':Bx w g' t' cs') (hne:t ≠ t'):g ≠ g':=by
 rintro rfl
 unfold Bx at h h'
 rw [h] at h'
 injection h' with h'
 injection h' with _ ht
 exact hne ht
theorem Bx.rdI {w:World} {g:Nat} {t:TypeId} {zs:List Int} {cs:Array Value} (h:Bx w g t cs) (hc:cs.toList=cellsI zs):RdI w (some ⟨g,0,none⟩) zs.length zs:=by
 refine ⟨rfl,length_cellsI zs,fun _=>⟨g,0,rfl,h.lt,fun j u hu=>?_⟩⟩
 rw [Nat.zero_add,h.cell j,<- hu,<- hc]
 simp
theorem take_snoc {α:Type} {l:List α} {k:Nat} {x:α} (hd:l.drop k=x :: l.drop (k+1)):l.take (k+1)=l.take k++[x]:=by
 have hl:k < l.length:=by
  rcases Nat.lt_or_ge k l.length with h | h
  ·exact h
  ·rw [List.drop_eq_nil_of_le h] at hd;cases hd
 rw [List.take_succ_eq_append_getElem hl]
 rw [drop_cons hl] at hd
 injection hd with h1 _
 rw [h1]
theorem below_of_grown {w w':World} {row:Option Nat} (h:w.grownBy w' row) {B:Nat} (hB:B<=w.heap.size) (hr:∀ k,row=some k->B<=k):Below B w w' :=
 ⟨h.os,h.tape,h.output,h.size,fun k hk=>h.block k (by omega) (fun e=>by have:=hr k e.symm;omega)⟩
theorem Bx.new' {w:World} {i:Nat} {t:TypeId} {cs:Array Value} (h:i=w.heap.size):Bx (w.alloc (.cells cs t)) i t cs:=h ▸ Bx.new w t cs
theorem kept_app {w w':World} {base:Nat} {e:TypeId} {sz n:Nat} {v:Value} {xs:List Value} {g t:Nat} {cs:Array Value} (ho:w.ownsRow base e sz v n xs) (hg:w.grownBy w' v.ownBlock) (hb:Bx w g t cs) (hne:e ≠ t):Bx w' g t cs :=
 hb.grown hg (own_bx_ne ho hb hne)
end Go.Proofs.YtmenmibfkojnoaaGreat
namespace Go.Proofs.YtmenmibfkojnoaaGreat
open Go.RowKit
theorem quiet_left {P:Program} {f:FuncId} {args:Array Value} {w:World} {n:Nat} {v:Value} (h:Calls P f args (w.drewN n) fun e w'=>e=.returned v/\w.drewN n=w') :
  Calls P f args (w.drewN n) fun e w''=>e=.returned v/\∃ m,w''=w.drewN m:=h.mono fun _ _ ⟨he,hm⟩=>⟨he,n,hm.symm⟩
theorem below_drewN {B:Nat} {a w:World} (h:Below B a w) (n:Nat):Below B a (w.drewN n):=⟨h.os,h.tape,h.output,h.size,h.block⟩
theorem ownsRow_cap {w:World} {base:Nat} {e:TypeId} {sz n c:Nat} {A:Option Addr} {xs:List Value} (h:w.ownsRow base e sz (.slice A n c) n xs):n<=c:=by
 rcases h.2 with ⟨h0,h1⟩ | ⟨g,cap,cur,hv,_,_,h2,_⟩
 ·omega
 ·injection hv with _ _ hc;omega
theorem own_apart {w1 w2:World} {b1 b2:Nat} {e1 e2:TypeId} {s1 s2 n1 n2:Nat} {v1 v2:Value} {x1 x2:List Value} (h1:w1.ownsRow b1 e1 s1 v1 n1 x1) (h2:w2.ownsRow b2 e2 s2 v2 n2 x2) (hle:w1.heap.size<=b2) :
  v1.ownBlock=none ∨ v1.ownBlock ≠ v2.ownBlock:=by
 cases h:v1.ownBlock with
 |none=>exact .inl rfl
 |some k =>
  refine .inr fun he=>?_
  have a:=(h1.lt k h).2
  have b:=(h2.lt k he.symm).1
  omega
end Go.Proofs.YtmenmibfkojnoaaGreat
namespace Go.Proofs.YtmenmibfkojnoaaGreat
open Go.RowKit
theorem ownsRow_drew {w:World} {base:Nat} {e:TypeId} {sz n:Nat} {v:Value} {xs:List Value} (h:w.ownsRow base e sz v n xs):w.drew.ownsRow base e sz v n xs:=h
section
variable {P:Program} {w:World}
theorem step_app {ops:Array Oper} {o:Oper} {a:Act} {K:Act->World->Prop} {Q:Exit->Act->World->Prop} {E:Prop} (hgd:o.guard=none) (s x:Operand) (t:TypeId)
  (ho:o.op=.call { callee:=.builtin .append,args:=#[s,x],argTypes:=#[t,t] })
  {base e:Nat} {z:Value} {size bytes:Nat} (ht:P.underlying t=some (.slice e)) (hinfo:(P.info? e).map (fun i=>(i.zero,i.size,i.bytes))=some (some z,size,bytes))
  (hzs:z.cells.size=size) (hsz:0 < size) {A:Option Addr} {n c:Nat} {xs:List Value} (hs:a.eval s=.slice A n c) (hown:w.ownsRow base e size (.slice A n c) n xs)
  {A':Option Addr} {m c':Nat} {news:List Value} (hx:a.eval x=.slice A' m c') (hr:Rd w size A' m news) (h1:∀ u ∈ news,u.oneCell'=true)
  (hbytes:(n+m) * bytes<=140737488355328) (hby:0 < bytes) (hbase:base<=w.heap.size)
  (h:∀ A'' c'' w',w'.ownsRow base e size (.slice A'' (n+m) c'') (n+m) (xs++news)->w.grownBy w' (Value.slice A n c).ownBlock->K (a.put o.dst (.slice A'' (n+m) c'')) w') :
  if Region.wanted o (yielded ops a.tmps)=true then Oper.wp P o a w K Q else E:=by
 have hw:Region.wanted o (yielded ops a.tmps)=true:=by simp [Region.wanted,hgd]
 rw [if_pos hw]
 exact wp_app s x t ho ht hinfo hzs hsz hs hown hx hr h1 hbytes hby hbase h
end
end Go.Proofs.YtmenmibfkojnoaaGreat
