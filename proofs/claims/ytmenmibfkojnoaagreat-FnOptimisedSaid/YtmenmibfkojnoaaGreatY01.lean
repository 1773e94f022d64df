/- Lists of gates, pairs and numbers; slice. -/
import Derived.WalkKit
import Derived.WalkSpells
import Derived.WalkLawsBesides
import Derived.Lib.Hide
import Derived.Deep.LoopGhost
import Derived.Deep.Draws
import Derived.Laws.OwnMore
import Derived.Laws.MakeOwn
import Derived.Laws.Rows
import Derived.Maps.AppendAt
import Derived.RegionTactic
import Derived.Test.YtmenmibfkojnoaaGreatProg
import Derived.StillTailTactics
import Derived.Outline
import Derived.MapKept
import Derived.WideMake
import Derived.ChangeOld
set_option maxHeartbeats 16000000
namespace Go.Proofs.YtmenmibfkojnoaaGreat
open Go.RowKit
instance WJ:Coe Int Value:=⟨fun x=>.int .i64 x⟩
instance WK:Coe Nat Value:=⟨fun n=>.int .i64 (n:Int)⟩
instance WL:Coe World Nat:=⟨fun w=>w.heap.size⟩
theorem zO {p : Prop} (h : p := by omega) : p := h
theorem zD {p : Prop} (h : p := by decide) : p := h
theorem zS {p : Prop} (h : p := by simp<;>omega) : p := h
theorem zI {p : Prop} (h : p := by simp) : p := h
theorem zM {p : Prop} (h : p := by simp [maxLen]) : p := h
theorem zV {p : Prop} (h : p := by simp [Value.oneCell']) : p := h
theorem zA {p : Prop} (h : p := by simp [Act.eval]<;>rfl) : p := h
theorem zJ {p : Prop} (h : p := by simp;omega) : p := h
theorem zF {p : Prop} (h : p := by rfl) : p := h
theorem zK {p : Prop} (h : p := by kernel_rfl) : p := h
theorem zH {p : Prop} (h : p) : Go.RowKit.Hid p := Go.Lib.hid h
theorem zR {a : Nat} : a <= a := Nat.le_refl a
theorem zW {B : Nat} {w} : Go.RowKit.Below B w w := Go.RowKit.Below.refl B w
structure Gt where
 k:Int
 a:Int
 b:Int
 c:Int
 deriving DecidableEq
def Gt.cells (g:Gt):List Value:=[.int .i64 g.k,.int .i64 g.a,.int .i64 g.b,.int .i64 g.c]
def af (gs:List Gt):List Value:=gs.flatMap Gt.cells
def aj (ps:List (Int × Int)):List Value:=ps.flatMap fun p=>[.int .i64 p.1,.int .i64 p.2]
def aB (zs:List Int):List Value:=zs.map (Value.int .i64)
structure ZO where n:Nat
def ZO.zP:ZO:=⟨0⟩
instance WM:CoeDep ZO ZO.zP Obj:=⟨.cells #[(0:Int),(0:Int),.slice none 0 0,.slice none 0 0] 88⟩
def ZO.zT:ZO:=⟨1⟩
instance WN:CoeDep ZO ZO.zT Obj:=⟨.cells #[(0:Int),.slice none 0 0] 73⟩
def ZO.zN:ZO:=⟨2⟩
instance WO:CoeDep ZO ZO.zN Obj:=⟨.cells #[.slice none 0 0,(0:Int),.slice none 0 0] 100⟩
def ZO.zQ:ZO:=⟨3⟩
instance WP:CoeDep ZO ZO.zQ Obj:=⟨.cells #[(0:Int),(0:Int),(0:Int),(0:Int)] 151⟩
def ZO.zG:ZO:=⟨4⟩
instance WQ:CoeDep ZO ZO.zG Obj:=⟨.cells #[(0:Int),(0:Int),(0:Int),(0:Int)] 39⟩
instance WR:Coe Gt Obj:=⟨fun g=>.cells #[g.k,g.a,g.b,g.c] 39⟩
theorem fq (gs:List Gt):(af gs).length=gs.length * 4:=by
 induction gs with
 |nil=>rfl
 |cons g r ih=>simp only [af,List.flatMap_cons,List.length_append,List.length_cons] at ih ⊢;rw [ih];simp [Gt.cells];omega
theorem fr (ps:List (Int × Int)):(aj ps).length=ps.length * 2:=by
 induction ps with
 |nil=>rfl
 |cons g r ih=>simp only [aj,List.flatMap_cons,List.length_append,List.length_cons] at ih ⊢;rw [ih];simp;omega
theorem jH (zs:List Int):(aB zs).length=zs.length * 1:=by simp [aB]
theorem av (a b:List Gt):af (a++b)=af a++af b:=by simp [af]
theorem dM (a b:List (Int × Int)):aj (a++b)=aj a++aj b:=by simp [aj]
theorem mK (a b:List Int):aB (a++b)=aB a++aB b:=by simp [aB]
theorem xI (a:List Gt) (k:Nat):af (a.take k)=(af a).take (k * 4):=by
 induction k generalizing a with
 |zero=>simp [af]
 |succ k ih =>
  cases a with
  |nil=>simp [af]
  |cons g r =>
   have h:=ih r;simp only [af,List.take_succ_cons,List.flatMap_cons] at h ⊢;rw [h,show (k+1) * 4=k * 4+4 by omega];simp [Gt.cells]
theorem pL (a:List Gt) (k:Nat):af (a.drop k)=(af a).drop (k * 4):=by
 induction k generalizing a with
 |zero=>simp
 |succ k ih =>
  cases a with
  |nil=>simp [af]
  |cons g r =>
   have h:=ih r;simp only [af,List.drop_succ_cons,List.flatMap_cons] at h ⊢;rw [h,show (k+1) * 4=k * 4+4 by omega];simp [Gt.cells]
theorem xJ (a:List (Int × Int)) (k:Nat):aj (a.take k)=(aj a).take (k * 2):=by
 induction k generalizing a with
 |zero=>simp [aj]
 |succ k ih =>
  cases a with
  |nil=>simp [aj]
  |cons g r =>
   have h:=ih r;simp only [aj,List.take_succ_cons,List.flatMap_cons] at h ⊢;rw [h,show (k+1) * 2=k * 2+2 by omega];simp
theorem pM (a:List (Int × Int)) (k:Nat):aj (a.drop k)=(aj a).drop (k * 2):=by
 induction k generalizing a with
 |zero=>simp
 |succ k ih =>
  cases a with
  |nil=>simp [aj]
  |cons g r =>
   have h:=ih r;simp only [aj,List.drop_succ_cons,List.flatMap_cons] at h ⊢;rw [h,show (k+1) * 2=k * 2+2 by omega];simp
theorem aQ {gs:List Gt}:∀ u ∈ af gs,u.oneCell'=true:=by
 intro u hu;simp only [af,List.mem_flatMap,Gt.cells] at hu;obtain ⟨g,_,hg⟩:=hu;simp at hg;rcases hg with rfl | rfl | rfl | rfl<;>rfl
theorem rc {gs:List (Int × Int)}:∀ u ∈ aj gs,u.oneCell'=true:=by
 intro u hu;simp only [aj,List.mem_flatMap] at hu;obtain ⟨g,_,hg⟩:=hu;simp at hg;rcases hg with rfl | rfl<;>rfl
theorem re {gs:List Int}:∀ u ∈ aB gs,u.oneCell'=true:=by
 intro u hu;simp only [aB,List.mem_map] at hu;obtain ⟨g,_,rfl⟩:=hu;rfl
theorem ax {α:Type} {l:List α} {k:Nat} (h:k < l.length):l.drop k=l[k] :: l.drop (k+1):=List.drop_eq_getElem_cons h
def Rd (w:World) (sz:Nat) (A:Option Addr) (n:Nat) (xs:List Value):Prop :=
 xs.length=n * sz/\(0 < n->∃ b off,A=some ⟨b,off,none⟩/\b < w.heap.size/\∀ j u,xs[j]? = some u->w.cell? ⟨b,off+j,none⟩=some u)
section
variable {w w':World} {sz n:Nat} {A:Option Addr} {xs:List Value}
theorem Rd.zero (w:World) (sz:Nat) (A:Option Addr):Rd w sz A 0 []:=⟨zI,fun h=>absurd h zO⟩
theorem Rd.keep (h:Rd w sz A n xs) (hs:w.heap.size<=w'.heap.size) (hk:∀ b off,A=some ⟨b,off,none⟩->b < w.heap.size->w'.heap[b]? = w.heap[b]?):Rd w' sz A n xs :=
 ⟨h.1,fun hn=>by
  obtain ⟨b,off,e,hb,hc⟩:=h.2 hn;exact ⟨b,off,e,zO,fun j u hu=>(World.cell?_of_block (a:=⟨b,off+j,none⟩) (hk b off e hb)).trans (hc j u hu)⟩⟩
theorem Rd.below (h:Rd w sz A n xs) (hb:Below w w w'):Rd w' sz A n xs:=h.keep hb.size fun b _ _ hlt=>hb.block b hlt
theorem Rd.drew (h:Rd w sz A n xs):Rd w.drew sz A n xs:=h
theorem Rd.drewN (h:Rd w sz A n xs) (k:Nat):Rd (w.drewN k) sz A n xs:=h
theorem Rd.alloc (h:Rd w sz A n xs) (o:Obj):Rd (w.alloc o) sz A n xs:=h.keep zI fun b _ _ hlt=>Below.heap_alloc w o b hlt
theorem Rd.setCell (h:Rd w sz A n xs) {p:Addr} (u:Value) (hp:∀ b off,A=some ⟨b,off,none⟩->b ≠ p.block):Rd (w.setCell p u) sz A n xs :=
 h.keep (by simp [World.setCell]) fun b off e _=>Below.heap_setCell w p u b (hp b off e)
theorem Rd.grown (h:Rd w sz A n xs) {row:Option Nat} (hg:w.grownBy w' row) (hr:∀ b off,A=some ⟨b,off,none⟩->some b ≠ row):Rd w' sz A n xs :=
 h.keep hg.size fun b off e hlt=>hg.block b hlt (hr b off e)
theorem Rd.pre (h:Rd w sz A n xs) {k:Nat} (hk:k<=n):Rd w sz A k (xs.take (k * sz)):=by
 have hle:k * sz<=n * sz:=Nat.mul_le_mul_right _ hk;refine ⟨by rw [List.length_take,h.1];omega,fun hn=>?_⟩;obtain ⟨b,off,e,hb,hc⟩:=h.2 zO;refine ⟨b,off,e,hb,fun j u hu=>hc j u ?_⟩;rw [List.getElem?_take] at hu;split at hu
 ·exact hu
 ·cases hu
theorem Rd.cut (h:Rd w sz A n xs) {k cap:Nat} (hk:k<=n) (hc:n<=cap):Rd w sz (if cap=k then A else A.map (·.add (k * sz))) (n - k) (xs.drop (k * sz)):=by
 refine ⟨by rw [List.length_drop,h.1,Nat.sub_mul],fun hn=>?_⟩;obtain ⟨b,off,rfl,hb,hcell⟩:=h.2 zO;rw [if_neg zO];refine ⟨b,off+k * sz,?_,hb,fun j u hu=>?_⟩
 ·simp only [Option.map_some,Addr.add];split<;>simp_all
 ·rw [Nat.add_assoc];exact hcell _ u (by rw [<- hu,List.getElem?_drop])
theorem Rd.own {base:Nat} {e:TypeId} {c:Nat} (h:w.ownsRow base e sz (.slice A n c) n xs):Rd w sz A n xs:=by
 refine ⟨h.1,fun hn=>?_⟩;rcases h.2 with ⟨_,h0⟩ | ⟨g,cap,cur,hv,_,hg,hnc,_,cP,ht⟩
 ·omega
 ·simp only [Value.slice.injEq] at hv;obtain ⟨rfl,_,rfl⟩:=hv;have hlt:g < w.heap.size:=(Array.getElem?_eq_some_iff.1 hg).1;refine ⟨g,0,rfl,hlt,fun j u hu=>?_⟩;rw [Nat.zero_add,cell_of_row w g j cur e (0,0) hg];rw [<- ht,List.getElem?_take] at hu;split at hu
  ·simpa using hu
  ·cases hu
theorem Rd.lit (w:World) (e:TypeId) (cs:Array Value) (n sz:Nat) (h:cs.size=n * sz):Rd (w.alloc (.cells cs e)) sz (some ⟨w,0,none⟩) n cs.toList :=
 ⟨by simpa using h,fun _=>⟨w.heap.size,0,rfl,zI,fun j u hu=>by
  rw [Nat.zero_add,cell_of_row _ w.heap.size j cs e (0,0) (heap_alloc_new w _)];simpa using hu⟩⟩
end
def RdG (w:World) (A:Option Addr) (n:Nat) (gs:List Gt):Prop:=gs.length=n/\Rd w 4 A n (af gs)
def RdP (w:World) (A:Option Addr) (n:Nat) (ps:List (Int × Int)):Prop:=ps.length=n/\Rd w 2 A n (aj ps)
def RdI (w:World) (A:Option Addr) (n:Nat) (zs:List Int):Prop:=zs.length=n/\Rd w 1 A n (aB zs)
theorem rf (l:List Gt) (k:Nat) (g:Gt) (r:List Gt) (h:l.drop k=g :: r) :
  (af l)[k * 4]? = some (.int .i64 g.k)/\(af l)[k * 4+1]? = some (.int .i64 g.a)/\(af l)[k * 4+2]? = some (.int .i64 g.b)/\(af l)[k * 4+3]? = some (.int .i64 g.c):=by
 have e:(af l).drop (k * 4)=g.cells++af r:=by rw [<- pL,h];rfl
 have f:∀ j,(af l)[k * 4+j]? = (g.cells++af r)[j]?:=fun j=>by rw [<- e,List.getElem?_drop]
 refine ⟨?_,?_,?_,?_⟩
 ·simpa [Gt.cells] using f 0
 ·simpa [Gt.cells] using f 1
 ·simpa [Gt.cells] using f 2
 ·simpa [Gt.cells] using f 3
theorem CM (l:List (Int × Int)) (k:Nat) (g:Int × Int) (r:List (Int × Int)) (h:l.drop k=g :: r) :
  (aj l)[k * 2]? = some (.int .i64 g.1)/\(aj l)[k * 2+1]? = some (.int .i64 g.2):=by
 have e:(aj l).drop (k * 2)=[.int .i64 g.1,.int .i64 g.2]++aj r:=by rw [<- pM,h];rfl
 have f:∀ j,(aj l)[k * 2+j]? = ([.int .i64 g.1,.int .i64 g.2]++aj r)[j]?:=fun j=>by rw [<- e,List.getElem?_drop]
 refine ⟨?_,?_⟩
 ·simpa using f 0
 ·simpa using f 1
section
variable {w w':World} {n:Nat} {A:Option Addr}
theorem RdG.at_ {gs:List Gt} (h:RdG w A n gs) {k:Nat} (hk:k < n):∃ (b off:Nat) (g:Gt),A=some ⟨b,off,none⟩/\b < w.heap.size/\gs.drop k=g :: gs.drop (k+1) ∧
  w.cell? ⟨b,off+k * 4,none⟩=some (.int .i64 g.k)/\w.cell? ⟨b,off+k * 4+1,none⟩=some (.int .i64 g.a)/\w.cell? ⟨b,off+k * 4+2,none⟩=some (.int .i64 g.b)/\w.cell? ⟨b,off+k * 4+3,none⟩=some (.int .i64 g.c):=by
 obtain ⟨hl,hr⟩:=h;obtain ⟨b,off,e,hb,hc⟩:=hr.2 zO;have hd:=ax (l:=gs) (k:=k) zO;obtain ⟨f0,f1,f2,f3⟩:=rf gs k _ _ hd;exact ⟨b,off,_,e,hb,hd,hc _ _ f0,hc _ _ f1,hc _ _ f2,hc _ _ f3⟩
theorem RdP.at_ {ps:List (Int × Int)} (h:RdP w A n ps) {k:Nat} (hk:k < n):∃ (b off:Nat) (x y:Int),A=some ⟨b,off,none⟩/\b < w.heap.size/\ps.drop k=(x,y) :: ps.drop (k+1) ∧
  w.cell? ⟨b,off+k * 2,none⟩=some (.int .i64 x)/\w.cell? ⟨b,off+k * 2+1,none⟩=some (.int .i64 y):=by
 obtain ⟨hl,hr⟩:=h;obtain ⟨b,off,e,hb,hc⟩:=hr.2 zO;have hd:=ax (l:=ps) (k:=k) zO;obtain ⟨f0,f1⟩:=CM ps k _ _ hd;exact ⟨b,off,_,_,e,hb,hd,hc _ _ f0,hc _ _ f1⟩
theorem RdI.at_ {zs:List Int} (h:RdI w A n zs) {k:Nat} (hk:k < n):∃ (b off:Nat) (x:Int),A=some ⟨b,off,none⟩/\b < w.heap.size/\zs.drop k=x :: zs.drop (k+1)/\w.cell? ⟨b,off+k,none⟩=some (.int .i64 x):=by
 obtain ⟨hl,hr⟩:=h;obtain ⟨b,off,e,hb,hc⟩:=hr.2 zO;have hd:=ax (l:=zs) (k:=k) zO;refine ⟨b,off,_,e,hb,hd,hc _ _ ?_⟩;simp only [aB,List.getElem?_map];rw [List.getElem?_eq_getElem zO];rfl
theorem RdG.below {gs:List Gt} (h:RdG w A n gs) (hb:Below w w w'):RdG w' A n gs:=⟨h.1,h.2.below hb⟩
theorem RdP.below {gs:List (Int × Int)} (h:RdP w A n gs) (hb:Below w w w'):RdP w' A n gs:=⟨h.1,h.2.below hb⟩
theorem RdI.below {gs:List Int} (h:RdI w A n gs) (hb:Below w w w'):RdI w' A n gs:=⟨h.1,h.2.below hb⟩
theorem RdG.alloc {gs:List Gt} (h:RdG w A n gs) (o:Obj):RdG (w.alloc o) A n gs:=⟨h.1,h.2.alloc o⟩
theorem RdP.alloc {gs:List (Int × Int)} (h:RdP w A n gs) (o:Obj):RdP (w.alloc o) A n gs:=⟨h.1,h.2.alloc o⟩
theorem RdI.alloc {gs:List Int} (h:RdI w A n gs) (o:Obj):RdI (w.alloc o) A n gs:=⟨h.1,h.2.alloc o⟩
theorem RdG.drew {gs:List Gt} (h:RdG w A n gs):RdG w.drew A n gs:=h
theorem RdP.drew {gs:List (Int × Int)} (h:RdP w A n gs):RdP w.drew A n gs:=h
theorem RdI.drew {gs:List Int} (h:RdI w A n gs):RdI w.drew A n gs:=h
theorem RdG.own {base:Nat} {e:TypeId} {c:Nat} {gs:List Gt} (h:w.ownsRow base e 4 (.slice A n c) n (af gs)):RdG w A n gs :=
 ⟨by have:=h.1;rw [fq] at this;omega,Rd.own h⟩
theorem RdP.own {base:Nat} {e:TypeId} {c:Nat} {gs:List (Int × Int)} (h:w.ownsRow base e 2 (.slice A n c) n (aj gs)):RdP w A n gs :=
 ⟨by have:=h.1;rw [fr] at this;omega,Rd.own h⟩
theorem RdI.own {base:Nat} {e:TypeId} {c:Nat} {gs:List Int} (h:w.ownsRow base e 1 (.slice A n c) n (aB gs)):RdI w A n gs :=
 ⟨by have:=h.1;rw [jH] at this;omega,Rd.own h⟩
theorem RdG.pre {gs:List Gt} (h:RdG w A n gs) {k:Nat} (hk:k<=n):RdG w A k (gs.take k) :=
 ⟨by rw [List.length_take,h.1];omega,by rw [xI];exact h.2.pre hk⟩
theorem RdG.cut {gs:List Gt} (h:RdG w A n gs) {k cap:Nat} (hk:k<=n) (hc:n<=cap):RdG w (if cap=k then A else A.map (·.add (k * 4))) (n - k) (gs.drop k) :=
 ⟨by rw [List.length_drop,h.1],by rw [pL];exact h.2.cut hk hc⟩
theorem RdI.pre {gs:List Int} (h:RdI w A n gs) {k:Nat} (hk:k<=n):RdI w A k (gs.take k) :=
 ⟨by rw [List.length_take,h.1];omega,by have:=h.2.pre hk;simpa [aB] using this⟩
theorem RdI.cut {gs:List Int} (h:RdI w A n gs) {k cap:Nat} (hk:k<=n) (hc:n<=cap):RdI w (if cap=k then A else A.map (·.add k)) (n - k) (gs.drop k) :=
 ⟨by rw [List.length_drop,h.1],by have:=h.2.cut hk hc;simpa [aB] using this⟩
end
def jl (et sz:Nat) (xs:List Value) (n:Nat) (w:World) (e:Ending) (w':World):Prop :=
 ∃ A c,e=.returned (.slice A n c)/\w'.ownsRow w et sz (.slice A n c) n xs/\Below w w w'
theorem fs {w:World} {base:Nat} {e:TypeId} {sz:Nat} {v:Value} {n:Nat} {xs:List Value} (h:w.ownsRow base e sz v n xs):∃ A c,v=.slice A n c:=by
 rcases h.2 with ⟨rfl,rfl⟩ | ⟨g,cap,_,rfl,_⟩
 ·exact ⟨_,_,rfl⟩
 ·exact ⟨_,_,rfl⟩
theorem ae {w:World} {base base':Nat} {e:TypeId} {sz:Nat} {v:Value} {n:Nat} {xs:List Value} (h:w.ownsRow base e sz v n xs) (hb:base'<=base):w.ownsRow base' e sz v n xs:=by
 refine ⟨h.1,?_⟩;rcases h.2 with h0 | ⟨g,cap,cur,h1,h2,h3⟩
 ·exact .inl h0
 ·exact .inr ⟨g,cap,cur,h1,zO,h3⟩
theorem ab {w w':World} {base:Nat} {e:TypeId} {sz:Nat} {v:Value} {n:Nat} {xs:List Value} (h:w.ownsRow base e sz v n xs) (hb:Below w w w'):w'.ownsRow base e sz v n xs:=by
 refine ⟨h.1,?_⟩;rcases h.2 with h0 | ⟨g,cap,cur,h1,h2,h3,h4⟩
 ·exact .inl h0
 ·exact .inr ⟨g,cap,cur,h1,h2,(hb.block g (Array.getElem?_eq_some_iff.1 h3).1).trans h3,h4⟩
theorem xK {w:World} {base:Nat} {e:TypeId} {sz:Nat} {v:Value} {n:Nat} {xs:List Value} (h:w.ownsRow base e sz v n xs):∀ k,v.ownBlock=some k->base<=k:=fun k hk=>(h.lt k hk).1
theorem aa {a b c:World} (h:Below a.heap.size a b) (k:Below b.heap.size b c):Below a.heap.size a c:=h.trans (k.mono h.size)
theorem ag {B:Nat} {a w w':World} {base:Nat} {e:TypeId} {sz:Nat} {v:Value} {n:Nat} {xs:List Value} (h:Below B a w) (hs:B<=w.heap.size) (ho:w.ownsRow base e sz v n xs) (hB:B<=base) (hg:w.grownBy w' v.ownBlock):Below B a w' :=
 h.grown hg hs fun k hk=>Nat.le_trans hB (xK ho k hk)
section
variable {P:Program} {w:World}
theorem lj (base:Nat) (t ty e:TypeId) (i:TypeInfo) (size:Nat) (ht:P.underlying t=some (.slice e)) (hi:P.info? e=some i)
  (v:Value) (n:Nat) (xs:List Value) (hown:w.ownsRow base e size v n xs) (c:Nat):(Builtin.append_ #[t,t] ty #[v,.slice none 0 c]).run P w=.ok v w:=by
 rcases hown.2 with ⟨rfl,rfl⟩ | ⟨g,cap,cur,rfl,_,_,hnc,_⟩
 ·simp [Builtin.append_,run_underlying ht,sizeOf,typeInfo,hi,Builtin.lenOf,Builtin.firstCells]
 ·simp [Builtin.append_,run_underlying ht,sizeOf,typeInfo,hi,Builtin.lenOf,Builtin.firstCells,hnc,storeCells]
theorem Md (base:Nat) (t ty e:TypeId) {z:Value} {size bytes:Nat} (ht:P.underlying t=some (.slice e)) (hinfo:(P.info? e).map (fun i=>(i.zero,i.size,i.bytes))=some (some z,size,bytes))
  (hzs:z.cells.size=size) (hsz:0 < size) (A:Option Addr) (n c:Nat) (xs:List Value) (hown:w.ownsRow base e size (.slice A n c) n xs)
  (A':Option Addr) (m c':Nat) (news:List Value) (hr:Rd w size A' m news) (h1:∀ u ∈ news,u.oneCell'=true)
  (hbytes:(n+m) * bytes<=140737488355328) (hby:0 < bytes) (hbase:base<=w.heap.size) :
  ∃ A'' c'' w',(Builtin.append_ #[t,t] ty #[.slice A n c,.slice A' m c']).run P w=.ok (.slice A'' (n+m) c'') w'/\w'.ownsRow base e size (.slice A'' (n+m) c'') (n+m) (xs++news)/\w.grownBy w' (Value.slice A n c).ownBlock:=by
 obtain ⟨i,hi,hz,hs,hb⟩:=info_parts hinfo;have h63:n+m<=maxLen:=by
  have h:=Nat.le_trans (Nat.le_mul_of_pos_right (n+m) hby) hbytes;simp only [maxLen];omega
 have key:∃ v' w',(Builtin.append_ #[t,t] ty #[.slice A n c,.slice A' m c']).run P w=.ok v' w'/\w'.ownsRow base e size v' (n+m) (xs++news)/\w.grownBy w' (Value.slice A n c).ownBlock:=by
  rcases A' with _ | ad
  ·have hm:m=0:=by
    rcases Nat.eq_zero_or_pos m with h0 | h0
    ·exact h0
    ·obtain ⟨b,off,h,_⟩:=hr.2 h0;cases h
   subst hm;have hn:news=[]:=List.eq_nil_of_length_eq_zero (by simpa using hr.1);subst hn;exact ⟨_,w,lj base t ty e i size ht hi _ n xs hown c',by simpa using hown,World.grownBy.refl w _⟩
  ·have hcells:∀ j u,news[j]? = some u->w.cell? (ad.add j)=some u:=by
    intro j u hu;rcases Nat.eq_zero_or_pos m with h0 | h0
    ·subst h0;have hn:news=[]:=List.eq_nil_of_length_eq_zero (by simpa using hr.1);subst hn;simp at hu
    ·obtain ⟨b,off,h,_,hc⟩:=hr.2 h0;injection h with h;subst h
     have:=hc j u hu;unfold Addr.add;split
     ·subst j;simpa using this
     ·exact this
   obtain ⟨v',w',hrun,h2,h3,_⟩:=run_append_own_at (P:=P) w base t ty e i z size bytes ht hi hz hs hb hzs hsz _ n xs hown ad m c' news hr.1 hcells h1 h63 hbytes hbase;exact ⟨v',w',hrun,h2,h3⟩
 obtain ⟨v',w',hrun,h2,h3⟩:=key;obtain ⟨A'',c'',rfl⟩:=fs h2;exact ⟨A'',c'',w',hrun,h2,h3⟩
theorem Am {o:Oper} {a:Act} {K:Act->World->Prop} {Q:Exit->Act->World->Prop} (s x:Operand) (t:TypeId)
  (ho:o.op=.call { callee:=.builtin .append,args:=#[s,x],argTypes:=#[t,t] })
  {base e:Nat} {z:Value} {size bytes:Nat} (ht:P.underlying t=some (.slice e)) (hinfo:(P.info? e).map (fun i=>(i.zero,i.size,i.bytes))=some (some z,size,bytes))
  (hzs:z.cells.size=size) (hsz:0 < size) {A:Option Addr} {n c:Nat} {xs:List Value} (hs:a.eval s=.slice A n c) (hown:w.ownsRow base e size (.slice A n c) n xs)
  {A':Option Addr} {m c':Nat} {news:List Value} (hx:a.eval x=.slice A' m c') (hr:Rd w size A' m news) (h1:∀ u ∈ news,u.oneCell'=true)
  (hbytes:(n+m) * bytes<=140737488355328) (hby:0 < bytes) (hbase:base<=w.heap.size)
  (h:∀ A'' c'' w',w'.ownsRow base e size (.slice A'' (n+m) c'') (n+m) (xs++news)->w.grownBy w' (Value.slice A n c).ownBlock->K (a.put o.dst (.slice A'' (n+m) c'')) w'):o.wp P a w K Q:=by
 obtain ⟨A'',c'',w',hrun,h2,h3⟩:=Md (P:=P) base t o.type e ht hinfo hzs hsz A n c xs hown A' m c' news hr h1 hbytes hby hbase;unfold Oper.wp execOp;simp only [ho,resolve,invoke,builtin,Sem.run_bind,Sem.run_pure,Result.andThen_ok,List.map_toArray,List.map_cons,List.map_nil,hs,hx,hrun];exact h A'' c'' w' h2 h3
theorem ah {ops:Array Oper} {rest:List Oper} {o:Oper} {a:Act} {Q:Exit->Act->World->Prop} (hgd:o.guard=none) (s x:Operand) (t:TypeId)
  (ho:o.op=.call { callee:=.builtin .append,args:=#[s,x],argTypes:=#[t,t] })
  {base e:Nat} {z:Value} {size bytes:Nat} (ht:P.underlying t=some (.slice e)) (hinfo:(P.info? e).map (fun i=>(i.zero,i.size,i.bytes))=some (some z,size,bytes))
  (hzs:z.cells.size=size) (hsz:0 < size) {A:Option Addr} {n c:Nat} {xs:List Value} (hs:a.eval s=.slice A n c) (hown:w.ownsRow base e size (.slice A n c) n xs)
  {A':Option Addr} {m c':Nat} {news:List Value} (hx:a.eval x=.slice A' m c') (hr:Rd w size A' m news) (h1:∀ u ∈ news,u.oneCell'=true)
  (hbytes:(n+m) * bytes<=140737488355328) (hby:0 < bytes) (hbase:base<=w.heap.size)
  (h:∀ A'' c'' w',w'.ownsRow base e size (.slice A'' (n+m) c'') (n+m) (xs++news)->w.grownBy w' (Value.slice A n c).ownBlock->wpList P ops Q rest (a.put o.dst (.slice A'' (n+m) c'')) w'):wpList P ops Q (o :: rest) a w :=
 wpList_plain hgd fun _ hK=>Am s x t ho ht hinfo hzs hsz hs hown hx hr h1 hbytes hby hbase fun A'' c'' w' h2 h3=>hK _ _ (h A'' c'' w' h2 h3)
theorem iF {t e:TypeId} {z:Value} {size bytes:Nat} (ht:P.underlying t=some (.slice e)) (hinfo:(P.info? e).map (fun i=>(i.zero,i.size,i.bytes))=some (some z,size,bytes))
  (n:Nat) (hb:bytes * n<=281474976710656) (h63:n<=9223372036854775807) (w:World) :
  (Instr.makeSlice t (.int .i64 (n:Int)) (.int .i64 (n:Int))).run P w=.ok (.slice (some ⟨w,0,none⟩) n n) (w.alloc (.cells (madeCells z.cells (n * size)) e)):=by
 obtain ⟨i,hi,hz,hs,hby⟩:=info_parts hinfo;subst hs hby
 have hb':(i.bytes:Int) * (n:Int)<=281474976710656:=by
  have h:((i.bytes * n:Nat):Int)<=281474976710656:=zO;rwa [Int.natCast_mul] at h
 have hr:=run_make (P:=P) w t e i z ht hi hz .i64 .i64 n n zO zO hb' zO;simpa using hr
end
def Bx (w:World) (g:Nat) (t:TypeId) (cs:Array Value):Prop:=w.heap[g]? = some (.cells cs t (0,0))
section
variable {w w':World} {g:Nat} {t:TypeId} {cs:Array Value}
theorem Bx.lt (h:Bx w g t cs):g < w.heap.size:=(Array.getElem?_eq_some_iff.1 h).1
theorem Bx.cell (h:Bx w g t cs) (i:Nat):w.cell? ⟨g,i,none⟩=cs[i]?:=cell_of_row w g i cs t (0,0) h
theorem Bx.free (h:Bx w g t cs) (i:Nat):w.frozen? ⟨g,i,none⟩=false:=by unfold Bx at h;simp [World.frozen?,h]
theorem Bx.new (w:World) (t:TypeId) (cs:Array Value):Bx (w.alloc (.cells cs t)) w.heap.size t cs:=heap_alloc_new w _
theorem Bx.drew (h:Bx w g t cs):Bx w.drew g t cs:=h
theorem Bx.alloc (h:Bx w g t cs) (o:Obj):Bx (w.alloc o) g t cs:=(Below.heap_alloc w o g h.lt).trans h
theorem Bx.below (h:Bx w g t cs) (hb:Below w w w'):Bx w' g t cs:=(hb.block g h.lt).trans h
theorem Bx.grown {row:Option Nat} (h:Bx w g t cs) (hb:w.grownBy w' row) (hg:some g ≠ row):Bx w' g t cs:=(hb.block g h.lt hg).trans h
theorem Bx.set_ (h:Bx w g t cs) (i:Nat) (u:Value):Bx (w.setCell ⟨g,i,none⟩ u) g t (cs.setIfInBounds i u):=by
 unfold Bx at h ⊢;simp [World.setCell,Array.getElem?_modify,h]
theorem Bx.far (h:Bx w g t cs) {p:Addr} (hp:g ≠ p.block) (u:Value):Bx (w.setCell p u) g t cs:=(Below.heap_setCell w p u g hp).trans h
theorem Bx.one {x:Value} (h:Bx w g t #[x]):w.cell? ⟨g,0,none⟩=some x/\w.frozen? ⟨g,0,none⟩=false:=⟨h.cell 0,h.free 0⟩
theorem Bx.two {x y:Value} (h:Bx w g t #[x,y]):w.cell? ⟨g,0,none⟩=some x/\w.cell? ⟨g,1,none⟩=some y/\w.frozen? ⟨g,0,none⟩=false/\w.frozen? ⟨g,1,none⟩=false:=⟨h.cell 0,h.cell 1,h.free 0,h.free 1⟩
theorem Bx.four {x y z v:Value} (h:Bx w g t #[x,y,z,v]):w.cell? ⟨g,0,none⟩=some x/\w.cell? ⟨g,1,none⟩=some y/\w.cell? ⟨g,2,none⟩=some z/\w.cell? ⟨g,3,none⟩=some v ∧
  w.frozen? ⟨g,0,none⟩=false/\w.frozen? ⟨g,1,none⟩=false/\w.frozen? ⟨g,2,none⟩=false/\w.frozen? ⟨g,3,none⟩=false:=⟨h.cell 0,h.cell 1,h.cell 2,h.cell 3,h.free 0,h.free 1,h.free 2,h.free 3⟩
theorem aD {o:Obj} (h:Below (w.alloc o).heap.size (w.alloc o) w'):Below w w w':=((zW).alloc zR _).trans (h.mono zI)
theorem aC (h:Below w.drew.heap.size w.drew w'):Below w w w':=(zW).drew.trans h
end
theorem cR {k:IntKind} {a b:Int} (h:a=b):Ending.returned (.int k a)=.returned (.int k b):=by rw [h]
theorem aw {a b:Bool} (h:a=b):Ending.returned (.bool a)=.returned (.bool b):=by rw [h]
end Go.Proofs.YtmenmibfkojnoaaGreat
namespace Go.Proofs.YtmenmibfkojnoaaGreat
open Go.RowKit
theorem am {w:World} {base:Nat} {e t:TypeId} {sz n g:Nat} {v:Value} {xs:List Value} {cs:Array Value} (h:w.ownsRow base e sz v n xs) (hg:Bx w g t cs) (hne:e ≠ t):some g ≠ v.ownBlock:=by
 rcases h.2 with ⟨rfl,_⟩ | ⟨g',cap,cur,rfl,_,hh,_⟩
 ·simp [Value.ownBlock]
 ·intro he;have:g=g':=by simpa [Value.ownBlock] using he
  subst this;unfold Bx at hg;rw [hh] at hg;injection hg with hg;injection hg with _ ht;exact hne ht
theorem Bx.ne {w:World} {g g':Nat} {t t':TypeId} {cs cs':Array Value} (h:Bx w g t cs) (h':Bx w g' t' cs') (hne:t ≠ t'):g ≠ g':=by
 rintro rfl;unfold Bx at h h';rw [h] at h';injection h' with h'
 injection h' with _ ht
 exact hne ht
theorem Bx.rdI {w:World} {g:Nat} {t:TypeId} {zs:List Int} {cs:Array Value} (h:Bx w g t cs) (hc:cs.toList=aB zs):RdI w (some ⟨g,0,none⟩) zs.length zs:=by
 refine ⟨rfl,jH zs,fun _=>⟨g,0,rfl,h.lt,fun j u hu=>?_⟩⟩;rw [Nat.zero_add,h.cell j,<- hu,<- hc];simp
theorem eZ {α:Type} {l:List α} {k:Nat} {x:α} (hd:l.drop k=x :: l.drop (k+1)):l.take (k+1)=l.take k++[x]:=by
 have hl:k < l.length:=by
  rcases Nat.lt_or_ge k l.length with h | h
  ·exact h
  ·rw [List.drop_eq_nil_of_le h] at hd;cases hd
 rw [List.take_succ_eq_append_getElem hl];rw [ax hl] at hd;injection hd with h1 _;rw [h1]
theorem iQ {w w':World} {row:Option Nat} (h:w.grownBy w' row) {B:Nat} (hB:B<=w.heap.size) (hr:∀ k,row=some k->B<=k):Below B w w' :=
 ⟨h.os,h.tape,h.output,h.size,fun k hk=>h.block k zO (fun e=>by have:=hr k e.symm;omega)⟩
theorem Bx.new' {w:World} {i:Nat} {t:TypeId} {cs:Array Value} (h:i=w.heap.size):Bx (w.alloc (.cells cs t)) i t cs:=h ▸ Bx.new w t cs
theorem az {w w':World} {base:Nat} {e:TypeId} {sz n:Nat} {v:Value} {xs:List Value} {g t:Nat} {cs:Array Value} (ho:w.ownsRow base e sz v n xs) (hg:w.grownBy w' v.ownBlock) (hb:Bx w g t cs) (hne:e ≠ t):Bx w' g t cs :=
 hb.grown hg (am ho hb hne)
end Go.Proofs.YtmenmibfkojnoaaGreat
namespace Go.Proofs.YtmenmibfkojnoaaGreat
open Go.RowKit
theorem eJ {P:Program} {f:FuncId} {args:Array Value} {w:World} {n:Nat} {v:Value} (h:Calls P f args (w.drewN n) fun e w'=>e=.returned v/\w.drewN n=w') :
  Calls P f args (w.drewN n) fun e w''=>e=.returned v/\∃ m,w''=w.drewN m:=h.mono fun _ _ ⟨he,hm⟩=>⟨he,n,hm.symm⟩
theorem bW {B:Nat} {a w:World} (h:Below B a w) (n:Nat):Below B a (w.drewN n):=⟨h.os,h.tape,h.output,h.size,h.block⟩
theorem ao {w:World} {base:Nat} {e:TypeId} {sz n c:Nat} {A:Option Addr} {xs:List Value} (h:w.ownsRow base e sz (.slice A n c) n xs):n<=c:=by
 rcases h.2 with ⟨h0,h1⟩ | ⟨g,cap,cur,hv,_,_,h2,_⟩
 ·omega
 ·injection hv with _ _ hc;omega
theorem EP {w1 w2:World} {b1 b2:Nat} {e1 e2:TypeId} {s1 s2 n1 n2:Nat} {v1 v2:Value} {x1 x2:List Value} (h1:w1.ownsRow b1 e1 s1 v1 n1 x1) (h2:w2.ownsRow b2 e2 s2 v2 n2 x2) (hle:w1.heap.size<=b2) :
  v1.ownBlock=none\/v1.ownBlock ≠ v2.ownBlock:=by
 cases h:v1.ownBlock with
 |none=>exact .inl rfl
 |some k =>
  refine .inr fun he=>?_
  have a:=(h1.lt k h).2;have b:=(h2.lt k he.symm).1;omega
end Go.Proofs.YtmenmibfkojnoaaGreat
namespace Go.Proofs.YtmenmibfkojnoaaGreat
open Go.RowKit
theorem RdI.tail {w:World} {b off m:Nat} {x:Int} {zs:List Int} (h:RdI w (some ⟨b,off,none⟩) (m+1) (x :: zs)):RdI w (some ⟨b,off+1,none⟩) m zs:=by
 have h2:=h.cut (k:=1) (cap:=m+2) zO zO;rw [if_neg zO] at h2;simpa [Addr.add] using h2
theorem aq {w:World} {base:Nat} {e:TypeId} {sz n:Nat} {v:Value} {xs:List Value} (h:w.ownsRow base e sz v n xs):w.drew.ownsRow base e sz v n xs:=h
section
variable {P:Program} {w:World}
theorem bv {ops:Array Oper} {o:Oper} {a:Act} {K:Act->World->Prop} {Q:Exit->Act->World->Prop} {E:Prop} (hgd:o.guard=none) (s x:Operand) (t:TypeId)
  (ho:o.op=.call { callee:=.builtin .append,args:=#[s,x],argTypes:=#[t,t] })
  {base e:Nat} {z:Value} {size bytes:Nat} (ht:P.underlying t=some (.slice e)) (hinfo:(P.info? e).map (fun i=>(i.zero,i.size,i.bytes))=some (some z,size,bytes))
  (hzs:z.cells.size=size) (hsz:0 < size) {A:Option Addr} {n c:Nat} {xs:List Value} (hs:a.eval s=.slice A n c) (hown:w.ownsRow base e size (.slice A n c) n xs)
  {A':Option Addr} {m c':Nat} {news:List Value} (hx:a.eval x=.slice A' m c') (hr:Rd w size A' m news) (h1:∀ u ∈ news,u.oneCell'=true)
  (hbytes:(n+m) * bytes<=140737488355328) (hby:0 < bytes) (hbase:base<=w.heap.size)
  (h:∀ A'' c'' w',w'.ownsRow base e size (.slice A'' (n+m) c'') (n+m) (xs++news)->w.grownBy w' (Value.slice A n c).ownBlock->K (a.put o.dst (.slice A'' (n+m) c'')) w') :
  if Region.wanted o (yielded ops a.tmps)=true then Oper.wp P o a w K Q else E:=by
 have hw:Region.wanted o (yielded ops a.tmps)=true:=by simp [Region.wanted,hgd]
 rw [if_pos hw];exact Am s x t ho ht hinfo hzs hsz hs hown hx hr h1 hbytes hby hbase h
end
theorem ak:(Tryz.prog.info? 39).map (fun i=>(i.zero,i.size,i.bytes))=some (some (.agg #[(0:Int),(0:Int),(0:Int),(0:Int)]),4,32):=zK
end Go.Proofs.YtmenmibfkojnoaaGreat
namespace Go.Proofs.YtmenmibfkojnoaaGreat
def ee (n lo hi:Int):Bool:=decide (lo<=n) && decide (n<=hi)
theorem bG {n lo hi:Int} (h1:lo<=n) (h2:n<=hi):ee n lo hi=true:=by simp [ee,h1,h2]
theorem gw {n lo hi:Int} (h:n < lo\/hi < n):ee n lo hi=false:=by simp only [ee,Bool.and_eq_false_iff,decide_eq_false_iff_not];omega
theorem inB_iff {n lo hi:Int}:ee n lo hi=true ↔ lo<=n/\n<=hi:=by simp [ee]
def aA (k:Int):Int:=if 1<=k/\k<=8 then 1 else if 9<=k/\k<=11 then 2 else if k=12 then 3 else 0
theorem bd (k:Int):(1<=k/\k<=8/\aA k=1)\/(9<=k/\k<=11/\aA k=2)\/(k=12/\aA k=3)\/((k < 1\/12 < k)/\aA k=0):=by
 unfold aA;by_cases h1:1<=k/\k<=8
 ·rw [if_pos h1];exact .inl ⟨h1.1,h1.2,rfl⟩
 ·rw [if_neg h1];by_cases h2:9<=k/\k<=11
  ·rw [if_pos h2];exact .inr (.inl ⟨h2.1,h2.2,rfl⟩)
  ·rw [if_neg h2];by_cases h3:k=12
   ·rw [if_pos h3];exact .inr (.inr (.inl ⟨h3,rfl⟩))
   ·rw [if_neg h3];exact .inr (.inr (.inr ⟨zO,rfl⟩))
theorem ev (k:Int):0<=aA k/\aA k<=3:=by rcases bd k with h | h | h | h<;>omega
def al (k:Int):Int:=if k=7 then 1 else if k=5 then 2 else if k=3 then 4 else if k=6 then 6 else if k=8 then 7 else 0
theorem dA (k:Int):(k=7/\al k=1)\/(k=5/\al k=2)\/(k=3/\al k=4)\/(k=6/\al k=6)\/(k=8/\al k=7)\/(k ≠ 7/\k ≠ 5/\k ≠ 3/\k ≠ 6/\k ≠ 8/\al k=0):=by
 unfold al;by_cases h1:k=7
 ·simp [h1]
 ·by_cases h2:k=5
  ·simp [h2]
  ·by_cases h3:k=3
   ·simp [h3]
   ·by_cases h4:k=6
    ·simp [h4]
    ·by_cases h5:k=8
     ·simp [h5]
     ·simp [h1,h2,h3,h4,h5]
theorem ft (k:Int):0<=al k/\al k<=7:=by rcases dA k with h | h | h | h | h | h<;>omega
def bh (k:Int):Bool:=decide (1<=k) && decide (k<=11) && !(k == 7) && !(k == 8)
theorem qA {k:Int} (h1:1<=k) (h2:k<=11) (h3:k ≠ 7) (h4:k ≠ 8):bh k=true:=by simp [bh,h1,h2,h3,h4]
theorem CN {k:Int} (h:k < 1\/11 < k\/k=7\/k=8):bh k=false:=by
 rcases h with h | h | h | h
 ·have:¬ 1<=k:=zO;simp [bh,this]
 ·have:¬ k<=11:=zO;simp [bh,this]
 ·subst h;rfl
 ·subst h;rfl
end Go.Proofs.YtmenmibfkojnoaaGreat
namespace Go.Proofs.YtmenmibfkojnoaaGreat
open Go.RowKit
theorem oP {p:Prop} (h:p:=by
  go_wp2;go_ret;exact ⟨rfl,rfl⟩):p:=h
theorem An {p:Prop} (h:p:=by
  go_enter Tryz.func50,Tryz.ntmps50;exact oP):p:=h
theorem el (n lo hi:Int) (w:World):Calls Tryz.prog 50 #[n,lo,hi] w fun e w'=>e=.returned (.bool (ee n lo hi))/\w=w':=by
 by_cases h1:lo<=n
 ·by_cases h2:n<=hi
  ·rw [bG h1 h2];exact An
  ·rw [gw (.inr zO)];exact An
 ·rw [gw (.inl zO)];exact An
theorem Ao {p:Prop} (h:p:=by
  go_enter Tryz.func70,Tryz.ntmps70;exact oP):p:=h
theorem eK (n lo hi:Int) (w:World):Calls Tryz.prog 70 #[n,lo,hi] w fun e w'=>e=.returned (.bool (ee n lo hi))/\w=w':=by
 by_cases h1:lo<=n
 ·by_cases h2:n<=hi
  ·rw [bG h1 h2];exact Ao
  ·rw [gw (.inr zO)];exact Ao
 ·rw [gw (.inl zO)];exact Ao
theorem uZ {p:Prop} (h:p:=by
  rintro e w' ⟨rfl,rfl⟩;rw [bG h1 h2];go_wp2_with fail;go_ret;exact ⟨rfl,rfl⟩):p:=h
theorem u7 {p:Prop} (h:p:=by
  go_wp2_with fail;go_ret;exact ⟨rfl,rfl⟩):p:=h
theorem bX (k:Int) (w:World):Calls Tryz.prog 60 #[k] w fun e w'=>e=.returned (.int .i64 (aA k))/\w=w':=by
 rcases bd k with ⟨h1,h2,h3⟩ | ⟨h1,h2,h3⟩ | ⟨h1,h3⟩ | ⟨h1,h3⟩
 ·rw [h3];clear h3;go_enter Tryz.func60,Tryz.ntmps60;go_wp2_with fail;refine (el _ _ _ _).mono ?_;exact uZ
 ·rw [h3];clear h3;go_enter Tryz.func60,Tryz.ntmps60;go_wp2_with fail;refine (el _ _ _ _).mono ?_;rintro e w' ⟨rfl,rfl⟩;rw [gw (.inr zO)];go_wp2_with fail;refine (el _ _ _ _).mono ?_;exact uZ
 ·rw [h3];clear h3;subst h1;go_enter Tryz.func60,Tryz.ntmps60;go_wp2_with fail;refine (el _ _ _ _).mono ?_;rintro e w' ⟨rfl,rfl⟩;rw [gw (.inr zO)];go_wp2_with fail;refine (el _ _ _ _).mono ?_;rintro e w' ⟨rfl,rfl⟩;rw [gw (.inr zO)];exact u7
 ·rw [h3];clear h3;have h4:(k == 12)=false:=zJ;go_enter Tryz.func60,Tryz.ntmps60;go_wp2_with fail;refine (el _ _ _ _).mono ?_;rintro e w' ⟨rfl,rfl⟩;rw [gw zO];go_wp2_with fail;refine (el _ _ _ _).mono ?_;rintro e w' ⟨rfl,rfl⟩;rw [gw zO];exact u7
theorem bO (k:Int) (w:World):Calls Tryz.prog 44 #[k] w fun e w'=>e=.returned (.int .i64 (aA k))/\w=w':=by
 rcases bd k with ⟨h1,h2,h3⟩ | ⟨h1,h2,h3⟩ | ⟨h1,h3⟩ | ⟨h1,h3⟩
 ·rw [h3];clear h3;go_enter Tryz.func44,Tryz.ntmps44;go_wp2_with fail;refine (eK _ _ _ _).mono ?_;exact uZ
 ·rw [h3];clear h3;go_enter Tryz.func44,Tryz.ntmps44;go_wp2_with fail;refine (eK _ _ _ _).mono ?_;rintro e w' ⟨rfl,rfl⟩;rw [gw (.inr zO)];go_wp2_with fail;refine (eK _ _ _ _).mono ?_;exact uZ
 ·rw [h3];clear h3;subst h1;go_enter Tryz.func44,Tryz.ntmps44;go_wp2_with fail;refine (eK _ _ _ _).mono ?_;rintro e w' ⟨rfl,rfl⟩;rw [gw (.inr zO)];go_wp2_with fail;refine (eK _ _ _ _).mono ?_;rintro e w' ⟨rfl,rfl⟩;rw [gw (.inr zO)];exact u7
 ·rw [h3];clear h3;have h4:(k == 12)=false:=zJ;go_enter Tryz.func44,Tryz.ntmps44;go_wp2_with fail;refine (eK _ _ _ _).mono ?_;rintro e w' ⟨rfl,rfl⟩;rw [gw zO];go_wp2_with fail;refine (eK _ _ _ _).mono ?_;rintro e w' ⟨rfl,rfl⟩;rw [gw zO];exact u7
theorem aT (k:Int) (w:World):Calls Tryz.prog 102 #[k] w fun e w'=>e=.returned (.int .i64 (al k))/\w=w':=by
 rcases dA k with ⟨h,h3⟩ | ⟨h,h3⟩ | ⟨h,h3⟩ | ⟨h,h3⟩ | ⟨h,h3⟩ | ⟨h7,h5,h33,h6,h8,h3⟩
 iterate 5
  ·rw [h3];clear h3;subst h;go_enter Tryz.func102,Tryz.ntmps102;exact oP
 ·rw [h3];clear h3;have e7:(k == 7)=false:=by simpa using h7
  have e5:(k == 5)=false:=by simpa using h5
  have e3:(k == 3)=false:=by simpa using h33
  have e6:(k == 6)=false:=by simpa using h6
  have e8:(k == 8)=false:=by simpa using h8
  go_enter Tryz.func102,Tryz.ntmps102;exact oP
theorem bt (k:Int) (w:World):Calls Tryz.prog 79 #[k] w fun e w'=>e=.returned (.int .i64 (al k))/\w=w':=by
 rcases dA k with ⟨h,h3⟩ | ⟨h,h3⟩ | ⟨h,h3⟩ | ⟨h,h3⟩ | ⟨h,h3⟩ | ⟨h7,h5,h33,h6,h8,h3⟩
 iterate 5
  ·rw [h3];clear h3;subst h;go_enter Tryz.func79,Tryz.ntmps79;exact oP
 ·rw [h3];clear h3;have e7:(k == 7)=false:=by simpa using h7
  have e5:(k == 5)=false:=by simpa using h5
  have e3:(k == 3)=false:=by simpa using h33
  have e6:(k == 6)=false:=by simpa using h6
  have e8:(k == 8)=false:=by simpa using h8
  go_enter Tryz.func79,Tryz.ntmps79;exact oP
theorem Ap {p:Prop} (h:p:=by repeat (first | exact zW | assumption | refine Below.drew ?_ | refine Below.alloc ?_ zS _)):p:=h
theorem eG (k a:Int) (w:World):Calls Tryz.prog 106 #[k,a] w fun e w'=>e=.returned (.agg #[k,a,(0:Int),(0:Int)])/\Below w w w':=by
 go_enter Tryz.func106,Tryz.ntmps106;go_wp2;exact bodyPost_ret (v:=.agg #[k,a,(0:Int),(0:Int)]) (by simp [results,Tryz.results106,go_sem]) rfl ⟨rfl,Ap⟩
theorem jo (k a:Int) (w:World):Calls Tryz.prog 85 #[k,a] w fun e w'=>e=.returned (.agg #[k,a,(0:Int),(0:Int)])/\Below w w w':=by
 go_enter Tryz.func85,Tryz.ntmps85;go_wp2;exact bodyPost_ret (v:=.agg #[k,a,(0:Int),(0:Int)]) (by simp [results,Tryz.results85,go_sem]) rfl ⟨rfl,Ap⟩
theorem Uj (k a:Int) (w:World):Calls Tryz.prog 190 #[k,a] w fun e w'=>e=.returned (.agg #[(9:Int),k,a,(0:Int)])/\Below w w w':=by
 go_enter Tryz.func190,Tryz.ntmps190;go_wp2;exact bodyPost_ret (v:=.agg #[(9:Int),k,a,(0:Int)]) (by simp [results,Tryz.results190,go_sem]) rfl ⟨rfl,Ap⟩
theorem dB (A:Option Addr) (n cap:Nat) (gs:List Gt) (w:World) (h:RdG w A n gs) (hn:n<=1099511627776) :
  Calls Tryz.prog 35 #[.slice A n cap] w (jl 39 4 (af gs) n w):=by
 have H:=zH h;clear h;go_enter Tryz.func35,Tryz.ntmps35
 go_wp2_with (at_builtin;refine ah rfl (.tmp 3) (.tmp 4) 24 rfl Tryz.underlying24 ak rfl zD rfl (World.ownsRow_lit w #[] 0 zR zM rfl) rfl (H.out.2.alloc _) aQ zO zD zI ?_;intro A2 c2 w2 o2 g2)
 go_ret
 try rw [Nat.zero_add] at o2
 refine ⟨A2,c2,rfl,by simpa using o2,?_⟩;exact ag (a:=w) ((zW).alloc zR _) zI (World.ownsRow_lit w #[] 0 (size:=4) (e:=39) zR zM rfl) zR g2
def EntsI (es:List MapEntry) (zs:List Int):Prop:=es.map (fun e=>(e.key,e.val))=zs.map (fun z=>(Value.int .i64 z,Value.bool true))
theorem EntsI.key {es:List MapEntry} {zs:List Int} (h:EntsI es zs):∀ x ∈ es,MapKept.IsKey (.int .i64) x.key:=by
 intro x hx;have:(x.key,x.val) ∈ es.map (fun e=>(e.key,e.val)):=List.mem_map.2 ⟨x,hx,rfl⟩;rw [h] at this;obtain ⟨z,_,e⟩:=List.mem_map.1 this;injection e with e1 e2;rw [<- e1];rfl
theorem PC (k:Int) (w:World) (es:List MapEntry) (zs:List Int) (h:EntsI es zs) :
  ∃ r,(Instr.findKey 3 (.int .i64 k) es).run Tryz.prog w=.ok r w/\(zs.any (· == k)=true->∃ j,r=some (j,.bool true))/\(zs.any (· == k)=false->r=none):=by
 rcases MapKept.findNow_spec (d:=.int .i64) (k:=.int .i64 k) rfl es 0 h.key with ⟨h1,h2⟩ | ⟨j,e,h1,h2,h3⟩
 ·refine ⟨none,MapKept.run_findKey Tryz.underlying3 h1,fun ht=>?_,fun _=>rfl⟩;obtain ⟨z,hz,hzk⟩:=List.any_eq_true.1 ht;have hm:(Value.int .i64 z,Value.bool true) ∈ es.map (fun e=>(e.key,e.val)):=by rw [h];exact List.mem_map.2 ⟨z,hz,rfl⟩
  obtain ⟨x,hx,e⟩:=List.mem_map.1 hm;injection e with e1 e2;exact absurd (e1.trans (by rw [eq_of_beq hzk])) (h2 x hx)
 ·have hx:e ∈ es:=List.mem_of_getElem? h2;have hm:(e.key,e.val) ∈ zs.map (fun z=>(Value.int .i64 z,Value.bool true)):=by rw [<- h];exact List.mem_map.2 ⟨e,hx,rfl⟩
  obtain ⟨z,hz,q⟩:=List.mem_map.1 hm;injection q with q1 q2;refine ⟨some (0+j,e.val),MapKept.run_findKey Tryz.underlying3 h1,fun _=>⟨0+j,by rw [<- q2]⟩,fun hf=>?_⟩
  rw [h3] at q1;injection q1 with _ q3;have:=List.any_eq_false.1 hf z hz
  simp [q3] at this
theorem mW (k:Int) (b:Bool) (w:World):(Instr.checkKey b 10000 3 (.int .i64 k)).run Tryz.prog w=.ok () w :=
 MapKept.run_checkKey Tryz.underlying3 (k:=.int .i64 k) rfl b 9999
theorem ix (r clock:Nat) (k:Int) (es:Array MapEntry) (zs:List Int) (w:World) (hb:w.heap[r]? = some (.map es clock)) (h:EntsI es.toList zs) :
  (Instr.lookup 78 (.map (some r)) (.int .i64 k) false).run Tryz.prog w=.ok (.bool (zs.any (· == k))) w:=by
 have hM:Tryz.prog.underlying 78=some (.map 3 4):=zK;obtain ⟨r',h1,h2,h3⟩:=PC k w es.toList zs h;have hz:(zeroValue 4).run Tryz.prog w=.ok (.bool false) w:=zK;cases hp:zs.any (· == k)
 ·obtain rfl:=h3 hp;simp [Instr.lookup,run_underlying hM,MapKept.run_getObj_map hb,mW,h1,hz,Result.andThen]
 ·obtain ⟨j,rfl⟩:=h2 hp;simp [Instr.lookup,run_underlying hM,MapKept.run_getObj_map hb,mW,h1,Result.andThen]
theorem nA (r clock:Nat) (k:Int) (es:Array MapEntry) (zs:List Int) (w:World) (hb:w.heap[r]? = some (.map es clock)) (h:EntsI es.toList zs) (hp:zs.any (· == k)=false) :
  (Instr.mapUpdate 78 (.map (some r)) (.int .i64 k) (.bool true)).run Tryz.prog w=.ok () { w with heap:=w.heap.setIfInBounds r (.map (es.push { key:=.int .i64 k,val:=.bool true,born:=clock }) (clock+1)) }:=by
 have hM:Tryz.prog.underlying 78=some (.map 3 4):=zK;obtain ⟨r',h1,h2,h3⟩:=PC k w es.toList zs h;obtain rfl:=h3 hp;simp [Instr.mapUpdate,run_underlying hM,MapKept.run_getObj_map hb,mW,h1,MapKept.run_setObj_map _ hb,Result.andThen]
theorem EntsI.push {es:Array MapEntry} {zs:List Int} (h:EntsI es.toList zs) (k:Int) (b:Nat):EntsI (es.push { key:=.int .i64 k,val:=.bool true,born:=b }).toList (zs++[k]):=by
 unfold EntsI at h ⊢;rw [Array.toList_push,List.map_append,h,List.map_append];rfl
theorem mL {B:Nat} {a w:World} (h:Below B a w) {r:Nat} (hr:B<=r) (o:Obj):Below B a { w with heap:=w.heap.setIfInBounds r o } :=
 h.trans ⟨rfl,rfl,rfl,zI,fun k hk=>by
  show (w.heap.setIfInBounds r o)[k]? = _;rw [Array.getElem?_setIfInBounds_ne zO]⟩
theorem Bx.setObjI {w:World} {g t:Nat} {cs:Array Value} (h:Bx w g t cs) {r:Nat} (hr:g ≠ r) (o:Obj):Bx { w with heap:=w.heap.setIfInBounds r o } g t cs:=by
 unfold Bx at h ⊢;show (w.heap.setIfInBounds r o)[g]? = _;rw [Array.getElem?_setIfInBounds_ne zO];exact h
theorem pN {w:World} {r:Nat} {o o':Obj} (h:w.heap[r]? = some o):({ w with heap:=w.heap.setIfInBounds r o' }:World).heap[r]? = some o':=(MapKept.heap_set h).1
theorem rg {w:World} {r:Nat} {o o':Obj} (h:w.heap[r]? = some o):(w.alloc o').heap[r]? = some o:=(Below.heap_alloc w o' r (Array.getElem?_eq_some_iff.1 h).1).trans h
theorem rh {w w':World} {r:Nat} {o:Obj} (h:w.heap[r]? = some o) (hb:Below w w w'):w'.heap[r]? = some o:=(hb.block r (Array.getElem?_eq_some_iff.1 h).1).trans h
end Go.Proofs.YtmenmibfkojnoaaGreat
