import Derived.Test.YtobpgndkciofhaaGreatDoorRows
import Derived.WalkKit
import Derived.WalkSpells
import Derived.WalkLawsBesides
import Derived.Lib.Hide
import Derived.Deep.QuietTactic
import Derived.BigQuiet
import Derived.Below
import Derived.Laws.OwnMore
import Derived.Deep.AppendLies
import Derived.Deep.Draws
import Derived.Deep.RegionHeld3
import Derived.Deep.RegionWith
import Derived.IntWalk
import Derived.Lib.OthersKept
import Derived.Laws.AppendOwn
import Derived.OwnWalk
import Derived.Deep.RegionLaw
import Derived.ProofKit
import Derived.OpenShut
import Derived.ShutString
import Derived.ChangeOld
import Derived.Lib.SmallJoins
import Derived.Lib.ItoaNum
import Derived.Laws.Strings
import Derived.Laws.Strings2
import Derived.Laws.Strings3
import Derived.Laws.RangeString
import Derived.Laws.RangeAny
import Derived.Laws.Concat
import Derived.Deep.Slices
import Derived.Deep.Fields
import Derived.ChangeSame
set_option linter.all false
namespace Go.Proofs.YtobpgndkciofhaaGreatDoor
open Go.RowKit Go.Proofs.Tryz
open Go.Lib (hid)
set_option maxRecDepth 100000
set_option maxHeartbeats 16000000
theorem eD {a b:Bool} (h:a=b):Ending.returned (.bool a)= .returned (.bool b):=by rw[h]
theorem uz {k:IntKind} {a b:Int} (h:a=b):Ending.returned (.int k a)= .returned (.int k b):=by rw[h]
theorem aal {k l:IntKind} {a b c d:Int} (h:a=b) (U:c=d):Ending.returned (.tuple #[.int k a,.int l c])= .returned (.tuple #[.int k b,.int l d]):=by rw[h,U]
theorem J3 (a:Addr) (n:Nat):(a.add n).block=a.block:=by unfold Addr.add;split<;>rfl
def Kept (w w':World):Prop:=Below w.heap.size w w'
theorem Kept.refl (w:World):Kept w w:=Below.refl _ _
theorem Kept.trans {a b c:World} (h:Kept a b) (k:Kept b c):Kept a c:=Below.trans h (Below.mono k h.size)
theorem Kept.alloc {a b:World} (h:Kept a b) (o:Obj):Kept a (b.alloc o):=Below.alloc h h.size o
theorem Kept.drew {a b:World} (h:Kept a b):Kept a b.drew:=Below.drew h
theorem Kept.drewN {a b:World} (h:Kept a b) (n:Nat):Kept a (b.drewN n):=⟨h.os,h.tape,h.output,h.size,h.block⟩
theorem Kept.setCell {a b:World} (h:Kept a b) {p:Addr} (hp:a.heap.size≤p.block) (u:Value):Kept a (b.setCell p u):=Below.setCell h hp u
theorem Kept.cell {w w':World} (h:Kept w w') {p:Addr} {v:Value} (J:p.block<w.heap.size) (ah:w.cell? p=some v):w'.cell? p=some v:=(Below.cell h J).trans ah
theorem a8 {α:Type} {l:List α} {i:Nat} (h:i<l.length):l[i]?=some l[i]:=List.getElem?_eq_getElem h
theorem b8 {α:Type} {l:List α} {i:Nat} {a:α} (h:l[i]?=some a):∃h:i<l.length,l[i]=a:=List.getElem?_eq_some_iff.1 h
theorem bd {a b c:Nat} (h:a<b) (k:b≤c):a<c:=Nat.lt_of_lt_of_le h k
theorem aQ (w:World):Kept w w:=Kept.refl w
instance:Coe Int Value:=⟨fun n=> .int .i64 n⟩
instance:Coe Nat Value:=⟨fun n=> .int .i64 n⟩
instance:Coe ByteArray Value:=⟨fun s=> .string s⟩
instance:Coe Unit Value:=⟨fun _=> .int .i64 0⟩
inductive T9|n
def aR:T9:= .n
instance:Coe T9 Value:=⟨fun _=> .slice none 0 0⟩
theorem Kept.ad {w w':World} (h:Kept w w') {b o:Nat} {v:Value} (J:b<w.heap.size) (ah:w.cell? ⟨b,o,none⟩=some v):w'.cell? ⟨b,o,none⟩=some v:=h.cell (p:=⟨b,o,none⟩) J ah
theorem Kept.cells {W w1:World} (J:Kept W w1):(∀b o,b<W.heap.size→w1.cell? ⟨b,o,none⟩=W.cell? ⟨b,o,none⟩)∧(∀b o,b<W.heap.size→w1.frozen? ⟨b,o,none⟩=W.frozen? ⟨b,o,none⟩):=
 ⟨fun b o h=>Below.cell J (p:=⟨b,o,none⟩) h,fun b o h=>Below.frozen J (p:=⟨b,o,none⟩) h⟩
theorem Kept.acY {w W:World} {aC:Array Value} {t1:TypeId} (h:Kept (w.alloc (.cells aC t1)) W):
  (∀i,W.cell? ⟨w.heap.size,i,none⟩=aC[i]?)∧w.heap.size<W.heap.size:=by
 refine⟨fun i=> ?_,?_⟩
 ·rw[Below.cell h (p:=⟨w.heap.size,i,none⟩) (by simp)];exact World.cell?_alloc_at aC t1 _ i rfl
 ·have:=h.size;simp at this;omega
theorem Kept.UK {w W:World} {aC aM:Array Value} {t1 t2:TypeId} (h:Kept ((w.alloc (.cells aC t1)).alloc (.cells aM t2)) W):
  (∀i,W.cell? ⟨w.heap.size,i,none⟩=aC[i]?)∧(∀i,W.cell? ⟨w.heap.size+1,i,none⟩=aM[i]?)∧w.heap.size+1<W.heap.size:=by
 refine⟨fun i=> ?_,fun i=> ?_,?_⟩
 ·rw[Below.cell h (p:=⟨w.heap.size,i,none⟩) (by simp;omega)];rw[World.cell?_alloc_past _ _ _ (by simp),World.cell?_alloc_at aC t1 _ i rfl]
 ·rw[Below.cell h (p:=⟨w.heap.size+1,i,none⟩) (by simp)];exact World.cell?_alloc_at aM t2 _ i (by simp)
 ·have:=h.size;simp at this;omega
def ao (w:World) (g:Nat) (t:TypeId) (cs:Array Value):Prop:=w.heap[g]?=some (.cells cs t (0,0))
section
variable {w w':World} {g:Nat} {t:TypeId} {cs:Array Value}
theorem ao.lt (h:ao w g t cs):g<w.heap.size:=by
 rcases Nat.lt_or_ge g w.heap.size with aD|ln
 ·exact aD
 ·unfold ao at h;rw[Array.getElem?_eq_none ln]at h;cases h
theorem ao.cell (h:ao w g t cs) (i:Nat):w.cell? ⟨g,i,none⟩=cs[i]?:=cell_of_row w g i cs t (0,0) h
theorem ao.frozen (h:ao w g t cs) (i:Nat):w.frozen? ⟨g,i,none⟩=false:=by
 unfold ao at h;simp[World.frozen?,h]
theorem ao.new (w:World) (t:TypeId) (cs:Array Value):ao (w.alloc (.cells cs t)) w.heap.size t cs:=heap_alloc_new w _
theorem ao.drew (h:ao w g t cs):ao w.drew g t cs:=h
theorem ao.drewN (h:ao w g t cs) (n:Nat):ao (w.drewN n) g t cs:=h
theorem ao.alloc (h:ao w g t cs) (o:Obj):ao (w.alloc o) g t cs:=(Below.heap_alloc w o g h.lt).trans h
theorem ao.aP (h:ao w g t cs) (i:Nat) (u:Value):ao (w.setCell ⟨g,i,none⟩ u) g t (cs.setIfInBounds i u):=by
 unfold ao at h⊢;simp[World.setCell,Array.getElem?_modify,h]
theorem ao.far (h:ao w g t cs) {p:Addr} (hp:g≠p.block) (u:Value):ao (w.setCell p u) g t cs:=(Below.heap_setCell w p u g hp).trans h
theorem ao.kept (h:ao w g t cs) (J:Kept w w'):ao w' g t cs:=(J.block g h.lt).trans h
end
structure al (w:World) where
 W:World
 h:Kept w W
instance (w:World):Nonempty (al w):=⟨⟨w,Kept.refl w⟩⟩
theorem fQ {P:Program} {id:Nat} {Q:Exit→Act→World→Prop} {a:Act} {w:World} {l:List Oper} (hm:P.follows .mixedOrders=true) (aU:Region.lexB .any l.toArray=true)
  (h:wpQuiet P l.toArray (fun w'=>∃x:al w,w'=x.W) (fun d'=>∀w',(∃x:al w,w'=x.W)→Q .normal d' w') l a):(Code.region id l.toArray true).wp P Q a w:=
 wp_region_quiet (C:=fun w'=>∃x:al w,w'=x.W) hm aU ⟨⟨w.drew,(Kept.refl w).drew⟩,rfl⟩ (by simpa using h)
theorem al.call {P:Program} {f:FuncId} {args:Array Value} {w:World} {x:al w} {v:Value}
  (h:Calls P f args x.W fun e w'=>e= .returned v∧Kept x.W w'):Calls P f args x.W fun e yX=>e= .returned v∧∃y:al w,yX=y.W:=
 h.mono fun _ w' ⟨he,aa⟩=>⟨he,⟨w',x.h.trans aa⟩,rfl⟩
theorem al.pure {P:Program} {f:FuncId} {args:Array Value} {w:World} {x:al w} {v:Value}
  (h:Calls P f args x.W fun e w'=>e= .returned v∧x.W=w'):Calls P f args x.W fun e yX=>e= .returned v∧∃y:al w,yX=y.W:=
 h.mono fun _ w' ⟨he,aa⟩=>⟨he,⟨w',aa▸x.h⟩,rfl⟩
theorem al.cell {w:World} {b o:Nat} {v:Value} (J:b<w.heap.size) (ah:w.cell? ⟨b,o,none⟩=some v) (x:al w):x.W.cell? ⟨b,o,none⟩=some v:=x.h.cell (p:=⟨b,o,none⟩) J ah
def Ints (w:World) (A:Option Addr) (n:Nat) (xs:List Int):Prop:=
 xs.length=n∧(0<n→∃b off,A=some ⟨b,off,none⟩∧b<w.heap.size∧∀j,j<n→w.cell? ⟨b,off+j,none⟩=some (.int .i64 (xs[j]?.getD 0)))
theorem Ints.kept {w w':World} {A:Option Addr} {n:Nat} {xs:List Int} (h:Ints w A n xs) (J:Kept w w'):Ints w' A n xs:=by
 refine⟨h.1,fun aA=> ?_⟩;obtain⟨b,off,aK,aD,ah⟩:=h.2 aA;exact⟨b,off,aK,Nat.lt_of_lt_of_le aD J.size,fun j aB=>J.cell (p:=⟨b,off+j,none⟩) aD (ah j aB)⟩
theorem Ints.alloc {w:World} {A:Option Addr} {n:Nat} {xs:List Int} (h:Ints w A n xs) (o:Obj):Ints (w.alloc o) A n xs:=
 h.kept ((Kept.refl _).alloc o)
theorem Ints.drew {w:World} {A:Option Addr} {n:Nat} {xs:List Int} (h:Ints w A n xs):Ints w.drew A n xs:=h
theorem Ints.drewN {w:World} {A:Option Addr} {n:Nat} {xs:List Int} (h:Ints w A n xs) (k:Nat):Ints (w.drewN k) A n xs:=h
theorem Ints.at_ {w:World} {A:Option Addr} {n:Nat} {xs:List Int} (h:Ints w A n xs) {k:Nat} (aa:k<n):
  ∃b off,A=some ⟨b,off,none⟩∧b<w.heap.size∧∀j,j<n→w.cell? ⟨b,off+j,none⟩=some (.int .i64 (xs[j]?.getD 0)):=h.2 (by omega)
theorem Kept.az {w W:World} {c:Array Value} {t:TypeId} (h:w.alloc (.cells c t)=W):Kept w W∧ao W w.heap.size t c:=h▸⟨(Kept.refl w).alloc _,ao.new w t c⟩
theorem Kept.a6 {w W:World} {c d:Array Value} {t u:TypeId} (h:(w.alloc (.cells c t)).alloc (.cells d u)=W):Kept w W∧ao W w.heap.size t c∧ao W (w.heap.size+1) u d:=by
 obtain⟨k,b⟩:=Kept.az (rfl:w.alloc (.cells c t)=_);obtain⟨a',bc⟩:=Kept.az h;rw[World.size_alloc]at bc;exact⟨k.trans a',b.kept a',bc⟩
theorem Kept.b7 {w W:World} {c d e:Array Value} {t u v:TypeId} (h:((w.alloc (.cells c t)).alloc (.cells d u)).alloc (.cells e v)=W):Kept w W∧ao W w.heap.size t c∧ao W (w.heap.size+1) u d∧ao W (w.heap.size+1+1) v e:=by
 obtain⟨k,b,bY⟩:=Kept.a6 (rfl:(w.alloc (.cells c t)).alloc (.cells d u)=_);obtain⟨a',bc⟩:=Kept.az h;rw[World.size_alloc,World.size_alloc]at bc;exact⟨k.trans a',b.kept a',bY.kept a',bc⟩
theorem Kept.fh {w W:World} {c d e f:Array Value} {t u v x:TypeId} (h:(((w.alloc (.cells c t)).alloc (.cells d u)).alloc (.cells e v)).alloc (.cells f x)=W):Kept w W∧ao W w.heap.size t c∧ao W (w.heap.size+1) u d∧ao W (w.heap.size+1+1) v e∧ao W (w.heap.size+1+1+1) x f:=by
 obtain⟨k,b,bY,eh⟩:=Kept.b7 (rfl:((w.alloc (.cells c t)).alloc (.cells d u)).alloc (.cells e v)=_);obtain⟨a',bc⟩:=Kept.az h;rw[World.size_alloc,World.size_alloc,World.size_alloc]at bc;exact⟨k.trans a',b.kept a',bY.kept a',eh.kept a',bc⟩
theorem Kept.hr {w W:World} {c d e f g:Array Value} {t u v x y:TypeId} (h:((((w.alloc (.cells c t)).alloc (.cells d u)).alloc (.cells e v)).alloc (.cells f x)).alloc (.cells g y)=W):Kept w W∧ao W w.heap.size t c∧ao W (w.heap.size+1) u d∧ao W (w.heap.size+1+1) v e∧ao W (w.heap.size+1+1+1) x f∧ao W (w.heap.size+1+1+1+1) y g:=by
 obtain⟨k,b,bY,eh,dy⟩:=Kept.fh (rfl:(((w.alloc (.cells c t)).alloc (.cells d u)).alloc (.cells e v)).alloc (.cells f x)=_);obtain⟨a',bc⟩:=Kept.az h;rw[World.size_alloc,World.size_alloc,World.size_alloc,World.size_alloc]at bc;exact⟨k.trans a',b.kept a',bY.kept a',eh.kept a',dy.kept a',bc⟩
theorem ao.q {w:World} {g:Nat} {t:TypeId} {cs:Array Value} (h:ao w g t cs):(∀i,w.cell? ⟨g,i,none⟩=cs[i]?)∧g<w.heap.size∧∀i,w.frozen? ⟨g,i,none⟩=false:=⟨h.cell,h.lt,h.frozen⟩
theorem ao.p {w:World} {g:Nat} {t:TypeId} {cs:Array Value} (h:ao w g t cs):(∀i,w.cell? ⟨g,i,none⟩=cs[i]?)∧g<w.heap.size:=⟨h.cell,h.lt⟩
theorem aY {P:Program} {fn:Func} {R:Ending→World→Prop} {t:Array Value} {w:World} {v:Value} (aw:R (.returned v) w) (aH:(results fn t).run P w= .ok v w):bodyPost P fn R .ret ⟨t,[]⟩ w:=⟨rfl,v,aH,aw⟩
theorem Kept.UG {w W:World} {aC:Array Value} {t1:TypeId} (h:Kept (w.alloc (.cells aC t1)) W):ao W w.heap.size t1 aC:=
 (ao.new w t1 aC).kept h
theorem Kept.Gx {w W:World} {aC aM:Array Value} {t1 t2:TypeId} (h:Kept ((w.alloc (.cells aC t1)).alloc (.cells aM t2)) W):
  ao W w.heap.size t1 aC∧ao W (w.heap.size+1) t2 aM:=
 ⟨((ao.new w t1 aC).alloc _).kept h,by have:=(ao.new (w.alloc (.cells aC t1)) t2 aM).kept h;rwa [World.size_alloc]at this⟩
theorem Kept.BA {w W:World} {aC aM a1:Array Value} {t1 t2 t3:TypeId} (h:Kept (((w.alloc (.cells aC t1)).alloc (.cells aM t2)).alloc (.cells a1 t3)) W):
  ao W w.heap.size t1 aC∧ao W (w.heap.size+1) t2 aM∧ao W (w.heap.size+2) t3 a1:=
 ⟨(((ao.new w t1 aC).alloc _).alloc _).kept h,by have:=((ao.new (w.alloc (.cells aC t1)) t2 aM).alloc (.cells a1 t3)).kept h;rwa [World.size_alloc]at this,
  by have:=(ao.new ((w.alloc (.cells aC t1)).alloc (.cells aM t2)) t3 a1).kept h;rwa [World.size_alloc,World.size_alloc]at this⟩
theorem Kept.UH {w W:World} {aC aM a1 bN:Array Value} {t1 t2 t3 t4:TypeId} (h:Kept ((((w.alloc (.cells aC t1)).alloc (.cells aM t2)).alloc (.cells a1 t3)).alloc (.cells bN t4)) W):
  ao W w.heap.size t1 aC∧ao W (w.heap.size+1) t2 aM∧ao W (w.heap.size+2) t3 a1∧ao W (w.heap.size+3) t4 bN:=
 ⟨((((ao.new w t1 aC).alloc _).alloc _).alloc _).kept h,by have:=(((ao.new (w.alloc (.cells aC t1)) t2 aM).alloc (.cells a1 t3)).alloc (.cells bN t4)).kept h;rwa [World.size_alloc]at this,
  by have:=((ao.new ((w.alloc (.cells aC t1)).alloc (.cells aM t2)) t3 a1).alloc (.cells bN t4)).kept h;rwa [World.size_alloc,World.size_alloc]at this,
  by have:=(ao.new (((w.alloc (.cells aC t1)).alloc (.cells aM t2)).alloc (.cells a1 t3)) t4 bN).kept h;rwa [World.size_alloc,World.size_alloc,World.size_alloc]at this⟩
def gV {α:Type} (w:World) (f:α→List Value) (k:Nat) (v:Value) (xs:List α):Prop:=
 ∃A cap,v= .slice A xs.length cap∧(0<xs.length→∃b off,A=some ⟨b,off,none⟩∧b<w.heap.size∧∀j x,xs[j]?=some x→∀i u,(f x)[i]?=some u→w.cell? ⟨b,off+j*k+i,none⟩=some u)
section
variable {α:Type} {f:α→List Value} {k:Nat}
theorem gV.kept {w w':World} {v:Value} {xs:List α} (h:gV w f k v xs) (aa:Kept w w'):gV w' f k v xs:=by
 obtain⟨A,cap,ay,af⟩:=h;refine⟨A,cap,ay,fun hp=> ?_⟩;obtain⟨b,off,aK,J,ah⟩:=af hp;exact⟨b,off,aK,bd J aa.size,fun j x aB i u hu=>aa.ad J (ah j x aB i u hu)⟩
theorem gV.nil (w:World) (f:α→List Value) (k:Nat):gV w f k aR []:=⟨none,0,rfl,fun h=>absurd h (by simp)⟩
theorem gV.drew {w:World} {v:Value} {xs:List α} (h:gV w f k v xs):gV w.drew f k v xs:=h
def c3 (w:World) (B:Nat) (e:TypeId) (f:α→List Value) (k:Nat) (v:Value) (xs:List α):Prop:=w.ownsRow B e k v xs.length (xs.flatMap f)
theorem c3.nil (w:World) (B:Nat) (e:TypeId):c3 w B e f k aR []:=World.ownsRow_nil _ _ _ _
theorem GS (bO:∀x,(f x).length=k):∀(xs:List α) (j:Nat) (x:α),xs[j]?=some x→∀i u,(f x)[i]?=some u→(xs.flatMap f)[j*k+i]?=some u:=by
 intro xs;induction xs with
 |nil=>intro j x h;simp at h
 |cons y bh bH=>
  intro j x h i u hu;rw[List.flatMap_cons];have aE:i<(f x).length:=(b8 hu).1;rw[bO]at aE
  cases j with
  |zero=>
   have e:y=x:=Option.some.inj h;subst e;rw[Nat.zero_mul,Nat.zero_add,List.getElem?_append_left (by rw[bO];exact aE)];exact hu
  |succ j=>
   rw[List.getElem?_append_right (by rw[bO,Nat.succ_mul];omega),bO,show (j+1)*k+i-k=j*k+i by rw[Nat.succ_mul];omega];exact bH j x (by simpa using h) i u hu
theorem c3.yL {w:World} {B:Nat} {e:TypeId} {v:Value} {xs:List α} (bO:∀x,(f x).length=k) (h:c3 w B e f k v xs):gV w f k v xs:=by
 have dp:=h;rcases h.2 with⟨rfl,aA⟩|⟨g,cap,cur,rfl,_,ai,_⟩
 ·have:xs=[]:=List.length_eq_zero_iff.1 aA;subst this;exact gV.nil w f k
 ·refine⟨_,_,rfl,fun _=>⟨g,0,rfl,(Array.getElem?_eq_some_iff.1 ai).1,fun j x aB i u hu=> ?_⟩⟩;have ah:=World.ownsRow.cells dp (g:=g) rfl (j*k+i) u (GS bO xs j x aB i u hu);have e:(⟨g,0,none⟩:Addr).add (j*k+i)=⟨g,0+j*k+i,none⟩:=by
   unfold Addr.add;by_cases aj:j*k+i=0
   ·simp only[aj,if_true];congr 1;omega
   ·rw[if_neg aj];simp
  rw[e]at ah;exact ah
theorem CI {dI wr w1:World} {B:Nat} {v:Value} {e:TypeId} {size n:Nat} {xs:List Value} {o:Obj} (ab:Kept dI wr) (cR:wr.ownsRow B e size v n xs) (aU:dI.heap.size≤B) (ai:(wr.alloc o).grownBy w1 v.ownBlock):Kept dI w1:=by
 refine⟨ai.os.trans ab.os,ai.tape.trans ab.tape,ai.output.trans ab.output,?_,fun b J=> ?_⟩
 ·have:=ab.size;have U:=ai.size;simp at U;omega
 ·have ax:=ab.size;rw[ai.block b (by simp;omega) (fun e=>by have:=(World.ownsRow.lt cR b e.symm).1;omega)];rw[Below.heap_alloc wr o b (by omega)];exact ab.block b J
theorem LV {wr w1:World} {B:Nat} {v:Value} {e:TypeId} {size n:Nat} {xs:List Value} {o:Obj} (cR:wr.ownsRow B e size v n xs) (ai:(wr.alloc o).grownBy w1 v.ownBlock) {j:Nat} (aB:j<wr.heap.size) (aU:j<B):w1.heap[j]?=wr.heap[j]?:=by
 rw[ai.block j (by simp;omega) (fun e=>by have:=(World.ownsRow.lt cR j e.symm).1;omega)];exact Below.heap_alloc wr o j aB
theorem Z1 {wr w1:World} {v:Value} {o:Obj} (ai:(wr.alloc o).grownBy w1 v.ownBlock):wr.heap.size+1≤w1.heap.size:=by
 have U:=ai.size;simp at U;omega
theorem c3.snoc {w:World} {B:Nat} {e:TypeId} {v:Value} {xs:List α} {x:α} (h:w.ownsRow B e k v (xs.length+1) (xs.flatMap f++f x)):c3 w B e f k v (xs++[x]):=by
 unfold c3;rw[List.length_append,List.flatMap_append];simpa using h
theorem c3.n3 {w w':World} {B:Nat} {e:TypeId} {v:Value} {xs:List α} (h:c3 w B e f k v xs) (aa:Kept w w'):c3 w' B e f k v xs:=by
 refine⟨h.1,?_⟩;rcases h.2 with aA|⟨g,cap,cur,ay,J,ai,r⟩
 ·exact .inl aA
 ·exact .inr ⟨g,cap,cur,ay,J,(aa.block g (Array.getElem?_eq_some_iff.1 ai).1).trans ai,r⟩
theorem zK {w:World} {t:TypeId} {l:List Value}:∀j u,l[j]?=some u→(w.alloc (.cells l.toArray t)).cell? ((⟨w.heap.size,0,none⟩:Addr).add j)=some u:=by
 intro j u aB;have e:(⟨w.heap.size,0,none⟩:Addr).add j=⟨w.heap.size,j,none⟩:=by
  unfold Addr.add;by_cases aj:j=0
  ·subst aj;rfl
  ·rw[if_neg aj];simp
 rw[e,World.cell?_alloc_at _ _ _ _ rfl];simpa using aB
end
structure mq (w w':World) (v v':Value):Prop where
 kX:w.grownBy w' v.ownBlock
 own:∀b,v'.ownBlock=some b→v.ownBlock=some b∨w.heap.size≤b
theorem mq.refl (w:World) (v:Value):mq w w v v:=⟨⟨rfl,rfl,rfl,Nat.le_refl _,fun _ _ _=>rfl⟩,fun _ h=> .inl h⟩
theorem mq.trans {a b c:World} {u v x:Value} (h:mq a b u v) (k:mq b c v x):mq a c u x:=by
 refine⟨⟨k.kX.os.trans h.kX.os,k.kX.tape.trans h.kX.tape,k.kX.output.trans h.kX.output,Nat.le_trans h.kX.size k.kX.size,fun q au aA=> ?_⟩,fun q au=> ?_⟩
 ·rw[k.kX.block q (bd au h.kX.size) (fun e=> ?_),h.kX.block q au aA];rcases h.own q e.symm with I|I
  ·exact aA I.symm
  ·omega
 ·rcases k.own q au with I|I
  ·exact h.own q I
  ·exact .inr (Nat.le_trans h.kX.size I)
theorem mq.size {w w':World} {v v':Value} (h:mq w w' v v'):w.heap.size≤w'.heap.size:=h.kX.size
theorem mq.kept {w w':World} {v:Value} (h:Kept w w'):mq w w' v v:=
 ⟨⟨h.os,h.tape,h.output,h.size,fun b J _=>h.block b J⟩,fun _ e=> .inl e⟩
theorem mq.fD {w w':World} {v v':Value} {g:Nat} {t:TypeId} {cs:Array Value} (h:mq w w' v v') (J:ao w g t cs) (aA:some g≠v.ownBlock):ao w' g t cs:=
 (h.kX.block g J.lt aA).trans J
theorem mq.cell {w w':World} {v v':Value} {b o:Nat} {u:Value} (h:mq w w' v v') (J:b<w.heap.size) (aA:some b≠v.ownBlock) (ah:w.cell? ⟨b,o,none⟩=some u):w'.cell? ⟨b,o,none⟩=some u:=by
 rw[World.cell?_of_block (a:=⟨b,o,none⟩) (h.kX.block b J aA)];exact ah
theorem mq.below {dI w w':World} {v v':Value} (h:mq w w' v v') (aa:Kept dI w) (ay:∀b,v.ownBlock=some b→dI.heap.size≤b):Kept dI w':=by
 refine⟨h.kX.os.trans aa.os,h.kX.tape.trans aa.tape,h.kX.output.trans aa.output,Nat.le_trans aa.size h.kX.size,fun b J=> ?_⟩;rw[h.kX.block b (bd J aa.size) (fun e=>by have:=ay b e.symm;omega)];exact aa.block b J
section
variable {α:Type} {f:α→List Value} {k:Nat} {w:World} {B:Nat} {e:TypeId}
theorem c3.owned {v:Value} {xs:List α} (h:c3 w B e f k v xs) {b:Nat} (J:v.ownBlock=some b):B≤b∧b<w.heap.size:=by
 rcases h.2 with⟨rfl,_⟩|⟨g,cap,cur,rfl,aU,ai,_⟩
 ·cases J
 ·obtain rfl:g=b:=Option.some.inj J;exact⟨aU,(Array.getElem?_eq_some_iff.1 ai).1⟩
theorem c3.form {v:Value} {xs:List α} (h:c3 w B e f k v xs):∃A cap,v= .slice A xs.length cap∧xs.length≤cap∧cap≤maxLen:=by
 rcases h.2 with⟨rfl,aA⟩|⟨g,cap,cur,rfl,_,_,I,U,_⟩
 ·exact⟨none,0,by rw[aA],by omega,by unfold maxLen;omega⟩
 ·exact⟨_,cap,rfl,I,U⟩
theorem c3.take {A:Option Addr} {n cap:Nat} {xs:List α} (bO:∀x,(f x).length=k) (h:c3 w B e f k (.slice A n cap) xs) {m:Nat} (hm:m≤n):c3 w B e f k (.slice A m cap) (xs.take m):=by
 have hlen:xs.length=n:=by
  obtain⟨_,_,ay,_⟩:=h.form;simp only[Value.slice.injEq]at ay;exact ay.2.1.symm
 have oy:∀l:List α,(l.flatMap f).length=l.length*k:=by
  intro l;induction l with
  |nil=>simp
  |cons a t bH=>rw[List.flatMap_cons,List.length_append,bO,bH,List.length_cons,Nat.succ_mul];omega
 have aD:(xs.take m).length=m:=by rw[List.length_take];omega
 refine⟨by rw[oy,aD],?_⟩;rw[aD];rcases h.2 with⟨ay,aA⟩|⟨g,oq,cur,ay,aU,ai,I,U,ae,aJ⟩
 ·simp only[Value.slice.injEq]at ay;obtain⟨rfl,rfl,rfl⟩:=ay;exact .inl ⟨by rw[show m=0 by omega],by omega⟩
 ·simp only[Value.slice.injEq]at ay;obtain⟨rfl,aA,rfl⟩:=ay;refine .inr ⟨g,cap,cur,rfl,aU,ai,by omega,U,ae,?_⟩;have hle:m*k≤xs.length*k:=Nat.mul_le_mul_right k (by omega);have az:cur.toList.take (m*k)=(xs.flatMap f).take (m*k):=by
   rw[←aJ,List.take_take,Nat.min_eq_left hle]
  rw[az];conv=>lhs;rw[←List.take_append_drop m xs,List.flatMap_append]
  rw[List.take_append_of_le_length (by rw[oy,aD];exact Nat.le_refl _),List.take_of_length_le (by rw[oy,aD];exact Nat.le_refl _)]
theorem c3.ja {v:Value} {xs bh:List α} {g o:Nat} {u:Value} (h:c3 w B e f k v xs) (ay:v.ownBlock=some g) (aq:bh.length=xs.length) (o5:bh.flatMap f=(xs.flatMap f).set o u):c3 (w.setCell ⟨g,o,none⟩ u) B e f k v bh:=by
 refine⟨by rw[o5,List.length_set,aq];exact h.1,?_⟩;rw[aq];rcases h.2 with⟨rfl,_⟩|⟨hR,cap,cur,rfl,aU,ai,I,U,ae,aJ⟩
 ·cases ay
 ·obtain rfl:hR=g:=Option.some.inj ay;refine .inr ⟨hR,cap,cur.setIfInBounds o u,rfl,aU,?_,I,U,by rw[Array.size_setIfInBounds];exact ae,?_⟩
  ·simp[World.setCell,Array.getElem?_modify,ai]
  ·rw[Array.toList_setIfInBounds,List.take_set,aJ,o5]
theorem mq.setCell {w w':World} {v v':Value} {g o:Nat} {u:Value} (h:mq w w' v v') (ai:v'.ownBlock=some g):mq w (w'.setCell ⟨g,o,none⟩ u) v v':=by
 refine⟨⟨h.kX.os,h.kX.tape,h.kX.output,by simpa using h.kX.size,fun b J aA=> ?_⟩,h.own⟩;rw[←h.kX.block b J aA];refine Below.heap_setCell w' _ u b (fun e=> ?_);simp only at e;subst e;rcases h.own b ai with I|I
 ·exact aA I.symm
 ·omega
end
structure cz where
 o:Int
 n:Int
def Rm (x:cz):List Value:=[.int .i64 x.o,x.n]
abbrev zw (w:World) (v:Value) (xs:List cz):Prop:=gV w Rm 2 v xs
def dY (op:Int):Int:=
 if (1≤op∧op≤9)∨(35≤op∧op≤39)then 0
 else if op=10∨op=25∨op=31∨op=32∨op=33∨op=34 then 1
 else if op=26 then 3
 else if 11≤op∧op≤30 then 2 else -1
theorem zI (op:Int): -1≤dY op∧dY op≤3:=by
 unfold dY;split
 ·decide
 ·split
  ·decide
  ·split
   ·decide
   ·split<;>decide
def kA (i:Nat) (a:Nat) (bs:List Nat):Nat:=if a=0 then i else bs[bs.length-a]?.getD 0
def jS:List cz→Nat→List Nat→List Nat→List Nat×Nat×Int
 |[],i,bs,di=>if 1<bs.length then ([],i,4)else (di,0,0)
 |x::r,i,bs,di=>
  if dY x.o<0 then ([],i,2)
  else if (bs.length:Int)<dY x.o then ([],i,5)
  else if 12<(bs.take (bs.length-(dY x.o).toNat)++[kA i (dY x.o).toNat bs]).length then ([],i,16)
  else jS r (i+1) (bs.take (bs.length-(dY x.o).toNat)++[kA i (dY x.o).toNat bs]) (di++[kA i (dY x.o).toNat bs])
def cF (e:List cz):List Nat×Nat×Int:=
 if 48<e.length then ([],0,4)else if e.length=0 then ([],0,5)else jS e 0 [] []
def qU (di:List Nat):Nat→Int→List Int→List Int
 |0,_,acc=>acc
 |n+1,k,acc=>qU di n (((di[k.toNat]?.getD 0:Nat):Int)-1) (k::acc)
theorem hf {a b:Int} (h:a≠b):(a==b)=false:=by simpa using h
theorem acF {op:Int} (h:op<1∨39<op):dY op= -1:=by
 unfold dY;rw[if_neg (by omega),if_neg (by omega),if_neg (by omega),if_neg (by omega)]
theorem DM (op:Int) (w:World):Calls prog 138 #[op] w fun e w'=>e= .returned (.int .i64 (dY op))∧w=w':=by
 rcases (show (op=1∨op=2∨op=3∨op=4∨op=5∨op=6∨op=7∨op=8∨op=9∨op=10∨op=11∨op=12∨op=13∨op=14∨op=15∨op=16∨op=17∨op=18∨op=19∨op=20∨op=21∨op=22∨op=23∨op=24∨op=25∨op=26∨op=27∨op=28∨op=29∨op=30∨op=31∨op=32∨op=33∨op=34∨op=35∨op=36∨op=37∨op=38∨op=39)∨(op<1∨39<op) by omega)with ah|ah
 ·rcases ah with rfl|rfl|rfl|rfl|rfl|rfl|rfl|rfl|rfl|rfl|rfl|rfl|rfl|rfl|rfl|rfl|rfl|rfl|rfl|rfl|rfl|rfl|rfl|rfl|rfl|rfl|rfl|rfl|rfl|rfl|rfl|rfl|rfl|rfl|rfl|rfl|rfl|rfl|rfl
  all_goals
   go_enter func138,ntmps138
   go_wp2_with fail
   go_ret;exact⟨rfl,rfl⟩
 ·have aI:=hid (acF ah);have az:=hf (show op≠1 by omega);have a6:=hf (show op≠2 by omega);have b7:=hf (show op≠3 by omega);have fh:=hf (show op≠4 by omega);have hr:=hf (show op≠5 by omega);have sH:=hf (show op≠6 by omega);have sI:=hf (show op≠7 by omega);have DZ:=hf (show op≠8 by omega);have OZ:=hf (show op≠9 by omega);have OX:=hf (show op≠10 by omega);have e11:=hf (show op≠11 by omega);have e12:=hf (show op≠12 by omega);have e13:=hf (show op≠13 by omega);have e14:=hf (show op≠14 by omega);have e15:=hf (show op≠15 by omega);have e16:=hf (show op≠16 by omega);have e17:=hf (show op≠17 by omega);have e18:=hf (show op≠18 by omega);have e19:=hf (show op≠19 by omega);have e20:=hf (show op≠20 by omega);have e21:=hf (show op≠21 by omega);have e22:=hf (show op≠22 by omega);have e23:=hf (show op≠23 by omega);have e24:=hf (show op≠24 by omega);have e25:=hf (show op≠25 by omega);have e26:=hf (show op≠26 by omega);have e27:=hf (show op≠27 by omega);have e28:=hf (show op≠28 by omega);have e29:=hf (show op≠29 by omega);have e30:=hf (show op≠30 by omega);have e31:=hf (show op≠31 by omega);have e32:=hf (show op≠32 by omega);have e33:=hf (show op≠33 by omega);have e34:=hf (show op≠34 by omega);have e35:=hf (show op≠35 by omega);have GN:=hf (show op≠36 by omega);have Ki:=hf (show op≠37 by omega);have OY:=hf (show op≠38 by omega);have Vr:=hf (show op≠39 by omega);clear ah;go_enter func138,ntmps138
  go_wp2_with fail
  go_ret;rw[aI.out];exact⟨rfl,rfl⟩
def k3 (n:Nat):List Value:=[.int .i64 (n:Int)]
theorem ZC (n:Nat):(k3 n).length=1:=rfl
theorem ZD (n:Nat):∀u∈k3 n,u.oneCell'=true:=by
 intro u hu;simp only[k3,List.mem_cons,List.not_mem_nil,or_false]at hu;subst hu;rfl
def qS (l:List Nat):Array Value:=(l.map fun n:Nat=>Value.int .i64 (n:Int)).toArray
theorem LI {l:List Nat} {i n:Nat} (h:l[i]?=some n):(qS l)[i]?=some (.int .i64 (n:Int)):=by simp[qS,h]
theorem LJ (l:List Nat) (i n:Nat):(qS l).setIfInBounds i (.int .i64 (n:Int))=qS (l.set i n):=by
 unfold qS;rw[List.setIfInBounds_toArray,List.map_set]
theorem ahd {w:World} {g:Nat} {t:TypeId} {l:List Nat} {cap:Nat} (h:ao w g t (qS l)):gV w k3 1 (.slice (some ⟨g,0,none⟩) l.length cap) l:=by
 refine⟨_,_,rfl,fun _=>⟨g,0,rfl,h.lt,fun j x aB i u hu=> ?_⟩⟩;have aE:i<1:=(b8 hu).1;obtain rfl:i=0:=by omega
 rw[show 0+j*1+0=j by omega,h.cell,LI aB];exact hu
theorem ahc {w:World} {B:Nat} {e:TypeId} {g n cap:Nat} {l:List Nat} (aq:l.length=n) (h:w.ownsRow B e 1 (.slice (some ⟨g,0,none⟩) n cap) n (l.map fun n:Nat=>Value.int .i64 (n:Int))) (ah:cap=n):ao w g e (qS l):=by
 subst ah;rcases h.2 with⟨ay,_⟩|⟨hR,oq,cur,ay,_,ai,_,_,ae,aJ⟩
 ·cases ay
 ·simp only[Value.slice.injEq,Option.some.injEq,Addr.mk.injEq]at ay;obtain⟨⟨rfl,_⟩,_,rfl⟩:=ay;rw[List.take_of_length_le (by rw[Array.length_toList,ae];exact Nat.le_refl _)]at aJ;unfold ao qS;rw[←aJ,Array.toArray_toList];exact ai
theorem akJ (n:Nat):List.replicate n (Value.int .i64 0)=(List.replicate n 0).map fun n:Nat=>Value.int .i64 (n:Int):=by simp
theorem ai9 (di:List Nat) (k n:Nat):(di++List.replicate (k+1) 0).set di.length n=(di++[n])++List.replicate k 0:=by
 rw[List.set_append_right _ _ (Nat.le_refl _),Nat.sub_self,List.replicate_succ,List.set_cons_zero];simp
theorem c3.far {α:Type} {f:α→List Value} {k:Nat} {w:World} {B:Nat} {e:TypeId} {v:Value} {xs:List α} (h:c3 w B e f k v xs) {p:Addr} (hp:p.block<B) (u:Value):c3 (w.setCell p u) B e f k v xs:=by
 refine⟨h.1,?_⟩;rcases h.2 with aA|⟨g,cap,cur,ay,J,ai,r⟩
 ·exact .inl aA
 ·exact .inr ⟨g,cap,cur,ay,J,(Below.heap_setCell w p u g (by omega)).trans ai,r⟩
theorem c3.alloc {α:Type} {f:α→List Value} {k:Nat} {w:World} {B:Nat} {e:TypeId} {v:Value} {xs:List α} (h:c3 w B e f k v xs) (o:Obj):c3 (w.alloc o) B e f k v xs:=
 h.n3 ((aQ w).alloc o)
theorem ZE {W:World} {s:Nat} {t:TypeId}:∀j u,(k3 s)[j]?=some u→(W.alloc (.cells #[.int .i64 (s:Int)] t)).cell? ((⟨W.heap.size,0,none⟩:Addr).add j)=some u:=
 zK (l:=k3 s)
theorem c3.row {w:World} {B:Nat} {e:TypeId} {v:Value} {xs:List Nat} (h:c3 w B e k3 1 v xs) (hp:0<xs.length):
  ∃g cap,v= .slice (some ⟨g,0,none⟩) xs.length cap∧B≤g∧g<w.heap.size∧∀(j x:Nat),xs[j]?=some x→w.cell? ⟨g,j,none⟩=some (.int .i64 (x:Int)):=by
 have aH:=h.yL ZC;rcases h.2 with⟨_,aj⟩|⟨g,cap,cur,rfl,aU,ai,_⟩
 ·omega
 ·refine⟨g,cap,rfl,aU,(Array.getElem?_eq_some_iff.1 ai).1,fun j x aB=> ?_⟩;obtain⟨A,c,ay,af⟩:=aH;simp only[Value.slice.injEq]at ay;obtain⟨rfl,_,rfl⟩:=ay;obtain⟨b,off,aK,_,ah⟩:=af hp;simp only[Option.some.injEq,Addr.mk.injEq]at aK;obtain⟨rfl,rfl,_⟩:=aK;have:=ah j x aB 0 _ rfl;rwa [show 0+j*1+0=j by omega]at this
theorem Tryz.rX:(prog.info? 3).map (fun i=>(i.zero,i.size,i.bytes))=some (some (.int .i64 0),1,8):=by kernel_rfl
theorem zw.at_ {w:World} {v:Value} {xs:List cz} (h:zw w v xs):∃A cap,v= .slice A xs.length cap∧(0<xs.length→∃b off,A=some ⟨b,off,none⟩∧b<w.heap.size∧
  ∀j t,xs[j]?=some t→w.cell? ⟨b,off+j*2,none⟩=some (.int .i64 t.o)∧w.cell? ⟨b,off+j*2+1,none⟩=some (.int .i64 t.n)):=by
 obtain⟨A,cap,ay,af⟩:=h;refine⟨A,cap,ay,fun hp=> ?_⟩;obtain⟨b,off,aK,J,ah⟩:=af hp;exact⟨b,off,aK,J,fun j t aB=>⟨ah j t aB 0 _ rfl,ah j t aB 1 _ rfl⟩⟩
def R8 (xs:List cz) (w:World) (e:Ending) (w':World):Prop:=∃v,e= .returned (.tuple #[v,.int .i64 ((cF xs).2.1:Nat),.int .i64 (cF xs).2.2])∧gV w' k3 1 v (cF xs).1∧Kept w w'
theorem ajl {xs:List cz} {i n:Nat} {bs di:List Nat} (h:jS (xs.drop i) i bs di=cF xs) (aE:¬i<n) (aA:n=xs.length) (aq:bs.length≤1):cF xs=(di,0,0):=by
 rw[←h,List.drop_eq_nil_iff.2 (by omega),jS,if_neg (by omega)]
theorem ajj {xs:List cz} {i n:Nat} {bs di:List Nat} (h:jS (xs.drop i) i bs di=cF xs) (aE:¬i<n) (aA:n=xs.length) (aq:1<bs.length):cF xs=([],i,4):=by
 rw[←h,List.drop_eq_nil_iff.2 (by omega),jS,if_pos aq]
theorem aji {xs:List cz} {i:Nat} {x:cz} {bs di:List Nat} (h:jS (xs.drop i) i bs di=cF xs) (af:xs[i]?=some x) (aZ:dY x.o<0):cF xs=([],i,2):=by
 obtain⟨aE,rfl⟩:=b8 af;rw[←h,List.drop_eq_getElem_cons aE,jS,if_pos aZ]
theorem ajm {xs:List cz} {i a:Nat} {x:cz} {bs di:List Nat} (h:jS (xs.drop i) i bs di=cF xs) (af:xs[i]?=some x) (aZ:dY x.o=a) (aq:bs.length<a):cF xs=([],i,5):=by
 obtain⟨aE,rfl⟩:=b8 af;rw[←h,List.drop_eq_getElem_cons aE,jS,if_neg (by omega),if_pos (by omega)]
theorem ajh {xs:List cz} {i a m:Nat} {x:cz} {bs di:List Nat} (h:jS (xs.drop i) i bs di=cF xs) (af:xs[i]?=some x) (aZ:dY x.o=a) (aq:bs.length=m+a) (av:12<m+1):cF xs=([],i,16):=by
 obtain⟨aE,rfl⟩:=b8 af;rw[←h,List.drop_eq_getElem_cons aE,jS,if_neg (by omega),if_neg (by omega),if_pos (by rw[List.length_append,List.length_take,aZ];simp;omega)]
theorem ajk {xs:List cz} {i a m:Nat} {x:cz} {bs di:List Nat} (h:jS (xs.drop i) i bs di=cF xs) (af:xs[i]?=some x) (aZ:dY x.o=a) (aq:bs.length=m+a) (av:¬12<m+1):
  jS (xs.drop (i+1)) (i+1) (bs.take m++[kA i a bs]) (di++[kA i a bs])=cF xs:=by
 obtain⟨aE,rfl⟩:=b8 af;have e:bs.length-a=m:=by omega
 rw[←h,List.drop_eq_getElem_cons aE,jS,if_neg (by omega),if_neg (by omega),if_neg (by rw[List.length_append,List.length_take,aZ];simp;omega),aZ];simp only[Int.toNat_natCast,e]
theorem aez (i:Nat) (bs:List Nat):kA i 0 bs=i:=rfl
theorem aey {i a m x:Nat} {bs:List Nat} (aZ:0<a) (aq:bs.length=m+a) (af:bs[m]?=some x):kA i a bs=x:=by
 unfold kA;rw[if_neg (by omega),show bs.length-a=m by omega,af];rfl
theorem aaU (v:Value) (xs:List cz) (w:World) (bM:zw w v xs) (aA:xs.length≤9223372036854775807):Calls prog 108 #[v] w (R8 xs w):=by
 obtain⟨A,cap,rfl,aK⟩:=bM.at_;obtain⟨n,fj⟩:∃n,n=xs.length:=⟨_,rfl⟩;rw[←fj]at aK aA⊢;have bn:=hid fj;clear fj bM;unfold R8;by_cases J:48<n
 ·have PN:(48:Int)<n:=by omega
  have aI:=hid (show cF xs=([],0,4) by rw[cF,if_pos (by have:=bn.out;omega)]);go_enter func108,ntmps108
  go_wp2_with fail
  go_ret3
  rw[aI.out];exact⟨_,rfl,gV.nil _ _ _,aQ _⟩
 by_cases aj:n=0
 ·subst aj;have aI:=hid (show cF xs=([],0,5) by rw[cF,if_neg (by have:=bn.out;omega),if_pos (by have:=bn.out;omega)]);go_enter func108,ntmps108
  go_wp2_with fail
  go_ret3
  rw[aI.out];exact⟨_,rfl,gV.nil _ _ _,aQ _⟩
 have wu:=hid (show jS (xs.drop 0) 0 [] []=cF xs by rw[cF,if_neg (by have:=bn.out;omega),if_neg (by have:=bn.out;omega)];rfl);obtain⟨i0,aE,fy,cb,eu⟩:=info_parts Tryz.rX;obtain⟨bY,jv,rfl,ea,cx⟩:=aK (by omega);have hp:¬((48:Int)<n):=by omega
 have au:((n:Int)==0)=false:=by simp;omega
 clear aK aA;have tl:=hid cx;clear cx;go_enter func108,ntmps108
 go_wp2_with (at_make;refine wpList_make_full _ rfl _ _ 92 rfl w.heap.size 3 i0 () 1 underlying92 aE fy cb _ _ _ _ n rfl rfl rfl rfl (by rw[eu];omega) (by unfold maxLen;omega) (Nat.le_refl _) ?_;intro w1 cR cd)
 have gE:w.heap.size<w1.heap.size:=by
  rcases cR.2 with⟨ay,_⟩|⟨g,oq,cur,ay,_,ai,_⟩
  ·cases ay
  ·simp only[Value.slice.injEq,Option.some.injEq,Addr.mk.injEq]at ay;obtain⟨⟨rfl,_⟩,_⟩:=ay;exact (Array.getElem?_eq_some_iff.1 ai).1
 have yf:Kept w w1:=⟨cd.os,cd.tape,cd.output,cd.size,fun b J=>cd.block b J (by simp)⟩;have BQ:ao w1 w.heap.size 3 (qS (List.replicate n 0)):=ahc (l:=List.replicate n 0) (n:=n) (by simp) (by
  rw[←akJ];have e:=toList_madeCells_one (Value.int .i64 0) (n*1);rw[Nat.mul_one]at e;have h:=cR;rw[Nat.mul_one,show (Value.int IntKind.i64 0).cells=#[Value.int .i64 0]from rfl,e]at h;exact h) rfl
 clear cR cd;go_wp2_with fail
 have n1:w1.heap.size≤w1.heap.size:=Nat.le_refl _;obtain⟨a_,Pn⟩:∃a_,a_=w1.heap.size:=⟨_,rfl⟩;rw[←Pn]at gE;go_loopw [6,21] (fun x y wr=>∃(i:Nat) (bs di:List Nat),y= .int .i64 i∧i≤n∧di.length=i∧bs.length≤12∧Kept w wr∧a_≤wr.heap.size∧c3 wr a_ 3 k3 1 x bs∧ao wr w.heap.size 3 (qS (di++List.replicate (n-i) 0))∧jS (xs.drop i) i bs di=cF xs) (fun _ y _=>n-(intOf y).toNat)
 case atStart=>exact⟨0,[],[],rfl,Nat.zero_le _,rfl,by simp,yf,by rw[Pn];exact Nat.le_refl _,c3.nil _ _ _,BQ,wu.out⟩
 case round=>
  obtain⟨i,bs,di,rfl,de,nw,df,ab,aeJ,cR,aU,aG⟩:=hrel;clear yf BQ n1 Pn;by_cases aD:i<n
  ·have ai:xs[i]?=some (xs[i]'(by have:=bn.out;omega)):=a8 _;generalize xs[i]'(by have:=bn.out;omega)=T at*;obtain⟨bZ,b3⟩:=tl.out i _ ai;have gd:=ab.ad ea bZ;have hO:=ab.ad ea b3;clear bZ b3;have c6:(i:Int)<n:=by omega
   have zU:(i:Int)≤48:=by omega
   have Yw:w.heap.size<wr.heap.size:=bd gE aeJ;by_cases vD:dY T.o<0
   ·have aI:=hid (aji aG ai vD);have mV:=hid (fun w=>DM T.o w);clear aU cR aG ai;go_wp2_with (go_at_call 138;refine (mV.out _).mono ?_;rintro e w' ⟨rfl,rfl⟩)
    go_ret3
    rw[aI.out];exact⟨_,rfl,gV.nil _ _ _,ab.alloc _⟩
   ·obtain⟨a,aZ⟩:∃a:Nat,dY T.o=a:=⟨(dY T.o).toNat,by omega⟩;have lk:=(zI T.o).2;have mV:=hid (fun w=>(by have:=DM T.o w;rwa [aZ]at this:Calls prog 138 #[T.o] w fun e w'=>e= .returned (.int .i64 (a:Int))∧w=w'));have WO:a≤3:=by omega
    have PL:¬((a:Int)<0):=by omega
    by_cases Cp:bs.length<a
    ·have aI:=hid (ajm aG ai aZ Cp);obtain⟨A,ly,ay,_,_⟩:=cR.form;subst ay;have afG:(bs.length:Int)<a:=by omega
     clear aU cR aG ai aZ lk vD;go_wp2_with (go_at_call 138;refine (mV.out _).mono ?_;rintro e w' ⟨rfl,rfl⟩)
     go_ret3
     rw[aI.out];exact⟨_,rfl,gV.nil _ _ _,ab.alloc _⟩
    ·obtain⟨m,hm⟩:∃m,bs.length=m+a:=⟨bs.length-a,by omega⟩;obtain⟨A,ly,ay,Ll,Qs⟩:=cR.form;rw[hm]at ay Ll;subst ay;have afG:¬((m:Int)+a<a):=by omega
     have alV:m≤12:=by omega
     have hwp:IntKind.i64.wrap (m:Int)=m:=by rw[IntKind.wrap_i64];omega
     have ue:m+a≤12:=by omega
     have b5:wr.cell? ⟨w.heap.size,i,none⟩=some (.int .i64 ((0:Nat):Int)):=by
      rw[aU.cell];exact LI (by rw[List.getElem?_append_right (by omega),nw,Nat.sub_self,List.getElem?_replicate,if_pos (by omega)])
     have f:=aU.frozen;have ch:=cR.take ZC (show m≤m+a by omega);have Ca:(bs.take m).length=m:=by rw[List.length_take];omega
     have rO:=fun av=>ajk aG ai aZ hm av;have PX:=fun av=>ajh aG ai aZ hm av;obtain⟨s,w5⟩:∃s,s=kA i a bs:=⟨_,rfl⟩;rw[←w5]at rO;have EI:∀cs:Array Value,cs=qS (di++List.replicate (n-i) 0)∨cs=(qS (di++List.replicate (n-i) 0)).setIfInBounds i (.int .i64 (i:Int))→cs.setIfInBounds i (.int .i64 (s:Int))=qS ((di++[s])++List.replicate (n-(i+1)) 0):=by
      intro cs hv;have e:(qS (di++List.replicate (n-i) 0)).setIfInBounds i (.int .i64 (s:Int))=qS ((di++[s])++List.replicate (n-(i+1)) 0):=by
       rw[LJ,show n-i=(n-(i+1))+1 by omega,←nw,ai9]
      rcases hv with rfl|rfl
      ·exact e
      ·rw[LJ,LJ,List.set_set,←LJ];exact e
     have rb:=hid rO;have Tc:=hid PX;have TR:=hid EI;have cg:=hid aU;have mZ:=hid ch;have cp:=hid hm;have nK:=hid nw;have ts:=hid Ca;have du:=hid ab;by_cases Ef:a=0
     ·subst Ef;obtain rfl:s=i:=w5.trans (aez i bs);clear vD Cp aG ai aZ lk cR rO PX EI aU ch hm w5 nw df Ca ab;go_wp2_with (go_at_call 138;refine (mV.out _).mono ?_;rintro e w' ⟨rfl,rfl⟩)
      have n9:=(cg.out.aP s (.int .i64 (s:Int))).alloc (.cells #[T.o,T.n] 69);rw[TR.out _ (.inl rfl)]at n9;have Bo:=(mZ.out.far (p:=⟨w.heap.size,s,none⟩) gE (.int .i64 (s:Int))).alloc (.cells #[T.o,T.n] 69);have uU:=(du.out.setCell (p:=⟨w.heap.size,s,none⟩) (Nat.le_refl _) (.int .i64 (s:Int))).alloc (.cells #[T.o,T.n] 69);have anv:wr.heap.size≤((wr.setCell ⟨w.heap.size,s,none⟩ (.int .i64 (s:Int))).alloc (.cells #[T.o,T.n] 69)).heap.size:=by simp
      generalize (wr.setCell ⟨w.heap.size,s,none⟩ (.int .i64 (s:Int))).alloc (.cells #[T.o,T.n] 69)=ct at*;have d0:ct.cell? ⟨w.heap.size,s,none⟩=some (.int .i64 (s:Int)):=by
       rw[n9.cell];exact LI (by rw[List.getElem?_append_left (by rw[List.length_append,nK.out];simp),List.getElem?_append_right (by rw[nK.out];exact Nat.le_refl _),nK.out];simp)
      have Bf:=hid (ZE (W:=ct.drew) (s:=s) (t:=3));have tx:Hid ((ct.drew.alloc (.cells #[.int .i64 (s:Int)] 3)).ownsRow a_ 3 1 (.slice A m ly) m ((bs.take m).flatMap k3)):=hid (by
       have h:=c3.alloc (w:=ct.drew) Bo (.cells #[.int .i64 (s:Int)] 3);unfold c3 at h;rwa [ts.out]at h)
      have y':Hid (a_≤(ct.drew.alloc (.cells #[.int .i64 (s:Int)] 3)).heap.size):=hid (by simp;omega);have Bh:=hid (ZD s);have Co:(m:Int)≤ly:=by omega
      have o0:m+1≤maxLen:=by unfold maxLen;omega
      have xJ:=hid Bo;clear mZ Bo;by_cases av:12<m+1
      ·have aI:=hid (Tc.out av);have ym:(12:Int)<m+1:=by omega
       go_region_law (first|(refine step_append_lies _ rfl (.tmp 58) (.tmp 63) 92 rfl a_ 3 i0 () 1 8 underlying92 aE fy cb eu rfl (by decide) _ m ((bs.take m).flatMap k3) (by simp[Act.eval]) tx.out ⟨ct.drew.heap.size,0,none⟩ 1 1 (k3 s) (by simp[Act.eval]) rfl Bf.out Bh.out (by decide) o0 (by omega) y'.out _ rfl ?_;intro hR oq w2 hy cd _ _))
       all_goals
        go_wp2_with fail
        go_ret3
        rw[aI.out];exact⟨_,rfl,gV.nil _ _ _,CI (uU.drewN 1) xJ.out (Nat.le_of_lt gE) cd⟩
      ·have bk:=hid (rb.out av);have ym:¬((12:Int)<m+1):=by omega
       go_region_law (first|(refine step_append_lies _ rfl (.tmp 58) (.tmp 63) 92 rfl a_ 3 i0 () 1 8 underlying92 aE fy cb eu rfl (by decide) _ m ((bs.take m).flatMap k3) (by simp[Act.eval]) tx.out ⟨ct.drew.heap.size,0,none⟩ 1 1 (k3 s) (by simp[Act.eval]) rfl Bf.out Bh.out (by decide) o0 (by omega) y'.out _ rfl ?_;intro hR oq w2 hy cd _ _))
       all_goals
        go_wp2_with fail
        go_roundw
        case rel=>
         have dT:(ct.drew.alloc (.cells #[.int .i64 (s:Int)] 3)).grownBy w2 (Value.slice A m ly).ownBlock:=cd;exact⟨s+1,bs.take m++[s],di++[s],rfl,aD,by rw[List.length_append,nK.out];rfl,by rw[List.length_append,ts.out];simp;omega,CI (uU.drewN 1) xJ.out (Nat.le_of_lt gE) dT,by have:ct.heap.size+1≤w2.heap.size:=Z1 (wr:=ct.drew) dT;omega,c3.snoc (by rw[ts.out];exact hy),(LV (wr:=ct.drew) xJ.out dT n9.lt gE).trans n9,bk.out⟩
        case measure=>simp[intOf];omega
     ·have Qi:0<a:=by omega
      have rQ:(0:Int)<a:=by omega
      obtain⟨g,ak5,ay,hgB,qI,hx⟩:=cR.row (by omega);simp only[Value.slice.injEq]at ay;obtain⟨rfl,gR,rfl⟩:=ay;clear gR;have e4:bs[m]?=some (bs[m]'(by omega)):=a8 _;have mb:s=bs[m]'(by omega):=w5.trans (aey Qi hm e4);rw[←mb]at e4;have gY:=hx m s e4;have bQ:g≠w.heap.size:=by omega
      have HF:(m:Int)<m+a:=by omega
      clear vD Cp aG ai aZ lk cR rO PX EI aU ch hm w5 nw df Ca ab e4 mb hx;go_wp2_with (go_at_call 138;refine (mV.out _).mono ?_;rintro e w' ⟨rfl,rfl⟩)
      have n9:=((cg.out.aP i (.int .i64 (i:Int))).aP i (.int .i64 (s:Int))).alloc (.cells #[T.o,T.n] 69);rw[TR.out _ (.inr rfl)]at n9;have Bo:=((mZ.out.far (p:=⟨w.heap.size,i,none⟩) gE (.int .i64 (i:Int))).far (p:=⟨w.heap.size,i,none⟩) gE (.int .i64 (s:Int))).alloc (.cells #[T.o,T.n] 69);have uU:=((du.out.setCell (p:=⟨w.heap.size,i,none⟩) (Nat.le_refl _) (.int .i64 (i:Int))).setCell (p:=⟨w.heap.size,i,none⟩) (Nat.le_refl _) (.int .i64 (s:Int))).alloc (.cells #[T.o,T.n] 69);have anv:wr.heap.size≤(((wr.setCell ⟨w.heap.size,i,none⟩ (.int .i64 (i:Int))).setCell ⟨w.heap.size,i,none⟩ (.int .i64 (s:Int))).alloc (.cells #[T.o,T.n] 69)).heap.size:=by simp
      generalize ((wr.setCell ⟨w.heap.size,i,none⟩ (.int .i64 (i:Int))).setCell ⟨w.heap.size,i,none⟩ (.int .i64 (s:Int))).alloc (.cells #[T.o,T.n] 69)=ct at*;have d0:ct.cell? ⟨w.heap.size,i,none⟩=some (.int .i64 (s:Int)):=by
       rw[n9.cell];exact LI (by rw[List.getElem?_append_left (by rw[List.length_append,nK.out];simp),List.getElem?_append_right (by rw[nK.out];exact Nat.le_refl _),nK.out];simp)
      have Bf:=hid (ZE (W:=ct.drew) (s:=s) (t:=3));have tx:Hid ((ct.drew.alloc (.cells #[.int .i64 (s:Int)] 3)).ownsRow a_ 3 1 (.slice (some ⟨g,0,none⟩) m ly) m ((bs.take m).flatMap k3)):=hid (by
       have h:=c3.alloc (w:=ct.drew) Bo (.cells #[.int .i64 (s:Int)] 3);unfold c3 at h;rwa [ts.out]at h)
      have y':Hid (a_≤(ct.drew.alloc (.cells #[.int .i64 (s:Int)] 3)).heap.size):=hid (by simp;omega);have Bh:=hid (ZD s);have Co:(m:Int)≤ly:=by omega
      have o0:m+1≤maxLen:=by unfold maxLen;omega
      have xJ:=hid Bo;clear mZ Bo;by_cases av:12<m+1
      ·have aI:=hid (Tc.out av);have ym:(12:Int)<m+1:=by omega
       go_region_law (first|(refine step_append_lies _ rfl (.tmp 58) (.tmp 63) 92 rfl a_ 3 i0 () 1 8 underlying92 aE fy cb eu rfl (by decide) _ m ((bs.take m).flatMap k3) (by simp[Act.eval]) tx.out ⟨ct.drew.heap.size,0,none⟩ 1 1 (k3 s) (by simp[Act.eval]) rfl Bf.out Bh.out (by decide) o0 (by omega) y'.out _ rfl ?_;intro hR oq w2 hy cd _ _))
       all_goals
        go_wp2_with fail
        go_ret3
        rw[aI.out];exact⟨_,rfl,gV.nil _ _ _,CI (uU.drewN 1) xJ.out (Nat.le_of_lt gE) cd⟩
      ·have bk:=hid (rb.out av);have ym:¬((12:Int)<m+1):=by omega
       go_region_law (first|(refine step_append_lies _ rfl (.tmp 58) (.tmp 63) 92 rfl a_ 3 i0 () 1 8 underlying92 aE fy cb eu rfl (by decide) _ m ((bs.take m).flatMap k3) (by simp[Act.eval]) tx.out ⟨ct.drew.heap.size,0,none⟩ 1 1 (k3 s) (by simp[Act.eval]) rfl Bf.out Bh.out (by decide) o0 (by omega) y'.out _ rfl ?_;intro hR oq w2 hy cd _ _))
       all_goals
        go_wp2_with fail
        go_roundw
        case rel=>
         have dT:(ct.drew.alloc (.cells #[.int .i64 (s:Int)] 3)).grownBy w2 (Value.slice (some ⟨g,0,none⟩) m ly).ownBlock:=cd;exact⟨i+1,bs.take m++[s],di++[s],rfl,aD,by rw[List.length_append,nK.out];rfl,by rw[List.length_append,ts.out];simp;omega,CI (uU.drewN 1) xJ.out (Nat.le_of_lt gE) dT,by have:ct.heap.size+1≤w2.heap.size:=Z1 (wr:=ct.drew) dT;omega,c3.snoc (by rw[ts.out];exact hy),(LV (wr:=ct.drew) xJ.out dT n9.lt gE).trans n9,bk.out⟩
        case measure=>simp[intOf];omega
  ·obtain rfl:i=n:=by omega
   have alT:¬((i:Int)<i):=by omega
   obtain⟨A,ly,ay,Ll,Qs⟩:=cR.form;subst ay;have du:=hid ab;by_cases aq:1<bs.length
   ·have aI:=hid (ajj aG aD bn.out aq);have pP:(1:Int)<bs.length:=by omega
    clear aU cR aG nw df ab Ll Qs;go_wp2_with fail
    go_ret3
    rw[aI.out];exact⟨_,rfl,gV.nil _ _ _,du.out⟩
   ·have aI:=hid (ajl aG aD bn.out (by omega));have pP:¬((1:Int)<bs.length):=by omega
    have wy:Hid (gV wr k3 1 (.slice (some ⟨w.heap.size,0,none⟩) i i) di):=hid (by
     rw[Nat.sub_self,List.replicate_zero,List.append_nil]at aU;have h:=ahd (cap:=i) aU;rwa [nw]at h)
    clear aU cR aG nw df ab Ll Qs;go_wp2_with fail
    go_ret3
    rw[aI.out];exact⟨_,rfl,wy.out,du.out⟩
section
open Go.ChangeShapes Go.WideShapes Go.ChangeAt Go.RowKit Go.Joins
open Go.ChangeMaps (open_string shut_string)
def Jz (w:World) (e:Ending) (w':World):Prop:=e= .returned (.bool true)∧Kept w w'
theorem own:ownKnob prog.godebug=none:=by kernel_rfl
theorem laidOut:laidOutB prog=true:=by kernel_rfl
theorem akf:prog.underlying 4=some .bool:=by kernel_rfl
section
variable {H:Type} {enc:TypeId×Value→H}
theorem ajR {ba:List TypeId} (aH:ba.all (fun t=>prog.readableRec t&&decide (t<prog.types.size))=true) {W N_:World} (J:Kept W N_):
  ∀{eg:List Value} {ds:List (DataW H)} {ps:List MemPlace},DataW.TrodAll enc prog W 0 (fun _=>true) true ba eg ds ps→
  DataW.TrodAll enc prog N_ 0 (fun b=>decide (b<W.heap.size)) true ba eg ds ps:=by
 induction ba with
 |nil=>intro eg ds ps h;cases eg<;>cases ds<;>simp_all [DataW.TrodAll]
 |cons t ba bH=>
  intro eg ds ps h;simp only[List.all_cons,Bool.and_eq_true,decide_eq_true_eq]at aH;obtain⟨v,vs',d,BI,p,q,rfl,rfl,rfl,I,U⟩:=trodAll_cons h;refine⟨p,q,Below.trod laidOut aH.1.1 aH.1.2 I J ?_,bH aH.2 U,rfl⟩;obtain⟨m,hm⟩:=I;exact DataW.trod_lt m _ _ _ hm
theorem ajS {ba:List TypeId} {W:World} {B:Nat} {sp:Nat→Bool} {av:Bool}:∀{eg:List Value} {ds:List (DataW H)} {ps:List MemPlace},DataW.TrodAll enc prog W B sp av ba eg ds ps→ds.length=ba.length∧eg.length=ba.length:=by
 induction ba with
 |nil=>intro eg ds ps h;cases eg<;>cases ds<;>simp_all [DataW.TrodAll]
 |cons t ba bH=>
  intro eg ds ps h;obtain⟨v,vs',d,BI,p,q,rfl,rfl,rfl,I,U⟩:=trodAll_cons h;have:=bH U;simp[this.1,this.2]
variable {w:World} {sp:Nat→Bool} {av:Bool} {m:Nat}
theorem UX {W:World} {a:Addr} {v:Value} (h:W.cell? a=some v):a.block<W.heap.size:=by
 rcases Nat.lt_or_ge a.block W.heap.size with aD|ln
 ·exact aD
 ·have ax:=World.cell?_spot h;obtain⟨b,o,s⟩:=a;simp only at ax ln;subst ax;simp[World.cell?,Array.getElem?_eq_none ln]at h
end
end
section
open Go.ChangeShapes Go.WideShapes Go.ChangeAt Go.RowKit Go.Joins
section
variable {H:Type} {enc:TypeId×Value→H} {w:World}
abbrev Reads (enc:TypeId×Value→H) (w:World) (t:TypeId) (cs:List Value):Prop:=∃fuel x,DataW.trod enc prog w 0 (fun _=>true) true fuel t cs=some x
theorem Reads.field {t:TypeId} {g_:Array Field} {cs:List Value} (bS:prog.underlying t=some (.struct g_)) (h:Reads enc w t cs) (i:Nat) (f:Field) (bO:g_[i]?=some f):
  Reads enc w f.type ((cs.drop f.offset).take (prog.cellsOf f.type)):=by
 obtain⟨fuel,x,h⟩:=h;obtain⟨xs,n,_,_,_,aq,ai⟩:=DataW.trod_struct bS h;have aE:i<g_.size:=(Array.getElem?_eq_some_iff.1 bO).1;have:=ai i f bO;rw[a8 (by omega)]at this;exact⟨n,_,this⟩
theorem Reads.length {t:TypeId} {g_:Array Field} {cs:List Value} (bS:prog.underlying t=some (.struct g_)) (h:Reads enc w t cs):cs.length=prog.cellsOf t:=by
 obtain⟨fuel,x,h⟩:=h;obtain⟨xs,n,_,_,aq,_,_⟩:=DataW.trod_struct bS h;exact aq
theorem Reads.int {cs:List Value} (h:Reads enc w 3 cs):∃n,cs=[.int .i64 n]∧(Lit.int .i64 n).wf=true:=by
 obtain⟨fuel,x,h⟩:=h;obtain⟨n,e,_,hw⟩:=DataW.trod_int underlying3 h;exact⟨n,e,hw⟩
theorem ac4:prog.cellsOf 3=1:=by kernel_rfl
theorem Reads.of {t:TypeId} {cs:Array Value} {d:DataW H} {p:List MemPlace} (h:DataW.Trod enc prog w 0 (fun _=>true) true t (.agg cs) d p):Reads enc w t cs.toList:=by
 obtain⟨fuel,bO⟩:=h;exact⟨fuel,_,bO⟩
theorem Reads.sub {t:TypeId} {g_:Array Field} {cs:List Value} (bS:prog.underlying t=some (.struct g_)) (h:Reads enc w t cs) (i o k:Nat) (T:TypeId) (f:Field) (bO:g_[i]?=some f) (aL:f.offset=o) (bl:f.type=T)
  (aa:prog.cellsOf T=k):Reads enc w T ((cs.drop o).take k):=by
 have:=h.field bS i f bO;rw[bl,aa,aL]at this;exact this
theorem Reads.QP {t:TypeId} {g_:Array Field} {cs:List Value} (bS:prog.underlying t=some (.struct g_)) (h:Reads enc w t cs) (i o:Nat) (f:Field) (bO:g_[i]?=some f) (aL:f.offset=o) (aE:f.type=3):
  ∃n,cs[o]?=some (.int .i64 n)∧(Lit.int .i64 n).wf=true:=by
 have I:=h.field bS i f bO;rw[aE,ac4,aL]at I;obtain⟨n,e,hw⟩:=I.int;refine⟨n,?_,hw⟩;have:((cs.drop o).take 1)[0]?=some (.int .i64 n):=by rw[e];rfl
 simpa using this
end
end
section
open Go.Lib (decDigits itoa)
def xg (c:UInt8):Bool:=decide (48≤c.toNat)&&decide (c.toNat≤57)
def aee (c:UInt8):Nat:=c.toNat-48
def val:List UInt8→Nat→Nat
 |[],acc=>acc
 |c::r,acc=>val r (10*acc+aee c)
end
def L (s:ByteArray):List UInt8:=s.data.toList
def pE (l:List UInt8):ByteArray:=⟨l.toArray⟩
@[simp] theorem ab4 (l:List UInt8):L (pE l)=l:=rfl
@[simp] theorem UL (s:ByteArray):pE (L s)=s:=by cases s;rfl
@[simp] theorem akV (l:List UInt8):L ⟨l.toArray⟩=l:=rfl
@[simp] theorem zv (s:ByteArray):(L s).length=s.size:=rfl
@[simp] theorem ak4 (l:List UInt8):(pE l).size=l.length:=by rw[←zv,ab4]
theorem ab5 {a b:ByteArray}:L a=L b↔a=b:=⟨fun h=>by rw[←UL a,←UL b,h],fun h=>by rw[h]⟩
theorem CP (s:ByteArray):s.toList=L s:=ByteArray.toList_eq s
theorem T8 (s:ByteArray) (i:Nat) (h:i<s.size):(L s)[i]?=some s[i]:=by
 show s.data.toList[i]?=_;rw[Array.getElem?_toList,Array.getElem?_eq_getElem h];rfl
theorem T7 (s:ByteArray) (i:Nat) (h:i<s.size):(L s).drop i=s[i]::(L s).drop (i+1):=by
 have aq:i<(L s).length:=by simpa using h
 rw[List.drop_eq_getElem_cons aq];have:=T8 s i h;rw[a8 aq]at this;rw[Option.some.inj this]
def vc (w:World) (v:Value) (xs:List ByteArray):Prop:=
 ∃A cap,v= .slice A xs.length cap∧(0<xs.length→∃b off,A=some ⟨b,off,none⟩∧b<w.heap.size∧∀j,j<xs.length→w.cell? ⟨b,off+j,none⟩=some (.string (xs[j]?.getD ⟨#[]⟩)))
theorem vc.kept {w w':World} {v:Value} {xs:List ByteArray} (h:vc w v xs) (aa:Kept w w'):vc w' v xs:=by
 obtain⟨A,cap,ay,af⟩:=h;refine⟨A,cap,ay,fun hp=> ?_⟩;obtain⟨b,off,aK,J,ah⟩:=af hp;exact⟨b,off,aK,bd J aa.size,fun j aB=>aa.ad J (ah j aB)⟩
theorem vc.nil (w:World):vc w aR []:=⟨none,0,rfl,fun h=>absurd h (by decide)⟩
def A3 (w:World) (B:Nat) (v:Value) (xs:List ByteArray):Prop:=w.ownsRow B 9 1 v xs.length (xs.map Value.string)
theorem A3.nil (w:World) (B:Nat):A3 w B aR []:=World.ownsRow_nil _ _ _ _
theorem A3.strs {w:World} {B:Nat} {v:Value} {xs:List ByteArray} (h:A3 w B v xs):vc w v xs:=by
 have dp:=h;rcases h.2 with⟨rfl,aA⟩|⟨g,cap,cur,rfl,_,ai,_⟩
 ·have:xs=[]:=List.length_eq_zero_iff.1 aA;subst this;exact vc.nil w
 ·refine⟨_,_,rfl,fun _=>⟨g,0,rfl,(Array.getElem?_eq_some_iff.1 ai).1,fun j aB=> ?_⟩⟩;have ah:=World.ownsRow.cells dp (g:=g) rfl j (.string (xs[j]?.getD ⟨#[]⟩)) (by
   rw[List.getElem?_map,a8 aB];rfl)
  have e:(⟨g,0,none⟩:Addr).add j=⟨g,0+j,none⟩:=by
   unfold Addr.add;by_cases Xv:j=0
   ·subst Xv;rfl
   ·simp[Xv]
  rw[e]at ah;exact ah
theorem A3.snoc {w:World} {B:Nat} {v:Value} {xs:List ByteArray} {x:ByteArray} (h:w.ownsRow B 9 1 v (xs.length+1) (xs.map Value.string++[.string x])):A3 w B v (xs++[x]):=by
 unfold A3;rw[List.length_append,List.map_append];exact h
def Enums (w:World) (v:Value) (ms:List (List ByteArray)):Prop:=
 ∃A cap,v= .slice A ms.length cap∧ms.length≤9223372036854775807∧(0<ms.length→∃b off,A=some ⟨b,off,none⟩∧b<w.heap.size∧
  ∀j l,ms[j]?=some l→l.length≤9223372036854775807∧∃bW,w.cell? ⟨b,off+j*2+1,none⟩=some bW∧vc w bW l)
theorem Enums.kept {w w':World} {v:Value} {ms:List (List ByteArray)} (h:Enums w v ms) (aa:Kept w w'):Enums w' v ms:=by
 obtain⟨A,cap,ay,hm,af⟩:=h;refine⟨A,cap,ay,hm,fun hp=> ?_⟩;obtain⟨b,off,aK,J,ah⟩:=af hp;refine⟨b,off,aK,bd J aa.size,fun j l aB=> ?_⟩;obtain⟨aq,bW,I,U⟩:=ah j l aB;exact⟨aq,bW,aa.ad J I,U.kept aa⟩
theorem Enums.nil (w:World):Enums w aR []:=⟨none,0,rfl,by decide,fun h=>absurd h (by decide)⟩
theorem Enums.at_ {w:World} {v:Value} {ms:List (List ByteArray)} (h:Enums w v ms) {j:Nat} (aB:j<ms.length):
  ∃(b off cap n:Nat) (B:Option Addr) (c:Nat) (l:List ByteArray),ms[j]?=some l∧l.length=n∧n≤9223372036854775807∧v= .slice (some ⟨b,off,none⟩) ms.length cap∧b<w.heap.size∧w.cell? ⟨b,off+j*2+1,none⟩=some (.slice B n c)∧
   (0<n→∃bc ZQ,B=some ⟨bc,ZQ,none⟩∧bc<w.heap.size∧∀i,i<n→w.cell? ⟨bc,ZQ+i,none⟩=some (.string (l[i]?.getD ⟨#[]⟩))):=by
 obtain⟨A,cap,rfl,hm,af⟩:=h;obtain⟨b,off,rfl,J,ah⟩:=af (by omega);have ai:ms[j]?=some ms[j]:=a8 aB;obtain⟨aq,bW,I,B,c,rfl,U⟩:=ah j _ ai;exact⟨b,off,cap,_,B,c,_,ai,rfl,aq,rfl,J,I,U⟩
section
open Go.ChangeShapes Go.WideShapes Go.ChangeAt Go.RowKit Go.Joins Go.Deep
section
variable {H:Type} {enc:TypeId×Value→H} {P:Program} {w:World} {base:Nat} {spare:Nat→Bool} {held:Bool}
end
section
variable {H:Type} {enc:TypeId×Value→H} {w:World}
end
end
def E3 (e:Int) (ms:List (List ByteArray)):List ByteArray:=ms[e.toNat]?.getD []
def kn (k e:Int) (ms:List (List ByteArray)):Bool:=
 if k=6 then decide (0≤e)&&decide (e<ms.length)else decide (1≤k)&&(decide (k≤5)&&decide (e=0))
def Ol (k e:Int) (ms:List (List ByteArray)):Int×Int:=
 if k=1 then (0,1)else if k=2 then (-1000000000000,1000000000000)else if k=3 then (-1000000000000000,1000000000000000)
 else if k=4 then (-1000000000,1000000000)else if k=5 then (0,109572)else (0,(E3 e ms).length-1)
def nQ (k e:Int) (ms:List (List ByteArray)):Int×Int:=if kn k e ms then Ol k e ms else (0,-1)
def QN (n k e:Int) (ms:List (List ByteArray)):Bool:=decide ((nQ k e ms).1≤n)&&decide (n≤(nQ k e ms).2)
theorem abi {e:Int} {ms:List (List ByteArray)}:kn 6 e ms=(decide (0≤e)&&decide (e<ms.length)):=by rw[kn,if_pos rfl]
theorem abh {k e:Int} {ms:List (List ByteArray)} (h:k≠6):kn k e ms=(decide (1≤k)&&(decide (k≤5)&&decide (e=0))):=by rw[kn,if_neg h]
theorem akq {k e:Int} {ms:List (List ByteArray)} (h:kn k e ms=true):
  (e=0∧(k=1∨k=2∨k=3∨k=4∨k=5))∨(k=6∧0≤e∧e<ms.length):=by
 by_cases eJ:k=6
 ·subst eJ;rw[abi]at h;simp only[Bool.and_eq_true,decide_eq_true_eq]at h;exact .inr ⟨rfl,h.1,h.2⟩
 ·rw[abh eJ]at h;simp only[Bool.and_eq_true,decide_eq_true_eq]at h;exact .inl ⟨h.2.2,by omega⟩
end Go.Proofs.YtobpgndkciofhaaGreatDoor
