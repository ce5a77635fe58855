import Derived.Test.YtilhklpfkgbikaaGreatDoorRows
import Derived.WalkKit
import Derived.WalkSpells
import Derived.WalkLawsBesides
import Derived.Lib.Hide
import Derived.Deep.QuietTactic
import Derived.BigQuiet
import Derived.Below
import Derived.Laws.OwnMore
import Derived.Deep.AppendLies
import Derived.Deep.Draws
import Derived.Deep.RegionHeld3
import Derived.Deep.RegionWith
import Derived.IntWalk
import Derived.Maps.OwnOps
import Derived.Maps.Views
import Derived.DeepKeys4
import Derived.Lib.OthersKept
import Derived.Laws.AppendOwn
import Derived.OwnWalk
import Derived.Lib.ItoaNum
import Derived.Laws.Strings
import Derived.Laws.Strings2
import Derived.Laws.Strings3
import Derived.Laws.RangeString
import Derived.Laws.RangeAny
import Derived.Laws.Concat
set_option linter.all false
namespace Go.Proofs.YtilhklpfkgbikaaGreatDoor
open Go.RowKit Go.Proofs.Tryz
set_option maxRecDepth 100000
def fG{a b:Bool}(h:a=b):Ending.returned (.bool a)= .returned (.bool b):=by rw[h]
def xP{k:IntKind}{a b:Int}(h:a=b):Ending.returned (.int k a)= .returned (.int k b):=by rw[h]
def aeg{k l:IntKind}{a b c d:Int}(h:a=b)(ad:c=d):Ending.returned (.tuple #[.int k a,.int l c])= .returned (.tuple #[.int k b,.int l d]):=by rw[h,ad]
def PZ(a:Addr)(n:Nat):(a.add n).block=a.block:=by unfold Addr.add;split<;>rfl
def Kept(w w':World):Prop:=Below w.heap.size w w'
def Kept.refl(w:World):Kept w w:=Below.refl _ _
def Kept.trans{a b c:World}(h:Kept a b)(k:Kept b c):Kept a c:=Below.trans h (Below.mono k h.size)
def Kept.alloc{a b:World}(h:Kept a b)(o:Obj):Kept a (b.alloc o):=Below.alloc h h.size o
def Kept.drew{a b:World}(h:Kept a b):Kept a b.drew:=Below.drew h
def Kept.drewN{a b:World}(h:Kept a b)(n:Nat):Kept a (b.drewN n):=⟨h.os,h.tape,h.output,h.size,h.block⟩
def Kept.setCell{a b:World}(h:Kept a b){p:Addr}(hp:a.heap.size<=p.block)(u:Value):Kept a (b.setCell p u):=Below.setCell h hp u
def Kept.cell{w w':World}(h:Kept w w'){p:Addr}{v:Value}(af:p.block<w.heap.size)(aq:w.cell? p=some v):w'.cell? p=some v:=(Below.cell h af).trans aq
def bn{α:Type}{l:List α}{i:Nat}(h:i<l.length):l[i]?=some l[i]:=List.getElem?_eq_getElem h
def b2{α:Type}{l:List α}{i:Nat}{a:α}(h:l[i]?=some a):∃h:i<l.length,l[i]=a:=List.getElem?_eq_some_iff.1 h
def bG{a b c:Nat}(h:a<b)(k:b<=c):a<c:=Nat.lt_of_lt_of_le h k
def aG(w:World):Kept w w:=Kept.refl w
instance:Coe Int Value:=⟨λn=> .int .i64 n⟩
instance:Coe Nat Value:=⟨λn=> .int .i64 n⟩
instance:Coe ByteArray Value:=⟨λs=> .string s⟩
instance:Coe Unit Value:=⟨λ_=> .int .i64 0⟩
inductive atr|n
def bf:atr:= .n
instance:Coe atr Value:=⟨λ_=> .slice none 0 0⟩
instance{g i:Nat}:CoeDep (Nat×Nat) (g,i) Addr:=⟨⟨g,i,none⟩⟩
instance{g:World}{i:Nat}:CoeDep (World×Nat) (g,i) Addr:=⟨⟨g.heap.size,i,none⟩⟩
instance:Coe World Nat:=⟨fun w=>w.heap.size⟩
instance{α:Type}:CoeOut (List α) Nat:=⟨fun l=>l.length⟩
theorem Kept.aZ{a b:World}(h:Kept a b){o:Obj}:Kept a (b.alloc o):=h.alloc o
theorem Kept.sc{a b:World}(h:Kept a b){g i:Nat}(k:a.heap.size<=g){u:Value}:Kept a (b.setCell ⟨g,i,none⟩ u):=h.setCell k u
theorem Kept.ie{a b:World}(h:Kept a b){i:Nat}{u:Value}:Kept a (b.setCell ⟨a.heap.size,i,none⟩ u):=h.setCell (Nat.le_refl _) u
inductive Z'|n
def ag:Z':= .n
instance:CoeSort Z' Type:=⟨fun _=>World⟩
instance:Coe Z' Type:=⟨fun _=>World⟩
inductive Z_|n
def ak:Z_:= .n
instance:CoeSort Z_ Type:=⟨fun _=>Value⟩
instance:Coe Z_ Type:=⟨fun _=>Value⟩
inductive Z2|n
def ez:Z2:= .n
instance:CoeSort Z2 Type:=⟨fun _=>ByteArray⟩
instance:Coe Z2 Type:=⟨fun _=>ByteArray⟩
inductive Z9|n
def dC:Z9:= .n
instance:CoeSort Z9 Type:=⟨fun _=>TypeId⟩
instance:Coe Z9 Type:=⟨fun _=>TypeId⟩
inductive Z7|n
def aa:Z7:= .n
instance:CoeSort Z7 Type:=⟨fun _=>Nat⟩
instance:Coe Z7 Type:=⟨fun _=>Nat⟩
inductive Z3|n
def J:Z3:= .n
instance:CoeSort Z3 Type:=⟨fun _=>Int⟩
instance:Coe Z3 Type:=⟨fun _=>Int⟩
inductive Z5|n
def aW:Z5:= .n
instance:CoeSort Z5 Type:=⟨fun _=>List Int⟩
instance:Coe Z5 Type:=⟨fun _=>List Int⟩
inductive Z6|n
def dN:Z6:= .n
instance:CoeSort Z6 Type:=⟨fun _=>List Value⟩
instance:Coe Z6 Type:=⟨fun _=>List Value⟩
inductive Z4|n
def gh:Z4:= .n
instance:CoeSort Z4 Type:=⟨fun _=>List ByteArray⟩
instance:Coe Z4 Type:=⟨fun _=>List ByteArray⟩
inductive Z8|n
def gu:Z8:= .n
instance:CoeSort Z8 Type:=⟨fun _=>Option Addr⟩
instance:Coe Z8 Type:=⟨fun _=>Option Addr⟩
inductive Z1|n
def ho:Z1:= .n
instance:CoeSort Z1 Type:=⟨fun _=>Array Value⟩
instance:Coe Z1 Type:=⟨fun _=>Array Value⟩
inductive afH|n
def ah:afH:= .n
instance:CoeFun afH fun _=>Int→Value:=⟨fun _=>Value.int .i64⟩
inductive afK|n
def ae:afK:= .n
instance:CoeFun afK fun _=>Option Addr→Nat→Nat→Value:=⟨fun _=>Value.slice⟩
inductive afL|n
def bj:afL:= .n
instance:CoeFun afL fun _=>Array Value→Value:=⟨fun _=>Value.tuple⟩
inductive afE|n
def aF:afE:= .n
instance:CoeFun afE fun _=>Array Value→Value:=⟨fun _=>Value.agg⟩
inductive afJ|n
def bL:afJ:= .n
instance:CoeFun afJ fun _=>Value→Ending:=⟨fun _=>Ending.returned⟩
inductive afF|n
def bR:afF:= .n
instance:CoeFun afF fun _=>Bool→Value:=⟨fun _=>Value.bool⟩
inductive afG|n
def bg:afG:= .n
instance:CoeFun afG fun _=>FuncId→Array Value→World→(Ending→World→Prop)→Prop:=⟨fun _=>Calls Tryz.prog⟩
inductive afI|n
def aU:afI:= .n
instance:CoeFun afI fun _=>World→Addr→Option Value:=⟨fun _=>World.cell?⟩
def bb:=@And.intro
def b9:=@Option.getD_some
def bB:=@Nat.le_refl
def aw:=@if_neg
def c7:=@Int.toNat_natCast
def cJ:=@Option.some.inj
def bI:=@bodyPost_ret
def aP:=@if_pos
def fe:=@List.mem_of_getElem?
def fk:=@List.length_append
def er:=@List.length_map
def fX:=@World.ownsRow.alloc
def hL:=@List.getElem?_toArray
def gg:=@decide_eq_true_eq
def iP:=@List.getElem?_cons_zero
def jA:=@List.drop_eq_getElem_cons
def jd:=@List.getElem?_cons_succ
def d':=@Nat.zero_le
def iQ:=@List.length_replicate
def kM:=@List.setIfInBounds_toArray
def k4:=@List.getElem?_append_right
def gT:=@List.length_take
def hi:=@List.length_cons
def gJ:=@List.length_set
def hS:=@List.getElem?_map
def fM:=@List.mem_cons
def lQ:=@List.getElem?_append_left
def jB:=@wpList_append_own_at
def hj:=@List.append_nil
def fN:=@Nat.le_trans
def i_:=@Value.slice.injEq
def jQ:=@Below.heap_setCell
def iF:=@World.ownsRow.lt
def nW:=@Array.getElem?_eq_some_iff
def lR:=@List.getElem?_eq_none
def kb:=@List.mem_singleton
def mH:=@List.take_of_length_le
def f':=@wpQuiet_nil
def mc:=@List.getElem?_of_mem
def oC:=@List.length_eq_zero_iff
def jC:=@decide_eq_false
def lS:=@List.set_cons_zero
def nX:=@List.length_filter_le
def jR:=@decide_eq_true
def qf:=@World.size_alloc
def k5:=@List.mem_append
def k6:=@List.map_append
def hy:=@info_parts
def nY:=@List.append_assoc
def o2:=@List.mem_cons_self
def tv:=@List.getElem?_take_of_lt
def nA:=@List.not_mem_nil
def nB:=@Bool.and_eq_true
def qY:=@List.mem_cons_of_mem
def me:=@List.mem_range
def jD:=@Nat.mul_one
def sy:=@List.length_singleton
def qg:=@List.set_cons_succ
def uj:=@List.getElem?_replicate
def nZ:=@Bool.eq_iff_iff
def k7:=@Nat.sub_self
def qh:=@World.ownsRow_nil
def uk:=@List.getElem?_set_self
def vC:=@decide_eq_false_iff_not
def sz:=@List.take_succ_cons
def lT:=@Nat.add_zero
def qZ:=@List.take_add_one
def vD:=@List.drop_eq_nil_of_le
def qi:=@Option.map_some
def qj:=@List.nil_append
def qk:=@List.cons.injEq
def rR:=@wpList_make_full
def um:=@of_decide_eq_true
def sA:=@List.filter_cons
def vE:=@List.drop_succ_cons
def n0:=@cell_one_new
def wK:=@List.getElem?_set_ne
def q0:=@List.take_zero
def sB:=@List.length_nil
def o3:=@List.mem_map
def rS:=@List.drop_zero
def vF:=@Option.some.injEq
def vG:=@List.length_range
def q1:=@Prod.mk.injEq
def A_:=@Int.eq_ofNat_of_zero_le
def Ho:=@List.take_succ_eq_append_getElem
def ql:=@Nat.zero_add
def zF:=@List.drop_eq_nil_iff
def vH:=@List.getElem_mem
def wL:=@Below.heap_alloc
def uo:=@Nat.not_lt_zero
def uq:=@List.mem_filter
def De:=@Nat.lt_succ_iff_lt_or_eq
def x8:=@List.filter_append
def rT:=@Nat.lt_or_ge
def A':=@List.set_append_right
def Ba:=@Array.getElem?_toList
def OF:=@Int.tmod_eq_emod_of_nonneg
def pG:=@Nat.le_succ
def kN:=@and_true
def x2:=@List.getElem?_set
def E1:=@List.getElem?_eq_none_iff
def Da:=@Option.map_eq_some_iff
def zA:=@Option.toList_some
def zB:=@Nat.eq_zero_or_pos
def Hg:=@Array.getElem?_setIfInBounds
def x3:=@List.take_length
def zC:=@List.flatMap_cons
def Hh:=@Int.tdiv_eq_ediv_of_nonneg
def Db:=@World.cell?_of_block
def A7:=@Bool.false_eq_true
def x4:=@Value.agg.injEq
def x5:=@Nat.min_eq_left
def x6:=@List.foldl_cons
def ui:=@Nat.le_of_lt
def A8:=@List.ext_getElem?
def nd:=@or_false
def x7:=@Array.mk.injEq
def k3:=@if_true
def wI:=@Int.le_refl
def wJ:=@Addr.mk.injEq
def zD:=@List.nodup_cons
def vA:=@Nat.zero_mul
def Dc:=@List.nodup_append
def E2:=@Int.toNat_of_nonneg
def J9:=@Array.getElem?_eq_getElem
def Hi:=@List.mem_append_right
def zE:=@List.map_cons
def E3:=@List.filter_congr
def E4:=@List.drop_length
def J_:=@List.singleton_append
def Ot:=@Classical.choose_spec
def sx:=@if_false
def Dd:=@List.sum_cons
def J':=@List.replicate_succ
def Ka:=@List.flatMap_append
def Hj:=@step_append_lies
def Hk:=@decide_eq_decide
def tu:=@true_and
def Kb:=@List.getElem?_drop
def A9:=@Prod.mk.inj
def Ou:=@List.length_mergeSort
def E5:=@List.map_take
def Kc:=@Nat.lt_trichotomy
def Ov:=@toList_madeCells_one
def Ow:=@List.mem_append_left
def Kd:=@Nat.lt_succ_self
def Tf:=@Array.size_setIfInBounds
def Hl:=@Nat.add_assoc
def Hm:=@List.all_cons
def Ke:=@List.filter_nil
def Ox:=@Option.isSome_none
def Oy:=@Nat.lt_of_le_of_lt
def Tg:=@List.pairwise_singleton
def Oz:=@List.size_toArray
def OA:=@Decidable.not_not
def Hn:=@Nat.succ_mul
def Th:=@List.take_append_drop
def ZM:=@Array.getElem?_modify
def vB:=@Ne.symm
def OB:=@List.length_drop
def aqW:=@World.cell?_alloc_at
def Ti:=@Bool.or_eq_false_iff
def Kf:=@Bool.true_and
def OC:=@Nat.div_le_self
def Tj:=@Array.length_toList
def ZN:=@List.idxOf_lt_length_of_mem
def ZO:=@List.perm_ext_iff_of_nodup
def Kg:=@List.map_set
def Kh:=@List.map_nil
def Tk:=@wpList_append_lies
def Tl:=@List.getElem?_take
def ZP:=@List.mem_or_eq_of_mem_set
def Tm:=@List.foldl_append
def ZQ:=@List.length_erase_of_mem
def Tn:=@Option.getD_none
def To:=@List.any_eq_true
def Tp:=@List.all_eq_true
def ZR:=@List.length_pos_of_mem
def afC:=@Array.getElem?_eq_none
def OD:=@Sem.run_pure
def OE:=@Sem.run_bind
def Tq:=@Int.sub_self
def afD:=@Int.lt_or_le
def Tr:=@Value.slice.inj
def Ts:=@List.range_succ
def Ki:=@ready_mono
def ZS:=@Nat.mul_le_mul_right
def ZT:=@List.range_eq_range'
def ZU:=@List.getLast?_append
def ZV:=@Array.toArray_toList
def Tt:=@Nat.mul_le_mul
def Tu:=@List.take_take
def Tv:=@List.nodup_nil
def Tw:=@List.Perm.refl
def ZW:=@List.replicate_zero
def ZX:=@List.getElem?_range
def ZY:=@of_decide_eq_false
def ZZ:=@Option.isSome_some
def Z0:=@List.mem_replicate
def I{p:Prop}(h:p):Hid p:=h
def Kept.aI{w w':World}(h:Kept w w'){b o:Nat}{v:Value}(af:b<w.heap.size)(aq:w.cell? ⟨b,o,none⟩=some v):w'.cell? ⟨b,o,none⟩=some v:=h.cell (p:=⟨b,o,none⟩) af aq
def Kept.cells{W w1:World}(af:Kept W w1):(∀b o,b<W.heap.size->w1.cell? ⟨b,o,none⟩=W.cell? ⟨b,o,none⟩)/\(∀b o,b<W.heap.size->w1.frozen? ⟨b,o,none⟩=W.frozen? ⟨b,o,none⟩):=
 ⟨λb o h=>Below.cell af (p:=⟨b,o,none⟩) h,λb o h=>Below.frozen af (p:=⟨b,o,none⟩) h⟩
def Kept.ahC{w W:World}{aY:Array Value}{t1:TypeId}(h:Kept (w.alloc (.cells aY t1)) W):
  (∀i,W.cell? ⟨w.heap.size,i,none⟩=aY[i]?)/\w.heap.size<W.heap.size:=by
 refine⟨λi=> ?_,?_⟩
 .rw[Below.cell h (p:=⟨w.heap.size,i,none⟩) (by simp)];exact World.cell?_alloc_at aY t1 _ i rfl
 .have:=h.size;simp at this;omega
def Kept.aaY{w W:World}{aY a':Array Value}{t1 t2:TypeId}(h:Kept ((w.alloc (.cells aY t1)).alloc (.cells a' t2)) W):
  (∀i,W.cell? ⟨w.heap.size,i,none⟩=aY[i]?)/\(∀i,W.cell? ⟨w.heap.size+1,i,none⟩=a'[i]?)/\w.heap.size+1<W.heap.size:=by
 refine⟨λi=> ?_,λi=> ?_,?_⟩
 .rw[Below.cell h (p:=⟨w.heap.size,i,none⟩) (by simp;omega)];rw[World.cell?_alloc_past _ _ _ (by simp),World.cell?_alloc_at aY t1 _ i rfl]
 .rw[Below.cell h (p:=⟨w.heap.size+1,i,none⟩) (by simp)];exact World.cell?_alloc_at a' t2 _ i (by simp)
 .have:=h.size;simp at this;omega
def aB(w:World)(g:Nat)(t:TypeId)(cs:Array Value):Prop:=w.heap[g]?=some (.cells cs t (0,0))
section
variable {w w':World} {g:Nat} {t:TypeId} {cs:Array Value}
def aB.lt(h:aB w g t cs):g<w.heap.size:=by
 rcases Nat.lt_or_ge g w.heap.size with aN|nI
 .exact aN
 .unfold aB at h;rw[Array.getElem?_eq_none nI]at h;cases h
def aB.cell(h:aB w g t cs)(i:Nat):w.cell? ⟨g,i,none⟩=cs[i]?:=cell_of_row w g i cs t (0,0) h
def aB.frozen(h:aB w g t cs)(i:Nat):w.frozen? ⟨g,i,none⟩=false:=by
 unfold aB at h;simp[World.frozen?,h]
def aB.new(w:World)(t:TypeId)(cs:Array Value):aB (w.alloc (.cells cs t)) w.heap.size t cs:=heap_alloc_new w _
def aB.drew(h:aB w g t cs):aB w.drew g t cs:=h
def aB.drewN(h:aB w g t cs)(n:Nat):aB (w.drewN n) g t cs:=h
def aB.alloc(h:aB w g t cs)(o:Obj):aB (w.alloc o) g t cs:=(Below.heap_alloc w o g h.lt).trans h
def aB.ba(h:aB w g t cs)(i:Nat)(u:Value):aB (w.setCell ⟨g,i,none⟩ u) g t (cs.setIfInBounds i u):=by
 unfold aB at h⊢;simp[World.setCell,Array.getElem?_modify,h]
def aB.far(h:aB w g t cs){p:Addr}(hp:g≠p.block)(u:Value):aB (w.setCell p u) g t cs:=(Below.heap_setCell w p u g hp).trans h
def aB.kept(h:aB w g t cs)(af:Kept w w'):aB w' g t cs:=(af.block g h.lt).trans h
end
structure aS(w:World) where
 W:World
 h:Kept w W
instance (w:World):Nonempty (aS w):=⟨⟨w,Kept.refl w⟩⟩
def nc{P:Program}{id:Nat}{Q:Exit->Act->World->Prop}{a:Act}{w:World}{l:List Oper}(hm:P.follows .mixedOrders=true)(bc:Region.lexB .any l.toArray=true)(h:wpQuiet P l.toArray (λw'=>∃x:aS w,w'=x.W) (λfI=>∀w',(∃x:aS w,w'=x.W)->Q .normal fI w') l a):(Code.region id l.toArray true).wp P Q a w:=
 wp_region_quiet (C:=λw'=>∃x:aS w,w'=x.W) hm bc ⟨⟨w.drew,(Kept.refl w).drew⟩,rfl⟩ (by simpa using h)
def aS.call{P:Program}{f:FuncId}{args:Array Value}{w:World}{x:aS w}{v:Value}(h:Calls P f args x.W λe w'=>e= .returned v/\Kept x.W w'):Calls P f args x.W λe C6=>e= .returned v/\∃y:aS w,C6=y.W:=
 h.mono λ_ w'⟨he,ai⟩=>⟨he,⟨w',x.h.trans ai⟩,rfl⟩
def aS.pure{P:Program}{f:FuncId}{args:Array Value}{w:World}{x:aS w}{v:Value}(h:Calls P f args x.W λe w'=>e= .returned v/\x.W=w'):Calls P f args x.W λe C6=>e= .returned v/\∃y:aS w,C6=y.W:=
 h.mono λ_ w'⟨he,ai⟩=>⟨he,⟨w',ai▸x.h⟩,rfl⟩
def aS.cell{w:World}{b o:Nat}{v:Value}(af:b<w.heap.size)(aq:w.cell? ⟨b,o,none⟩=some v)(x:aS w):x.W.cell? ⟨b,o,none⟩=some v:=x.h.cell (p:=⟨b,o,none⟩) af aq
def Ints(w:World)(A:Option Addr)(n:Nat)(xs:List Int):Prop:=
 xs.length=n/\(0<n->∃b off,A=some ⟨b,off,none⟩/\b<w.heap.size/\∀j,j<n->w.cell? ⟨b,off+j,none⟩=some (.int .i64 (xs[j]?.getD 0)))
def Ints.kept{w w':World}{A:Option Addr}{n:Nat}{xs:List Int}(h:Ints w A n xs)(af:Kept w w'):Ints w' A n xs:=by
 refine⟨h.1,λaH=> ?_⟩;obtain⟨b,off,a7,aN,aq⟩:=h.2 aH;exact⟨b,off,a7,Nat.lt_of_lt_of_le aN af.size,λj ay=>af.cell (p:=⟨b,off+j,none⟩) aN (aq j ay)⟩
def Ints.alloc{w:World}{A:Option Addr}{n:Nat}{xs:List Int}(h:Ints w A n xs)(o:Obj):Ints (w.alloc o) A n xs:=
 h.kept ((Kept.refl _).alloc o)
def Ints.drew{w:World}{A:Option Addr}{n:Nat}{xs:List Int}(h:Ints w A n xs):Ints w.drew A n xs:=h
def Ints.drewN{w:World}{A:Option Addr}{n:Nat}{xs:List Int}(h:Ints w A n xs)(k:Nat):Ints (w.drewN k) A n xs:=h
def Ints.at_{w:World}{A:Option Addr}{n:Nat}{xs:List Int}(h:Ints w A n xs){k:Nat}(ai:k<n):
  ∃b off,A=some ⟨b,off,none⟩/\b<w.heap.size/\∀j,j<n->w.cell? ⟨b,off+j,none⟩=some (.int .i64 (xs[j]?.getD 0)):=h.2 (by omega)
def Kept.aQ{w W:World}{c:Array Value}{t:TypeId}(h:w.alloc (.cells c t)=W):Kept w W/\aB W w.heap.size t c:=h▸⟨(Kept.refl w).alloc _,aB.new w t c⟩
def Kept.a_{w W:World}{c d:Array Value}{t u:TypeId}(h:(w.alloc (.cells c t)).alloc (.cells d u)=W):Kept w W/\aB W w.heap.size t c/\aB W (w.heap.size+1) u d:=by
 obtain⟨k,b⟩:=Kept.aQ (rfl:w.alloc (.cells c t)=_);obtain⟨bt,bW⟩:=Kept.aQ h;rw[World.size_alloc]at bW;exact⟨k.trans bt,b.kept bt,bW⟩
def Kept.cv{w W:World}{c d e:Array Value}{t u v:TypeId}(h:((w.alloc (.cells c t)).alloc (.cells d u)).alloc (.cells e v)=W):Kept w W/\aB W w.heap.size t c/\aB W (w.heap.size+1) u d/\aB W (w.heap.size+1+1) v e:=by
 obtain⟨k,b,c9⟩:=Kept.a_ (rfl:(w.alloc (.cells c t)).alloc (.cells d u)=_);obtain⟨bt,bW⟩:=Kept.aQ h;rw[World.size_alloc,World.size_alloc]at bW;exact⟨k.trans bt,b.kept bt,c9.kept bt,bW⟩
def Kept.h_{w W:World}{c d e f:Array Value}{t u v x:TypeId}(h:(((w.alloc (.cells c t)).alloc (.cells d u)).alloc (.cells e v)).alloc (.cells f x)=W):Kept w W/\aB W w.heap.size t c/\aB W (w.heap.size+1) u d/\aB W (w.heap.size+1+1) v e/\aB W (w.heap.size+1+1+1) x f:=by
 obtain⟨k,b,c9,j8⟩:=Kept.cv (rfl:((w.alloc (.cells c t)).alloc (.cells d u)).alloc (.cells e v)=_);obtain⟨bt,bW⟩:=Kept.aQ h;rw[World.size_alloc,World.size_alloc,World.size_alloc]at bW;exact⟨k.trans bt,b.kept bt,c9.kept bt,j8.kept bt,bW⟩
def Kept.ko{w W:World}{c d e f g:Array Value}{t u v x y:TypeId}(h:((((w.alloc (.cells c t)).alloc (.cells d u)).alloc (.cells e v)).alloc (.cells f x)).alloc (.cells g y)=W):Kept w W/\aB W w.heap.size t c/\aB W (w.heap.size+1) u d/\aB W (w.heap.size+1+1) v e/\aB W (w.heap.size+1+1+1) x f/\aB W (w.heap.size+1+1+1+1) y g:=by
 obtain⟨k,b,c9,j8,ee⟩:=Kept.h_ (rfl:(((w.alloc (.cells c t)).alloc (.cells d u)).alloc (.cells e v)).alloc (.cells f x)=_);obtain⟨bt,bW⟩:=Kept.aQ h;rw[World.size_alloc,World.size_alloc,World.size_alloc,World.size_alloc]at bW;exact⟨k.trans bt,b.kept bt,c9.kept bt,j8.kept bt,ee.kept bt,bW⟩
def aB.q{w:World}{g:Nat}{t:TypeId}{cs:Array Value}(h:aB w g t cs):(∀i,w.cell? ⟨g,i,none⟩=cs[i]?)/\g<w.heap.size/\∀i,w.frozen? ⟨g,i,none⟩=false:=⟨h.cell,h.lt,h.frozen⟩
def aB.p{w:World}{g:Nat}{t:TypeId}{cs:Array Value}(h:aB w g t cs):(∀i,w.cell? ⟨g,i,none⟩=cs[i]?)/\g<w.heap.size:=⟨h.cell,h.lt⟩
def BI{P:Program}{fn:Func}{R:Ending->World->Prop}{t:Array Value}{w:World}{v:Value}(aJ:R (.returned v) w)(aC:(results fn t).run P w= .ok v w):bodyPost P fn R .ret ⟨t,[]⟩ w:=⟨rfl,v,aC,aJ⟩
section
open Go.Maps (Keyed)
def xc(v:ak):Option (DataW ak×List MemPlace):=some (.held v,[])
def hvV:Option ak->DataW ak
 |none=> .nil
 |some v=> .held v
noncomputable def CQ(f:ak->Option ak)(key val:ak):ak->Option ak:=λx=> @ite _ (x=key) (Classical.propDecidable _) (some val) (f x)
def YV(f:ak->Option ak)(key val:ak):CQ f key val key=some val:=by unfold CQ;exact aP rfl
def YU(f:ak->Option ak){key x:ak}(val:ak)(h:x≠key):CQ f key val x=f x:=by unfold CQ;exact aw h
def lY(k:dC)(b n:aa)(f:ak->Option ak)(w:ag):Prop:=
 ∃D:DataW ak,w.ownsMap prog k xc b n D/\Maps.IsMap D/\∀key rE,keyOf prog k key=some rE->D.atKey rE .nil=hvV (f key)
def lY.made(k:dC)(w:ag):lY k w 0 (λ_=>none) (w.alloc (.map #[] 0)):=
 ⟨.map [],World.ownsMap_made w _ _ _,⟨[],rfl⟩,λ_ _ _=>rfl⟩
section
variable {k t e:dC} {b n:aa} {f:ak->Option ak} {w w':ag}
def lY.lt(h:lY k b n f w):b<w:=by
 obtain⟨D,ab,-⟩:=h;exact ab.lt
def lY.block(h:lY k b n f w)(af:w'.heap[b]?=w.heap[b]?):lY k b n f w':=by
 obtain⟨D,⟨es,c,ab,ad⟩,ao⟩:=h;exact⟨D,⟨es,c,af.trans ab,ad⟩,ao⟩
def lY.kept(h:lY k b n f w)(ai:Kept w w'):lY k b n f w':=h.block (ai.block b h.lt)
def lY.grown{row:Option aa}(h:lY k b n f w)(ai:w.grownBy w' row)(bU:some b≠row):lY k b n f w':=h.block (ai.block b h.lt bU)
def lY.look(c:Bool)(h:lY k b n f w)(K:Keyed prog k)(cr:prog.underlying t=some (.map k e)){z:ak}(bP:(zeroValue e).run prog w= .ok z w){key:ak}{rE:Lit}(Gr:keyOf prog k key=some rE):
  (Instr.lookup t (.map (some b)) key c).run prog w= .ok (if c then bj #[(f key).getD z,bR (f key).isSome]else (f key).getD z) w:=by
 obtain⟨D,⟨es,aI,ab,F,-,rfl⟩,-,cY⟩:=h;have aE:=cY key rE Gr;rcases Maps.fit_look c K cr bP ab F Gr with⟨a6,-,dK⟩|⟨hD,y,-,-,a6,aJ,dK,-⟩
 .rw[dK]at aE
  cases bV:f key with
  |none=>rw[a6];rfl
  |some v=>rw[bV]at aE;cases aE
 .cases aJ;rw[dK]at aE
  cases bV:f key with
  |none=>rw[bV]at aE;cases aE
  |some v=>
   rw[bV]at aE
   cases aE;rw[a6];rfl
def lY.store(h:lY k b n f w)(K:Keyed prog k)(cr:prog.underlying t=some (.map k e))(aH:n<maxLen){key:ak}{rE:Lit}(Gr:keyOf prog k key=some rE)(val:ak):
  ∃w',(Instr.mapUpdate t (.map (some b)) key val).run prog w= .ok () w'/\lY k b (n+1) (CQ f key val) w'/\w.grownBy w' (some b):=by
 obtain⟨D,ab,bN,cY⟩:=h;obtain⟨w',hh,iC,kY⟩:=ab.update K cr aH Gr (val:=val) (d:= .held val) (ps:=[]) rfl;refine⟨w',hh,⟨_,iC,bN.put _ _,λx Ta aj=> ?_⟩,kY⟩;by_cases XT:x=key
 .subst XT;rw[Gr]at aj
  cases aj;rw[Maps.atKey_put_same bN (K.key Gr),YV];rfl
 .rw[Maps.atKey_put_other (λav:Ta=rE=>XT (K.inj aj (by rw[av];exact Gr))),YU f val XT];exact cY x Ta aj
end
def ads{w0 w w':ag}{b:aa}(ai:Kept w0 w)(af:w0<=b)(h:w.grownBy w' (some b)):Kept w0 w':=
 ⟨h.os.trans ai.os,h.tape.trans ai.tape,h.output.trans ai.output,fN ai.size h.size,λi aD=>(h.block i (bG aD ai.size) (λe=>by cases e;omega)).trans (ai.block i aD)⟩
end
section
open Go.Maps (Keyed)
def gZ(m d:J):ak:= .agg #[m,d]
def aeX{m d jY fp:J}(h:gZ m d=gZ jY fp):m=jY/\d=fp:=by
 unfold gZ at h;simp only[x4,x7,qk,Value.int.injEq,tu,kN]at h;exact h
def Tryz.laidOut:laidOutB prog=true:=by kernel_rfl
def Tryz.apn:(match prog.underlying 78 with|some (.array _ _)|some (.struct _)=>true|_=>false)=true:=by kernel_rfl
def Tryz.vr:Keyed prog 78:=Keyed.of_law (deep_law_laid Tryz.laidOut (m:=2) (by omega) (um (by kernel_rfl)) (by kernel_rfl) Tryz.apn)
def Tryz.CY:prog.underlying 71=some (.map 78 120):=by kernel_rfl
def Tryz.Od:prog.underlying 79=some (.map 78 34):=by kernel_rfl
def Tryz.F3(w:ag):(zeroValue 120).run prog w= .ok (.agg #[(),(),(),()]) w:=by kernel_rfl
def Tryz.S7(w:ag):(zeroValue 34).run prog w= .ok (.agg #[(),(),()]) w:=by kernel_rfl
def acW{d:aa}{n:J}(ab: -9223372036854775808<=n)(ad:n<=9223372036854775807):prog.keyLits (d+1) 3 [.int .i64 n]=some [.int .i64 n]:=by
 unfold Program.keyLits;rw[underlying3];exact aP ⟨rfl,by
  unfold Lit.wf;exact Bool.and_eq_true_iff.2 ⟨jR ab,jR ad⟩⟩
def SU{m d:J}(ab: -9223372036854775808<=m)(ad:m<=9223372036854775807)(ao: -9223372036854775808<=d)(aR:d<=9223372036854775807):∃rE,keyOf prog 78 (gZ m d)=some rE:=by
 obtain⟨k,ai⟩:∃d,prog.types.size=d+1:=Nat.exists_eq_succ_of_ne_zero (um (by kernel_rfl));have cv:prog.keyType 78=true:=by kernel_rfl
 have h_:prog.cellsOf 78=2:=by kernel_rfl
 have ko:prog.cellsOf 3=1:=by kernel_rfl
 have bV:(gZ m d).formed prog 78=true:=by
  unfold gZ Value.formed;rw[underlying78];simp only[h_];rfl
 have av:prog.keyLits (prog.types.size+1) 78 [.int .i64 m,.int .i64 d]=some [.int .i64 m,.int .i64 d]:=by
  rw[ai];unfold Program.keyLits;rw[underlying78];dsimp only;rw[aP ⟨h_.symm,by decide+kernel⟩];simp only[List.mapM_cons,List.mapM_nil,ko,rS,vE,sz,q0,acW ab ad,acW ao aR];rfl
 unfold keyOf;rw[underlying78];dsimp only;rw[cv,bV];rw[show (gZ m d).cells.toList=[.int .i64 m,.int .i64 d]from rfl,av];exact⟨_,rfl⟩
end
def tQ(p:J):aW->aa->List aa
 |[],_=>[]
 |x::r,i=>if x=p then i::tQ p r (i+1)else tQ p r (i+1)
def gb(par:aW)(p:J):List aa:=tQ p par 0
theorem Vi(p:J):∀(l:aW)(i j:aa),j∈tQ p l i↔i<=j/\l[j-i]?=some p
 |[],i,j=>by simp[tQ]
 |x::r,i,j=>by
  rw[tQ];have bO:=Vi p r (i+1) j;by_cases aj:x=p
  .rw[aP aj,fM,bO];constructor
   .rintro (rfl|⟨ab,ad⟩)
    .exact⟨bB _,by simp[aj]⟩
    .refine⟨by omega,?_⟩;rw[show j-i=(j-(i+1))+1 by omega,jd];exact ad
   .rintro⟨ab,ad⟩;rcases Nat.eq_or_lt_of_le ab with rfl|ao
    .exact .inl rfl
    .refine .inr ⟨ao,?_⟩;rw[show j-i=(j-(i+1))+1 by omega,jd]at ad;exact ad
  .rw[aw aj,bO];constructor
   .rintro⟨ab,ad⟩;refine⟨by omega,?_⟩;rw[show j-i=(j-(i+1))+1 by omega,jd];exact ad
   .rintro⟨ab,ad⟩;rcases Nat.eq_or_lt_of_le ab with rfl|ao
    .simp at ad;exact absurd ad aj
    .refine⟨ao,?_⟩;rw[show j-i=(j-(i+1))+1 by omega,jd]at ad;exact ad
def r8{par:aW}{p:J}{j:aa}:j∈gb par p↔par[j]?=some p:=by
 unfold gb;rw[Vi];simp
theorem aba(p:J):∀(l:aW)(i:aa),(tQ p l i).Pairwise (·<·)
 |[],_=>List.Pairwise.nil
 |x::r,i=>by
  rw[tQ];have bO:=aba p r (i+1);split
  .refine List.pairwise_cons.2 ⟨λj ay=> ?_,bO⟩;have:=((Vi p r (i+1) j).1 ay).1;omega
  .exact bO
def Vk(par:aW)(p:J):(gb par p).Nodup:=(aba p par 0).imp (λh e=>by omega)
def pe(pri:aa->J)(o:aa->J)(acc:List aa)(c:aa):List aa:=
 if o c= -1 then acc else
  let a:=match acc with|[]=>[]|b::r=>if pri b<pri c then []else b::r
  match a with|[]=>[c]|b::r=>if pri c=pri b then b::r++[c]else b::r
def jI(pri:aa->J)(o:aa->J)(l:List aa):List aa:=l.foldl (pe pri o) []
def iY(pri:aa->J)(o:aa->J)(l:List aa):List aa:=l.filter (λc=>decide (o c≠ -1/\∀d∈l,o d≠ -1->pri d<=pri c))
def px{pri o:aa->J}{l:List aa}{c:aa}:c∈iY pri o l↔c∈l/\o c≠ -1/\∀d∈l,o d≠ -1->pri d<=pri c:=by
 unfold iY;rw[uq,gg]
theorem Zq{pri o:aa->J}:∀{l:List aa}{c:aa},c∈l->o c≠ -1->∃d,d∈iY pri o l
 |[],c,h,_=>by cases h
 |x::r,c,h,aA=>by
  by_cases aC:∃d∈r,o d≠ -1
  .obtain⟨d,aE,ou⟩:=aC;obtain⟨t,cr⟩:=Zq (pri:=pri) aE ou;obtain⟨ab,ad,ao⟩:=px.1 cr;by_cases aj:o x≠ -1/\pri t<pri x
   .refine⟨x,px.2 ⟨by simp,aj.1,λe he AB=> ?_⟩⟩;rcases fM.1 he with rfl|he
    .exact wI _
    .have:=ao e he AB;omega
   .refine⟨t,px.2 ⟨by simp[ab],ad,λe he AB=> ?_⟩⟩;rcases fM.1 he with rfl|he
    .by_cases hp:pri t<pri e
     .exact absurd ⟨AB,hp⟩ aj
     .omega
    .exact ao e he AB
  .have qH:c=x:=by
    rcases fM.1 h with h|h
    .exact h
    .exact absurd ⟨c,h,aA⟩ aC
   subst qH;refine⟨c,px.2 ⟨by simp,aA,λe he AB=> ?_⟩⟩;rcases fM.1 he with rfl|he
   .exact wI _
   .exact absurd ⟨e,he,AB⟩ aC
def apT{pri o:aa->J}{l:List aa}{b c:aa}(af:b∈iY pri o l)(aq:c∈iY pri o l):pri b=pri c:=by
 obtain⟨c9,bW,j8⟩:=px.1 af;obtain⟨aY,a',bu⟩:=px.1 aq;have:=j8 c aY a';have:=bu b c9 bW;omega
def apU(pri o:aa->J)(l:List aa)(c:aa):iY pri o (l++[c])=pe pri o (iY pri o l) c:=by
 have aci:∀x,x∈l->((∀d∈l++[c],o d≠ -1->pri d<=pri x)↔(∀d∈l,o d≠ -1->pri d<=pri x)/\(o c≠ -1->pri c<=pri x)):=λx _=>by
  constructor
  .intro h;exact⟨λd aE=>h d (by simp[aE]),λaq=>h c (by simp) aq⟩
  .rintro⟨ab,ad⟩ d aE ou;rcases k5.1 aE with aE|aE
   .exact ab d aE ou
   .rw[kb]at aE;subst aE;exact ad ou
 unfold pe;by_cases aq:o c= -1
 .rw[aP aq];unfold iY;rw[x8,List.filter_cons_of_neg (by simp[aq]),Ke,hj];refine E3 λx aj=> ?_;rw[Hk,aci x aj];simp[aq]
 .rw[aw aq];have RM:iY pri o (l++[c])=l.filter (λx=>decide (o x≠ -1/\(∀d∈l,o d≠ -1->pri d<=pri x)/\pri c<=pri x))++(if∀d∈l,o d≠ -1->pri d<=pri c then [c]else []):=by
   unfold iY;rw[x8];congr 1
   .refine E3 λx aj=> ?_;rw[Hk,aci x aj];simp[aq]
   .rw[sA];have:(∀d∈l++[c],o d≠ -1->pri d<=pri c)↔(∀d∈l,o d≠ -1->pri d<=pri c):=by
     constructor
     .intro h d aE;exact h d (by simp[aE])
     .intro h d aE ou;rcases k5.1 aE with aE|aE
      .exact h d aE ou
      .rw[kb]at aE;subst aE;exact wI _
    simp only[this,aq,ne_eq,not_false_eq_true,tu,Ke];by_cases aT:∀d∈l,o d≠ -1->pri d<=pri c<;>simp[aT]
  rw[RM];have bT:l.filter (λx=>decide (o x≠ -1/\(∀d∈l,o d≠ -1->pri d<=pri x)/\pri c<=pri x))=(iY pri o l).filter (λx=>decide (pri c<=pri x)):=by
   unfold iY;rw[List.filter_filter];refine E3 λx _=> ?_;by_cases ab:pri c<=pri x<;>by_cases ad:o x≠ -1/\∀d∈l,o d≠ -1->pri d<=pri x<;>simp[ab,ad]<;>simp_all
  rw[bT]
  cases My:iY pri o l with
  |nil=>
   have iK:∀d∈l,o d≠ -1->pri d<=pri c:=λd aE ou=>by
    obtain⟨t,cr⟩:=Zq (pri:=pri) aE ou;rw[My]at cr;cases cr
   rw[aP iK];rfl
  |cons b r=>
   have af:b∈iY pri o l:=by rw[My];simp
   obtain⟨c9,bW,j8⟩:=px.1 af;have heq:∀x∈b::r,pri x=pri b:=λx aj=>apT (by rw[My];exact aj) af;dsimp only;by_cases aN:pri b<pri c
   .rw[aP aN];have iK:∀d∈l,o d≠ -1->pri d<=pri c:=λd aE ou=>by have:=j8 d aE ou;omega
    rw[aP iK];rw[List.filter_eq_nil_iff.2 (λx aj=>by have:=heq x aj;simp;omega)];rfl
   .rw[aw aN];dsimp only;have ake:(b::r).filter (λx=>decide (pri c<=pri x))=b::r:=List.filter_eq_self.2 (λx aj=>by have:=heq x aj;simp;omega);rw[ake];by_cases he:pri c=pri b
    .rw[aP he,aP (λd aE ou=>by have:=j8 d aE ou;omega)]
    .rw[aw he,aw (λh=>by have:=h b c9 bW;omega),hj]
def sT(pri o:aa->J)(l:List aa):jI pri o l=iY pri o l:=by
 have h:∀(r done:List aa),r.foldl (pe pri o) (iY pri o done)=iY pri o (done++r):=by
  intro r;induction r with
  |nil=>intro done;simp
  |cons x r bO=>
   intro done;rw[x6,<-apU,bO,nY];rfl
 have:=h l [];rwa [qj,show iY pri o []=[]from rfl]at this
def nu(o:aa->J):List aa->J
 |[]=> -1
 |[c]=>o c
 |_=> -2
def eu(par:aW)(pri:aa->J)(apl:aa->Bool):aa->aa->J
 |0,_=> -1
 |F+1,i=>
  let r:=nu (eu par pri apl F) (jI pri (eu par pri apl F) (gb par i))
  if r= -1/\apl i=true then i else r
def xQ(par:aW)(pri:aa->J)(apl:aa->Bool)(F:aa):J:=nu (eu par pri apl F) (jI pri (eu par pri apl F) (gb par (-1)))
def adV(par:aW)(pri:aa->J)(apl:aa->Bool)(hp:∀(i:aa)(p:J),par[i]?=some p->p<i):∀(F i:aa),par.length<=F+i->eu par pri apl F i=eu par pri apl (F+1) i\/par.length<=i:=by
 intro F;induction F with
 |zero=>intro i h;exact .inr (by omega)
 |succ F bO=>
  intro i h;by_cases aD:par.length<=i
  .exact .inr aD
  refine .inl ?_;have om:∀c∈gb par i,eu par pri apl F c=eu par pri apl (F+1) c:=λc aq=>by
   have y1:=r8.1 aq;have aN:=hp c _ y1;have oO:c<par.length:=(b2 y1).1;rcases bO c (by omega)with ab|ab
   .exact ab
   .omega
  have af:jI pri (eu par pri apl F) (gb par i)=jI pri (eu par pri apl (F+1)) (gb par i):=by
   rw[sT,sT];unfold iY;refine E3 λc aq=> ?_;rw[Hk,om c aq];constructor
   .rintro⟨ab,ad⟩;exact⟨ab,λd aE=>by rw[<-om d aE];exact ad d aE⟩
   .rintro⟨ab,ad⟩;exact⟨ab,λd aE=>by rw[om d aE];exact ad d aE⟩
  have aA:nu (eu par pri apl F) (jI pri (eu par pri apl F) (gb par i))=nu (eu par pri apl (F+1)) (jI pri (eu par pri apl (F+1)) (gb par i)):=by
   rw[<-af]
   cases oj:jI pri (eu par pri apl F) (gb par i)with
   |nil=>rfl
   |cons c r=>
    cases r with
    |nil=>
     have:c∈jI pri (eu par pri apl F) (gb par i):=by rw[oj];simp
     rw[sT]at this;exact om c (px.1 this).1
    |cons d r=>rfl
  rw[eu,eu];simp only[aA]
def iM(σ:aa->aa)(r:J):J:=if r<0 then r else σ r.toNat
structure Twin(σ:aa->aa)(par par':aW)(pri gY:aa->J)(apl apl':aa->Bool):Prop where
 lt:∀i,i<par.length->σ i<par'.length
 inj:∀i j,i<par.length->j<par.length->σ i=σ j->i=j
 C1:∀j,j<par'.length->∃i,i<par.length/\σ i=j
 Ez:∀(i:aa)(p:J),par[i]?=some p->par'[σ i]?=some (iM σ p)
 low:∀(i:aa)(p:J),par[i]?=some p-> -1<=p/\p<i
 zs:∀i,i<par.length->gY (σ i)=pri i
 U5:∀i,i<par.length->apl' (σ i)=apl i
section
variable {σ:aa->aa} {par par':aW} {pri gY:aa->J} {apl apl':aa->Bool}
def Twin.mu(h:Twin σ par par' pri gY apl apl')(p:J)(hp: -1<=p/\p<par.length):(gb par' (iM σ p)).Perm ((gb par p).map σ):=by
 refine (ZO (Vk _ _) ?_).2 λj=> ?_
 .refine List.pairwise_map.2 ((Vk par p).imp_of_mem λ{a b}bD af bU e=>bU ?_);exact h.inj a b (b2 (r8.1 bD)).1 (b2 (r8.1 af)).1 e
 .rw[r8,o3];constructor
  .intro ay;obtain⟨i,aD,rfl⟩:=h.C1 j (b2 ay).1;refine⟨i,r8.2 ?_,rfl⟩;have al:par[i]?=some par[i]:=bn aD;have ad:=h.Ez i _ al;rw[ay]at ad;have ao:=cJ ad;have av:=h.low i _ al;rw[al];congr 1;unfold iM at ao;split at ao
   .split at ao
    .omega
    .omega
   .split at ao
    .omega
    .have:=h.inj p.toNat (par[i]).toNat (by omega) (by omega) (by omega);omega
  .rintro⟨i,aD,rfl⟩;exact h.Ez i p (r8.1 aD)
def am9{o zo:aa->J}{l l':List aa}(h:l'.Perm (l.map σ))(aA:∀c∈l,zo (σ c)=iM σ (o c)):nu zo l'=iM σ (nu o l):=by
 match l,h,aA with
 |[],h,_=>
  rw[Kh]at h;rw[List.Perm.eq_nil h];rfl
 |[c],h,aA=>
  rw[zE,Kh]at h;rw[List.perm_singleton.1 h];exact aA c (by simp)
 |c::d::r,h,_=>
  have av:=h.length_eq;match l',av with
  |a::b::lo,_=>rfl
  |[],av=>simp at av
  |[a],av=>simp at av
def Twin.aeB(h:Twin σ par par' pri gY apl apl')(F:aa)(bO:∀i,i<par.length->eu par' gY apl' F (σ i)=iM σ (eu par pri apl F i))(p:J)(hp: -1<=p/\p<par.length):
  nu (eu par' gY apl' F) (jI gY (eu par' gY apl' F) (gb par' (iM σ p)))=iM σ (nu (eu par pri apl F) (jI pri (eu par pri apl F) (gb par p))):=by
 have aN:∀c∈gb par p,c<par.length:=λc aq=>(b2 (r8.1 aq)).1;have uY:∀r:J,iM σ r≠ -1↔r≠ -1:=λr=>by unfold iM;split<;>omega
 refine am9 ?_ (λc aq=> ?_)
 .rw[sT,sT];have ab:=(h.mu p hp).filter (λc=>decide (eu par' gY apl' F c≠ -1/\∀d∈gb par' (iM σ p),eu par' gY apl' F d≠ -1->gY d<=gY c));unfold iY;refine ab.trans (List.Perm.of_eq ?_);rw[List.filter_map];congr 1;refine E3 λc aq=> ?_;simp only[Function.comp_apply];rw[Hk,bO c (aN c aq),uY,h.zs c (aN c aq)];refine and_congr Iff.rfl ⟨λaT d aE ou=> ?_,λaT d aE ou=> ?_⟩
  .have:=aT (σ d) ((h.mu p hp).mem_iff.2 (o3.2 ⟨d,aE,rfl⟩)) (by rw[bO d (aN d aE),uY];exact ou);rwa [h.zs d (aN d aE)]at this
  .obtain⟨e,he,rfl⟩:=o3.1 ((h.mu p hp).mem_iff.1 aE);rw[bO e (aN e he),uY]at ou;rw[h.zs e (aN e he)];exact aT e he ou
 .rw[sT]at aq;exact bO c (aN c (px.1 aq).1)
def Twin.out(h:Twin σ par par' pri gY apl apl'):∀(F i:aa),i<par.length->eu par' gY apl' F (σ i)=iM σ (eu par pri apl F i):=by
 intro F;induction F with
 |zero=>intro i _;rfl
 |succ F bO=>
  intro i aD;have aC:=h.aeB F bO (i:J) ⟨by omega,by omega⟩;have Cl:iM σ (i:J)=((σ i:aa):J):=by unfold iM;rw[aw (by omega)];simp
  rw[Cl]at aC;rw[eu,eu];rw[aC,h.U5 i aD];generalize nu (eu par pri apl F) (jI pri (eu par pri apl F) (gb par i))=r at*;have uY:iM σ r= -1↔r= -1:=by
   unfold iM;split<;>omega
  by_cases ab:r= -1/\apl i=true
  .rw[aP ab,aP ⟨uY.2 ab.1,ab.2⟩,Cl]
  .rw[aw ab,aw (λad=>ab ⟨uY.1 ad.1,ad.2⟩)]
def Twin.G6(h:Twin σ par par' pri gY apl apl')(F:aa):xQ par' gY apl' F=iM σ (xQ par pri apl F):=by
 have:=h.aeB F (h.out F) (-1) ⟨by omega,by omega⟩;rwa [show iM σ (-1)= -1 from rfl]at this
end
def adF{o:aa->J}{l:List aa}{n:aa}(h:∀c∈l,-2<=o c/\o c<n): -2<=nu o l/\nu o l<n:=by
 match l,h with
 |[],_=>exact⟨by show (-2:J)<= -1;omega,by show (-1:J)<n;omega⟩
 |[c],h=>exact h c (by simp)
 |_::_::_,_=>exact⟨by show (-2:J)<= -2;omega,by show (-2:J)<n;omega⟩
def ans(par:aW)(pri:aa->J)(apl:aa->Bool):∀(F i:aa),i<par.length-> -2<=eu par pri apl F i/\eu par pri apl F i<par.length:=by
 intro F;induction F with
 |zero=>intro i aD;exact⟨by show (-2:J)<= -1;omega,by show (-1:J)<_;omega⟩
 |succ F bO=>
  intro i aD;have af:=adF (o:=eu par pri apl F) (l:=jI pri (eu par pri apl F) (gb par i)) (n:=par.length) (λc aq=>by
   rw[sT]at aq;exact bO c (b2 (r8.1 (px.1 aq).1)).1)
  rw[eu];split
  .omega
  .exact af
def aez(par:aW)(pri:aa->J)(apl:aa->Bool)(F:aa): -2<=xQ par pri apl F/\xQ par pri apl F<par.length:=
 adF (λc aq=>by
  rw[sT]at aq;exact ans par pri apl F c (b2 (r8.1 (px.1 aq).1)).1)
def Twin.len{σ:aa->aa}{par par':aW}{pri gY:aa->J}{apl apl':aa->Bool}(h:Twin σ par par' pri gY apl apl'):par'.length=par.length:=by
 have ab:((List.range par).map σ).Perm (List.range par'):=by
  refine (ZO ?_ List.nodup_range).2 λj=> ?_
  .refine List.pairwise_map.2 (List.nodup_range.imp_of_mem λ{a b}bD af bU e=>bU ?_);exact h.inj a b (me.1 bD) (me.1 af) e
  .rw[o3,me];constructor
   .rintro⟨i,aD,rfl⟩;exact h.lt i (me.1 aD)
   .intro ay;obtain⟨i,aD,e⟩:=h.C1 j ay;exact⟨i,me.2 aD,e⟩
 have:=ab.length_eq;simpa using this.symm
structure yd(φ:aa->aa)(par par':aW)(pri gY:aa->J)(apl apl':aa->Bool):Prop where
 lt:∀j,j<par'.length->φ j<par.length
 inj:∀i j,i<par'.length->j<par'.length->φ i=φ j->i=j
 Ez:∀(j:aa)(p:J),par'[j]?=some p->par[φ j]?=some (iM φ p)
 low:∀(j:aa)(p:J),par'[j]?=some p-> -1<=p/\p<j
 zs:∀j,j<par'.length->pri (φ j)=gY j
 U5:∀j,j<par'.length->apl' j=true->apl (φ j)=true
section
variable {φ:aa->aa} {par par':aW} {pri gY:aa->J} {apl apl':aa->Bool}
def yd.up(h:yd φ par par' pri gY apl apl'){c:aa}(aq:c<par'.length){p:J}(akD:par[φ c]?=some p):∃AS,par'[c]?=some AS/\iM φ AS=p:=by
 have al:par'[c]?=some par'[c]:=bn aq;have:=h.Ez c _ al;rw[akD]at this;exact⟨_,al,(cJ this).symm⟩
def am8{o pri:aa->J}{l:List aa}:nu o (jI pri o l)= -1↔∀c∈l,o c= -1:=by
 rw[sT];constructor
 .intro h c aq;by_cases aA:o c= -1
  .exact aA
  .obtain⟨d,aE⟩:=Zq (pri:=pri) aq aA;exfalso;match bT:iY pri o l,h with
   |[],_=>rw[bT]at aE;cases aE
   |[x],h=>
    have aj:x∈iY pri o l:=by rw[bT];simp
    exact (px.1 aj).2.1 h
   |_::_::_,h=>exact absurd h (by show¬(-2:J)= -1;decide)
 .intro h;have:iY pri o l=[]:=by
   match bT:iY pri o l with
   |[]=>rfl
   |x::r=>
    have aj:x∈iY pri o l:=by rw[bT];simp
    exact absurd (h x (px.1 aj).1) (px.1 aj).2.1
  rw[this];rfl
def Sp{o pri:aa->J}{l:List aa}{q:J}(az:0<=q)(h:nu o (jI pri o l)=q):∃c,iY pri o l=[c]/\o c=q:=by
 rw[sT]at h;match bT:iY pri o l,h with
 |[],h=>exact absurd h (by show¬(-1:J)=q;omega)
 |[c],h=>exact⟨c,rfl,h⟩
 |_::_::_,h=>exact absurd h (by show¬(-2:J)=q;omega)
def yd.img(h:yd φ par par' pri gY apl apl'){q:aa}(az:q<par'.length):∀(F c:aa),eu par pri apl F c=(φ q:aa)->∃fF,fF<par'.length/\φ fF=c:=by
 intro F;induction F with
 |zero=>intro c aq;exact absurd aq (by show¬(-1:J)=_;omega)
 |succ F bO=>
  intro c aq;rw[eu]at aq;split at aq
  .exact⟨q,az,by omega⟩
  .obtain⟨d,aE,aA⟩:=Sp (by omega) aq;obtain⟨fp,hf,rfl⟩:=bO d aA;have hm:φ fp∈iY pri (eu par pri apl F) (gb par (c:J)):=by rw[aE];simp
   have om:=r8.1 (px.1 hm).1;obtain⟨AS,ab,ad⟩:=h.up hf om;have av:=h.low _ _ ab;unfold iM at ad;split at ad
   .omega
   .refine⟨AS.toNat,?_,by omega⟩;have:=(b2 ab).1;omega
def yd.step(h:yd φ par par' pri gY apl apl')(F:aa){p:J}(hp: -1<=p)(nK:p<par'.length)(i1:∀j,j<par'.length->eu par pri apl F (φ j)= -1->eu par' gY apl' F j= -1)(i2:∀j q,j<par'.length->q<par'.length->apl' q=true->eu par pri apl F (φ j)=(φ q:aa)->eu par' gY apl' F j=(q:aa)):
  (nu (eu par pri apl F) (jI pri (eu par pri apl F) (gb par (iM φ p)))= -1->nu (eu par' gY apl' F) (jI gY (eu par' gY apl' F) (gb par' p))= -1)/\
  ∀q,q<par'.length->apl' q=true->nu (eu par pri apl F) (jI pri (eu par pri apl F) (gb par (iM φ p)))=(φ q:aa)->nu (eu par' gY apl' F) (jI gY (eu par' gY apl' F) (gb par' p))=(q:aa):=by
 have dG:∀fF,fF∈gb par' p->fF<par'.length/\φ fF∈gb par (iM φ p):=λfF aq=>by
  have ab:=r8.1 aq;exact⟨(b2 ab).1,r8.2 (h.Ez _ _ ab)⟩
 have Xp:∀fF,fF<par'.length->φ fF∈gb par (iM φ p)->fF∈gb par' p:=λfF aq hm=>by
  obtain⟨AS,ab,ad⟩:=h.up aq (r8.1 hm);have av:=h.low _ _ ab;have jj:=(b2 ab).1;refine r8.2 ?_;rw[ab];congr 1;unfold iM at ad;split at ad
  .split at ad
   .omega
   .omega
  .split at ad
   .omega
   .have:=h.inj AS.toNat p.toNat (by omega) (by omega) (by omega);omega
 refine⟨λar=> ?_,λq az bD ar=> ?_⟩
 .rw[am8]at ar⊢;exact λfF aq=>i1 fF (dG fF aq).1 (ar _ (dG fF aq).2)
 .obtain⟨c,bT,aA⟩:=Sp (by omega) ar;obtain⟨fF,y1,rfl⟩:=h.img az F c aA;have hm:φ fF∈iY pri (eu par pri apl F) (gb par (iM φ p)):=by rw[bT];simp
  obtain⟨m1,m2,m3⟩:=px.1 hm;have Xn:=i2 fF q y1 az bD aA;have jj:=Xp fF y1 m1;have aN:∀fp,fp∈gb par' p->eu par' gY apl' F fp≠ -1->fp≠fF->gY fp<gY fF:=λfp aE ou bU=>by
   obtain⟨hf,mx⟩:=dG fp aE;have acA:eu par pri apl F (φ fp)≠ -1:=λe=>ou (i1 fp hf e);have hle:=m3 _ mx acA;rw[h.zs _ hf,h.zs _ y1]at hle;rcases Int.lt_or_eq_of_le hle with aN|heq
   .exact aN
   .exfalso;have:φ fp∈iY pri (eu par pri apl F) (gb par (iM φ p)):=px.2 ⟨mx,acA,λe he AB=>by
     have:=m3 e he AB;rw[h.zs _ y1]at this;rw[h.zs _ hf,heq];exact this⟩
    rw[bT,kb]at this;exact bU (h.inj _ _ hf y1 this)
  have hT':iY gY (eu par' gY apl' F) (gb par' p)=[fF]:=by
   have mR:∀d,d∈iY gY (eu par' gY apl' F) (gb par' p)↔d=fF:=λd=>by
    constructor
    .intro aE;obtain⟨d1,d2,d3⟩:=px.1 aE;by_cases e:d=fF
     .exact e
     .have:=aN d d1 d2 e;have:=d3 fF jj (by rw[Xn];omega);omega
    .rintro rfl;refine px.2 ⟨jj,by rw[Xn];omega,λe he AB=> ?_⟩;by_cases aT:e=d
     .rw[aT];exact wI _
     .exact Int.le_of_lt (aN e he AB aT)
   have iA:(iY gY (eu par' gY apl' F) (gb par' p)).Nodup:=(Vk par' p).filter _;have xz:(iY gY (eu par' gY apl' F) (gb par' p)).Perm [fF]:=(ZO iA (by simp)).2 λd=>by rw[mR,kb]
   exact List.perm_singleton.1 xz
  rw[sT,hT'];exact Xn
def yd.out(h:yd φ par par' pri gY apl apl'):∀F,(∀j,j<par'.length->eu par pri apl F (φ j)= -1->eu par' gY apl' F j= -1)/\
  ∀j q,j<par'.length->q<par'.length->apl' q=true->eu par pri apl F (φ j)=(φ q:aa)->eu par' gY apl' F j=(q:aa):=by
 intro F;induction F with
 |zero=>exact⟨λ_ _ _=>rfl,λj q _ _ _ aT=>absurd aT (by show¬(-1:J)=_;omega)⟩
 |succ F bO=>
  have bH:∀j,j<par'.length->_:=λj ay=>h.step F (p:=(j:J)) (by omega) (by omega) bO.1 bO.2;have av:∀j:aa,iM φ (j:J)=((φ j:aa):J):=λj=>by unfold iM;rw[aw (by omega)];simp
  refine⟨λj ay ar=> ?_,λj q ay az bD ar=> ?_⟩
  .obtain⟨s1,-⟩:=bH j ay;rw[av]at s1;rw[eu]at ar⊢;split at ar
   .omega
   .rename_i aH;have ab:=s1 ar;rw[ab];rw[aw (λaT=>aH ⟨ar,h.U5 j ay aT.2⟩)]
  .obtain⟨s1,s2⟩:=bH j ay;rw[av]at s1 s2;rw[eu]at ar⊢;split at ar
   .rename_i bZ;have:=h.inj j q ay az (by omega);subst this;rw[s1 bZ.1,aP ⟨rfl,bD⟩]
   .have:=s2 q az bD ar;rw[this,aw (λaT=>by omega)]
def yd.G6(h:yd φ par par' pri gY apl apl')(F:aa){q:aa}(az:q<par'.length)(bD:apl' q=true)(ar:xQ par pri apl F=(φ q:aa)):xQ par' gY apl' F=(q:aa):=
 (h.step F (p:= -1) (by omega) (by omega) (h.out F).1 (h.out F).2).2 q az bD ar
end
def aoJ{par:aW}{pri:aa->J}{apl:aa->Bool}(hp:∀(i:aa)(p:J),par[i]?=some p->p<i):∀k,xQ par pri apl (par.length+k)=xQ par pri apl par:=by
 intro k;induction k with
 |zero=>rfl
 |succ k bO=>
  rw[<-bO];have om:∀c∈gb par (-1),eu par pri apl (par.length+k) c=eu par pri apl (par.length+k+1) c:=λc aq=>by
   have oO:=(b2 (r8.1 aq)).1;rcases adV par pri apl hp (par.length+k) c (by omega)with ab|ab
   .exact ab
   .omega
  unfold xQ;rw[show par.length+(k+1)=par.length+k+1 from rfl,sT,sT];have bT:iY pri (eu par pri apl (par.length+k+1)) (gb par (-1))=iY pri (eu par pri apl (par.length+k)) (gb par (-1)):=by
   unfold iY;refine E3 λc aq=> ?_;rw[Hk,<-om c aq];refine and_congr Iff.rfl ⟨λaT d aE ou=>aT d aE (by rw[<-om d aE];exact ou),λaT d aE ou=>aT d aE (by rw[om d aE];exact ou)⟩
  rw[bT];match My:iY pri (eu par pri apl (par.length+k)) (gb par (-1))with
  |[]=>rfl
  |[c]=>
   have:c∈iY pri (eu par pri apl (par.length+k)) (gb par (-1)):=by rw[My];simp
   exact (om c (px.1 this).1).symm
  |_::_::_=>rfl
def Kept.aaT{w W:ag}{aY:ho}{t1:dC}(h:Kept (w.alloc (.cells aY t1)) W):aB W w t1 aY:=
 (aB.new w t1 aY).kept h
def Kept.PX{w W:ag}{aY a':ho}{t1 t2:dC}(h:Kept ((w.alloc (.cells aY t1)).alloc (.cells a' t2)) W):
  aB W w t1 aY/\aB W (w.heap.size+1) t2 a':=
 ⟨((aB.new w t1 aY).alloc _).kept h,by have:=(aB.new (w.alloc (.cells aY t1)) t2 a').kept h;rwa [qf]at this⟩
def Kept.xh{w W:ag}{aY a' bu:ho}{t1 t2 t3:dC}(h:Kept (((w.alloc (.cells aY t1)).alloc (.cells a' t2)).alloc (.cells bu t3)) W):
  aB W w t1 aY/\aB W (w.heap.size+1) t2 a'/\aB W (w.heap.size+2) t3 bu:=
 ⟨(((aB.new w t1 aY).alloc _).alloc _).kept h,by have:=((aB.new (w.alloc (.cells aY t1)) t2 a').alloc (.cells bu t3)).kept h;rwa [qf]at this,
  by have:=(aB.new ((w.alloc (.cells aY t1)).alloc (.cells a' t2)) t3 bu).kept h;rwa [qf,qf]at this⟩
def Kept.aaU{w W:ag}{aY a' bu b4:ho}{t1 t2 t3 t4:dC}(h:Kept ((((w.alloc (.cells aY t1)).alloc (.cells a' t2)).alloc (.cells bu t3)).alloc (.cells b4 t4)) W):
  aB W w t1 aY/\aB W (w.heap.size+1) t2 a'/\aB W (w.heap.size+2) t3 bu/\aB W (w.heap.size+3) t4 b4:=
 ⟨((((aB.new w t1 aY).alloc _).alloc _).alloc _).kept h,by have:=(((aB.new (w.alloc (.cells aY t1)) t2 a').alloc (.cells bu t3)).alloc (.cells b4 t4)).kept h;rwa [qf]at this,
  by have:=((aB.new ((w.alloc (.cells aY t1)).alloc (.cells a' t2)) t3 bu).alloc (.cells b4 t4)).kept h;rwa [qf,qf]at this,
  by have:=(aB.new (((w.alloc (.cells aY t1)).alloc (.cells a' t2)).alloc (.cells bu t3)) t4 b4).kept h;rwa [qf,qf,qf]at this⟩
def Kept.size_le{w W:ag}(h:Kept w W):w<=W.heap.size:=h.size
def hP{α:Type}(w:ag)(f:α->List ak)(k:aa)(v:ak)(xs:List α):Prop:=
 ∃A cap,v=ae A xs cap/\(0<xs.length->∃b off,A=some ⟨b,off,none⟩/\b<w.heap.size/\∀j x,xs[j]?=some x->∀i u,(f x)[i]?=some u->aU w ⟨b,off+j*k+i,none⟩=some u)
section
variable {α:Type} {f:α->List ak} {k:aa}
def hP.kept{w w':ag}{v:ak}{xs:List α}(h:hP w f k v xs)(ai:Kept w w'):hP w' f k v xs:=by
 obtain⟨A,cap,aK,aj⟩:=h;refine⟨A,cap,aK,λhp=> ?_⟩;obtain⟨b,off,a7,af,aq⟩:=aj hp;exact⟨b,off,a7,bG af ai.size,λj x ay i u hu=>ai.aI af (aq j x ay i u hu)⟩
def hP.nil(w:ag)(f:α->List ak)(k:aa):hP w f k bf []:=⟨none,0,rfl,λh=>absurd h (by simp)⟩
def hP.drew{w:ag}{v:ak}{xs:List α}(h:hP w f k v xs):hP w.drew f k v xs:=h
def cb(w:ag)(B:aa)(e:dC)(f:α->List ak)(k:aa)(v:ak)(xs:List α):Prop:=w.ownsRow B e k v xs (xs.flatMap f)
def cb.nil(w:ag)(B:aa)(e:dC):cb w B e f k bf []:=qh _ _ _ _
def DT(bV:∀x,(f x).length=k):∀(xs:List α)(j:aa)(x:α),xs[j]?=some x->∀i u,(f x)[i]?=some u->(xs.flatMap f)[j*k+i]?=some u:=by
 intro xs;induction xs with
 |nil=>intro j x h;simp at h
 |cons y cA bO=>
  intro j x h i u hu;rw[zC];have aD:i<(f x).length:=(b2 hu).1;rw[bV]at aD
  cases j with
  |zero=>
   have e:y=x:=cJ h;subst e;rw[vA,ql,lQ (by rw[bV];exact aD)];exact hu
  |succ j=>
   rw[k4 (by rw[bV,Hn];omega),bV,show (j+1)*k+i-k=j*k+i by rw[Hn];omega];exact bO j x (by simpa using h) i u hu
def cb.jx{w:ag}{B:aa}{e:dC}{v:ak}{xs:List α}(bV:∀x,(f x).length=k)(h:cb w B e f k v xs):hP w f k v xs:=by
 have ec:=h;rcases h.2 with⟨rfl,aH⟩|⟨g,cap,cur,rfl,_,al,_⟩
 .have:xs=[]:=oC.1 aH;subst this;exact hP.nil w f k
 .refine⟨_,_,rfl,λ_=>⟨g,0,rfl,(nW.1 al).1,λj x ay i u hu=> ?_⟩⟩;have aq:=World.ownsRow.cells ec (g:=g) rfl (j*k+i) u (DT bV xs j x ay i u hu);have e:(⟨g,0,none⟩:Addr).add (j*k+i)=⟨g,0+j*k+i,none⟩:=by
   unfold Addr.add;by_cases ar:j*k+i=0
   .simp only[ar,k3];congr 1;omega
   .rw[aw ar];simp
  rw[e]at aq;exact aq
def xN{w0 wr w1:ag}{B:aa}{v:ak}{e:dC}{size n:aa}{xs:dN}{o:Obj}(ax:Kept w0 wr)(cN:wr.ownsRow B e size v n xs)(bc:w0.heap.size<=B)(al:(wr.alloc o).grownBy w1 v.ownBlock):Kept w0 w1:=by
 refine⟨al.os.trans ax.os,al.tape.trans ax.tape,al.output.trans ax.output,?_,λb af=> ?_⟩
 .have:=ax.size;have ad:=al.size;simp at ad;omega
 .have aO:=ax.size;rw[al.block b (by simp;omega) (λe=>by have:=(iF cN b e.symm).1;omega)];rw[wL wr o b (by omega)];exact ax.block b af
def Sx{wr w1:ag}{B:aa}{v:ak}{e:dC}{size n:aa}{xs:dN}{o:Obj}(cN:wr.ownsRow B e size v n xs)(al:(wr.alloc o).grownBy w1 v.ownBlock){j:aa}(ay:j<wr)(bc:j<B):w1.heap[j]?=wr.heap[j]?:=by
 rw[al.block j (by simp;omega) (λe=>by have:=(iF cN j e.symm).1;omega)];exact wL wr o j ay
def adW{wr w1:ag}{v:ak}{o:Obj}(al:(wr.alloc o).grownBy w1 v.ownBlock):wr.heap.size+1<=w1:=by
 have ad:=al.size;simp at ad;omega
def cb.snoc{w:ag}{B:aa}{e:dC}{v:ak}{xs:List α}{x:α}(h:w.ownsRow B e k v (xs.length+1) (xs.flatMap f++f x)):cb w B e f k v (xs++[x]):=by
 unfold cb;rw[fk,Ka];simpa using h
def cb.lk{w w':ag}{B:aa}{e:dC}{v:ak}{xs:List α}(h:cb w B e f k v xs)(ai:Kept w w'):cb w' B e f k v xs:=by
 refine⟨h.1,?_⟩;rcases h.2 with aH|⟨g,cap,cur,aK,af,al,r⟩
 .exact .inl aH
 .exact .inr ⟨g,cap,cur,aK,af,(ai.block g (nW.1 al).1).trans al,r⟩
def pf{w:ag}{t:dC}{l:dN}:∀j u,l[j]?=some u->(w.alloc (.cells l.toArray t)).cell? (((w,0):Addr).add j)=some u:=by
 intro j u ay;have e:(⟨w.heap.size,0,none⟩:Addr).add j=⟨w.heap.size,j,none⟩:=by
  unfold Addr.add;by_cases ar:j=0
  .subst ar;rfl
  .rw[aw ar];simp
 rw[e,aqW _ _ _ _ rfl];simpa using ay
end
structure o5(w w':ag)(v v':ak):Prop where
 nj:w.grownBy w' v.ownBlock
 own:∀b,v'.ownBlock=some b->v.ownBlock=some b\/w.heap.size<=b
def o5.refl(w:ag)(v:ak):o5 w w v v:=⟨⟨rfl,rfl,rfl,bB _,λ_ _ _=>rfl⟩,λ_ h=> .inl h⟩
def o5.trans{a b c:ag}{u v x:ak}(h:o5 a b u v)(k:o5 b c v x):o5 a c u x:=by
 refine⟨⟨k.nj.os.trans h.nj.os,k.nj.tape.trans h.nj.tape,k.nj.output.trans h.nj.output,fN h.nj.size k.nj.size,λq az aH=> ?_⟩,λq az=> ?_⟩
 .rw[k.nj.block q (bG az h.nj.size) (λe=> ?_),h.nj.block q az aH];rcases h.own q e.symm with ab|ab
  .exact aH ab.symm
  .omega
 .rcases k.own q az with ab|ab
  .exact h.own q ab
  .exact .inr (fN h.nj.size ab)
def o5.size{w w':ag}{v v':ak}(h:o5 w w' v v'):w<=w'.heap.size:=h.nj.size
def o5.kept{w w':ag}{v:ak}(h:Kept w w'):o5 w w' v v:=
 ⟨⟨h.os,h.tape,h.output,h.size,λb af _=>h.block b af⟩,λ_ e=> .inl e⟩
def o5.eH{w w':ag}{v v':ak}{g:aa}{t:dC}{cs:ho}(h:o5 w w' v v')(af:aB w g t cs)(aH:some g≠v.ownBlock):aB w' g t cs:=
 (h.nj.block g af.lt aH).trans af
def o5.cell{w w':ag}{v v':ak}{b o:aa}{u:ak}(h:o5 w w' v v')(af:b<w)(aH:some b≠v.ownBlock)(aq:aU w (b,o)=some u):aU w' (b,o)=some u:=by
 rw[Db (a:=⟨b,o,none⟩) (h.nj.block b af aH)];exact aq
def o5.below{w0 w w':ag}{v v':ak}(h:o5 w w' v v')(ai:Kept w0 w)(aK:∀b,v.ownBlock=some b->w0.heap.size<=b):Kept w0 w':=by
 refine⟨h.nj.os.trans ai.os,h.nj.tape.trans ai.tape,h.nj.output.trans ai.output,fN ai.size h.nj.size,λb af=> ?_⟩;rw[h.nj.block b (bG af ai.size) (λe=>by have:=aK b e.symm;omega)];exact ai.block b af
section
variable {α:Type} {f:α->List ak} {k:aa} {w:ag} {B:aa} {e:dC}
def cb.owned{v:ak}{xs:List α}(h:cb w B e f k v xs){b:aa}(af:v.ownBlock=some b):B<=b/\b<w:=by
 rcases h.2 with⟨rfl,_⟩|⟨g,cap,cur,rfl,bc,al,_⟩
 .cases af
 .obtain rfl:g=b:=cJ af;exact⟨bc,(nW.1 al).1⟩
def cb.form{v:ak}{xs:List α}(h:cb w B e f k v xs):∃A cap,v=ae A xs cap/\xs.length<=cap/\cap<=maxLen:=by
 rcases h.2 with⟨rfl,aH⟩|⟨g,cap,cur,rfl,_,_,ab,ad,_⟩
 .exact⟨none,0,by rw[aH],by omega,by unfold maxLen;omega⟩
 .exact⟨_,cap,rfl,ab,ad⟩
def cb.take{A:gu}{n cap:aa}{xs:List α}(bV:∀x,(f x).length=k)(h:cb w B e f k (ae A n cap) xs){m:aa}(hm:m<=n):cb w B e f k (ae A m cap) (xs.take m):=by
 have hlen:xs.length=n:=by
  obtain⟨_,_,aK,_⟩:=h.form;simp only[i_]at aK;exact aK.2.1.symm
 have v8:∀l:List α,(l.flatMap f).length=l.length*k:=by
  intro l;induction l with
  |nil=>simp
  |cons a t bO=>rw[zC,fk,bV,bO,hi,Hn];omega
 have aN:(xs.take m).length=m:=by rw[gT];omega
 refine⟨by rw[v8,aN],?_⟩;rw[aN];rcases h.2 with⟨aK,aH⟩|⟨g,rj,cur,aK,bc,al,ab,ad,ao,aR⟩
 .simp only[i_]at aK;obtain⟨rfl,rfl,rfl⟩:=aK;exact .inl ⟨by rw[show m=0 by omega],by omega⟩
 .simp only[i_]at aK;obtain⟨rfl,aH,rfl⟩:=aK;refine .inr ⟨g,cap,cur,rfl,bc,al,by omega,ad,ao,?_⟩;have hle:m*k<=xs.length*k:=ZS k (by omega);have aQ:cur.toList.take (m*k)=(xs.flatMap f).take (m*k):=by
   rw[<-aR,Tu,x5 hle]
  rw[aQ];conv=>lhs;rw[<-Th m xs,Ka]
  rw[List.take_append_of_le_length (by rw[v8,aN];exact bB _),mH (by rw[v8,aN];exact bB _)]
def cb.kZ{v:ak}{xs cA:List α}{g o:aa}{u:ak}(h:cb w B e f k v xs)(aK:v.ownBlock=some g)(av:cA.length=xs.length)(AH:cA.flatMap f=(xs.flatMap f).set o u):cb (w.setCell (g,o) u) B e f k v cA:=by
 refine⟨by rw[AH,gJ,av];exact h.1,?_⟩;rw[av];rcases h.2 with⟨rfl,_⟩|⟨ju,cap,cur,rfl,bc,al,ab,ad,ao,aR⟩
 .cases aK
 .obtain rfl:ju=g:=cJ aK;refine .inr ⟨ju,cap,cur.setIfInBounds o u,rfl,bc,?_,ab,ad,by rw[Tf];exact ao,?_⟩
  .simp[World.setCell,ZM,al]
  .rw[Array.toList_setIfInBounds,List.take_set,aR,AH]
def o5.setCell{w w':ag}{v v':ak}{g o:aa}{u:ak}(h:o5 w w' v v')(al:v'.ownBlock=some g):o5 w (w'.setCell (g,o) u) v v':=by
 refine⟨⟨h.nj.os,h.nj.tape,h.nj.output,by simpa using h.nj.size,λb af aH=> ?_⟩,h.own⟩;rw[<-h.nj.block b af aH];refine jQ w' _ u b (λe=> ?_);simp only at e;subst e;rcases h.own b al with ab|ab
 .exact aH ab.symm
 .omega
end
structure cw where
 o:J
 n:J
def Ex(x:cw):dN:=[ah x.o,x.n]
abbrev DC(w:ag)(v:ak)(xs:List cw):Prop:=hP w Ex 2 v xs
def eP(op:J):J:=
 if (1<=op/\op<=9)\/(35<=op/\op<=39)then 0
 else if op=10\/op=25\/op=31\/op=32\/op=33\/op=34 then 1
 else if op=26 then 3
 else if 11<=op/\op<=30 then 2 else -1
def DK(op:J): -1<=eP op/\eP op<=3:=by
 unfold eP;split
 .decide
 .split
  .decide
  .split
   .decide
   .split<;>decide
def mv(i:aa)(a:aa)(b0:List aa):aa:=if a=0 then i else b0[b0.length-a]?.getD 0
def lp:List cw->aa->List aa->List aa->List aa×aa×J
 |[],i,b0,ed=>if 1<b0.length then ([],i,4)else (ed,0,0)
 |x::r,i,b0,ed=>
  if eP x.o<0 then ([],i,2)
  else if (b0:J)<eP x.o then ([],i,5)
  else if 12<(b0.take (b0.length-(eP x.o).toNat)++[mv i (eP x.o).toNat b0]).length then ([],i,16)
  else lp r (i+1) (b0.take (b0.length-(eP x.o).toNat)++[mv i (eP x.o).toNat b0]) (ed++[mv i (eP x.o).toNat b0])
def c'(e:List cw):List aa×aa×J:=
 if 48<e.length then ([],0,4)else if e.length=0 then ([],0,5)else lp e 0 [] []
def ti(ed:List aa):aa->J->List J->List J
 |0,_,acc=>acc
 |n+1,k,acc=>ti ed n (((ed[k.toNat]?.getD 0:aa):J)-1) (k::acc)
section
open Go.Lib (decDigits itoa)
def AJ(c:UInt8):Bool:=decide (48<=c.toNat)&&decide (c.toNat<=57)
def aiW(c:UInt8):Nat:=c.toNat-48
def val:List UInt8->Nat->Nat
 |[],acc=>acc
 |c::r,acc=>val r (10*acc+aiW c)
end
def L(s:ez):List UInt8:=s.data.toList
def tP(l:List UInt8):ez:=⟨l.toArray⟩
@[simp] theorem agz(l:List UInt8):L (tP l)=l:=rfl
@[simp] theorem aaZ(s:ez):tP (L s)=s:=by cases s;rfl
@[simp] theorem arc(l:List UInt8):L ⟨l.toArray⟩=l:=rfl
@[simp] theorem DB(s:ez):(L s).length=s.size:=rfl
@[simp] theorem aro(l:List UInt8):(tP l).size=l.length:=by rw[<-DB,agz]
def agA{a b:ez}:L a=L b↔a=b:=⟨λh=>by rw[<-aaZ a,<-aaZ b,h],λh=>by rw[h]⟩
def G_(s:ez):s.toList=L s:=ByteArray.toList_eq s
def aax(s:ez)(i:aa)(h:i<s.size):(L s)[i]?=some s[i]:=by
 show s.data.toList[i]?=_;rw[Ba,J9 h];rfl
def aaw(s:ez)(i:aa)(h:i<s.size):(L s).drop i=s[i]::(L s).drop (i+1):=by
 have av:i<(L s).length:=by simpa using h
 rw[jA av];have:=aax s i h;rw[bn av]at this;rw[cJ this]
def Es(e:J)(ms:List gh):gh:=ms[e.toNat]?.getD []
def lr(k e:J)(ms:List gh):Bool:=
 if k=6 then decide (0<=e)&&decide (e<ms.length)else decide (1<=k)&&(decide (k<=5)&&decide (e=0))
def P0(k e:J)(ms:List gh):J×J:=
 if k=1 then (0,1)else if k=2 then (-1000000000000,1000000000000)else if k=3 then (-1000000000000000,1000000000000000)
 else if k=4 then (-1000000000,1000000000)else if k=5 then (0,109572)else (0,(Es e ms).length-1)
def pU(k e:J)(ms:List gh):J×J:=if lr k e ms then P0 k e ms else (0,-1)
def XZ(n k e:J)(ms:List gh):Bool:=decide ((pU k e ms).1<=n)&&decide (n<=(pU k e ms).2)
def ZF{e:J}{ms:List gh}:lr 6 e ms=(decide (0<=e)&&decide (e<ms.length)):=by rw[lr,aP rfl]
def ZE{k e:J}{ms:List gh}(h:k≠6):lr k e ms=(decide (1<=k)&&(decide (k<=5)&&decide (e=0))):=by rw[lr,aw h]
def aqD{k e:J}{ms:List gh}(h:lr k e ms=true):
  (e=0/\(k=1\/k=2\/k=3\/k=4\/k=5))\/(k=6/\0<=e/\e<ms.length):=by
 by_cases eL:k=6
 .subst eL;rw[ZF]at h;simp only[nB,gg]at h;exact .inr ⟨rfl,h.1,h.2⟩
 .rw[ZE eL]at h;simp only[nB,gg]at h;exact .inl ⟨h.2.2,by omega⟩
structure bC where
 k:J
 e:J
 n:J
def EW(x:bC):dN:=[ah x.k,x.e,x.n]
def Om(x:bC):(EW x).length=3:=rfl
abbrev ft(w:ag)(v:ak)(xs:List bC):Prop:=hP w EW 3 v xs
structure dh where
 k:J
 e:J
structure sP where
 m:J
 ins:List dh
def DP(ms:List gh):aa->List dh->List bC->aa×J
 |i,t::bA,v::bY=>if v.k=t.k/\v.e=t.e then (if XZ v.n t.k t.e ms then DP ms (i+1) bA bY else (i,3))else (i,8)
 |_,_,_=>(0,0)
def lZ(ms:List gh)(bA:List dh)(bY:List bC):aa×J:=
 if bY.length<bA.length then (bY.length,5)else if bA.length<bY.length then (bA.length,4)else DP ms 0 bA bY
def rG(c2:List sP)(s:sP):List dh×aa:=if s.m<0\/(c2:J)<=s.m then ([],0)else ((c2[s.m.toNat]?.getD ⟨0,[]⟩).ins,8)
def yP(ms:List gh)(bA:List dh):aa->List (List bC)->J×J×J
 |_,[]=>(0,0,0)
 |m,bY::r=>if (lZ ms bA bY).2=0 then yP ms bA (m+1) r else (m,(lZ ms bA bY).1,(lZ ms bA bY).2)
def qW(ms:List gh)(c2:List sP)(sc d:J)(ins:List bC)(mem:List (List bC)):J×J×J:=
 if sc<0\/(c2:J)<=sc then (-1,-1,6)
 else if d<0\/109572<d then (-1,-1,3)
 else
  let s:=c2[sc.toNat]?.getD ⟨0,[]⟩
  if (lZ ms s.ins ins).2=0 then
   (if (rG c2 s).2<mem.length then ((rG c2 s).2,-1,4)else yP ms (rG c2 s).1 0 mem)
  else (-1,(lZ ms s.ins ins).1,(lZ ms s.ins ins).2)
end Go.Proofs.YtilhklpfkgbikaaGreatDoor
