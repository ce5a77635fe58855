import Derived.Test.YtobpgndkciofhaaGreatDoorC
import Derived.Test.YtobpgndkciofhaaGreatDoorH
import Derived.Maps.AppendAt
import Derived.ArgAppend
import Derived.Deep.DeepCutAuto
import Derived.Deep.CutBlock
import Derived.Lib.MinMax
set_option linter.all false
namespace Go.Proofs.YtobpgndkciofhaaGreatDoor
open Go.RowKit Go.Proofs.Tryz
open Go.Lib (hid)
set_option maxRecDepth 100000
set_option maxHeartbeats 8000000
section
open Go.RowKit Go.Sort Go.Lib
def fl (cP:List Int):List Int:=Lib.compact (cP.mergeSort fun x y=>decide (x≤y))
theorem adR (d:Array Int) (ax:∀j k,j≤k→k<d.size→d[j]!≤d[k]!):∀m,m≤d.size→(∀x,x∈compactUpTo d m↔∃j,j<m∧d[j]! =x)∧(compactUpTo d m).Pairwise (·<·):=by
 intro m;induction m with
 |zero=>intro _;exact⟨fun x=>⟨fun h=>by simp[compactUpTo]at h,fun⟨j,h,_⟩=>by omega⟩,by simp[compactUpTo]⟩
 |succ m bH=>
  intro hm;obtain⟨I,U⟩:=bH (by omega);rw[compactUpTo_succ]
  cases aa:keeps d m
  ·rw[if_neg (by simp),List.append_nil];refine⟨fun x=>(I x).trans ⟨fun⟨j,aB,e⟩=>⟨j,by omega,e⟩,fun⟨j,aB,e⟩=> ?_⟩,U⟩;rcases Nat.lt_or_ge j m with aD|ln
   ·exact⟨j,aD,e⟩
   ·obtain rfl:j=m:=by omega
    unfold keeps at aa;rw[decide_eq_false_iff_not,not_or,Decidable.not_not]at aa;exact⟨j-1,by omega,aa.2.symm.trans e⟩
  ·rw[if_pos rfl];unfold keeps at aa;rw[decide_eq_true_eq]at aa;refine⟨fun x=> ?_,?_⟩
   ·rw[List.mem_append,List.mem_singleton,I];constructor
    ·rintro (⟨j,aB,e⟩|e)
     ·exact⟨j,by omega,e⟩
     ·exact⟨m,by omega,e.symm⟩
    ·rintro⟨j,aB,e⟩;rcases Nat.lt_or_ge j m with aD|ln
     ·exact .inl ⟨j,aD,e⟩
     ·obtain rfl:j=m:=by omega
      exact .inr e.symm
   ·rw[List.pairwise_append];refine⟨U,List.pairwise_singleton _ _,fun a aZ b J=> ?_⟩;rw[List.mem_singleton]at J;obtain⟨j,aB,rfl⟩:=(I a).1 aZ;rw[J];have ae:=ax j (m-1) (by omega) (by omega);have aJ:=ax (m-1) m (by omega) (by omega);have bp:d[m]!≠d[m-1]!:=by rcases aa with aa|aa;omega;exact aa
    omega
theorem ai4 (cP:List Int):∀j k,j≤k→k<(cP.mergeSort fun x y=>decide (x≤y)).toArray.size→(cP.mergeSort fun x y=>decide (x≤y)).toArray[j]!≤(cP.mergeSort fun x y=>decide (x≤y)).toArray[k]!:=by
 intro j k Em aa;have hp:(cP.mergeSort fun x y=>decide (x≤y)).Pairwise (fun a b=>decide (a≤b)=true):=List.pairwise_mergeSort (fun a b c=>by simp only[decide_eq_true_eq];omega) (fun a b=>by simp only[Bool.or_eq_true,decide_eq_true_eq];omega) cP;rcases Nat.lt_or_ge j k with h|h
 ·rw[List.size_toArray]at aa;have:=List.pairwise_iff_getElem.1 hp j k (by omega) aa h;rw[decide_eq_true_eq]at this;simpa[List.getElem!_toArray,a8 aa,a8 (Nat.lt_trans h aa)] using this
 ·obtain rfl:j=k:=by omega
  exact Int.le_refl _
theorem R6 (cP:List Int):(∀x,x∈fl cP↔x∈cP)∧(fl cP).Pairwise (·<·):=by
 obtain⟨I,U⟩:=adR _ (ai4 cP) _ (Nat.le_refl _);have e:fl cP=compactUpTo (cP.mergeSort fun x y=>decide (x≤y)).toArray (cP.mergeSort fun x y=>decide (x≤y)).toArray.size:=by
  unfold fl Lib.compact;rw[List.size_toArray]
 rw[e];refine⟨fun x=>(I x).trans ?_,U⟩;rw[←List.mem_mergeSort (le:=fun x y=>decide (x≤y)) (a:=x),List.mem_iff_getElem?];constructor
 ·rintro⟨j,aB,rfl⟩;rw[List.size_toArray]at aB;exact⟨j,by simp[a8 aB]⟩
 ·rintro⟨j,aB⟩;have aq:=(b8 aB).1;exact⟨j,by rw[List.size_toArray];exact aq,by simp[aB]⟩
theorem E4 {cP:List Int} {x:Int}:x∈fl cP↔x∈cP:=(R6 cP).1 x
theorem yQ (cP:List Int):(fl cP).length≤cP.length:=by
 unfold fl Lib.compact compactUpTo;rw[List.length_map];have h:=List.length_filter_le (keeps (cP.mergeSort fun x y=>decide (x≤y)).toArray) (List.range (cP.mergeSort fun x y=>decide (x≤y)).length);rw[List.length_range]at h;exact Nat.le_trans h (by rw[List.length_mergeSort];exact Nat.le_refl _)
theorem LW {w:World} {g:Nat} {cur:Array Value} {e:TypeId} {Fk:List Int} (J:w.heap[g]?=some (.cells cur e (0,0))) (bS:cur.toList.take Fk.length=Fk.map (Value.int .i64)):Holds (Value.int .i64) w g 0 Fk.toArray:=by
 intro j aB;have sQ:j<Fk.length:=by simpa using aB
 refine⟨?_,by simp[World.frozen?,J]⟩;have I:(cur.toList.take Fk.length)[j]?=(Fk.map (Value.int .i64))[j]?:=by rw[bS]
 rw[List.getElem?_take_of_lt sQ]at I;simp only[World.cell?,J,Nat.zero_add];simp only[Option.isSome_none,Bool.false_eq_true,if_false];rw[←Array.getElem?_toList,I];simp[sQ]
theorem LX {w:World} {g n:Nat} {os:Array Obj} {cur:Array Value} {e:TypeId} (d:Array Int) (J:w.heap[g]?=some (.cells cur e (0,0))):
  (grow (putRow (Value.int .i64) (Sort.ahead w n) g 0 d) os).heap[g]?=some (.cells (putCells (Value.int .i64) 0 d cur) e (0,0)):=by
 have ai:g<w.heap.size:=(Array.getElem?_eq_some_iff.1 J).1;rw[heap_grow_old _ _ (by simpa using ai)];simp[putRow,mapBlock,Sort.ahead,Array.getElem?_modify,J,onCells]
theorem Z3 {w:World} {g n:Nat} {os:Array Obj} (d:Array Int):w.grownBy (grow (putRow (Value.int .i64) (Sort.ahead w n) g 0 d) os) (some g):=by
 refine⟨rfl,rfl,rfl,by simp,fun k aa bQ=> ?_⟩;rw[heap_grow_old _ _ (by simpa using aa)];have:g≠k:=fun e=>bQ (by rw[e]);simp[putRow,mapBlock,Sort.ahead,Array.getElem?_modify,this]
theorem R_ (cur:Array Value) (ba:List Int) (h:ba.length≤cur.size):(putCells (Value.int .i64) 0 ba.toArray cur).toList.take ba.length=ba.map (Value.int .i64):=by
 apply List.ext_getElem?;intro j;by_cases aB:j<ba.length
 ·rw[List.getElem?_take_of_lt aB,Array.getElem?_toList];simp[putCells,aB,show j<cur.size by omega]
 ·rw[List.getElem?_take_eq_none (by omega),List.getElem?_eq_none (by simp;omega)]
theorem aeE {a b c:World} {r:Option Nat} (h:a.grownBy b r) (k:b.grownBy c r):a.grownBy c r:=
 ⟨k.os.trans h.os,k.tape.trans h.tape,k.output.trans h.output,Nat.le_trans h.size k.size,fun i aE aH=>(k.block i (bd aE h.size) aH).trans (h.block i aE aH)⟩
def Fi (v:Value) (B:Nat) (cP:List Int) (w:World) (e:Ending) (w':World):Prop:=
 ∃u,e= .returned u∧w'.ownsRow B 3 1 u (fl cP).length ((fl cP).map (Value.int .i64))∧u.ownBlock=v.ownBlock∧w.grownBy w' v.ownBlock
theorem aaD {w w1 w2:World} {B g cap n q:Nat} {os:Array Obj} {cur:Array Value} {cP:List Int} (aU:B≤g) (J:w.heap[g]?=some (.cells cur 3 (0,0))) (I:cP.length≤cap) (U:cap≤Go.maxLen) (ae:cur.size=cap)
  (az:w1=grow (putRow (Value.int .i64) (Sort.ahead w n) g 0 (cP.mergeSort fun x y=>decide (x≤y)).toArray) os)
  (a6:w2=putRow (Value.int .i64) (Sort.ahead w1 q) g 0 (fl cP++List.replicate ((cP.mergeSort fun x y=>decide (x≤y)).length-(fl cP).length) 0).toArray):
  Fi (.slice (some ⟨g,0,none⟩) cP.length cap) B cP w (.returned (.slice (some ⟨g,0,none⟩) (fl cP).length cap)) w2:=by
 have bY:=LX (n:=n) (os:=os) (cP.mergeSort fun x y=>decide (x≤y)).toArray J;rw[←az]at bY;have bc:=LX (n:=q) (os:=#[]) (fl cP++List.replicate ((cP.mergeSort fun x y=>decide (x≤y)).length-(fl cP).length) 0).toArray bY;rw[grow_empty,←a6]at bc;have aq:=yQ cP;have ck:(cP.mergeSort fun x y=>decide (x≤y)).length=cP.length:=List.length_mergeSort _;refine⟨_,rfl,⟨by simp,.inr ⟨g,cap,_,rfl,aU,bc,by omega,U,by simp[putCells,ae],?_⟩⟩,rfl,?_⟩
 ·have aJ:=R_ (putCells (Value.int .i64) 0 (cP.mergeSort fun x y=>decide (x≤y)).toArray cur) (fl cP++List.replicate ((cP.mergeSort fun x y=>decide (x≤y)).length-(fl cP).length) 0) (by simp[putCells,ae,ck];omega);have bp:=congrArg (List.take (fl cP).length) aJ;rw[List.take_take,Nat.min_eq_left (by simp),←List.map_take,List.take_left]at bp;rw[Nat.mul_one];exact bp
 ·rw[a6,az];have a':=Z3 (w:=w1) (g:=g) (n:=q) (os:=#[]) (fl cP++List.replicate ((cP.mergeSort fun x y=>decide (x≤y)).length-(fl cP).length) 0).toArray;rw[grow_empty,az]at a';exact aeE (Z3 _) a'
theorem aea (v:Value) (B:Nat) (cP:List Int) (w:World) (h:w.ownsRow B 3 1 v cP.length (cP.map (Value.int .i64))) (HE:cP.length<4611686018427387904):Calls prog 69 #[v] w (Fi v B cP w):=by
 rcases h.2 with⟨rfl,ck⟩|⟨g,cap,cur,rfl,aU,J,I,U,ae,aJ⟩
 ·obtain rfl:cP=[]:=List.length_eq_zero_iff.1 ck;have cD:=hid (fun w=>Tryz.slices_Sort_int_none none 0 w);have bI:=hid (fun w=>Tryz.slices_Compact_int_empty none 0 w);have aA:fl []=[]:=List.length_eq_zero_iff.1 (Nat.le_zero.1 (yQ []));have aV:Hid (Fi aR B [] w (.returned aR) w):=hid ⟨_,rfl,⟨by rw[aA];rfl,.inl ⟨rfl,by rw[aA];rfl⟩⟩,rfl,⟨rfl,rfl,rfl,Nat.le_refl _,fun _ _ _=>rfl⟩⟩;clear h ck aA;go_enter func69,ntmps69
  go_wp2_with (first|(go_at_call 70;refine (cD.out _).mono ?_;rintro e w' ⟨rfl,rfl⟩)|(go_at_call 71;refine (bI.out _).mono ?_;rintro e w' ⟨rfl,rfl⟩))
  go_ret;exact aV.out
 ·rw[Nat.mul_one]at ae aJ;have ai:g<w.heap.size:=(Array.getElem?_eq_some_iff.1 J).1;have hm:Go.maxLen≤9223372036854775807:=by unfold Go.maxLen;omega
  have cD:=hid (Tryz.slices_Sort_int g 0 cap cP w (LW J aJ) ai HE);obtain⟨ba,ys⟩:∃ba,ba=cP.mergeSort fun x y=>decide (x≤y):=⟨_,rfl⟩;have aq:ba.length=cP.length:=by rw[ys];exact List.length_mergeSort _
  have eB:=hid (fun (n:Nat) (os:Array Obj) (w1:World) (az:w1=grow (putRow (Value.int .i64) (Sort.ahead w n) g 0 ba.toArray) os)=>(by
   have bY:=LX (n:=n) (os:=os) ba.toArray J;rw[←az]at bY;exact Tryz.slices_Compact_int g 0 cap ba w1 (LW bY (R_ cur ba (by omega))) (by omega) (by omega):Calls prog 71 #[.slice (some ⟨g,0,none⟩) ba.length cap] w1 _))
  have aV:=hid (fun (n q:Nat) (os:Array Obj) (w1 w2:World)=>aaD (w:=w) (w1:=w1) (w2:=w2) (n:=n) (q:=q) (os:=os) aU J I U ae);unfold fl at aV;rw[←ys]at cD aV;rw[←aq]at cD aV⊢;clear ys h J aJ aq I U ae HE hm;go_enter func69,ntmps69
  go_upto_region 2 with (go_at_call 70;refine cD.out.mono ?_;rintro e w1 ⟨rfl,n,os,az⟩;replace az:=hid az)
  have bI:=hid (eB.out n os w1 az.out);have dO:=hid (fun q w2=>aV.out n q os w1 w2 az.out);clear eB aV az;go_wp2_with (go_at_call 71;refine bI.out.mono ?_;rintro e w2 ⟨rfl,q,a6⟩;replace a6:=hid a6)
  have bn:=hid (dO.out q w2 a6.out);clear a6;go_ret;exact bn.out
theorem aaK (v:Value) (B:Nat) (cP:List Int) (w:World) (h:w.ownsRow B 3 1 v cP.length (cP.map (Value.int .i64))) (HE:cP.length<4611686018427387904):Calls prog 54 #[v] w (Fi v B cP w):=by
 rcases h.2 with⟨rfl,ck⟩|⟨g,cap,cur,rfl,aU,J,I,U,ae,aJ⟩
 ·obtain rfl:cP=[]:=List.length_eq_zero_iff.1 ck;have cD:=hid (fun w=>Tryz.slices_Sort_int_none none 0 w);have bI:=hid (fun w=>Tryz.slices_Compact_int_empty none 0 w);have aA:fl []=[]:=List.length_eq_zero_iff.1 (Nat.le_zero.1 (yQ []));have aV:Hid (Fi aR B [] w (.returned aR) w):=hid ⟨_,rfl,⟨by rw[aA];rfl,.inl ⟨rfl,by rw[aA];rfl⟩⟩,rfl,⟨rfl,rfl,rfl,Nat.le_refl _,fun _ _ _=>rfl⟩⟩;clear h ck aA;go_enter func54,ntmps54
  go_wp2_with (first|(go_at_call 70;refine (cD.out _).mono ?_;rintro e w' ⟨rfl,rfl⟩)|(go_at_call 71;refine (bI.out _).mono ?_;rintro e w' ⟨rfl,rfl⟩))
  go_ret;exact aV.out
 ·rw[Nat.mul_one]at ae aJ;have ai:g<w.heap.size:=(Array.getElem?_eq_some_iff.1 J).1;have hm:Go.maxLen≤9223372036854775807:=by unfold Go.maxLen;omega
  have cD:=hid (Tryz.slices_Sort_int g 0 cap cP w (LW J aJ) ai HE);obtain⟨ba,ys⟩:∃ba,ba=cP.mergeSort fun x y=>decide (x≤y):=⟨_,rfl⟩;have aq:ba.length=cP.length:=by rw[ys];exact List.length_mergeSort _
  have eB:=hid (fun (n:Nat) (os:Array Obj) (w1:World) (az:w1=grow (putRow (Value.int .i64) (Sort.ahead w n) g 0 ba.toArray) os)=>(by
   have bY:=LX (n:=n) (os:=os) ba.toArray J;rw[←az]at bY;exact Tryz.slices_Compact_int g 0 cap ba w1 (LW bY (R_ cur ba (by omega))) (by omega) (by omega):Calls prog 71 #[.slice (some ⟨g,0,none⟩) ba.length cap] w1 _))
  have aV:=hid (fun (n q:Nat) (os:Array Obj) (w1 w2:World)=>aaD (w:=w) (w1:=w1) (w2:=w2) (n:=n) (q:=q) (os:=os) aU J I U ae);unfold fl at aV;rw[←ys]at cD aV;rw[←aq]at cD aV⊢;clear ys h J aJ aq I U ae HE hm;go_enter func54,ntmps54
  go_upto_region 2 with (go_at_call 70;refine cD.out.mono ?_;rintro e w1 ⟨rfl,n,os,az⟩;replace az:=hid az)
  have bI:=hid (eB.out n os w1 az.out);have dO:=hid (fun q w2=>aV.out n q os w1 w2 az.out);clear eB aV az;go_wp2_with (go_at_call 71;refine bI.out.mono ?_;rintro e w2 ⟨rfl,q,a6⟩;replace a6:=hid a6)
  have bn:=hid (dO.out q w2 a6.out);clear a6;go_ret;exact bn.out
end
abbrev cn (w:World) (B:Nat) (v:Value) (l:List Int):Prop:=w.ownsRow B 3 1 v l.length (l.map (Value.int .i64))
def QU (n:Int):List Value:=[.int .i64 n]
theorem af6 (n:Int):(QU n).length=1:=rfl
theorem af7 (l:List Int):l.flatMap QU=l.map (Value.int .i64):=by
 induction l with
 |nil=>rfl
 |cons a r bH=>rw[List.flatMap_cons,bH];rfl
abbrev fC (w:World) (v:Value) (l:List Int):Prop:=gV w QU 1 v l
theorem cn.reads {w:World} {B:Nat} {v:Value} {l:List Int} (h:cn w B v l):fC w v l:=
 c3.yL af6 (B:=B) (e:=3) (by unfold c3;rw[af7];exact h)
def h8 (a b:Value):Prop:=∀g,a.ownBlock=some g→b.ownBlock≠some g
theorem h8.symm {a b:Value} (h:h8 a b):h8 b a:=fun g J aZ=>h g aZ J
theorem cn.other {w w':World} {B:Nat} {u v:Value} {l:List Int} (h:cn w B u l) (ai:w.grownBy w' v.ownBlock) (ap:h8 v u):cn w' B u l:=by
 refine World.ownsRow.kept h ai ?_
 cases hu:u.ownBlock with
 |none=>exact .inl rfl
 |some g=>exact .inr fun e=>ap g e.symm hu
theorem h8.grown {W:World} {B:Nat} {u v v':Value} {l:List Int} (ay:v'.ownBlock=v.ownBlock∨v'.ownBlock=some W.heap.size) (hu:cn W B u l) (ap:h8 v u):h8 v' u:=by
 intro g I U;rcases ay with h|h
 ·exact ap g (h.symm.trans I) U
 ·rw[h]at I;have:=(World.ownsRow.lt hu g U).2;have:=Option.some.inj I;omega
theorem kg {dI wr w1:World} {B:Nat} {v:Value} {l:List Int} (ab:Kept dI wr) (cR:cn wr B v l) (aU:dI.heap.size≤B) (ai:wr.grownBy w1 v.ownBlock):Kept dI w1:=by
 refine⟨ai.os.trans ab.os,ai.tape.trans ab.tape,ai.output.trans ab.output,Nat.le_trans ab.size ai.size,fun b J=> ?_⟩;rw[ai.block b (bd J ab.size) (fun e=>by have:=(World.ownsRow.lt cR b e.symm).1;omega)];exact ab.block b J
def yM (xs:List cz):List Int:=(xs.filter fun x=>decide (x.o=7)).map (·.n)
def i' (xs:List cz):List Int:=(xs.filter fun x=>decide (x.o=8)).map (·.n)
def kl (xs:List cz):List Int:=(xs.filter fun x=>decide (36≤x.o∧x.o≤39)).map (·.n)
theorem O_ {xs:List cz} {i:Nat} {x:cz} (h:xs[i]?=some x) (p:cz→Bool):((xs.take (i+1)).filter p).map (·.n)=((xs.take i).filter p).map (·.n)++(if p x then [x.n]else []):=by
 rw[List.take_add_one,h,Option.toList_some,List.filter_append,List.map_append];congr 1
 cases hp:p x<;>simp[hp]
theorem D2 (xs:List cz) (p:cz→Bool) (i:Nat):(((xs.take i).filter p).map (·.n)).length≤i:=by
 rw[List.length_map];exact Nat.le_trans (List.length_filter_le _ _) (by rw[List.length_take];omega)
def aah (xs:List cz) (w:World) (e:Ending) (w':World):Prop:=
 ∃u1 u2 u3,e= .returned (.tuple #[u1,u2,u3])∧fC w' u1 (fl (yM xs))∧fC w' u2 (fl (i' xs))∧cn w' w.heap.size u3 (fl (kl xs))∧Kept w w'
theorem nz (n:Int):∀u∈[Value.int .i64 n],u.oneCell'=true:=by
 intro u h;rw[List.mem_singleton]at h;subst h;rfl
structure nc (w:World) (B:Nat) (a b c:Value) (a7 bx dz:List Int):Prop where
 jv:cn w B a a7
 k4:cn w B b bx
 mM:cn w B c dz
 rv:h8 a b
 ac:h8 a c
 ku:h8 b c
theorem nc.alloc {w:World} {B:Nat} {a b c:Value} {a7 bx dz:List Int} (h:nc w B a b c a7 bx dz) (o:Obj):nc (w.alloc o) B a b c a7 bx dz:=⟨World.ownsRow.alloc h.jv o,World.ownsRow.alloc h.k4 o,World.ownsRow.alloc h.mM o,h.rv,h.ac,h.ku⟩
theorem r9 {w:World} {B:Nat} {v:Value} {l:List Int} {n:Int} (h:w.ownsRow B 3 1 v (l.length+1) (l.map (Value.int .i64)++[.int .i64 n])):cn w B v (l++[n]):=by
 unfold cn;rw[List.length_append,List.map_append];exact h
theorem nc.cE {w w':World} {B:Nat} {a b c v':Value} {a7 bx dz:List Int} {n:Int} (h:nc w B a b c a7 bx dz) (aL:w'.ownsRow B 3 1 v' (a7.length+1) (a7.map (Value.int .i64)++[.int .i64 n])) (ai:w.grownBy w' a.ownBlock) (ay:v'.ownBlock=a.ownBlock∨v'.ownBlock=some w.heap.size):
  nc w' B v' b c (a7++[n]) bx dz:=⟨r9 aL,h.k4.other ai h.rv,h.mM.other ai h.ac,h8.grown ay h.k4 h.rv,h8.grown ay h.mM h.ac,h.ku⟩
theorem nc.swap {w:World} {B:Nat} {a b c:Value} {a7 bx dz:List Int} (h:nc w B a b c a7 bx dz):nc w B b a c bx a7 dz:=⟨h.k4,h.jv,h.mM,h.rv.symm,h.ku,h.ac⟩
theorem nc.qZ {w:World} {B:Nat} {a b c:Value} {a7 bx dz:List Int} (h:nc w B a b c a7 bx dz):nc w B c a b dz a7 bx:=⟨h.mM,h.jv,h.k4,h.ac.symm,h.ku.symm,h.rv⟩
theorem nc.s1 {w w':World} {B:Nat} {a b c u:Value} {a7 bx dz m:List Int} (h:nc w B a b c a7 bx dz) (aL:cn w' B u m) (ay:u.ownBlock=a.ownBlock) (ai:w.grownBy w' a.ownBlock):nc w' B u b c m bx dz:=
 ⟨aL,h.k4.other ai h.rv,h.mM.other ai h.ac,h8.grown (.inl ay) h.k4 h.rv,h8.grown (.inl ay) h.mM h.ac,h.ku⟩
theorem h8.nil (v:Value):h8 aR v:=fun g h=>by cases h
theorem nc.nil (w:World) (B:Nat):nc w B aR aR aR [] [] []:=⟨World.ownsRow_nil _ _ _ _,World.ownsRow_nil _ _ _ _,World.ownsRow_nil _ _ _ _,h8.nil _,h8.nil _,h8.nil _⟩
theorem L_ (v:Value) (xs:List cz) (w:World) (bM:kt w v xs):Calls prog 53 #[v] w (aah xs w):=by
 obtain⟨bM,aq,-⟩:=bM;obtain⟨A,cap,rfl,aK⟩:=bM.at_;obtain⟨n,fj⟩:∃n,n=xs.length:=⟨_,rfl⟩;rw[←fj]at aK aq⊢;have bn:=hid fj;have cB:=hid (fun (v:Value) (cP:List Int) (w1:World) (h:cn w1 w.heap.size v cP) (ck:cP.length<4611686018427387904)=>aea v w.heap.size cP w1 h ck);unfold Fi at cB;clear fj bM;obtain⟨i0,aE,fy,cb,eu⟩:=info_parts Tryz.rX;go_enter func53,ntmps53
 go_wp2_with fail
 go_loopw [5,6,7,12] (fun a b c y wr=>∃i:Nat,y= .int .i64 i∧i≤n∧Kept w wr∧nc wr w.heap.size a b c (yM (xs.take i)) (i' (xs.take i)) (kl (xs.take i))) (fun _ _ _ y _=>n-(intOf y).toNat)
 case atStart=>exact⟨0,rfl,Nat.zero_le _,aQ _,nc.nil _ _⟩
 case round=>
  obtain⟨i,rfl,de,ab,ae⟩:=hrel;by_cases aD:i<n
  ·obtain⟨bY,jv,rfl,ea,fH⟩:=aK (by omega);have ai:xs[i]?=some (xs[i]'(by have:=bn.out;omega)):=a8 _;obtain⟨bZ,b3⟩:=fH i _ ai;generalize xs[i]'(by have:=bn.out;omega)=X at*;obtain⟨op,N⟩:=X;have gd:=ab.ad ea bZ;have hO:=ab.ad ea b3;have c6:(i:Int)<n:=by omega
   dsimp only at gd hO;have tG:=D2 xs (fun x=>decide (x.o=7)) i;have Dv:=D2 xs (fun x=>decide (x.o=8)) i;have Ga:=D2 xs (fun x=>decide (36≤x.o∧x.o≤39)) i;have nP:=O_ ai (fun x=>decide (x.o=7));have mw:=O_ ai (fun x=>decide (x.o=8));have oj:=O_ ai (fun x=>decide (36≤x.o∧x.o≤39));have aV:Hid (yM (xs.take (i+1))=yM (xs.take i)++(if op=7 then [N]else [])∧i' (xs.take (i+1))=i' (xs.take i)++(if op=8 then [N]else [])∧kl (xs.take (i+1))=kl (xs.take i)++(if 36≤op∧op≤39 then [N]else [])):=
    hid ⟨by simpa[yM] using nP,by simpa[i'] using mw,by simpa[kl] using oj⟩
   change (yM (xs.take i)).length≤i at tG;change (i' (xs.take i)).length≤i at Dv;change (kl (xs.take i)).length≤i at Ga;generalize yM (xs.take i)=a7 at*;generalize i' (xs.take i)=bx at*;generalize kl (xs.take i)=dz at*;clear fH aK ai bZ b3 nP mw oj;go_upto_region 5 with fail
   have rF:=ao.new wr 69 #[op,N];have eV:Kept w (wr.alloc (.cells #[op,N] 69)):=Kept.alloc ab _;have aJ:=nc.alloc ae (.cells #[op,N] 69);clear ae ab gd hO;generalize wr.alloc (.cells #[op,N] 69)=W at eV rF aJ⊢;generalize wr.heap.size=g at rF⊢;have d0:=rF.cell 0;have d1:=rF.cell 1;have dl:=rF.lt;simp only[List.getElem?_toArray,List.getElem?_cons_zero,List.getElem?_cons_succ]at d0 d1;have hWs:=eV.size;have hK:=hid aJ;have qm:=hid eV;clear rF aJ eV;rcases (show op=7∨op=8∨op=36∨op=37∨op=38∨op=39∨(op≠7∧op≠8∧¬(36≤op∧op≤39)) by omega)with rfl|rfl|hm|hm|hm|hm|⟨aO,aN,cK⟩
   ·go_wp2_with (at_builtin;refine wpList_append_own_at _ rfl (.tmp 20) (.tmp 23) 92 rfl w.heap.size 3 i0 () 1 8 underlying92 aE fy cb eu rfl (by decide) _ a7.length (a7.map (.int .i64)) rfl (World.ownsRow.alloc hK.out.jv _) ⟨W.heap.size,0,none⟩ 1 1 [.int .i64 N] rfl rfl (cell_one_new _ _ _) (nz N) (by unfold maxLen;omega) (by omega) (by simp;omega) ?_;intro v' cf hy cd _ eG;have dW:=hid (And.intro hy (And.intro cd eG));clear hy cd eG)
    obtain⟨I,U,bp⟩:=dW.out;go_roundw
    case rel=>exact⟨i+1,rfl,aD,kg (qm.out.alloc _) (World.ownsRow.alloc hK.out.jv _) (Nat.le_refl _) U,by rw[aV.out.1,aV.out.2.1,aV.out.2.2,if_pos rfl,if_neg (by omega),if_neg (by omega),List.append_nil,List.append_nil];exact (hK.out.alloc _).cE I U bp⟩
    case measure=>simp[intOf];omega
   ·go_wp2_with (at_builtin;refine wpList_append_own_at _ rfl (.tmp 27) (.tmp 30) 92 rfl w.heap.size 3 i0 () 1 8 underlying92 aE fy cb eu rfl (by decide) _ bx.length (bx.map (.int .i64)) rfl (World.ownsRow.alloc hK.out.k4 _) ⟨W.heap.size,0,none⟩ 1 1 [.int .i64 N] rfl rfl (cell_one_new _ _ _) (nz N) (by unfold maxLen;omega) (by omega) (by simp;omega) ?_;intro v' cf hy cd _ eG;have dW:=hid (And.intro hy (And.intro cd eG));clear hy cd eG)
    obtain⟨I,U,bp⟩:=dW.out;go_roundw
    case rel=>exact⟨i+1,rfl,aD,kg (qm.out.alloc _) (World.ownsRow.alloc hK.out.k4 _) (Nat.le_refl _) U,by rw[aV.out.1,aV.out.2.1,aV.out.2.2,if_neg (by omega),if_pos rfl,if_neg (by omega),List.append_nil,List.append_nil];exact ((hK.out.alloc _).swap.cE I U bp).swap⟩
    case measure=>simp[intOf];omega
   ·have sI:(op==7)=false:=by simp;omega
    have DZ:(op==8)=false:=by simp;omega
    have GN:(op==36)=true:=by simp;omega
    have cp:=hid hm;clear hm;go_wp2_with (at_builtin;refine wpList_append_own_at _ rfl (.tmp 37) (.tmp 40) 92 rfl w.heap.size 3 i0 () 1 8 underlying92 aE fy cb eu rfl (by decide) _ dz.length (dz.map (.int .i64)) rfl (World.ownsRow.alloc hK.out.mM _) ⟨W.heap.size,0,none⟩ 1 1 [.int .i64 N] rfl rfl (cell_one_new _ _ _) (nz N) (by unfold maxLen;omega) (by omega) (by simp;omega) ?_;intro v' cf hy cd _ eG;have dW:=hid (And.intro hy (And.intro cd eG));clear hy cd eG)
    obtain⟨I,U,bp⟩:=dW.out;go_roundw
    case rel=>exact⟨i+1,rfl,aD,kg (qm.out.alloc _) (World.ownsRow.alloc hK.out.mM _) (Nat.le_refl _) U,by rw[aV.out.1,aV.out.2.1,aV.out.2.2,if_neg (by have:=cp.out;omega),if_neg (by have:=cp.out;omega),if_pos (by have:=cp.out;omega),List.append_nil,List.append_nil];exact ((hK.out.alloc _).qZ.cE I U bp).qZ.qZ⟩
    case measure=>simp[intOf];omega
   ·have sI:(op==7)=false:=by simp;omega
    obtain⟨DZ,GN,Ki⟩:(op==8)=false∧(op==36)=false∧(op==37)=true:=by refine⟨?_,?_,?_⟩<;>(simp;omega)
    have cp:=hid hm;clear hm;go_wp2_with (at_builtin;refine wpList_append_own_at _ rfl (.tmp 37) (.tmp 40) 92 rfl w.heap.size 3 i0 () 1 8 underlying92 aE fy cb eu rfl (by decide) _ dz.length (dz.map (.int .i64)) rfl (World.ownsRow.alloc hK.out.mM _) ⟨W.heap.size,0,none⟩ 1 1 [.int .i64 N] rfl rfl (cell_one_new _ _ _) (nz N) (by unfold maxLen;omega) (by omega) (by simp;omega) ?_;intro v' cf hy cd _ eG;have dW:=hid (And.intro hy (And.intro cd eG));clear hy cd eG)
    obtain⟨I,U,bp⟩:=dW.out;go_roundw
    case rel=>exact⟨i+1,rfl,aD,kg (qm.out.alloc _) (World.ownsRow.alloc hK.out.mM _) (Nat.le_refl _) U,by rw[aV.out.1,aV.out.2.1,aV.out.2.2,if_neg (by have:=cp.out;omega),if_neg (by have:=cp.out;omega),if_pos (by have:=cp.out;omega),List.append_nil,List.append_nil];exact ((hK.out.alloc _).qZ.cE I U bp).qZ.qZ⟩
    case measure=>simp[intOf];omega
   ·have sI:(op==7)=false:=by simp;omega
    obtain⟨DZ,GN,Ki,OY⟩:(op==8)=false∧(op==36)=false∧(op==37)=false∧(op==38)=true:=by refine⟨?_,?_,?_,?_⟩<;>(simp;omega)
    have cp:=hid hm;clear hm;go_wp2_with (at_builtin;refine wpList_append_own_at _ rfl (.tmp 37) (.tmp 40) 92 rfl w.heap.size 3 i0 () 1 8 underlying92 aE fy cb eu rfl (by decide) _ dz.length (dz.map (.int .i64)) rfl (World.ownsRow.alloc hK.out.mM _) ⟨W.heap.size,0,none⟩ 1 1 [.int .i64 N] rfl rfl (cell_one_new _ _ _) (nz N) (by unfold maxLen;omega) (by omega) (by simp;omega) ?_;intro v' cf hy cd _ eG;have dW:=hid (And.intro hy (And.intro cd eG));clear hy cd eG)
    obtain⟨I,U,bp⟩:=dW.out;go_roundw
    case rel=>exact⟨i+1,rfl,aD,kg (qm.out.alloc _) (World.ownsRow.alloc hK.out.mM _) (Nat.le_refl _) U,by rw[aV.out.1,aV.out.2.1,aV.out.2.2,if_neg (by have:=cp.out;omega),if_neg (by have:=cp.out;omega),if_pos (by have:=cp.out;omega),List.append_nil,List.append_nil];exact ((hK.out.alloc _).qZ.cE I U bp).qZ.qZ⟩
    case measure=>simp[intOf];omega
   ·have sI:(op==7)=false:=by simp;omega
    obtain⟨DZ,GN,Ki,OY,Vr⟩:(op==8)=false∧(op==36)=false∧(op==37)=false∧(op==38)=false∧(op==39)=true:=by refine⟨?_,?_,?_,?_,?_⟩<;>(simp;omega)
    have cp:=hid hm;clear hm;go_wp2_with (at_builtin;refine wpList_append_own_at _ rfl (.tmp 37) (.tmp 40) 92 rfl w.heap.size 3 i0 () 1 8 underlying92 aE fy cb eu rfl (by decide) _ dz.length (dz.map (.int .i64)) rfl (World.ownsRow.alloc hK.out.mM _) ⟨W.heap.size,0,none⟩ 1 1 [.int .i64 N] rfl rfl (cell_one_new _ _ _) (nz N) (by unfold maxLen;omega) (by omega) (by simp;omega) ?_;intro v' cf hy cd _ eG;have dW:=hid (And.intro hy (And.intro cd eG));clear hy cd eG)
    obtain⟨I,U,bp⟩:=dW.out;go_roundw
    case rel=>exact⟨i+1,rfl,aD,kg (qm.out.alloc _) (World.ownsRow.alloc hK.out.mM _) (Nat.le_refl _) U,by rw[aV.out.1,aV.out.2.1,aV.out.2.2,if_neg (by have:=cp.out;omega),if_neg (by have:=cp.out;omega),if_pos (by have:=cp.out;omega),List.append_nil,List.append_nil];exact ((hK.out.alloc _).qZ.cE I U bp).qZ.qZ⟩
    case measure=>simp[intOf];omega
   ·have sI:(op==7)=false:=by simp;omega
    obtain⟨DZ,GN,Ki,OY,Vr⟩:(op==8)=false∧(op==36)=false∧(op==37)=false∧(op==38)=false∧(op==39)=false:=by refine⟨?_,?_,?_,?_,?_⟩<;>(simp;omega)
    have cp:=hid (And.intro aO (And.intro aN cK));clear aO aN cK;go_wp2_with fail
    go_roundw
    case rel=>exact⟨i+1,rfl,aD,qm.out,by rw[aV.out.1,aV.out.2.1,aV.out.2.2,if_neg cp.out.1,if_neg cp.out.2.1,if_neg cp.out.2.2,List.append_nil,List.append_nil,List.append_nil];exact hK.out⟩
    case measure=>simp[intOf];omega
  ·obtain rfl:i=n:=by omega
   have c6:¬((i:Int)<i):=by omega
   rw[List.take_of_length_le (by have:=bn.out;omega)]at ae;have tG:=D2 xs (fun x=>decide (x.o=7)) i;have Dv:=D2 xs (fun x=>decide (x.o=8)) i;have Ga:=D2 xs (fun x=>decide (36≤x.o∧x.o≤39)) i;rw[List.take_of_length_le (by have:=bn.out;omega)]at tG Dv Ga;change (yM xs).length≤i at tG;change (i' xs).length≤i at Dv;change (kl xs).length≤i at Ga;obtain⟨a7,az⟩:∃l,l=yM xs:=⟨_,rfl⟩;obtain⟨bx,a6⟩:∃l,l=i' xs:=⟨_,rfl⟩;obtain⟨dz,b7⟩:∃l,l=kl xs:=⟨_,rfl⟩;rw[←az,←a6,←b7]at ae;rw[←az]at tG;rw[←a6]at Dv;rw[←b7]at Ga;have cv:=hid (And.intro az (And.intro a6 b7));clear az a6 b7;have pq:=hid (And.intro ab ae);clear ae ab aK;go_wp2_with (first
    |(go_at_call 69;refine (cB.out _ a7 _ pq.out.2.jv (by omega)).mono ?_;rintro e w1 ⟨v1,rfl,dq,dR,fU⟩;have hK:=hid (And.intro (kg pq.out.1 pq.out.2.jv (Nat.le_refl _) fU) (pq.out.2.s1 dq dR fU));clear dq dR fU)
    |(go_at_call 69;refine (cB.out _ bx _ hK.out.2.k4 (by omega)).mono ?_;rintro e w2 ⟨v2,rfl,dq,dR,fU⟩;have kO:=hid (And.intro (kg hK.out.1 hK.out.2.k4 (Nat.le_refl _) fU) (hK.out.2.swap.s1 dq dR fU).swap);clear dq dR fU)
    |(go_at_call 69;refine (cB.out _ dz _ kO.out.2.mM (by omega)).mono ?_;rintro e cw ⟨v3,rfl,dq,dR,fU⟩;have eN:=hid (And.intro (kg kO.out.1 kO.out.2.mM (Nat.le_refl _) fU) (kO.out.2.qZ.s1 dq dR fU).qZ.qZ);clear dq dR fU))
   go_ret3
   exact⟨v1,v2,v3,rfl,by rw[←cv.out.1];exact eN.out.2.jv.reads,by rw[←cv.out.2.1];exact eN.out.2.k4.reads,by rw[←cv.out.2.2];exact eN.out.2.mM,eN.out.1⟩
def lH (w:World) (B:Nat) (v:Value) (l:List Int):Prop:=
 ∃g off cap cur,v= .slice (some ⟨g,off,none⟩) l.length cap∧B≤g∧ao w g 3 cur∧l.length≤cap∧cap≤Go.maxLen∧off+cap≤cur.size∧∀(j:Nat) (x:Int),l[j]?=some x→cur[off+j]?=some (.int .i64 x)
theorem lH.low {w:World} {B uL:Nat} {v:Value} {l:List Int} (h:lH w B v l) (aU:uL≤B):lH w uL v l:=by
 obtain⟨g,off,cap,cur,ay,J,h⟩:=h;exact⟨g,off,cap,cur,ay,Nat.le_trans aU J,h⟩
theorem lH.kept {w w':World} {B:Nat} {v:Value} {l:List Int} (h:lH w B v l) (aa:Kept w w'):lH w' B v l:=by
 obtain⟨g,off,cap,cur,ay,J,aU,h⟩:=h;exact⟨g,off,cap,cur,ay,J,aU.kept aa,h⟩
theorem lH.other {w w':World} {B:Nat} {v:Value} {l:List Int} (h:lH w B v l) {p:Addr} {u:Value} (hw:w'=w.setCell p u) (bQ:v.ownBlock≠some p.block):lH w' B v l:=by
 obtain⟨g,off,cap,cur,ay,J,aU,h⟩:=h;subst hw;exact⟨g,off,cap,cur,ay,J,aU.far (fun e=>bQ (by rw[ay,←e];rfl)) u,h⟩
theorem lH.aht {w:World} {B:Nat} {v:Value} {l:List Int} (h:w.ownsRow B 3 1 v l.length (l.map (Value.int .i64))) (hp:0<l.length):lH w B v l:=by
 rcases h.2 with⟨_,aj⟩|⟨g,cap,cur,ay,J,ai,I,U,ae,aJ⟩
 ·omega
 ·refine⟨g,0,cap,cur,ay,J,ai,I,U,by omega,fun j x aB=> ?_⟩;have aq:=(b8 aB).1;have bp:(cur.toList.take (l.length*1))[j]?=(l.map (Value.int .i64))[j]?:=by rw[aJ]
  rw[List.getElem?_take_of_lt (by omega),List.getElem?_map,aB,Array.getElem?_toList]at bp;rw[Nat.zero_add,bp];rfl
theorem abm (w:World) {ops:Array Oper} {rest:List Oper} {o:Oper} {a:Act} {Q:Exit→Act→World→Prop} (P3:o.guard=none) (s x:Operand)
  (nZ:o.op=Op.call {callee:=Callee.builtin Builtin.append,args:=#[s,x],argTypes:=#[92,92]}) (i:TypeInfo) (aE:prog.info? 3=some i) (fy:i.zero=some (.int .i64 0)) (cb:i.size=1) (eu:i.bytes=8)
  (B:Nat) (v:Value) (l:List Int) (ax:a.eval s=v) (au:lH w B v l) (Oa:Addr) (c:Nat) (X:Int) (af:a.eval x= .slice (some Oa) 1 c) (ah:∀j u,[Value.int .i64 X][j]?=some u→w.cell? (Oa.add j)=some u)
  (hlen:l.length≤1000000) (aU:B≤w.heap.size)
  (h:∀v' w',lH w' B v' (l++[X])→w.grownBy w' v.ownBlock→(v'.ownBlock=v.ownBlock∨∃hR,v'.ownBlock=some hR∧w.heap.size≤hR)→wpList prog ops Q rest (a.put o.dst v') w'):wpList prog ops Q (o::rest) a w:=by
 obtain⟨g,off,cap,cur,rfl,J,rF,I,U,ae,aJ⟩:=au;have hm:Go.maxLen=9223372036854775807:=by unfold Go.maxLen;omega
 refine wpList_append_arg w P3 s x 92 nZ 3 i () 1 8 underlying92 aE fy cb eu rfl (by decide) g off l.length cap (l.map (Value.int .i64)) ax (by simp) (fun j u aB=> ?_) Oa 1 c [.int .i64 X] af rfl ah (nz X) (fun aH j aB=> ?_) (by rw[hm];omega) (by omega) (fun aH=> ?_) (fun aH v' w' cR ai=> ?_)
 ·rw[rF.cell];rw[List.getElem?_map]at aB
  cases t_:l[j]? with
  |none=>rw[t_]at aB;cases aB
  |some y=>rw[t_]at aB;rw[aJ j y t_];exact aB
 ·rw[rF.cell,rF.frozen];refine⟨?_,rfl⟩;rw[List.length_singleton]at aB;rw[Array.getElem?_eq_getElem (by omega)];rfl
 ·have az:w.setCells g (off+l.length*1) [Value.int .i64 X]=w.setCell ⟨g,off+l.length,none⟩ X:=by simp[World.setCells]
  rw[az];have ib:=rF.aP (off+l.length) X;refine h _ _ ⟨g,off,cap,_,by rw[List.length_append];rfl,J,ib,by rw[List.length_append];exact aH,U,by rw[Array.size_setIfInBounds];exact ae,fun j y aB=> ?_⟩ ?_ (.inl rfl)
  ·rw[Array.getElem?_setIfInBounds];rcases Nat.lt_or_ge j l.length with aD|ln
   ·rw[List.getElem?_append_left aD]at aB;rw[if_neg (by omega)];exact aJ j y aB
   ·rw[List.getElem?_append_right ln]at aB;have:j=l.length:=by
     rcases Nat.eq_zero_or_pos (j-l.length)with aj|aj
     ·omega
     ·rw[List.getElem?_eq_none (by simp;omega)]at aB;cases aB
    subst this;rw[Nat.sub_self]at aB;rw[if_pos rfl,if_pos (by omega)]
    cases aB;rfl
  ·refine⟨rfl,rfl,rfl,by simp,fun k aa bQ=> ?_⟩;exact Below.heap_setCell w _ _ k (fun e=>bQ (by rw[e];rfl))
 ·have jK:lH w' w.heap.size v' (l++[X]):=lH.aht (by rw[List.length_append,List.map_append];exact cR) (by simp);refine h _ _ (jK.low aU) ⟨ai.os,ai.tape,ai.output,ai.size,fun k aa _=>ai.block k aa (by simp)⟩ (.inr ?_);obtain⟨hR,_,_,_,rfl,KT,_⟩:=jK;exact⟨hR,rfl,KT⟩
theorem Y0 {dI wr w1:World} {B:Nat} {v:Value} {l:List Int} (ab:Kept dI wr) (au:lH wr B v l) (aU:dI.heap.size≤B) (ai:wr.grownBy w1 v.ownBlock):Kept dI w1:=by
 obtain⟨g,off,cap,cur,rfl,J,-⟩:=au;refine⟨ai.os.trans ab.os,ai.tape.trans ab.tape,ai.output.trans ab.output,Nat.le_trans ab.size ai.size,fun b dK=> ?_⟩;rw[ai.block b (bd dK ab.size) (fun e=>by have:=Option.some.inj e;simp only at this;omega)];exact ab.block b dK
theorem aaf {P:Program} {f:FuncId} {args:Array Value} {w:World} {v:Value} (h:Calls P f args w fun e w'=>e= .returned v∧w'=w):Calls P f args w fun e w'=>e= .returned v∧w=w':=
 h.mono fun _ _ ⟨he,hm⟩=>⟨he,hm.symm⟩
theorem jd (x:Int):∃n:Nat,n<18446744073709551616∧IntKind.u64.wrap x=(n:Int):=by
 refine⟨(x% 18446744073709551616).toNat,?_,?_⟩
 ·omega
 ·simp[IntKind.wrap,IntKind.bits,IntKind.signed];omega
theorem Oi (o:BinOp) (a b:Int):∃n:Nat,n<18446744073709551616∧bits o IntKind.u64 a b=(n:Int):=jd _
def BJ (e3:Int) (ee u:Nat):Nat→Nat→Nat→Nat×Nat
 |0,q,r=>(q,r)
 |F+1,q,r=>
  if 4294967296≤q∨IntKind.u64.wrap (IntKind.u64.wrap (4294967296*(r:Int))+u)<IntKind.u64.wrap ((q:Int)*e3)then
   (if 4294967296≤(IntKind.u64.wrap ((r:Int)+ee)).toNat then ((IntKind.u64.wrap ((q:Int)-1)).toNat,(IntKind.u64.wrap ((r:Int)+ee)).toNat)
    else BJ e3 ee u F (IntKind.u64.wrap ((q:Int)-1)).toNat (IntKind.u64.wrap ((r:Int)+ee)).toNat)
  else (q,r)
def rE (r:Nat):Nat:=if r<4294967296 then 4294967296-r else 4294967297
theorem acU {y:Nat} (aj:0<y) (I:y<18446744073709551616):1≤Lib.bitLen y∧Lib.bitLen y≤64∧9223372036854775808≤y*2^(64-Lib.bitLen y)∧y*2^(64-Lib.bitLen y)<18446744073709551616:=by
 obtain⟨a,b,c⟩:=Lib.bitLenAux_bounds 64 y (by simpa using I) (by omega);have d:=Lib.bitLen_le y 64 (Nat.le_refl _) (by simpa using I);have e:Lib.bitLen y=Lib.bitLenAux 64 y:=rfl;rw[←e]at a b c;generalize Lib.bitLen y=l at*;refine⟨a,d,?_,?_⟩
 ·calc 9223372036854775808=2^(l-1)*2^(64-l):=by rw[←Nat.pow_add,show l-1+(64-l)=63 by omega]
   _≤y*2^(64-l):=Nat.mul_le_mul_right _ b
 ·calc y*2^(64-l)<2^l*2^(64-l):=Nat.mul_lt_mul_of_pos_right c (Nat.two_pow_pos _)
   _=18446744073709551616:=by rw[←Nat.pow_add,show l+(64-l)=64 by omega]
theorem OT (aE ei y:Nat) (bb:aE<y) (aq:ei<18446744073709551616) (db:y<18446744073709551616):
  ∃q r:Nat,q<18446744073709551616∧r<18446744073709551616∧pn 190 #[.int .u64 aE,.int .u64 ei,.int .u64 y] (.tuple #[.int .u64 q,.int .u64 r]):=by
 have hy0:((y:Int)==0)=false:=by simp;omega
 have Lr:¬((y:Int)≤aE):=by omega
 cases aj:((aE:Int)==0)
 case true=>
  have au:ei/y≤ei:=Nat.div_le_self _ _;have aH:ei% y<y:=Nat.mod_lt _ (by omega);have az:IntKind.u64.wrap ((ei:Int)/y)=((ei/y:Nat):Int):=wrapN (by omega);have a6:((ei:Int)% y)=((ei% y:Nat):Int):=rfl;generalize ei/y=Q at*;generalize ei% y=R at*;refine⟨Q,R,by omega,by omega,fun w=> ?_⟩;go_enter func190,ntmps190
  go_wp2_with fail
  refine fQ (by kernel_rfl) (by kernel_rfl) ?_
  repeat (go_big_quiet_step (fail))
  refine wpQuiet_nil ?_;rintro _ ⟨⟨bt,cj⟩,rfl⟩;go_wp2_with fail
  go_ret2
  exact⟨by rw[a6];rfl,cj⟩
 obtain⟨cE,a2,a3,a4⟩:=acU (y:=y) (by omega) db;obtain⟨s,ax⟩:∃s,s=64-Lib.bitLen y:=⟨_,rfl⟩;have gY:IntKind.u64.wrap (64-((Lib.bitLen y:Nat):Int))=(s:Int):=by rw[show 64-((Lib.bitLen y:Nat):Int)=(s:Int) by omega];exact wrapN (by omega)
 have es:min s 64=s:=by omega
 have e64:(64:Int)-s=((64-s:Nat):Int):=by omega
 have es2:min (64-s) 64=64-s:=by omega
 rw[←ax]at a3 a4;clear ax;obtain⟨Y,vt⟩:∃Y,Y=y*2^s:=⟨_,rfl⟩;have az:IntKind.u64.wrap ((y:Int)*2^s)=(Y:Int):=by
  rw[vt,show ((y:Int)*2^s)=((y*2^s:Nat):Int) by simp];exact wrapN a4
 rw[←vt]at a3 a4;clear vt;obtain⟨ee,Lr⟩:∃ee,ee=Y/4294967296:=⟨_,rfl⟩;have y1p:0<ee:=by omega
 have y1l:ee<4294967296:=by omega
 have a6:(Y:Int)/4294967296=(ee:Int):=by omega
 have uI:((ee:Int)==0)=false:=by simp;omega
 clear Lr;obtain⟨e3,amn,b7⟩:=Oi .and (Y:Int) 4294967295;obtain⟨bG,kd,fh⟩:=Oi .or (IntKind.u64.wrap ((aE:Int)*2^s)) ((ei:Int)/2^(64-s));obtain⟨L,bL,hr⟩:=jd ((ei:Int)*2^s);obtain⟨u1,sH⟩:∃u1:Nat,(L:Int)/4294967296=u1:=⟨L/4294967296,rfl⟩;obtain⟨u0,hu0,sI⟩:=Oi .and (L:Int) 4294967295;obtain⟨aO,jJ,DZ⟩:=jd ((bG:Int)/ee);obtain⟨dq,Ch,OZ⟩:=jd ((aO:Int)*ee);obtain⟨im,n0,OX⟩:=jd (bG-dq);obtain⟨u9,tK,hQ1⟩:∃u9 tK,BJ e3 ee u1 (rE im+1) aO im=(u9,tK):=⟨_,_,rfl⟩;obtain⟨bY,ea,f1⟩:=jd ((bG:Int)*4294967296);obtain⟨bc,dK,f2⟩:=jd ((bY:Int)+u1);obtain⟨eh,tY,f3⟩:=jd ((u9:Int)*Y);obtain⟨V,dZ,f4⟩:=jd ((bc:Int)-eh);have f5:IntKind.u64.wrap ((V:Int)/ee)=((V/ee:Nat):Int):=wrapN (Nat.lt_of_le_of_lt (Nat.div_le_self _ _) dZ);have Le:V/ee<18446744073709551616:=Nat.lt_of_le_of_lt (Nat.div_le_self _ _) dZ;generalize V/ee=eb at f5 Le;obtain⟨dL,Ey,f6⟩:=jd ((eb:Int)*ee);obtain⟨pa,xc,f7⟩:=jd ((V:Int)-dL);obtain⟨DC,rp,hQ0⟩:∃DC rp,BJ e3 ee u0 (rE pa+1) eb pa=(DC,rp):=⟨_,_,rfl⟩;obtain⟨aC,cx,g1⟩:=jd ((u9:Int)*4294967296);obtain⟨Q,cJ,g2⟩:=jd ((aC:Int)+DC);obtain⟨aM,fE,g3⟩:=jd ((V:Int)*4294967296);obtain⟨a1,yk,g4⟩:=jd ((aM:Int)+u0);obtain⟨bN,Eh,g5⟩:=jd ((DC:Int)*Y);obtain⟨bJ,Hl,g6⟩:=jd ((a1:Int)-bN);have g7:(bJ:Int)/2^s=((bJ/2^s:Nat):Int):=by simp
 have aw:bJ/2^s<18446744073709551616:=Nat.lt_of_le_of_lt (Nat.div_le_self _ _) Hl;obtain⟨R,iU⟩:∃R,R=bJ/2^s:=⟨_,rfl⟩;rw[←iU]at g7 aw;clear iU;clear bL a3 a4 cE a2 aq bb;refine⟨Q,R,by omega,by omega,fun w=> ?_⟩;go_enter func190,ntmps190
 go_upto_block 0 with (go_at_call 207;refine (aaf (Tryz.bits_LeadingZeros64 _ _ (by omega) (by omega))).mono ?_;rintro e w' ⟨rfl,rfl⟩)
 have fX:=hid (aQ w);go_cut [15,16] (fun a b bt=>a= .int .u64 u9∧b= .int .u64 tK∧Kept w bt)
 case first=>
  go_wp2_with fail
  go_loop [15,16] (fun a b=>∃q r F:Nat,a= .int .u64 q∧b= .int .u64 r∧q<18446744073709551616∧r<18446744073709551616∧rE r<F∧BJ e3 ee u1 F q r=(u9,tK)) (fun _ b=>rE (intOf b).toNat)
  case atStart=>exact⟨aO,im,rE im+1,rfl,rfl,jJ,n0,by omega,hQ1⟩
  case round=>
   obtain⟨q,r,F,rfl,rfl,au,aH,hF,aG⟩:=hrel
   cases F with
   |zero=>omega
   |succ F=>
    obtain⟨m1,kD,ak⟩:=jd ((q:Int)*e3);obtain⟨m2,iJ,a'⟩:=jd (4294967296*(r:Int));obtain⟨m3,vB,bw⟩:=jd ((m2:Int)+u1);obtain⟨Fa,xa,cG⟩:=jd ((q:Int)-1);obtain⟨oE,uc,cQ⟩:=jd ((r:Int)+ee);rw[BJ,a',bw,ak,cG,cQ,Int.toNat_natCast,Int.toNat_natCast]at aG;have Hu:(¬4294967296≤oE)→rE oE<rE r:=fun h=>by
     unfold rE;have:IntKind.u64.wrap ((r:Int)+ee)=((r:Int)+ee)% 18446744073709551616:=by simp[IntKind.wrap,IntKind.bits,IntKind.signed]
     rw[this]at cQ;split<;>split<;>omega
    have dO:=hid Hu;clear Hu;rcases (show (¬(4294967296:Int)≤q∧¬(m3:Int)<m1)∨(4294967296:Int)≤q∨(¬(4294967296:Int)≤q∧(m3:Int)<m1) by omega)with⟨aK,aU⟩|aK|⟨aK,aU⟩
    case inl=>
     rw[if_neg (by omega)]at aG;obtain⟨rfl,rfl⟩:=Prod.mk.inj aG;clear aG dO cG cQ hF;go_wp2_with fail
     go_meet;exact⟨rfl,rfl,fX.out⟩
    all_goals
     rw[if_pos (by omega)]at aG;by_cases av:(4294967296:Int)≤oE
     ·rw[if_pos (by omega)]at aG;obtain⟨rfl,rfl⟩:=Prod.mk.inj aG;clear aG dO hF;go_wp2_with fail
      go_meet;exact⟨rfl,rfl,fX.out⟩
     ·rw[if_neg (by omega)]at aG;have aI:=hid aG;have aV:=hid (bd (dO.out (by omega)) (Nat.le_of_lt_succ hF));clear aG hF;go_wp2_with fail
      go_round
      case rel=>exact⟨Fa,oE,F,rfl,rfl,xa,uc,aV.out,aI.out⟩
      case measure=>simpa[intOf] using dO.out (by omega)
 case rest=>
  obtain⟨rfl,rfl,HB⟩:=hcut;have fX:=hid HB;clear HB;go_upto_block 2 with fail
  go_cut [18,16] (fun a b bt=>a= .int .u64 DC∧b= .int .u64 rp∧Kept w bt)
  case first=>
   go_wp2_with fail
   go_loop [18,16] (fun a b=>∃q r F:Nat,a= .int .u64 q∧b= .int .u64 r∧q<18446744073709551616∧r<18446744073709551616∧rE r<F∧BJ e3 ee u0 F q r=(DC,rp)) (fun _ b=>rE (intOf b).toNat)
   case atStart=>exact⟨eb,pa,rE pa+1,rfl,rfl,Le,xc,by omega,hQ0⟩
   case round=>
    obtain⟨q,r,F,rfl,rfl,au,aH,hF,aG⟩:=hrel
    cases F with
    |zero=>omega
    |succ F=>
     obtain⟨m1,kD,ak⟩:=jd ((q:Int)*e3);obtain⟨m2,iJ,a'⟩:=jd (4294967296*(r:Int));obtain⟨m3,vB,bw⟩:=jd ((m2:Int)+u0);obtain⟨Fa,xa,cG⟩:=jd ((q:Int)-1);obtain⟨oE,uc,cQ⟩:=jd ((r:Int)+ee);rw[BJ,a',bw,ak,cG,cQ,Int.toNat_natCast,Int.toNat_natCast]at aG;have Hu:(¬4294967296≤oE)→rE oE<rE r:=fun h=>by
      unfold rE;have:IntKind.u64.wrap ((r:Int)+ee)=((r:Int)+ee)% 18446744073709551616:=by simp[IntKind.wrap,IntKind.bits,IntKind.signed]
      rw[this]at cQ;split<;>split<;>omega
     have dO:=hid Hu;clear Hu;rcases (show (¬(4294967296:Int)≤q∧¬(m3:Int)<m1)∨(4294967296:Int)≤q∨(¬(4294967296:Int)≤q∧(m3:Int)<m1) by omega)with⟨aK,aU⟩|aK|⟨aK,aU⟩
     case inl=>
      rw[if_neg (by omega)]at aG;obtain⟨rfl,rfl⟩:=Prod.mk.inj aG;clear aG dO cG cQ hF;go_wp2_with fail
      go_meet;exact⟨rfl,rfl,fX.out⟩
     all_goals
      rw[if_pos (by omega)]at aG;by_cases av:(4294967296:Int)≤oE
      ·rw[if_pos (by omega)]at aG;obtain⟨rfl,rfl⟩:=Prod.mk.inj aG;clear aG dO hF;go_wp2_with fail
       go_meet;exact⟨rfl,rfl,fX.out⟩
      ·rw[if_neg (by omega)]at aG;have aI:=hid aG;have aV:=hid (bd (dO.out (by omega)) (Nat.le_of_lt_succ hF));clear aG hF;go_wp2_with fail
       go_round
       case rel=>exact⟨Fa,oE,F,rfl,rfl,xa,uc,aV.out,aI.out⟩
       case measure=>simpa[intOf] using dO.out (by omega)
  case rest=>
   obtain⟨rfl,rfl,HB⟩:=hcut;have fX:=hid HB;clear HB;go_wp2_with fail
   go_ret2
   exact⟨rfl,fX.out⟩
theorem LC (x y:Nat) (af:x<18446744073709551616) (db:y<18446744073709551616) (w:World):
  Calls prog 189 #[.int .u64 x,.int .u64 y] w fun e w'=>e= .returned (.tuple #[.int .u64 ((x*y/18446744073709551616:Nat):Int),.int .u64 ((x*y% 18446744073709551616:Nat):Int)])∧w=w':=
 aaf (Tryz.bits_Mul64 x y af db w)
theorem ag8 (c n d m:Int) (ah:gT c) (aA:gT n) (av:gT d):∃q e:Int,gT q∧pn 214 #[c,n,d,m] (.tuple #[q,e]):=by
 by_cases ay:yW m=true
 case neg=>
  refine⟨0,1,⟨by decide,by decide⟩,fun w=> ?_⟩;go_enter func214,ntmps214
  go_wp2_with (go_at_call 208;refine (o9 _ _).mono ?_;rintro e w' ⟨rfl,rfl⟩)
  go_ret2
  exact⟨rfl,aQ _⟩
 by_cases aj:d=0
 ·subst aj;refine⟨0,12,⟨by decide,by decide⟩,fun w=> ?_⟩;go_enter func214,ntmps214
  go_wp2_with (go_at_call 208;refine (o9 _ _).mono ?_;rintro e w' ⟨rfl,rfl⟩)
  go_ret2
  exact⟨rfl,aQ _⟩
 have ll:(d==0)=false:=by simpa using aj
 cases bY:ix c 1000000000000000||(ix n 1000000000||ix d 1000000000)
 case true=>
  refine⟨0,3,⟨by decide,by decide⟩,fun w=> ?_⟩
  cases aC:ix c 1000000000000000<;>cases aM:ix n 1000000000<;>cases a1:ix d 1000000000
  case false.false.false=>rw[aC,aM,a1]at bY;cases bY
  all_goals
   clear bY;go_enter func214,ntmps214
   go_wp2_with (first|(go_at_call 208;refine (o9 _ _).mono ?_;rintro e w' ⟨rfl,rfl⟩)|(go_at_call 48;refine (ui _ _ _ (by decide)).mono ?_;rintro e w' ⟨rfl,rfl⟩))
   go_ret2
   exact⟨rfl,aQ _⟩
 rw[Bool.or_eq_false_iff,Bool.or_eq_false_iff]at bY;obtain⟨aC,aM,a1⟩:=bY;have ak:=BD aC;have a':=BD aM;have bw:=BD a1;obtain⟨bG,kd⟩:∃bG,bG=c.natAbs:=⟨_,rfl⟩;obtain⟨V,dZ⟩:∃V,V=n.natAbs:=⟨_,rfl⟩;obtain⟨D,b'⟩:∃D,D=d.natAbs:=⟨_,rfl⟩;have kD:=fun w=>Ib c w ah;have iJ:=fun w=>Ib n w aA;have vB:=fun w=>Ib d w av;rw[←kd]at kD;rw[←dZ]at iJ;rw[←b']at vB;have Pp:0<D:=by omega
 have u1:bG≤1000000000000000:=by omega
 have u2:V≤1000000000:=by omega
 have u3:D≤1000000000:=by omega
 clear kd dZ b';have hmul:=fun w=>LC bG V (by omega) (by omega) w;have vA:bG*V/18446744073709551616<18446744073709551616:=by
  have:bG*V≤1000000000000000*1000000000:=Nat.mul_le_mul u1 u2;omega
 have pQ:bG*V% 18446744073709551616<18446744073709551616:=Nat.mod_lt _ (by decide);generalize bG*V/18446744073709551616=dn at*;generalize bG*V% 18446744073709551616=uV at*;have FQ:=hid kD;have pv:=hid iJ;have Nr:=hid vB;have pw:=hid hmul;clear kD iJ vB hmul;by_cases ln:D≤dn
 ·have B7:(D:Int)≤dn:=by omega
  refine⟨0,3,⟨by decide,by decide⟩,fun w=> ?_⟩;go_enter func214,ntmps214
  go_wp2_with (first|(go_at_call 208;refine (o9 _ _).mono ?_;rintro e w' ⟨rfl,rfl⟩)|(go_at_call 48;refine (ui _ _ _ (by decide)).mono ?_;rintro e w' ⟨rfl,rfl⟩)|(go_at_call_of 209 (Value.int IntKind.i64 c);refine (FQ.out _).mono ?_;rintro e w' ⟨rfl,rfl⟩)|(go_at_call_of 209 (Value.int IntKind.i64 n);refine (pv.out _).mono ?_;rintro e w' ⟨rfl,rfl⟩)|(go_at_call_of 209 (Value.int IntKind.i64 d);refine (Nr.out _).mono ?_;rintro e w' ⟨rfl,rfl⟩)|(go_at_call 189;refine (pw.out _).mono ?_;rintro e w' ⟨rfl,rfl⟩))
  go_ret2
  exact⟨rfl,aQ _⟩
 have B7:¬((D:Int)≤dn):=by omega
 obtain⟨Q,R,cJ,aw,g'⟩:=OT dn uV D (by omega) pQ (by omega);have qd:=hid g';clear g';by_cases au:1000000000000000<Q
 ·have rR:(1000000000000000:Int)<Q:=by omega
  refine⟨0,3,⟨by decide,by decide⟩,fun w=> ?_⟩;go_enter func214,ntmps214
  go_wp2_with (first|(go_at_call 208;refine (o9 _ _).mono ?_;rintro e w' ⟨rfl,rfl⟩)|(go_at_call 48;refine (ui _ _ _ (by decide)).mono ?_;rintro e w' ⟨rfl,rfl⟩)|(go_at_call_of 209 (Value.int IntKind.i64 c);refine (FQ.out _).mono ?_;rintro e w' ⟨rfl,rfl⟩)|(go_at_call_of 209 (Value.int IntKind.i64 n);refine (pv.out _).mono ?_;rintro e w' ⟨rfl,rfl⟩)|(go_at_call_of 209 (Value.int IntKind.i64 d);refine (Nr.out _).mono ?_;rintro e w' ⟨rfl,rfl⟩)|(go_at_call 189;refine (pw.out _).mono ?_;rintro e w' ⟨rfl,rfl⟩)|(go_at_call 190;refine (qd.out _).mono ?_;rintro e w1 ⟨rfl,ak⟩))
  go_ret2
  exact⟨rfl,ak⟩
 have rR:¬(1000000000000000:Int)<Q:=by omega
 obtain⟨e,he,b7⟩:=jd ((D:Int)-R);obtain⟨qT,Ev⟩:∃qT:Bool,qT=((decide (c<0) !=decide (n<0)) !=decide (d<0)):=⟨_,rfl⟩;have aH:= @RP Q R e qT m;have EF:∀(b:Bool) w,b=qT→Calls prog 210 #[.int .u64 Q,.int .u64 R,.int .u64 D,.bool b,m] w fun x w'=>x= .returned (.int .u64 (AI Q R e qT m))∧w=w':=by
  intro b w J;subst J;exact aao Q R D e b m w b7 (by omega)
 generalize AI Q R e qT m=sw at*;have afk:sw≤9223372036854775807:=by omega
 have Bk:=hid EF;obtain⟨Z,jH⟩:∃Z:Int,Z=if qT then -(sw:Int)else sw:=⟨_,rfl⟩;have KR:gT Z:=by rw[jH];split<;>exact⟨by omega,by omega⟩
 have EJ:∀(b:Bool) w,b=qT→Calls prog 211 #[.int .u64 sw,.bool b] w fun e w'=>e= .returned Z∧w=w':=by
  intro b w J;subst J;rw[jH];exact aaE sw b w afk
 have tB:=hid EJ;clear EJ jH;have bk:=hid Ev;clear EF b7 he;by_cases jK:1000000000000000<sw
 case' pos=>have afl:(1000000000000000:Int)<sw:=by omega
 case' neg=>have afl:¬(1000000000000000:Int)<sw:=by omega
 case' pos=>refine⟨0,3,⟨by decide,by decide⟩,fun w=> ?_⟩
 case' neg=>refine⟨Z,0,KR,fun w=> ?_⟩
 all_goals
  clear Ev;go_enter func214,ntmps214
  go_wp2_with (first|(go_at_call 208;refine (o9 _ _).mono ?_;rintro e w' ⟨rfl,rfl⟩)|(go_at_call 48;refine (ui _ _ _ (by decide)).mono ?_;rintro e w' ⟨rfl,rfl⟩)|(go_at_call_of 209 (Value.int IntKind.i64 c);refine (FQ.out _).mono ?_;rintro e w' ⟨rfl,rfl⟩)|(go_at_call_of 209 (Value.int IntKind.i64 n);refine (pv.out _).mono ?_;rintro e w' ⟨rfl,rfl⟩)|(go_at_call_of 209 (Value.int IntKind.i64 d);refine (Nr.out _).mono ?_;rintro e w' ⟨rfl,rfl⟩)|(go_at_call 189;refine (pw.out _).mono ?_;rintro e w' ⟨rfl,rfl⟩)|(go_at_call 190;refine (qd.out _).mono ?_;rintro e w1 ⟨rfl,ak⟩)|(go_at_call 210;refine (Bk.out _ _ (by rw[bk.out];first|rfl|simp)).mono ?_;rintro e w' ⟨rfl,rfl⟩)|(go_at_call 211;refine (tB.out _ _ (by rw[bk.out];first|rfl|simp)).mono ?_;rintro e w' ⟨rfl,rfl⟩))
  go_ret2
  exact⟨rfl,ak⟩
theorem yY (x:Int):∃n:Int,gT n∧IntKind.i64.wrap x=n∧wrap64 x=n:=by
 have e:IntKind.i64.wrap x=wrap64 x:=by
  simp[wrap64,IntKind.wrap,IntKind.bits,IntKind.signed];split<;>omega
 exact⟨wrap64 x,⟨by unfold wrap64;omega,by unfold wrap64;omega⟩,e,rfl⟩
theorem JS {n B:Int} (h: -B≤n∧n≤B) (aU:B≤1000000000000000):∃V:Nat,(V:Int)≤B∧(n≠0→0<V)∧max n (-n)=(V:Int)∧IntKind.u64.wrap (V:Int)=V:=
 ⟨n.natAbs,by omega,by omega,by omega,wrapN (by omega)⟩
theorem ahU (a b:Int) (aZ: -1000000000000000≤a∧a≤1000000000000000) (J: -1000000000000≤b∧b≤1000000000000):∃q e:Int,gT q∧pn 195 #[a,b] (.tuple #[q,e]):=by
 obtain⟨A,aK,_,aos,aoS⟩:=JS aZ (by decide);obtain⟨B,aU,_,aot,aoT⟩:=JS (B:=1000000000000000) (n:=b) (by omega) (by decide);have hmul:=fun w=>LC A B (by omega) (by omega) w;generalize A*B/18446744073709551616=dn at*;generalize A*B% 18446744073709551616=uV at*;have pw:=hid hmul;obtain⟨⟨cE,a2⟩,⟨bY,bc⟩⟩:=And.intro aZ J;clear hmul aZ J;by_cases aj:dn=0
 ·by_cases aq:uV≤1000000000000000
  ·have pP:¬((1000000000000000:Int)<uV):=by omega
   obtain⟨Z,jH⟩:∃Z:Int,Z=(if (!decide (a<0)==decide (b<0))=true then -(uV:Int)else uV):=⟨_,rfl⟩;refine⟨Z,0,by rw[jH];split<;>exact⟨by omega,by omega⟩,fun w=> ?_⟩;have bq:=hid jH;clear jH;subst aj;go_enter func195,ntmps195
   go_wp2_with (go_at_call 189;refine (pw.out _).mono ?_;rintro e w' ⟨rfl,rfl⟩)
   all_goals
    go_ret2
    rename_i bb;exact⟨aal (by rw[bq.out,bb];rfl) rfl,aQ _⟩
  ·have pP:(1000000000000000:Int)<uV:=by omega
   refine⟨0,3,⟨by decide,by decide⟩,fun w=> ?_⟩;subst aj;go_enter func195,ntmps195
   go_wp2_with (go_at_call 189;refine (pw.out _).mono ?_;rintro e w' ⟨rfl,rfl⟩)
   go_ret2
   exact⟨rfl,aQ _⟩
 ·have VS:((dn:Int) !=0)=true:=by simp;omega
  have h0c:((dn:Int)==0)=false:=by simp;omega
  refine⟨0,3,⟨by decide,by decide⟩,fun w=> ?_⟩;go_enter func195,ntmps195
  go_wp2_with (go_at_call 189;refine (pw.out _).mono ?_;rintro e w' ⟨rfl,rfl⟩)
  go_ret2
  exact⟨rfl,aQ _⟩
theorem aie (c u m:Int) (ah:gT c) (hu:gT u):∃q e:Int,gT q∧pn 198 #[c,u,m] (.tuple #[q,e]):=by
 by_cases ay:yW m=true
 case neg=>
  refine⟨0,1,⟨by decide,by decide⟩,fun w=> ?_⟩;go_enter func198,ntmps198
  go_wp2_with (go_at_call 208;refine (o9 _ _).mono ?_;rintro e w' ⟨rfl,rfl⟩)
  go_ret2
  exact⟨rfl,aQ _⟩
 by_cases I:u<1
 ·refine⟨0,12,⟨by decide,by decide⟩,fun w=> ?_⟩;go_enter func198,ntmps198
  go_wp2_with (go_at_call 208;refine (o9 _ _).mono ?_;rintro e w' ⟨rfl,rfl⟩)
  go_ret2
  exact⟨rfl,aQ _⟩
 by_cases U:ix c 1000000000000000=true∨1000000000000000<u
 ·refine⟨0,3,⟨by decide,by decide⟩,fun w=> ?_⟩
  cases J:ix c 1000000000000000
  case false=>
   have ae:1000000000000000<u:=by rw[J]at U;simpa using U
   clear U;go_enter func198,ntmps198
   go_wp2_with (first|(go_at_call 208;refine (o9 _ _).mono ?_;rintro e w' ⟨rfl,rfl⟩)|(go_at_call 48;refine (ui _ _ _ (by decide)).mono ?_;rintro e w' ⟨rfl,rfl⟩))
   go_ret2
   exact⟨rfl,aQ _⟩
  case true=>
   clear U;go_enter func198,ntmps198
   go_wp2_with (first|(go_at_call 208;refine (o9 _ _).mono ?_;rintro e w' ⟨rfl,rfl⟩)|(go_at_call 48;refine (ui _ _ _ (by decide)).mono ?_;rintro e w' ⟨rfl,rfl⟩))
   go_ret2
   exact⟨rfl,aQ _⟩
 have J:ix c 1000000000000000=false:=by simp only[not_or,Bool.not_eq_true]at U;exact U.1
 have EM:¬1000000000000000<u:=fun h=>U (.inr h);obtain⟨q,b_,au,g'⟩:=Kh c u m ah hu;have cB:=hid g';clear g' U;by_cases kC:b_=0
 ·subst kC;obtain⟨P,dJ,az,a6⟩:=yY (q*u)
  cases dK:ix P 1000000000000000
  case' false=>refine⟨P,0,dJ,fun w=> ?_⟩
  case' true=>refine⟨0,3,⟨by decide,by decide⟩,fun w=> ?_⟩
  all_goals
   go_enter func198,ntmps198
   go_wp2_with (first|(go_at_call 208;refine (o9 _ _).mono ?_;rintro e w' ⟨rfl,rfl⟩)|(go_at_call 48;refine (ui _ _ _ (by decide)).mono ?_;rintro e w' ⟨rfl,rfl⟩)|(go_at_call 191;refine (cB.out _).mono ?_;rintro e w1 ⟨rfl,ak⟩))
   go_ret2
   exact⟨rfl,ak⟩
 ·have hh:(b_ !=0)=true:=by simpa using kC
  refine⟨0,b_,⟨by decide,by decide⟩,fun w=> ?_⟩;go_enter func198,ntmps198
  go_wp2_with (first|(go_at_call 208;refine (o9 _ _).mono ?_;rintro e w' ⟨rfl,rfl⟩)|(go_at_call 48;refine (ui _ _ _ (by decide)).mono ?_;rintro e w' ⟨rfl,rfl⟩)|(go_at_call 191;refine (cB.out _).mono ?_;rintro e w1 ⟨rfl,ak⟩))
  go_ret2
  exact⟨rfl,ak⟩
theorem aib (a b m:Int):∃q e:Int,gT q∧pn 197 #[a,b,m] (.tuple #[q,e]):=by
 by_cases ay:yW m=true
 case neg=>
  refine⟨0,1,⟨by decide,by decide⟩,fun w=> ?_⟩;go_enter func197,ntmps197
  go_wp2_with (go_at_call 215;refine (xo _ _).mono ?_;rintro e w' ⟨rfl,rfl⟩)
  go_ret2
  exact⟨rfl,aQ _⟩
 cases aC:ix a 1000000000||ix b 1000000000
 case true=>
  refine⟨0,3,⟨by decide,by decide⟩,fun w=> ?_⟩
  cases aM:ix a 1000000000<;>cases a1:ix b 1000000000
  case false.false=>rw[aM,a1]at aC;cases aC
  all_goals
   clear aC;go_enter func197,ntmps197
   go_wp2_with (first|(go_at_call 215;refine (xo _ _).mono ?_;rintro e w' ⟨rfl,rfl⟩)|(go_at_call 216;refine (CM _ _ _ (by decide)).mono ?_;rintro e w' ⟨rfl,rfl⟩))
   go_ret2
   exact⟨rfl,aQ _⟩
 rw[Bool.or_eq_false_iff]at aC;obtain⟨aM,a1⟩:=aC;obtain⟨P,dJ,az,a6⟩:=yY (a*b);obtain⟨q,b_,au,g'⟩:=Kh P 1000000 m dJ ⟨by decide,by decide⟩;have cB:=hid g';clear g';by_cases kC:b_=0
 ·subst kC
  cases dK:ix q 1000000000
  case' false=>refine⟨q,0,au,fun w=> ?_⟩
  case' true=>refine⟨0,3,⟨by decide,by decide⟩,fun w=> ?_⟩
  all_goals
   go_enter func197,ntmps197
   go_wp2_with (first|(go_at_call 215;refine (xo _ _).mono ?_;rintro e w' ⟨rfl,rfl⟩)|(go_at_call 216;refine (CM _ _ _ (by decide)).mono ?_;rintro e w' ⟨rfl,rfl⟩)|(go_at_call 191;refine (cB.out _).mono ?_;rintro e w1 ⟨rfl,ak⟩))
   go_ret2
   exact⟨rfl,ak⟩
 ·have hh:(b_ !=0)=true:=by simpa using kC
  refine⟨0,b_,⟨by decide,by decide⟩,fun w=> ?_⟩;go_enter func197,ntmps197
  go_wp2_with (first|(go_at_call 215;refine (xo _ _).mono ?_;rintro e w' ⟨rfl,rfl⟩)|(go_at_call 216;refine (CM _ _ _ (by decide)).mono ?_;rintro e w' ⟨rfl,rfl⟩)|(go_at_call 191;refine (cB.out _).mono ?_;rintro e w1 ⟨rfl,ak⟩))
  go_ret2
  exact⟨rfl,ak⟩
theorem ahV (c r m:Int) (ah:gT c) (aH:gT r):∃q e:Int,gT q∧pn 196 #[c,r,m] (.tuple #[q,e]):=by
 obtain⟨q,b_,au,g'⟩:=ag8 c r 1000000 m ah aH ⟨by decide,by decide⟩;have cB:=hid g';clear g';refine⟨q,b_,au,fun w=> ?_⟩;go_enter func196,ntmps196
 go_wp2_with (go_at_call 214;refine (cB.out _).mono ?_;rintro e w1 ⟨rfl,ak⟩)
 go_ret2
 exact⟨rfl,ak⟩
theorem aeA (n d m:Int):∃q e:Int,gT q∧pn 199 #[n,d,m] (.tuple #[q,e]):=by
 by_cases ay:yW m=true
 case neg=>
  refine⟨0,1,⟨by decide,by decide⟩,fun w=> ?_⟩;go_enter func199,ntmps199
  go_wp2_with (go_at_call 215;refine (xo _ _).mono ?_;rintro e w' ⟨rfl,rfl⟩)
  go_ret2
  exact⟨rfl,aQ _⟩
 by_cases aj:d=0
 ·subst aj;refine⟨0,12,⟨by decide,by decide⟩,fun w=> ?_⟩;go_enter func199,ntmps199
  go_wp2_with (go_at_call 215;refine (xo _ _).mono ?_;rintro e w' ⟨rfl,rfl⟩)
  go_ret2
  exact⟨rfl,aQ _⟩
 have ll:(d==0)=false:=by simpa using aj
 cases aC:ix n 1000000000000000||ix d 1000000000000000
 case true=>
  refine⟨0,3,⟨by decide,by decide⟩,fun w=> ?_⟩
  cases aM:ix n 1000000000000000<;>cases a1:ix d 1000000000000000
  case false.false=>rw[aM,a1]at aC;cases aC
  all_goals
   clear aC;go_enter func199,ntmps199
   go_wp2_with (first|(go_at_call 215;refine (xo _ _).mono ?_;rintro e w' ⟨rfl,rfl⟩)|(go_at_call 216;refine (CM _ _ _ (by decide)).mono ?_;rintro e w' ⟨rfl,rfl⟩))
   go_ret2
   exact⟨rfl,aQ _⟩
 rw[Bool.or_eq_false_iff]at aC;obtain⟨aM,a1⟩:=aC;have a':=BD aM;have bw:=BD a1;obtain⟨bG,kd,_,aov,aoW⟩:=JS a' (by decide);obtain⟨D,b',Pp,aou,aoU⟩:=JS bw (by decide);have ald:=Pp aj;have hmul:=fun w=>LC bG 1000000 (by omega) (by decide) w;have vA:bG*1000000/18446744073709551616<18446744073709551616:=by omega
 have pQ:bG*1000000% 18446744073709551616<18446744073709551616:=Nat.mod_lt _ (by decide);generalize bG*1000000/18446744073709551616=dn at*;generalize bG*1000000% 18446744073709551616=uV at*;have pw:=hid hmul;obtain⟨en,dQ⟩:=a';obtain⟨d1,d2⟩:=bw;clear hmul Pp;by_cases ln:D≤dn
 ·have B7:(D:Int)≤dn:=by omega
  refine⟨0,3,⟨by decide,by decide⟩,fun w=> ?_⟩;go_enter func199,ntmps199
  go_wp2_with (first|(go_at_call 215;refine (xo _ _).mono ?_;rintro e w' ⟨rfl,rfl⟩)|(go_at_call 216;refine (CM _ _ _ (by decide)).mono ?_;rintro e w' ⟨rfl,rfl⟩)|(go_at_call 189;refine (pw.out _).mono ?_;rintro e w' ⟨rfl,rfl⟩))
  go_ret2
  exact⟨rfl,aQ _⟩
 have B7:¬((D:Int)≤dn):=by omega
 obtain⟨Q,R,cJ,aw,g'⟩:=OT dn uV D (by omega) pQ (by omega);have qd:=hid g';clear g';by_cases au:1000000000<Q
 ·have rR:(1000000000:Int)<Q:=by omega
  refine⟨0,3,⟨by decide,by decide⟩,fun w=> ?_⟩;go_enter func199,ntmps199
  go_wp2_with (first|(go_at_call 215;refine (xo _ _).mono ?_;rintro e w' ⟨rfl,rfl⟩)|(go_at_call 216;refine (CM _ _ _ (by decide)).mono ?_;rintro e w' ⟨rfl,rfl⟩)|(go_at_call 189;refine (pw.out _).mono ?_;rintro e w' ⟨rfl,rfl⟩)|(go_at_call 190;refine (qd.out _).mono ?_;rintro e w1 ⟨rfl,ak⟩))
  go_ret2
  exact⟨rfl,ak⟩
 have rR:¬(1000000000:Int)<Q:=by omega
 obtain⟨e,he,b7⟩:=jd ((D:Int)-R);obtain⟨qT,Ev⟩:∃qT:Bool,qT=(!decide (n<0)==decide (d<0)):=⟨_,rfl⟩;have pT:∀(b:Bool) w,b=qT→Calls prog 217 #[.int .u64 Q,.int .u64 R,.int .u64 D,.bool b,m] w fun x w'=>x= .returned (.bool (decide (R≠0)&&Fq Q R e qT m))∧w=w':=by
  intro b w J;subst J;exact aiv Q R D e b m w b7 (by omega)
 generalize (decide (R≠0)&&Fq Q R e qT m)=up at*;have zj:=hid pT;have bk:=hid Ev;clear pT b7 he;obtain⟨T,bl⟩:∃T:Nat,T=Q+1:=⟨_,rfl⟩;have O0:(Q:Int)+1=T:=by omega
 obtain⟨P,dJ⟩:∃P:Int,P=if up then (T:Int)else Q:=⟨_,rfl⟩;have PB: -1≤P∧P≤1000000001:=by rw[dJ];split<;>omega
 obtain⟨Z,jH⟩:∃Z:Int,Z=if qT then -P else P:=⟨_,rfl⟩;have KR:gT Z:=by rw[jH];split<;>exact⟨by omega,by omega⟩
 have WD:(T:Int)≤1000000001:=by omega
 clear bl;have cV:=hid dJ;have bq:=hid jH;have HZB:=hid KR;clear Ev dJ jH KR PB;by_cases hp:1000000000<P
 case' pos=>refine⟨0,3,⟨by decide,by decide⟩,fun w=> ?_⟩
 case' neg=>refine⟨Z,0,HZB.out,fun w=> ?_⟩
 all_goals
  cases up
  all_goals
   have oV:=cV.out;simp only[if_true,Bool.false_eq_true,if_false]at oV;subst oV;clear cV;go_enter func199,ntmps199
   go_wp2_with (first|(go_at_call 215;refine (xo _ _).mono ?_;rintro e w' ⟨rfl,rfl⟩)|(go_at_call 216;refine (CM _ _ _ (by decide)).mono ?_;rintro e w' ⟨rfl,rfl⟩)|(go_at_call 189;refine (pw.out _).mono ?_;rintro e w' ⟨rfl,rfl⟩)|(go_at_call 190;refine (qd.out _).mono ?_;rintro e w1 ⟨rfl,ak⟩)|(go_at_call 217;refine (zj.out _ _ (by rw[bk.out]<;>first|rfl|simp)).mono ?_;rintro e w' ⟨rfl,rfl⟩))
   all_goals
    go_ret2
    first
     |exact⟨rfl,ak⟩
     |(rename_i bb;exact⟨aal (by rw[bq.out,bk.out,bb];rfl) rfl,ak⟩)
end Go.Proofs.YtobpgndkciofhaaGreatDoor
