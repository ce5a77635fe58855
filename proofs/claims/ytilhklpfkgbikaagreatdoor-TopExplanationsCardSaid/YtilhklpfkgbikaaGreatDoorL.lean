import Derived.Test.YtilhklpfkgbikaaGreatDoorD
import Derived.Test.YtilhklpfkgbikaaGreatDoorH
import Derived.Maps.AppendAt
import Derived.ArgAppend
import Derived.Deep.DeepCutAuto
import Derived.Deep.CutBlock
import Derived.Lib.MinMax
set_option linter.all false
namespace Go.Proofs.YtilhklpfkgbikaaGreatDoor
open Go.RowKit Go.Proofs.Tryz
set_option maxRecDepth 100000
set_option maxHeartbeats 8000000
section
open Go.RowKit Go.Sort Go.Lib
def e_(cc:aW):aW:=Lib.compact (cc.mergeSort λx y=>decide (x<=y))
def aiy(d:Array J)(aO:∀j k,j<=k->k<d.size->d[j]!<=d[k]!):∀m,m<=d.size->(∀x,x∈compactUpTo d m↔∃j,j<m/\d[j]! =x)/\(compactUpTo d m).Pairwise (·<·):=by
 intro m;induction m with
 |zero=>intro _;exact⟨λx=>⟨λh=>by simp[compactUpTo]at h,λ⟨j,h,_⟩=>by omega⟩,by simp[compactUpTo]⟩
 |succ m bO=>
  intro hm;obtain⟨ab,ad⟩:=bO (by omega);rw[compactUpTo_succ]
  cases ai:keeps d m
  .rw[aw (by simp),hj];refine⟨λx=>(ab x).trans ⟨λ⟨j,ay,e⟩=>⟨j,by omega,e⟩,λ⟨j,ay,e⟩=> ?_⟩,ad⟩;rcases rT j m with aN|nI
   .exact⟨j,aN,e⟩
   .obtain rfl:j=m:=by omega
    unfold keeps at ai;rw[vC,not_or,OA]at ai;exact⟨j-1,by omega,ai.2.symm.trans e⟩
  .rw[aP rfl];unfold keeps at ai;rw[gg]at ai;refine⟨λx=> ?_,?_⟩
   .rw[k5,kb,ab];constructor
    .rintro (⟨j,ay,e⟩|e)
     .exact⟨j,by omega,e⟩
     .exact⟨m,by omega,e.symm⟩
    .rintro⟨j,ay,e⟩;rcases rT j m with aN|nI
     .exact .inl ⟨j,aN,e⟩
     .obtain rfl:j=m:=by omega
      exact .inr e.symm
   .rw[List.pairwise_append];refine⟨ad,Tg _ _,λa bD b af=> ?_⟩;rw[kb]at af;obtain⟨j,ay,rfl⟩:=(ab a).1 bD;rw[af];have ao:=aO j (m-1) (by omega) (by omega);have aR:=aO (m-1) m (by omega) (by omega);have bw:d[m]!≠d[m-1]!:=by rcases ai with ai|ai;omega;exact ai
    omega
def aoZ(cc:aW):∀j k,j<=k->k<(cc.mergeSort λx y=>decide (x<=y)).toArray.size->(cc.mergeSort λx y=>decide (x<=y)).toArray[j]!<=(cc.mergeSort λx y=>decide (x<=y)).toArray[k]!:=by
 intro j k Eb ai;have hp:(cc.mergeSort λx y=>decide (x<=y)).Pairwise (λa b=>decide (a<=b)=true):=List.pairwise_mergeSort (λa b c=>by simp only[gg];omega) (λa b=>by simp only[Bool.or_eq_true,gg];omega) cc;rcases rT j k with h|h
 .rw[Oz]at ai;have:=List.pairwise_iff_getElem.1 hp j k (by omega) ai h;rw[gg]at this;simpa[List.getElem!_toArray,bn ai,bn (Nat.lt_trans h ai)] using this
 .obtain rfl:j=k:=by omega
  exact wI _
def aeO(cc:aW):(∀x,x∈e_ cc↔x∈cc)/\(e_ cc).Pairwise (·<·):=by
 obtain⟨ab,ad⟩:=aiy _ (aoZ cc) _ (bB _);have e:e_ cc=compactUpTo (cc.mergeSort λx y=>decide (x<=y)).toArray (cc.mergeSort λx y=>decide (x<=y)).toArray.size:=by
  unfold e_ Lib.compact;rw[Oz]
 rw[e];refine⟨λx=>(ab x).trans ?_,ad⟩;rw[<-List.mem_mergeSort (le:=λx y=>decide (x<=y)) (a:=x),List.mem_iff_getElem?];constructor
 .rintro⟨j,ay,rfl⟩;rw[Oz]at ay;exact⟨j,by simp[bn ay]⟩
 .rintro⟨j,ay⟩;have av:=(b2 ay).1;exact⟨j,by rw[Oz];exact av,by simp[ay]⟩
def Et{cc:aW}{x:J}:x∈e_ cc↔x∈cc:=(aeO cc).1 x
def AY(cc:aW):(e_ cc).length<=cc.length:=by
 unfold e_ Lib.compact compactUpTo;rw[er];have h:=nX (keeps (cc.mergeSort λx y=>decide (x<=y)).toArray) (List.range (cc.mergeSort λx y=>decide (x<=y)).length);rw[vG]at h;exact fN h (by rw[Ou];exact bB _)
def JL{w:ag}{g:aa}{cur:ho}{e:dC}{J2:aW}(af:w.heap[g]?=some (.cells cur e (0,0)))(cr:cur.toList.take J2=J2.map (Value.int .i64)):Holds (Value.int .i64) w g 0 J2.toArray:=by
 intro j ay;have pn:j<J2.length:=by simpa using ay
 refine⟨?_,by simp[World.frozen?,af]⟩;have ab:(cur.toList.take J2)[j]?=(J2.map (Value.int .i64))[j]?:=by rw[cr]
 rw[tv pn]at ab;simp only[World.cell?,af,ql];simp only[Ox,A7,sx];rw[<-Ba,ab];simp[pn]
def JM{w:ag}{g n:aa}{os:Array Obj}{cur:ho}{e:dC}(d:Array J)(af:w.heap[g]?=some (.cells cur e (0,0))):
  (grow (putRow (Value.int .i64) (Sort.ahead w n) g 0 d) os).heap[g]?=some (.cells (putCells (Value.int .i64) 0 d cur) e (0,0)):=by
 have al:g<w:=(nW.1 af).1;rw[heap_grow_old _ _ (by simpa using al)];simp[putRow,mapBlock,Sort.ahead,ZM,af,onCells]
def Sy{w:ag}{g n:aa}{os:Array Obj}(d:Array J):w.grownBy (grow (putRow (Value.int .i64) (Sort.ahead w n) g 0 d) os) (some g):=by
 refine⟨rfl,rfl,rfl,by simp,λk ai bU=> ?_⟩;rw[heap_grow_old _ _ (by simpa using ai)];have:g≠k:=λe=>bU (by rw[e]);simp[putRow,mapBlock,Sort.ahead,ZM,this]
def Oe(cur:ho)(bA:aW)(h:bA.length<=cur.size):(putCells (Value.int .i64) 0 bA.toArray cur).toList.take bA=bA.map (Value.int .i64):=by
 apply A8;intro j;by_cases ay:j<bA.length
 .rw[tv ay,Ba];simp[putCells,ay,show j<cur.size by omega]
 .rw[List.getElem?_take_eq_none (by omega),lR (by simp;omega)]
def ajA{a b c:ag}{r:Option aa}(h:a.grownBy b r)(k:b.grownBy c r):a.grownBy c r:=
 ⟨k.os.trans h.os,k.tape.trans h.tape,k.output.trans h.output,fN h.size k.size,λi aD aC=>(k.block i (bG aD h.size) aC).trans (h.block i aD aC)⟩
def JZ(v:ak)(B:aa)(cc:aW)(w:ag)(e:Ending)(w':ag):Prop:=
 ∃u,e=bL u/\w'.ownsRow B 3 1 u (e_ cc).length ((e_ cc).map (Value.int .i64))/\u.ownBlock=v.ownBlock/\w.grownBy w' v.ownBlock
def aeF{w w1 w2:ag}{B g cap n q:aa}{os:Array Obj}{cur:ho}{cc:aW}(bc:B<=g)(af:w.heap[g]?=some (.cells cur 3 (0,0)))(ab:cc.length<=cap)(ad:cap<=Go.maxLen)(ao:cur.size=cap)(aQ:w1=grow (putRow (Value.int .i64) (Sort.ahead w n) g 0 (cc.mergeSort λx y=>decide (x<=y)).toArray) os)(a_:w2=putRow (Value.int .i64) (Sort.ahead w1 q) g 0 (e_ cc++List.replicate ((cc.mergeSort λx y=>decide (x<=y)).length-(e_ cc).length) 0).toArray):
  JZ (ae (some (g,0)) cc cap) B cc w (bL (.slice (some (g,0)) (e_ cc).length cap)) w2:=by
 have c9:=JM (n:=n) (os:=os) (cc.mergeSort λx y=>decide (x<=y)).toArray af;rw[<-aQ]at c9;have bW:=JM (n:=q) (os:=#[]) (e_ cc++List.replicate ((cc.mergeSort λx y=>decide (x<=y)).length-(e_ cc).length) 0).toArray c9;rw[grow_empty,<-a_]at bW;have av:=AY cc;have bP:(cc.mergeSort λx y=>decide (x<=y)).length=cc.length:=Ou _;refine⟨_,rfl,⟨by simp,.inr ⟨g,cap,_,rfl,bc,bW,by omega,ad,by simp[putCells,ao],?_⟩⟩,rfl,?_⟩
 .have aR:=Oe (putCells (Value.int .i64) 0 (cc.mergeSort λx y=>decide (x<=y)).toArray cur) (e_ cc++List.replicate ((cc.mergeSort λx y=>decide (x<=y)).length-(e_ cc).length) 0) (by simp[putCells,ao,bP];omega);have bw:=congrArg (List.take (e_ cc).length) aR;rw[Tu,x5 (by simp),<-E5,List.take_left]at bw;rw[jD];exact bw
 .rw[a_,aQ];have bt:=Sy (w:=w1) (g:=g) (n:=q) (os:=#[]) (e_ cc++List.replicate ((cc.mergeSort λx y=>decide (x<=y)).length-(e_ cc).length) 0).toArray;rw[grow_empty,aQ]at bt;exact ajA (Sy _) bt
def aiR(v:ak)(B:aa)(cc:aW)(w:ag)(h:w.ownsRow B 3 1 v cc (cc.map (Value.int .i64)))(Gt:cc.length<4611686018427387904):bg 88 #[v] w (JZ v B cc w):=by
 rcases h.2 with⟨rfl,bP⟩|⟨g,cap,cur,rfl,bc,af,ab,ad,ao,aR⟩
 .obtain rfl:cc=[]:=oC.1 bP;have eb:=I (λw=>Tryz.slices_Sort_int_none none 0 w);have ct:=I (λw=>Tryz.slices_Compact_int_empty none 0 w);have aH:e_ []=[]:=oC.1 (Nat.le_zero.1 (AY []));have bM:Hid (JZ bf B [] w (bL bf) w):=I ⟨_,rfl,⟨by rw[aH];rfl,.inl ⟨rfl,by rw[aH];rfl⟩⟩,rfl,⟨rfl,rfl,rfl,bB _,λ_ _ _=>rfl⟩⟩;clear h bP aH;go_enter func88,ntmps88
  go_wp2_with (first|(go_at_call 23;refine (eb _).mono ?_;rintro e w'⟨rfl,rfl⟩)|(go_at_call 24;refine (ct _).mono ?_;rintro e w'⟨rfl,rfl⟩))
  go_ret;exact bM
 .rw[jD]at ao aR;have al:g<w.heap.size:=(nW.1 af).1;have hm:Go.maxLen<=9223372036854775807:=by unfold Go.maxLen;omega
  have eb:=I (Tryz.slices_Sort_int g 0 cap cc w (JL af aR) al Gt);obtain⟨bA,jw⟩:∃bA,bA=cc.mergeSort λx y=>decide (x<=y):=⟨_,rfl⟩;have av:bA.length=cc.length:=by rw[jw];exact Ou _
  have dP:=I (λ(n:aa)(os:Array Obj)(w1:ag)(aQ:w1=grow (putRow (Value.int .i64) (Sort.ahead w n) g 0 bA.toArray) os)=>(by
   have c9:=JM (n:=n) (os:=os) bA.toArray af;rw[<-aQ]at c9;exact Tryz.slices_Compact_int g 0 cap bA w1 (JL c9 (Oe cur bA (by omega))) (by omega) (by omega):bg 24 #[ae (some (g,0)) bA.length cap] w1 _))
  have bM:=I (λ(n q:aa)(os:Array Obj)(w1 w2:ag)=>aeF (w:=w) (w1:=w1) (w2:=w2) (n:=n) (q:=q) (os:=os) bc af ab ad ao);unfold e_ at bM;rw[<-jw]at eb bM;rw[<-av]at eb bM⊢;clear jw h af aR av ab ad ao Gt hm;go_enter func88,ntmps88
  go_upto_region 2 with (go_at_call 23;refine eb.mono ?_;rintro e w1⟨rfl,n,os,aQ⟩;replace aQ:=I aQ)
  have ct:=I (dP n os w1 aQ);have eQ:=I (λq w2=>bM n q os w1 w2 aQ);clear dP bM aQ;go_wp2_with (go_at_call 24;refine ct.mono ?_;rintro e w2⟨rfl,q,a_⟩;replace a_:=I a_)
  have bS:=I (eQ q w2 a_);clear a_;go_ret;exact bS
def aeM(v:ak)(B:aa)(cc:aW)(w:ag)(h:w.ownsRow B 3 1 v cc (cc.map (Value.int .i64)))(Gt:cc.length<4611686018427387904):bg 58 #[v] w (JZ v B cc w):=by
 rcases h.2 with⟨rfl,bP⟩|⟨g,cap,cur,rfl,bc,af,ab,ad,ao,aR⟩
 .obtain rfl:cc=[]:=oC.1 bP;have eb:=I (λw=>Tryz.slices_Sort_int_none none 0 w);have ct:=I (λw=>Tryz.slices_Compact_int_empty none 0 w);have aH:e_ []=[]:=oC.1 (Nat.le_zero.1 (AY []));have bM:Hid (JZ bf B [] w (bL bf) w):=I ⟨_,rfl,⟨by rw[aH];rfl,.inl ⟨rfl,by rw[aH];rfl⟩⟩,rfl,⟨rfl,rfl,rfl,bB _,λ_ _ _=>rfl⟩⟩;clear h bP aH;go_enter func58,ntmps58
  go_wp2_with (first|(go_at_call 23;refine (eb _).mono ?_;rintro e w'⟨rfl,rfl⟩)|(go_at_call 24;refine (ct _).mono ?_;rintro e w'⟨rfl,rfl⟩))
  go_ret;exact bM
 .rw[jD]at ao aR;have al:g<w.heap.size:=(nW.1 af).1;have hm:Go.maxLen<=9223372036854775807:=by unfold Go.maxLen;omega
  have eb:=I (Tryz.slices_Sort_int g 0 cap cc w (JL af aR) al Gt);obtain⟨bA,jw⟩:∃bA,bA=cc.mergeSort λx y=>decide (x<=y):=⟨_,rfl⟩;have av:bA.length=cc.length:=by rw[jw];exact Ou _
  have dP:=I (λ(n:aa)(os:Array Obj)(w1:ag)(aQ:w1=grow (putRow (Value.int .i64) (Sort.ahead w n) g 0 bA.toArray) os)=>(by
   have c9:=JM (n:=n) (os:=os) bA.toArray af;rw[<-aQ]at c9;exact Tryz.slices_Compact_int g 0 cap bA w1 (JL c9 (Oe cur bA (by omega))) (by omega) (by omega):bg 24 #[ae (some (g,0)) bA.length cap] w1 _))
  have bM:=I (λ(n q:aa)(os:Array Obj)(w1 w2:ag)=>aeF (w:=w) (w1:=w1) (w2:=w2) (n:=n) (q:=q) (os:=os) bc af ab ad ao);unfold e_ at bM;rw[<-jw]at eb bM;rw[<-av]at eb bM⊢;clear jw h af aR av ab ad ao Gt hm;go_enter func58,ntmps58
  go_upto_region 2 with (go_at_call 23;refine eb.mono ?_;rintro e w1⟨rfl,n,os,aQ⟩;replace aQ:=I aQ)
  have ct:=I (dP n os w1 aQ);have eQ:=I (λq w2=>bM n q os w1 w2 aQ);clear dP bM aQ;go_wp2_with (go_at_call 24;refine ct.mono ?_;rintro e w2⟨rfl,q,a_⟩;replace a_:=I a_)
  have bS:=I (eQ q w2 a_);clear a_;go_ret;exact bS
end
abbrev dj(w:ag)(B:aa)(v:ak)(l:aW):Prop:=w.ownsRow B 3 1 v l (l.map (Value.int .i64))
def X4(n:J):dN:=[ah n]
def alJ(n:J):(X4 n).length=1:=rfl
def alK(l:aW):l.flatMap X4=l.map (Value.int .i64):=by
 induction l with
 |nil=>rfl
 |cons a r bO=>rw[zC,bO];rfl
abbrev gw(w:ag)(v:ak)(l:aW):Prop:=hP w X4 1 v l
def dj.reads{w:ag}{B:aa}{v:ak}{l:aW}(h:dj w B v l):gw w v l:=
 cb.jx alJ (B:=B) (e:=3) (by unfold cb;rw[alK];exact h)
def kP(a b:ak):Prop:=∀g,a.ownBlock=some g->b.ownBlock≠some g
def kP.symm{a b:ak}(h:kP a b):kP b a:=λg af bD=>h g bD af
def dj.other{w w':ag}{B:aa}{u v:ak}{l:aW}(h:dj w B u l)(al:w.grownBy w' v.ownBlock)(ap:kP v u):dj w' B u l:=by
 refine World.ownsRow.kept h al ?_
 cases hu:u.ownBlock with
 |none=>exact .inl rfl
 |some g=>exact .inr λe=>ap g e.symm hu
def kP.grown{W:ag}{B:aa}{u v v':ak}{l:aW}(aK:v'.ownBlock=v.ownBlock\/v'.ownBlock=some W.heap.size)(hu:dj W B u l)(ap:kP v u):kP v' u:=by
 intro g ab ad;rcases aK with h|h
 .exact ap g (h.symm.trans ab) ad
 .rw[h]at ab;have:=(iF hu g ad).2;have:=cJ ab;omega
def ll{w0 wr w1:ag}{B:aa}{v:ak}{l:aW}(ax:Kept w0 wr)(cN:dj wr B v l)(bc:w0.heap.size<=B)(al:wr.grownBy w1 v.ownBlock):Kept w0 w1:=by
 refine⟨al.os.trans ax.os,al.tape.trans ax.tape,al.output.trans ax.output,fN ax.size al.size,λb af=> ?_⟩;rw[al.block b (bG af ax.size) (λe=>by have:=(iF cN b e.symm).1;omega)];exact ax.block b af
def CT(xs:List cw):aW:=(xs.filter λx=>decide (x.o=7)).map (·.n)
def hZ(xs:List cw):aW:=(xs.filter λx=>decide (x.o=8)).map (·.n)
def ic(xs:List cw):aW:=(xs.filter λx=>decide (36<=x.o/\x.o<=39)).map (·.n)
def V0{xs:List cw}{i:aa}{x:cw}(h:xs[i]?=some x)(p:cw->Bool):((xs.take (i+1)).filter p).map (·.n)=((xs.take i).filter p).map (·.n)++(if p x then [x.n]else []):=by
 rw[qZ,h,zA,x8,k6];congr 1
 cases hp:p x<;>simp[hp]
def IN(xs:List cw)(p:cw->Bool)(i:aa):(((xs.take i).filter p).map (·.n)).length<=i:=by
 rw[er];exact fN (nX _ _) (by rw[gT];omega)
def aed(xs:List cw)(w:ag)(e:Ending)(w':ag):Prop:=
 ∃u1 u2 u3,e=bL (bj #[u1,u2,u3])/\gw w' u1 (e_ (CT xs))/\gw w' u2 (e_ (hZ xs))/\dj w' w u3 (e_ (ic xs))/\Kept w w'
def oY(n:J):∀u∈[Value.int .i64 n],u.oneCell'=true:=by
 intro u h;rw[kb]at h;subst h;rfl
structure nG(w:ag)(B:aa)(a b c:ak)(bq b5 dW:aW):Prop where
 j0:dj w B a bq
 mY:dj w B b b5
 kJ:dj w B c dW
 yB:kP a b
 ac:kP a c
 Af:kP b c
def nG.alloc{w:ag}{B:aa}{a b c:ak}{bq b5 dW:aW}(h:nG w B a b c bq b5 dW)(o:Obj):nG (w.alloc o) B a b c bq b5 dW:=⟨fX h.j0 o,fX h.mY o,fX h.kJ o,h.yB,h.ac,h.Af⟩
def vq{w:ag}{B:aa}{v:ak}{l:aW}{n:J}(h:w.ownsRow B 3 1 v (l.length+1) (l.map (Value.int .i64)++[ah n])):dj w B v (l++[n]):=by
 unfold dj;rw[fk,k6];exact h
def nG.eS{w w':ag}{B:aa}{a b c v':ak}{bq b5 dW:aW}{n:J}(h:nG w B a b c bq b5 dW)(aA:w'.ownsRow B 3 1 v' (bq.length+1) (bq.map (Value.int .i64)++[ah n]))(al:w.grownBy w' a.ownBlock)(aK:v'.ownBlock=a.ownBlock\/v'.ownBlock=some w.heap.size):
  nG w' B v' b c (bq++[n]) b5 dW:=⟨vq aA,h.mY.other al h.yB,h.kJ.other al h.ac,kP.grown aK h.mY h.yB,kP.grown aK h.kJ h.ac,h.Af⟩
def nG.swap{w:ag}{B:aa}{a b c:ak}{bq b5 dW:aW}(h:nG w B a b c bq b5 dW):nG w B b a c b5 bq dW:=⟨h.mY,h.j0,h.kJ,h.yB.symm,h.Af,h.ac⟩
def nG.ue{w:ag}{B:aa}{a b c:ak}{bq b5 dW:aW}(h:nG w B a b c bq b5 dW):nG w B c a b dW bq b5:=⟨h.kJ,h.j0,h.mY,h.ac.symm,h.Af.symm,h.yB⟩
def nG.s1{w w':ag}{B:aa}{a b c u:ak}{bq b5 dW m:aW}(h:nG w B a b c bq b5 dW)(aA:dj w' B u m)(aK:u.ownBlock=a.ownBlock)(al:w.grownBy w' a.ownBlock):nG w' B u b c m b5 dW:=
 ⟨aA,h.mY.other al h.yB,h.kJ.other al h.ac,kP.grown (.inl aK) h.mY h.yB,kP.grown (.inl aK) h.kJ h.ac,h.Af⟩
def kP.nil(v:ak):kP bf v:=λg h=>by cases h
def nG.nil(w:ag)(B:aa):nG w B bf bf bf [] [] []:=⟨qh _ _ _ _,qh _ _ _ _,qh _ _ _ _,kP.nil _,kP.nil _,kP.nil _⟩
def SI(v:ak)(xs:List cw)(w:ag)(cd:iU w v xs):bg 57 #[v] w (aed xs w):=by
 obtain⟨cd,av,-⟩:=cd;obtain⟨A,cap,rfl,a7⟩:=cd.at_;obtain⟨n,tc⟩:∃n,n=xs.length:=⟨_,rfl⟩;rw[<-tc]at a7 av⊢;have bS:=I tc;have cU:=I (λ(v:ak)(cc:aW)(w1:ag)(h:dj w1 w v cc)(bP:cc.length<4611686018427387904)=>aiR v w cc w1 h bP);unfold JZ at cU;clear tc cd;obtain⟨i0,aD,fY,cG,eM⟩:=hy Tryz.td;go_enter func57,ntmps57
 go_wp2_with fail
 go_loopw [5,6,7,12] (λa b c y wr=>∃i:aa,y=ah i/\i<=n/\Kept w wr/\nG wr w a b c (CT (xs.take i)) (hZ (xs.take i)) (ic (xs.take i))) (λ_ _ _ y _=>n-(intOf y).toNat)
 case atStart=>exact⟨0,rfl,d' _,aG _,nG.nil _ _⟩
 case round=>
  obtain⟨i,rfl,dG,ax,ao⟩:=hrel;by_cases aN:i<n
  .obtain⟨c9,j0,rfl,fU,ef⟩:=a7 (by omega);have al:xs[i]?=some (xs[i]'(by have:=bS.out;omega)):=bn _;obtain⟨bX,bQ⟩:=ef i _ al;generalize xs[i]'(by have:=bS.out;omega)=X at*;obtain⟨op,N⟩:=X;have iI:=ax.aI fU bX;have kk:=ax.aI fU bQ;have db:(i:J)<n:=by omega
   dsimp only at iI kk;have r1:=IN xs (λx=>decide (x.o=7)) i;have Fz:=IN xs (λx=>decide (x.o=8)) i;have yr:=IN xs (λx=>decide (36<=x.o/\x.o<=39)) i;have qx:=V0 al (λx=>decide (x.o=7));have pd:=V0 al (λx=>decide (x.o=8));have re:=V0 al (λx=>decide (36<=x.o/\x.o<=39));have bM:Hid (CT (xs.take (i+1))=CT (xs.take i)++(if op=7 then [N]else [])/\hZ (xs.take (i+1))=hZ (xs.take i)++(if op=8 then [N]else [])/\ic (xs.take (i+1))=ic (xs.take i)++(if 36<=op/\op<=39 then [N]else [])):=
    I ⟨by simpa[CT] using qx,by simpa[hZ] using pd,by simpa[ic] using re⟩
   change (CT (xs.take i)).length<=i at r1;change (hZ (xs.take i)).length<=i at Fz;change (ic (xs.take i)).length<=i at yr;generalize CT (xs.take i)=bq at*;generalize hZ (xs.take i)=b5 at*;generalize ic (xs.take i)=dW at*;clear ef a7 al bX bQ qx pd re;go_upto_region 5 with fail
   have oM:=aB.new wr 101 #[op,N];have fT:Kept w (wr.alloc (.cells #[op,N] 101)):=Kept.alloc ax _;have aR:=nG.alloc ao (.cells #[op,N] 101);clear ao ax iI kk;generalize wr.alloc (.cells #[op,N] 101)=W at fT oM aR⊢;generalize wr.heap.size=g at oM⊢;have d0:=oM.cell 0;have d1:=oM.cell 1;have dl:=oM.lt;simp only[hL,iP,jd]at d0 d1;have hWs:=fT.size;have iR:=I aR;have n7:=I fT;clear oM aR fT;rcases (show op=7\/op=8\/op=36\/op=37\/op=38\/op=39\/(op≠7/\op≠8/\¬(36<=op/\op<=39)) by omega)with rfl|rfl|hm|hm|hm|hm|⟨bd,a8,dI⟩
   .go_wp2_with (at_builtin;refine jB _ rfl (.tmp 20) (.tmp 23) 46 rfl w 3 i0 () 1 8 underlying46 aD fY cG eM rfl (by decide) _ bq (bq.map (.int .i64)) rfl (fX iR.j0 _) ⟨W.heap.size,0,none⟩ 1 1 [ah N] rfl rfl (n0 _ _ _) (oY N) (by unfold maxLen;omega) (by omega) (by simp;omega) ?_;intro v' c4 gy cu _ dK;have cI:=I (bb gy (bb cu dK));clear gy cu dK)
    obtain⟨ab,ad,bw⟩:=cI.out;go_roundw
    case rel=>exact⟨i+1,rfl,aN,ll (n7.alloc _) (fX iR.j0 _) (bB _) ad,by rw[bM.1,bM.2.1,bM.2.2,aP rfl,aw (by omega),aw (by omega),hj,hj];exact (iR.alloc _).eS ab ad bw⟩
    case measure=>simp[intOf];omega
   .go_wp2_with (at_builtin;refine jB _ rfl (.tmp 27) (.tmp 30) 46 rfl w 3 i0 () 1 8 underlying46 aD fY cG eM rfl (by decide) _ b5 (b5.map (.int .i64)) rfl (fX iR.mY _) ⟨W.heap.size,0,none⟩ 1 1 [ah N] rfl rfl (n0 _ _ _) (oY N) (by unfold maxLen;omega) (by omega) (by simp;omega) ?_;intro v' c4 gy cu _ dK;have cI:=I (bb gy (bb cu dK));clear gy cu dK)
    obtain⟨ab,ad,bw⟩:=cI.out;go_roundw
    case rel=>exact⟨i+1,rfl,aN,ll (n7.alloc _) (fX iR.mY _) (bB _) ad,by rw[bM.1,bM.2.1,bM.2.2,aw (by omega),aP rfl,aw (by omega),hj,hj];exact ((iR.alloc _).swap.eS ab ad bw).swap⟩
    case measure=>simp[intOf];omega
   .have r9:(op==7)=false:=by simp;omega
    have DR:(op==8)=false:=by simp;omega
    have L1:(op==36)=true:=by simp;omega
    have cB:=I hm;clear hm;go_wp2_with (at_builtin;refine jB _ rfl (.tmp 37) (.tmp 40) 46 rfl w 3 i0 () 1 8 underlying46 aD fY cG eM rfl (by decide) _ dW (dW.map (.int .i64)) rfl (fX iR.kJ _) ⟨W.heap.size,0,none⟩ 1 1 [ah N] rfl rfl (n0 _ _ _) (oY N) (by unfold maxLen;omega) (by omega) (by simp;omega) ?_;intro v' c4 gy cu _ dK;have cI:=I (bb gy (bb cu dK));clear gy cu dK)
    obtain⟨ab,ad,bw⟩:=cI.out;go_roundw
    case rel=>exact⟨i+1,rfl,aN,ll (n7.alloc _) (fX iR.kJ _) (bB _) ad,by rw[bM.1,bM.2.1,bM.2.2,aw (by have:=cB.out;omega),aw (by have:=cB.out;omega),aP (by have:=cB.out;omega),hj,hj];exact ((iR.alloc _).ue.eS ab ad bw).ue.ue⟩
    case measure=>simp[intOf];omega
   .have r9:(op==7)=false:=by simp;omega
    obtain⟨DR,L1,Qh⟩:(op==8)=false/\(op==36)=false/\(op==37)=true:=by refine⟨?_,?_,?_⟩<;>(simp;omega)
    have cB:=I hm;clear hm;go_wp2_with (at_builtin;refine jB _ rfl (.tmp 37) (.tmp 40) 46 rfl w 3 i0 () 1 8 underlying46 aD fY cG eM rfl (by decide) _ dW (dW.map (.int .i64)) rfl (fX iR.kJ _) ⟨W.heap.size,0,none⟩ 1 1 [ah N] rfl rfl (n0 _ _ _) (oY N) (by unfold maxLen;omega) (by omega) (by simp;omega) ?_;intro v' c4 gy cu _ dK;have cI:=I (bb gy (bb cu dK));clear gy cu dK)
    obtain⟨ab,ad,bw⟩:=cI.out;go_roundw
    case rel=>exact⟨i+1,rfl,aN,ll (n7.alloc _) (fX iR.kJ _) (bB _) ad,by rw[bM.1,bM.2.1,bM.2.2,aw (by have:=cB.out;omega),aw (by have:=cB.out;omega),aP (by have:=cB.out;omega),hj,hj];exact ((iR.alloc _).ue.eS ab ad bw).ue.ue⟩
    case measure=>simp[intOf];omega
   .have r9:(op==7)=false:=by simp;omega
    obtain⟨DR,L1,Qh,VK⟩:(op==8)=false/\(op==36)=false/\(op==37)=false/\(op==38)=true:=by refine⟨?_,?_,?_,?_⟩<;>(simp;omega)
    have cB:=I hm;clear hm;go_wp2_with (at_builtin;refine jB _ rfl (.tmp 37) (.tmp 40) 46 rfl w 3 i0 () 1 8 underlying46 aD fY cG eM rfl (by decide) _ dW (dW.map (.int .i64)) rfl (fX iR.kJ _) ⟨W.heap.size,0,none⟩ 1 1 [ah N] rfl rfl (n0 _ _ _) (oY N) (by unfold maxLen;omega) (by omega) (by simp;omega) ?_;intro v' c4 gy cu _ dK;have cI:=I (bb gy (bb cu dK));clear gy cu dK)
    obtain⟨ab,ad,bw⟩:=cI.out;go_roundw
    case rel=>exact⟨i+1,rfl,aN,ll (n7.alloc _) (fX iR.kJ _) (bB _) ad,by rw[bM.1,bM.2.1,bM.2.2,aw (by have:=cB.out;omega),aw (by have:=cB.out;omega),aP (by have:=cB.out;omega),hj,hj];exact ((iR.alloc _).ue.eS ab ad bw).ue.ue⟩
    case measure=>simp[intOf];omega
   .have r9:(op==7)=false:=by simp;omega
    obtain⟨DR,L1,Qh,VK,e39⟩:(op==8)=false/\(op==36)=false/\(op==37)=false/\(op==38)=false/\(op==39)=true:=by refine⟨?_,?_,?_,?_,?_⟩<;>(simp;omega)
    have cB:=I hm;clear hm;go_wp2_with (at_builtin;refine jB _ rfl (.tmp 37) (.tmp 40) 46 rfl w 3 i0 () 1 8 underlying46 aD fY cG eM rfl (by decide) _ dW (dW.map (.int .i64)) rfl (fX iR.kJ _) ⟨W.heap.size,0,none⟩ 1 1 [ah N] rfl rfl (n0 _ _ _) (oY N) (by unfold maxLen;omega) (by omega) (by simp;omega) ?_;intro v' c4 gy cu _ dK;have cI:=I (bb gy (bb cu dK));clear gy cu dK)
    obtain⟨ab,ad,bw⟩:=cI.out;go_roundw
    case rel=>exact⟨i+1,rfl,aN,ll (n7.alloc _) (fX iR.kJ _) (bB _) ad,by rw[bM.1,bM.2.1,bM.2.2,aw (by have:=cB.out;omega),aw (by have:=cB.out;omega),aP (by have:=cB.out;omega),hj,hj];exact ((iR.alloc _).ue.eS ab ad bw).ue.ue⟩
    case measure=>simp[intOf];omega
   .have r9:(op==7)=false:=by simp;omega
    obtain⟨DR,L1,Qh,VK,e39⟩:(op==8)=false/\(op==36)=false/\(op==37)=false/\(op==38)=false/\(op==39)=false:=by refine⟨?_,?_,?_,?_,?_⟩<;>(simp;omega)
    have cB:=I (bb bd (bb a8 dI));clear bd a8 dI;go_wp2_with fail
    go_roundw
    case rel=>exact⟨i+1,rfl,aN,n7,by rw[bM.1,bM.2.1,bM.2.2,aw cB.1,aw cB.2.1,aw cB.2.2,hj,hj,hj];exact iR⟩
    case measure=>simp[intOf];omega
  .obtain rfl:i=n:=by omega
   have db:¬((i:J)<i):=by omega
   rw[mH (by have:=bS.out;omega)]at ao;have r1:=IN xs (λx=>decide (x.o=7)) i;have Fz:=IN xs (λx=>decide (x.o=8)) i;have yr:=IN xs (λx=>decide (36<=x.o/\x.o<=39)) i;rw[mH (by have:=bS.out;omega)]at r1 Fz yr;change (CT xs).length<=i at r1;change (hZ xs).length<=i at Fz;change (ic xs).length<=i at yr;obtain⟨bq,aQ⟩:∃l,l=CT xs:=⟨_,rfl⟩;obtain⟨b5,a_⟩:∃l,l=hZ xs:=⟨_,rfl⟩;obtain⟨dW,cv⟩:∃l,l=ic xs:=⟨_,rfl⟩;rw[<-aQ,<-a_,<-cv]at ao;rw[<-aQ]at r1;rw[<-a_]at Fz;rw[<-cv]at yr;have cW:=I (bb aQ (bb a_ cv));clear aQ a_ cv;have pJ:=I (bb ax ao);clear ao ax a7;go_wp2_with (first
    |(go_at_call 88;refine (cU _ bq _ pJ.2.j0 (by omega)).mono ?_;rintro e w1⟨v1,rfl,dM,dQ,fP⟩;have iR:=I (bb (ll pJ.out.1 pJ.out.2.j0 (bB _) fP) (pJ.out.2.s1 dM dQ fP));clear dM dQ fP)
    |(go_at_call 88;refine (cU _ b5 _ iR.2.mY (by omega)).mono ?_;rintro e w2⟨v2,rfl,dM,dQ,fP⟩;have pK:=I (bb (ll iR.out.1 iR.out.2.mY (bB _) fP) (iR.out.2.swap.s1 dM dQ fP).swap);clear dM dQ fP)
    |(go_at_call 88;refine (cU _ dW _ pK.2.kJ (by omega)).mono ?_;rintro e ch⟨v3,rfl,dM,dQ,fP⟩;have gm:=I (bb (ll pK.out.1 pK.out.2.kJ (bB _) fP) (pK.out.2.ue.s1 dM dQ fP).ue.ue);clear dM dQ fP))
   go_ret3
   exact⟨v1,v2,v3,rfl,by rw[<-cW.1];exact gm.2.j0.reads,by rw[<-cW.2.1];exact gm.2.mY.reads,by rw[<-cW.2.2];exact gm.2.kJ,gm.1⟩
def n8(w:ag)(B:aa)(v:ak)(l:aW):Prop:=
 ∃g off cap cur,v=ae (some ⟨g,off,none⟩) l cap/\B<=g/\aB w g 3 cur/\l.length<=cap/\cap<=Go.maxLen/\off+cap<=cur.size/\∀(j:aa)(x:J),l[j]?=some x->cur[off+j]?=some (ah x)
def n8.low{w:ag}{B ur:aa}{v:ak}{l:aW}(h:n8 w B v l)(bc:ur<=B):n8 w ur v l:=by
 obtain⟨g,off,cap,cur,aK,af,h⟩:=h;exact⟨g,off,cap,cur,aK,fN bc af,h⟩
def n8.kept{w w':ag}{B:aa}{v:ak}{l:aW}(h:n8 w B v l)(ai:Kept w w'):n8 w' B v l:=by
 obtain⟨g,off,cap,cur,aK,af,bc,h⟩:=h;exact⟨g,off,cap,cur,aK,af,bc.kept ai,h⟩
def n8.other{w w':ag}{B:aa}{v:ak}{l:aW}(h:n8 w B v l){p:Addr}{u:ak}(hw:w'=w.setCell p u)(bU:v.ownBlock≠some p.block):n8 w' B v l:=by
 obtain⟨g,off,cap,cur,aK,af,bc,h⟩:=h;subst hw;exact⟨g,off,cap,cur,aK,af,bc.far (λe=>bU (by rw[aK,<-e];rfl)) u,h⟩
def n8.ana{w:ag}{B:aa}{v:ak}{l:aW}(h:w.ownsRow B 3 1 v l (l.map (Value.int .i64)))(hp:0<l.length):n8 w B v l:=by
 rcases h.2 with⟨_,ar⟩|⟨g,cap,cur,aK,af,al,ab,ad,ao,aR⟩
 .omega
 .refine⟨g,0,cap,cur,aK,af,al,ab,ad,by omega,λj x ay=> ?_⟩;have av:=(b2 ay).1;have bw:(cur.toList.take (l.length*1))[j]?=(l.map (Value.int .i64))[j]?:=by rw[aR]
  rw[tv (by omega),hS,ay,Ba]at bw;rw[ql,bw];rfl
def afv(w:ag){ops:Array Oper}{rest:List Oper}{o:Oper}{a:Act}{Q:Exit->Act->ag->Prop}(MV:o.guard=none)(s x:Operand)(qO:o.op=Op.call {callee:=Callee.builtin Builtin.append,args:=#[s,x],argTypes:=#[46,46]})(i:TypeInfo)(aD:prog.info? 3=some i)(fY:i.zero=some (ah 0))(cG:i.size=1)(eM:i.bytes=8)(B:aa)(v:ak)(l:aW)(aO:a.eval s=v)(az:n8 w B v l)(PM:Addr)(c:aa)(X:J)(aj:a.eval x=ae (some PM) 1 c)(aq:∀j u,[Value.int .i64 X][j]?=some u->aU w (PM.add j)=some u)(hlen:l.length<=1000000)(bc:B<=w.heap.size)(h:∀v' w',n8 w' B v' (l++[X])->w.grownBy w' v.ownBlock->(v'.ownBlock=v.ownBlock\/∃ju,v'.ownBlock=some ju/\w.heap.size<=ju)->wpList prog ops Q rest (a.put o.dst v') w'):wpList prog ops Q (o::rest) a w:=by
 obtain⟨g,off,cap,cur,rfl,af,oM,ab,ad,ao,aR⟩:=az;have hm:Go.maxLen=9223372036854775807:=by unfold Go.maxLen;omega
 refine wpList_append_arg w MV s x 46 qO 3 i () 1 8 underlying46 aD fY cG eM rfl (by decide) g off l cap (l.map (Value.int .i64)) aO (by simp) (λj u ay=> ?_) PM 1 c [ah X] aj rfl aq (oY X) (λaC j ay=> ?_) (by rw[hm];omega) (by omega) (λaC=> ?_) (λaC v' w' cN al=> ?_)
 .rw[oM.cell];rw[hS]at ay
  cases xw:l[j]? with
  |none=>rw[xw]at ay;cases ay
  |some y=>rw[xw]at ay;rw[aR j y xw];exact ay
 .rw[oM.cell,oM.frozen];refine⟨?_,rfl⟩;rw[sy]at ay;rw[J9 (by omega)];rfl
 .have aQ:w.setCells g (off+l.length*1) [Value.int .i64 X]=w.setCell ⟨g,off+l.length,none⟩ X:=by simp[World.setCells]
  rw[aQ];have im:=oM.ba (off+l.length) X;refine h _ _ ⟨g,off,cap,_,by rw[fk];rfl,af,im,by rw[fk];exact aC,ad,by rw[Tf];exact ao,λj y ay=> ?_⟩ ?_ (.inl rfl)
  .rw[Hg];rcases rT j l with aN|nI
   .rw[lQ aN]at ay;rw[aw (by omega)];exact aR j y ay
   .rw[k4 nI]at ay;have:j=l.length:=by
     rcases zB (j-l.length)with ar|ar
     .omega
     .rw[lR (by simp;omega)]at ay;cases ay
    subst this;rw[k7]at ay;rw[aP rfl,aP (by omega)]
    cases ay;rfl
  .refine⟨rfl,rfl,rfl,by simp,λk ai bU=> ?_⟩;exact jQ w _ _ k (λe=>bU (by rw[e];rfl))
 .have iX:n8 w' w v' (l++[X]):=n8.ana (by rw[fk,k6];exact cN) (by simp);refine h _ _ (iX.low bc) ⟨al.os,al.tape,al.output,al.size,λk ai _=>al.block k ai (by simp)⟩ (.inr ?_);obtain⟨ju,_,_,_,rfl,D5,_⟩:=iX;exact⟨ju,rfl,D5⟩
def acZ{w0 wr w1:ag}{B:aa}{v:ak}{l:aW}(ax:Kept w0 wr)(az:n8 wr B v l)(bc:w0.heap.size<=B)(al:wr.grownBy w1 v.ownBlock):Kept w0 w1:=by
 obtain⟨g,off,cap,cur,rfl,af,-⟩:=az;refine⟨al.os.trans ax.os,al.tape.trans ax.tape,al.output.trans ax.output,fN ax.size al.size,λb hd=> ?_⟩;rw[al.block b (bG hd ax.size) (λe=>by have:=cJ e;simp only at this;omega)];exact ax.block b hd
def ad9{P:Program}{f:FuncId}{args:ho}{w:ag}{v:ak}(h:Calls P f args w λe w'=>e=bL v/\w'=w):Calls P f args w λe w'=>e=bL v/\w=w':=
 h.mono λ_ _⟨he,hm⟩=>⟨he,hm.symm⟩
def k2(x:J):∃n:aa,n<18446744073709551616/\IntKind.u64.wrap x=(n:J):=by
 refine⟨(x% 18446744073709551616).toNat,?_,?_⟩
 .omega
 .simp[IntKind.wrap,IntKind.bits,IntKind.signed];omega
def Vb(o:BinOp)(a b:J):∃n:aa,n<18446744073709551616/\bits o IntKind.u64 a b=(n:J):=k2 _
def FZ(eU:J)(dr u:aa):aa->aa->aa->aa×aa
 |0,q,r=>(q,r)
 |F+1,q,r=>
  if 4294967296<=q\/IntKind.u64.wrap (IntKind.u64.wrap (4294967296*(r:J))+u)<IntKind.u64.wrap ((q:J)*eU)then
   (if 4294967296<=(IntKind.u64.wrap ((r:J)+dr)).toNat then ((IntKind.u64.wrap ((q:J)-1)).toNat,(IntKind.u64.wrap ((r:J)+dr)).toNat)
    else FZ eU dr u F (IntKind.u64.wrap ((q:J)-1)).toNat (IntKind.u64.wrap ((r:J)+dr)).toNat)
  else (q,r)
def uN(r:aa):aa:=if r<4294967296 then 4294967296-r else 4294967297
def ahz{y:aa}(ar:0<y)(ab:y<18446744073709551616):1<=Lib.bitLen y/\Lib.bitLen y<=64/\9223372036854775808<=y*2^(64-Lib.bitLen y)/\y*2^(64-Lib.bitLen y)<18446744073709551616:=by
 obtain⟨a,b,c⟩:=Lib.bitLenAux_bounds 64 y (by simpa using ab) (by omega);have d:=Lib.bitLen_le y 64 (bB _) (by simpa using ab);have e:Lib.bitLen y=Lib.bitLenAux 64 y:=rfl;rw[<-e]at a b c;generalize Lib.bitLen y=l at*;refine⟨a,d,?_,?_⟩
 .calc 9223372036854775808=2^(l-1)*2^(64-l):=by rw[<-Nat.pow_add,show l-1+(64-l)=63 by omega]
   _<=y*2^(64-l):=ZS _ b
 .calc y*2^(64-l)<2^l*2^(64-l):=Nat.mul_lt_mul_of_pos_right c (Nat.two_pow_pos _)
   _=18446744073709551616:=by rw[<-Nat.pow_add,show l+(64-l)=64 by omega]
def VF(aD e2 y:aa)(aT:aD<y)(av:e2<18446744073709551616)(bZ:y<18446744073709551616):
  ∃q r:aa,q<18446744073709551616/\r<18446744073709551616/\sD 198 #[.int .u64 aD,.int .u64 e2,.int .u64 y] (bj #[.int .u64 q,.int .u64 r]):=by
 have hy0:((y:J)==0)=false:=by simp;omega
 have RU:¬((y:J)<=aD):=by omega
 cases ar:((aD:J)==0)
 case true=>
  have az:e2/y<=e2:=OC _ _;have aC:e2% y<y:=Nat.mod_lt _ (by omega);have aQ:IntKind.u64.wrap ((e2:J)/y)=((e2/y:aa):J):=wrapN (by omega);have a_:((e2:J)% y)=((e2% y:aa):J):=rfl;generalize e2/y=Q at*;generalize e2% y=R at*;refine⟨Q,R,by omega,by omega,λw=> ?_⟩;go_enter func198,ntmps198
  go_wp2_with fail
  refine nc (by kernel_rfl) (by kernel_rfl) ?_
  repeat (go_big_quiet_step (fail))
  refine f' ?_;rintro _⟨⟨cj,eX⟩,rfl⟩;go_wp2_with fail
  go_ret2
  exact⟨by rw[a_];rfl,eX⟩
 obtain⟨eS,a2,a3,a4⟩:=ahz (y:=y) (by omega) bZ;obtain⟨s,aO⟩:∃s,s=64-Lib.bitLen y:=⟨_,rfl⟩;have hD:IntKind.u64.wrap (64-((Lib.bitLen y:aa):J))=(s:J):=by rw[show 64-((Lib.bitLen y:aa):J)=(s:J) by omega];exact wrapN (by omega)
 have es:min s 64=s:=by omega
 have e64:(64:J)-s=((64-s:aa):J):=by omega
 have es2:min (64-s) 64=64-s:=by omega
 rw[<-aO]at a3 a4;clear aO;obtain⟨Y,yX⟩:∃Y,Y=y*2^s:=⟨_,rfl⟩;have aQ:IntKind.u64.wrap ((y:J)*2^s)=(Y:J):=by
  rw[yX,show ((y:J)*2^s)=((y*2^s:aa):J) by simp];exact wrapN a4
 rw[<-yX]at a3 a4;clear yX;obtain⟨dr,RU⟩:∃dr,dr=Y/4294967296:=⟨_,rfl⟩;have y1p:0<dr:=by omega
 have y1l:dr<4294967296:=by omega
 have a_:(Y:J)/4294967296=(dr:J):=by omega
 have x1:((dr:J)==0)=false:=by simp;omega
 clear RU;obtain⟨eU,as2,cv⟩:=Vb .and (Y:J) 4294967295;obtain⟨U,ji,h_⟩:=Vb .or (IntKind.u64.wrap ((aD:J)*2^s)) ((e2:J)/2^(64-s));obtain⟨L,bE,ko⟩:=k2 ((e2:J)*2^s);obtain⟨u1,qB⟩:∃u1:aa,(L:J)/4294967296=u1:=⟨L/4294967296,rfl⟩;obtain⟨u0,hu0,r9⟩:=Vb .and (L:J) 4294967295;obtain⟨bd,jn,DR⟩:=k2 ((U:J)/dr);obtain⟨dM,xz,L2⟩:=k2 ((bd:J)*dr);obtain⟨hh,pt,Qg⟩:=k2 (U-dM);obtain⟨H',yw,hQ1⟩:∃H' yw,FZ eU dr u1 (uN hh+1) bd hh=(H',yw):=⟨_,_,rfl⟩;obtain⟨c9,fU,f1⟩:=k2 ((U:J)*4294967296);obtain⟨bW,hd,f2⟩:=k2 ((c9:J)+u1);obtain⟨j8,qF,f3⟩:=k2 ((H':J)*Y);obtain⟨V,c6,f4⟩:=k2 ((bW:J)-j8);have f5:IntKind.u64.wrap ((V:J)/dr)=((V/dr:aa):J):=wrapN (Oy (OC _ _) c6);have Xu:V/dr<18446744073709551616:=Oy (OC _ _) c6;generalize V/dr=gK at f5 Xu;obtain⟨dX,xy,f6⟩:=k2 ((gK:J)*dr);obtain⟨oy,xA,f7⟩:=k2 ((V:J)-dX);obtain⟨H_,r4,hQ0⟩:∃H_ r4,FZ eU dr u0 (uN oy+1) gK oy=(H_,r4):=⟨_,_,rfl⟩;obtain⟨aY,dE,g1⟩:=k2 ((H':J)*4294967296);obtain⟨Q,cL,g2⟩:=k2 ((aY:J)+H_);obtain⟨a',jj,g3⟩:=k2 ((V:J)*4294967296);obtain⟨bu,uQ,g4⟩:=k2 ((a':J)+u0);obtain⟨b4,I_,g5⟩:=k2 ((H_:J)*Y);obtain⟨b_,Gj,g6⟩:=k2 ((bu:J)-b4);have g7:(b_:J)/2^s=((b_/2^s:aa):J):=by simp
 have aJ:b_/2^s<18446744073709551616:=Oy (OC _ _) Gj;obtain⟨R,ja⟩:∃R,R=b_/2^s:=⟨_,rfl⟩;rw[<-ja]at g7 aJ;clear ja;clear bE a3 a4 eS a2 av aT;refine⟨Q,R,by omega,by omega,λw=> ?_⟩;go_enter func198,ntmps198
 go_upto_block 0 with (go_at_call 215;refine (ad9 (Tryz.bits_LeadingZeros64 _ _ (by omega) (by omega))).mono ?_;rintro e w'⟨rfl,rfl⟩)
 have gi:=I (aG w);go_cut [15,16] (λa b cj=>a= .int .u64 H'/\b= .int .u64 yw/\Kept w cj)
 case first=>
  go_wp2_with fail
  go_loop [15,16] (λa b=>∃q r F:aa,a= .int .u64 q/\b= .int .u64 r/\q<18446744073709551616/\r<18446744073709551616/\uN r<F/\FZ eU dr u1 F q r=(H',yw)) (λ_ b=>uN (intOf b).toNat)
  case atStart=>exact⟨bd,hh,uN hh+1,rfl,rfl,jn,pt,by omega,hQ1⟩
  case round=>
   obtain⟨q,r,F,rfl,rfl,az,aC,hF,a6⟩:=hrel
   cases F with
   |zero=>omega
   |succ F=>
    obtain⟨m1,po,au⟩:=k2 ((q:J)*eU);obtain⟨m2,lG,bt⟩:=k2 (4294967296*(r:J));obtain⟨m3,y6,bF⟩:=k2 ((m2:J)+u1);obtain⟨G1,pr,ck⟩:=k2 ((q:J)-1);obtain⟨lo,u_,cy⟩:=k2 ((r:J)+dr);rw[FZ,bt,bF,au,ck,cy,c7,c7]at a6;have MW:(¬4294967296<=lo)->uN lo<uN r:=λh=>by
     unfold uN;have:IntKind.u64.wrap ((r:J)+dr)=((r:J)+dr)% 18446744073709551616:=by simp[IntKind.wrap,IntKind.bits,IntKind.signed]
     rw[this]at cy;split<;>split<;>omega
    have eQ:=I MW;clear MW;rcases (show (¬(4294967296:J)<=q/\¬(m3:J)<m1)\/(4294967296:J)<=q\/(¬(4294967296:J)<=q/\(m3:J)<m1) by omega)with⟨a7,bc⟩|a7|⟨a7,bc⟩
    case inl=>
     rw[aw (by omega)]at a6;obtain⟨rfl,rfl⟩:=A9 a6;clear a6 eQ ck cy hF;go_wp2_with fail
     go_meet;exact⟨rfl,rfl,gi⟩
    all_goals
     rw[aP (by omega)]at a6;by_cases aE:(4294967296:J)<=lo
     .rw[aP (by omega)]at a6;obtain⟨rfl,rfl⟩:=A9 a6;clear a6 eQ hF;go_wp2_with fail
      go_meet;exact⟨rfl,rfl,gi⟩
     .rw[aw (by omega)]at a6;have aX:=I a6;have bM:=I (bG (eQ (by omega)) (Nat.le_of_lt_succ hF));clear a6 hF;go_wp2_with fail
      go_round
      case rel=>exact⟨G1,lo,F,rfl,rfl,pr,u_,bM,aX⟩
      case measure=>simpa[intOf] using eQ.out (by omega)
 case rest=>
  obtain⟨rfl,rfl,M7⟩:=hcut;have gi:=I M7;clear M7;go_upto_block 2 with fail
  go_cut [18,16] (λa b cj=>a= .int .u64 H_/\b= .int .u64 r4/\Kept w cj)
  case first=>
   go_wp2_with fail
   go_loop [18,16] (λa b=>∃q r F:aa,a= .int .u64 q/\b= .int .u64 r/\q<18446744073709551616/\r<18446744073709551616/\uN r<F/\FZ eU dr u0 F q r=(H_,r4)) (λ_ b=>uN (intOf b).toNat)
   case atStart=>exact⟨gK,oy,uN oy+1,rfl,rfl,Xu,xA,by omega,hQ0⟩
   case round=>
    obtain⟨q,r,F,rfl,rfl,az,aC,hF,a6⟩:=hrel
    cases F with
    |zero=>omega
    |succ F=>
     obtain⟨m1,po,au⟩:=k2 ((q:J)*eU);obtain⟨m2,lG,bt⟩:=k2 (4294967296*(r:J));obtain⟨m3,y6,bF⟩:=k2 ((m2:J)+u0);obtain⟨G1,pr,ck⟩:=k2 ((q:J)-1);obtain⟨lo,u_,cy⟩:=k2 ((r:J)+dr);rw[FZ,bt,bF,au,ck,cy,c7,c7]at a6;have MW:(¬4294967296<=lo)->uN lo<uN r:=λh=>by
      unfold uN;have:IntKind.u64.wrap ((r:J)+dr)=((r:J)+dr)% 18446744073709551616:=by simp[IntKind.wrap,IntKind.bits,IntKind.signed]
      rw[this]at cy;split<;>split<;>omega
     have eQ:=I MW;clear MW;rcases (show (¬(4294967296:J)<=q/\¬(m3:J)<m1)\/(4294967296:J)<=q\/(¬(4294967296:J)<=q/\(m3:J)<m1) by omega)with⟨a7,bc⟩|a7|⟨a7,bc⟩
     case inl=>
      rw[aw (by omega)]at a6;obtain⟨rfl,rfl⟩:=A9 a6;clear a6 eQ ck cy hF;go_wp2_with fail
      go_meet;exact⟨rfl,rfl,gi⟩
     all_goals
      rw[aP (by omega)]at a6;by_cases aE:(4294967296:J)<=lo
      .rw[aP (by omega)]at a6;obtain⟨rfl,rfl⟩:=A9 a6;clear a6 eQ hF;go_wp2_with fail
       go_meet;exact⟨rfl,rfl,gi⟩
      .rw[aw (by omega)]at a6;have aX:=I a6;have bM:=I (bG (eQ (by omega)) (Nat.le_of_lt_succ hF));clear a6 hF;go_wp2_with fail
       go_round
       case rel=>exact⟨G1,lo,F,rfl,rfl,pr,u_,bM,aX⟩
       case measure=>simpa[intOf] using eQ.out (by omega)
  case rest=>
   obtain⟨rfl,rfl,M7⟩:=hcut;have gi:=I M7;clear M7;go_wp2_with fail
   go_ret2
   exact⟨rfl,gi⟩
def Sc(x y:aa)(aj:x<18446744073709551616)(bZ:y<18446744073709551616)(w:ag):
  bg 197 #[.int .u64 x,.int .u64 y] w λe w'=>e=bL (bj #[.int .u64 ((x*y/18446744073709551616:aa):J),.int .u64 ((x*y% 18446744073709551616:aa):J)])/\w=w':=
 ad9 (Tryz.bits_Mul64 x y aj bZ w)
def amQ(c n d m:J)(aq:iT c)(aH:iT n)(aE:iT d):∃q e:J,iT q/\sD 223 #[c,n,d,m] (bj #[q,e]):=by
 by_cases aK:C5 m=true
 case neg=>
  refine⟨0,1,⟨by decide,by decide⟩,λw=> ?_⟩;go_enter func223,ntmps223
  go_wp2_with (go_at_call 216;refine (so _ _).mono ?_;rintro e w'⟨rfl,rfl⟩)
  go_ret2
  exact⟨rfl,aG _⟩
 by_cases ar:d=0
 .subst ar;refine⟨0,12,⟨by decide,by decide⟩,λw=> ?_⟩;go_enter func223,ntmps223
  go_wp2_with (go_at_call 216;refine (so _ _).mono ?_;rintro e w'⟨rfl,rfl⟩)
  go_ret2
  exact⟨rfl,aG _⟩
 have kF:(d==0)=false:=by simpa using ar
 cases c9:mq c 1000000000000000||(mq n 1000000000||mq d 1000000000)
 case true=>
  refine⟨0,3,⟨by decide,by decide⟩,λw=> ?_⟩
  cases aY:mq c 1000000000000000<;>cases a':mq n 1000000000<;>cases bu:mq d 1000000000
  case false.false.false=>rw[aY,a',bu]at c9;cases c9
  all_goals
   clear c9;go_enter func223,ntmps223
   go_wp2_with (first|(go_at_call 216;refine (so _ _).mono ?_;rintro e w'⟨rfl,rfl⟩)|(go_at_call 217;refine (zh _ _ _ (by decide)).mono ?_;rintro e w'⟨rfl,rfl⟩))
   go_ret2
   exact⟨rfl,aG _⟩
 rw[Ti,Ti]at c9;obtain⟨aY,a',bu⟩:=c9;have au:=FV aY;have bt:=FV a';have bF:=FV bu;obtain⟨U,ji⟩:∃U,U=c.natAbs:=⟨_,rfl⟩;obtain⟨V,c6⟩:∃V,V=n.natAbs:=⟨_,rfl⟩;obtain⟨D,cY⟩:∃D,D=d.natAbs:=⟨_,rfl⟩;have po:=λw=>NI c w aq;have lG:=λw=>NI n w aH;have y6:=λw=>NI d w aE;rw[<-ji]at po;rw[<-c6]at lG;rw[<-cY]at y6;have Wo:0<D:=by omega
 have u1:U<=1000000000000000:=by omega
 have u2:V<=1000000000:=by omega
 have u3:D<=1000000000:=by omega
 clear ji c6 cY;have hmul:=λw=>Sc U V (by omega) (by omega) w;have y5:U*V/18446744073709551616<18446744073709551616:=by
  have:U*V<=1000000000000000*1000000000:=Tt u1 u2;omega
 have p1:U*V% 18446744073709551616<18446744073709551616:=Nat.mod_lt _ (by decide);generalize U*V/18446744073709551616=dY at*;generalize U*V% 18446744073709551616=ys at*;have wV:=I po;have jS:=I lG;have Fp:=I y6;have sI:=I hmul;clear po lG y6 hmul;by_cases nI:D<=dY
 .have kG:(D:J)<=dY:=by omega
  refine⟨0,3,⟨by decide,by decide⟩,λw=> ?_⟩;go_enter func223,ntmps223
  go_wp2_with (first|(go_at_call 216;refine (so _ _).mono ?_;rintro e w'⟨rfl,rfl⟩)|(go_at_call 217;refine (zh _ _ _ (by decide)).mono ?_;rintro e w'⟨rfl,rfl⟩)|(go_at_call_of 218 (Value.int IntKind.i64 c);refine (wV _).mono ?_;rintro e w'⟨rfl,rfl⟩)|(go_at_call_of 218 (Value.int IntKind.i64 n);refine (jS _).mono ?_;rintro e w'⟨rfl,rfl⟩)|(go_at_call_of 218 (Value.int IntKind.i64 d);refine (Fp _).mono ?_;rintro e w'⟨rfl,rfl⟩)|(go_at_call 197;refine (sI _).mono ?_;rintro e w'⟨rfl,rfl⟩))
  go_ret2
  exact⟨rfl,aG _⟩
 have kG:¬((D:J)<=dY):=by omega
 obtain⟨Q,R,cL,aJ,iW⟩:=VF dY ys D (by omega) p1 (by omega);have q5:=I iW;clear iW;by_cases az:1000000000000000<Q
 .have wg:(1000000000000000:J)<Q:=by omega
  refine⟨0,3,⟨by decide,by decide⟩,λw=> ?_⟩;go_enter func223,ntmps223
  go_wp2_with (first|(go_at_call 216;refine (so _ _).mono ?_;rintro e w'⟨rfl,rfl⟩)|(go_at_call 217;refine (zh _ _ _ (by decide)).mono ?_;rintro e w'⟨rfl,rfl⟩)|(go_at_call_of 218 (Value.int IntKind.i64 c);refine (wV _).mono ?_;rintro e w'⟨rfl,rfl⟩)|(go_at_call_of 218 (Value.int IntKind.i64 n);refine (jS _).mono ?_;rintro e w'⟨rfl,rfl⟩)|(go_at_call_of 218 (Value.int IntKind.i64 d);refine (Fp _).mono ?_;rintro e w'⟨rfl,rfl⟩)|(go_at_call 197;refine (sI _).mono ?_;rintro e w'⟨rfl,rfl⟩)|(go_at_call 198;refine (q5 _).mono ?_;rintro e w1⟨rfl,au⟩))
  go_ret2
  exact⟨rfl,au⟩
 have wg:¬(1000000000000000:J)<Q:=by omega
 obtain⟨e,he,cv⟩:=k2 ((D:J)-R);obtain⟨ub,Az⟩:∃ub:Bool,ub=((decide (c<0) !=decide (n<0)) !=decide (d<0)):=⟨_,rfl⟩;have aC:= @Y4 Q R e ub m;have za:∀(b:Bool)w,b=ub->bg 219 #[.int .u64 Q,.int .u64 R,.int .u64 D,bR b,m] w λx w'=>x=bL (.int .u64 (EJ Q R e ub m))/\w=w':=by
  intro b w af;subst af;exact aen Q R D e b m w cv (by omega)
 generalize EJ Q R e ub m=DD at*;have akJ:DD<=9223372036854775807:=by omega
 have zY:=I za;obtain⟨Z,lE⟩:∃Z:J,Z=if ub then -(DD:J)else DD:=⟨_,rfl⟩;have QX:iT Z:=by rw[lE];split<;>exact⟨by omega,by omega⟩
 have Jn:∀(b:Bool)w,b=ub->bg 220 #[.int .u64 DD,bR b] w λe w'=>e=bL Z/\w=w':=by
  intro b w af;subst af;rw[lE];exact aeG DD b w akJ
 have w3:=I Jn;clear Jn lE;have b3:=I Az;clear za cv he;by_cases iX:1000000000000000<DD
 case' pos=>have akK:(1000000000000000:J)<DD:=by omega
 case' neg=>have akK:¬(1000000000000000:J)<DD:=by omega
 case' pos=>refine⟨0,3,⟨by decide,by decide⟩,λw=> ?_⟩
 case' neg=>refine⟨Z,0,QX,λw=> ?_⟩
 all_goals
  clear Az;go_enter func223,ntmps223
  go_wp2_with (first|(go_at_call 216;refine (so _ _).mono ?_;rintro e w'⟨rfl,rfl⟩)|(go_at_call 217;refine (zh _ _ _ (by decide)).mono ?_;rintro e w'⟨rfl,rfl⟩)|(go_at_call_of 218 (Value.int IntKind.i64 c);refine (wV _).mono ?_;rintro e w'⟨rfl,rfl⟩)|(go_at_call_of 218 (Value.int IntKind.i64 n);refine (jS _).mono ?_;rintro e w'⟨rfl,rfl⟩)|(go_at_call_of 218 (Value.int IntKind.i64 d);refine (Fp _).mono ?_;rintro e w'⟨rfl,rfl⟩)|(go_at_call 197;refine (sI _).mono ?_;rintro e w'⟨rfl,rfl⟩)|(go_at_call 198;refine (q5 _).mono ?_;rintro e w1⟨rfl,au⟩)|(go_at_call 219;refine (zY _ _ (by rw[b3];first|rfl|simp)).mono ?_;rintro e w'⟨rfl,rfl⟩)|(go_at_call 220;refine (w3 _ _ (by rw[b3];first|rfl|simp)).mono ?_;rintro e w'⟨rfl,rfl⟩))
  go_ret2
  exact⟨rfl,au⟩
def C9(x:J):∃n:J,iT n/\IntKind.i64.wrap x=n/\wrap64 x=n:=by
 have e:IntKind.i64.wrap x=wrap64 x:=by
  simp[wrap64,IntKind.wrap,IntKind.bits,IntKind.signed];split<;>omega
 exact⟨wrap64 x,⟨by unfold wrap64;omega,by unfold wrap64;omega⟩,e,rfl⟩
def PL{n B:J}(h: -B<=n/\n<=B)(bc:B<=1000000000000000):∃V:aa,(V:J)<=B/\(n≠0->0<V)/\max n (-n)=(V:J)/\IntKind.u64.wrap (V:J)=V:=
 ⟨n.natAbs,by omega,by omega,by omega,wrapN (by omega)⟩
def anJ(a b:J)(bD: -1000000000000000<=a/\a<=1000000000000000)(af: -1000000000000<=b/\b<=1000000000000):∃q e:J,iT q/\sD 203 #[a,b] (bj #[q,e]):=by
 obtain⟨A,a7,_,avi,avQ⟩:=PL bD (by decide);obtain⟨B,bc,_,avj,avR⟩:=PL (B:=1000000000000000) (n:=b) (by omega) (by decide);have hmul:=λw=>Sc A B (by omega) (by omega) w;generalize A*B/18446744073709551616=dY at*;generalize A*B% 18446744073709551616=ys at*;have sI:=I hmul;obtain⟨⟨eS,a2⟩,⟨c9,bW⟩⟩:=bb bD af;clear hmul bD af;by_cases ar:dY=0
 .by_cases av:ys<=1000000000000000
  .have Cl:¬((1000000000000000:J)<ys):=by omega
   obtain⟨Z,lE⟩:∃Z:J,Z=(if (!decide (a<0)==decide (b<0))=true then -(ys:J)else ys):=⟨_,rfl⟩;refine⟨Z,0,by rw[lE];split<;>exact⟨by omega,by omega⟩,λw=> ?_⟩;have cE:=I lE;clear lE;subst ar;go_enter func203,ntmps203
   go_wp2_with (go_at_call 197;refine (sI _).mono ?_;rintro e w'⟨rfl,rfl⟩)
   all_goals
    go_ret2
    rename_i aT;exact⟨aeg (by rw[cE,aT];rfl) rfl,aG _⟩
  .have Cl:(1000000000000000:J)<ys:=by omega
   refine⟨0,3,⟨by decide,by decide⟩,λw=> ?_⟩;subst ar;go_enter func203,ntmps203
   go_wp2_with (go_at_call 197;refine (sI _).mono ?_;rintro e w'⟨rfl,rfl⟩)
   go_ret2
   exact⟨rfl,aG _⟩
 .have h0b:((dY:J) !=0)=true:=by simp;omega
  have h0c:((dY:J)==0)=false:=by simp;omega
  refine⟨0,3,⟨by decide,by decide⟩,λw=> ?_⟩;go_enter func203,ntmps203
  go_wp2_with (go_at_call 197;refine (sI _).mono ?_;rintro e w'⟨rfl,rfl⟩)
  go_ret2
  exact⟨rfl,aG _⟩
def an9(c u m:J)(aq:iT c)(hu:iT u):∃q e:J,iT q/\sD 206 #[c,u,m] (bj #[q,e]):=by
 by_cases aK:C5 m=true
 case neg=>
  refine⟨0,1,⟨by decide,by decide⟩,λw=> ?_⟩;go_enter func206,ntmps206
  go_wp2_with (go_at_call 216;refine (so _ _).mono ?_;rintro e w'⟨rfl,rfl⟩)
  go_ret2
  exact⟨rfl,aG _⟩
 by_cases ab:u<1
 .refine⟨0,12,⟨by decide,by decide⟩,λw=> ?_⟩;go_enter func206,ntmps206
  go_wp2_with (go_at_call 216;refine (so _ _).mono ?_;rintro e w'⟨rfl,rfl⟩)
  go_ret2
  exact⟨rfl,aG _⟩
 by_cases ad:mq c 1000000000000000=true\/1000000000000000<u
 .refine⟨0,3,⟨by decide,by decide⟩,λw=> ?_⟩
  cases af:mq c 1000000000000000
  case false=>
   have ao:1000000000000000<u:=by rw[af]at ad;simpa using ad
   clear ad;go_enter func206,ntmps206
   go_wp2_with (first|(go_at_call 216;refine (so _ _).mono ?_;rintro e w'⟨rfl,rfl⟩)|(go_at_call 217;refine (zh _ _ _ (by decide)).mono ?_;rintro e w'⟨rfl,rfl⟩))
   go_ret2
   exact⟨rfl,aG _⟩
  case true=>
   clear ad;go_enter func206,ntmps206
   go_wp2_with (first|(go_at_call 216;refine (so _ _).mono ?_;rintro e w'⟨rfl,rfl⟩)|(go_at_call 217;refine (zh _ _ _ (by decide)).mono ?_;rintro e w'⟨rfl,rfl⟩))
   go_ret2
   exact⟨rfl,aG _⟩
 have af:mq c 1000000000000000=false:=by simp only[not_or,Bool.not_eq_true]at ad;exact ad.1
 have tY:¬1000000000000000<u:=λh=>ad (.inr h);obtain⟨q,cF,az,iW⟩:=Qf c u m aq hu;have cU:=I iW;clear iW ad;by_cases lj:cF=0
 .subst lj;obtain⟨P,eJ,aQ,a_⟩:=C9 (q*u)
  cases hd:mq P 1000000000000000
  case' false=>refine⟨P,0,eJ,λw=> ?_⟩
  case' true=>refine⟨0,3,⟨by decide,by decide⟩,λw=> ?_⟩
  all_goals
   go_enter func206,ntmps206
   go_wp2_with (first|(go_at_call 216;refine (so _ _).mono ?_;rintro e w'⟨rfl,rfl⟩)|(go_at_call 217;refine (zh _ _ _ (by decide)).mono ?_;rintro e w'⟨rfl,rfl⟩)|(go_at_call 199;refine (cU _).mono ?_;rintro e w1⟨rfl,au⟩))
   go_ret2
   exact⟨rfl,au⟩
 .have jv:(cF !=0)=true:=by simpa using lj
  refine⟨0,cF,⟨by decide,by decide⟩,λw=> ?_⟩;go_enter func206,ntmps206
  go_wp2_with (first|(go_at_call 216;refine (so _ _).mono ?_;rintro e w'⟨rfl,rfl⟩)|(go_at_call 217;refine (zh _ _ _ (by decide)).mono ?_;rintro e w'⟨rfl,rfl⟩)|(go_at_call 199;refine (cU _).mono ?_;rintro e w1⟨rfl,au⟩))
  go_ret2
  exact⟨rfl,au⟩
def an7(a b m:J):∃q e:J,iT q/\sD 205 #[a,b,m] (bj #[q,e]):=by
 by_cases aK:C5 m=true
 case neg=>
  refine⟨0,1,⟨by decide,by decide⟩,λw=> ?_⟩;go_enter func205,ntmps205
  go_wp2_with (go_at_call 224;refine (AW _ _).mono ?_;rintro e w'⟨rfl,rfl⟩)
  go_ret2
  exact⟨rfl,aG _⟩
 cases aY:mq a 1000000000||mq b 1000000000
 case true=>
  refine⟨0,3,⟨by decide,by decide⟩,λw=> ?_⟩
  cases a':mq a 1000000000<;>cases bu:mq b 1000000000
  case false.false=>rw[a',bu]at aY;cases aY
  all_goals
   clear aY;go_enter func205,ntmps205
   go_wp2_with (first|(go_at_call 224;refine (AW _ _).mono ?_;rintro e w'⟨rfl,rfl⟩)|(go_at_call 225;refine (G2 _ _ _ (by decide)).mono ?_;rintro e w'⟨rfl,rfl⟩))
   go_ret2
   exact⟨rfl,aG _⟩
 rw[Ti]at aY;obtain⟨a',bu⟩:=aY;obtain⟨P,eJ,aQ,a_⟩:=C9 (a*b);obtain⟨q,cF,az,iW⟩:=Qf P 1000000 m eJ ⟨by decide,by decide⟩;have cU:=I iW;clear iW;by_cases lj:cF=0
 .subst lj
  cases hd:mq q 1000000000
  case' false=>refine⟨q,0,az,λw=> ?_⟩
  case' true=>refine⟨0,3,⟨by decide,by decide⟩,λw=> ?_⟩
  all_goals
   go_enter func205,ntmps205
   go_wp2_with (first|(go_at_call 224;refine (AW _ _).mono ?_;rintro e w'⟨rfl,rfl⟩)|(go_at_call 225;refine (G2 _ _ _ (by decide)).mono ?_;rintro e w'⟨rfl,rfl⟩)|(go_at_call 199;refine (cU _).mono ?_;rintro e w1⟨rfl,au⟩))
   go_ret2
   exact⟨rfl,au⟩
 .have jv:(cF !=0)=true:=by simpa using lj
  refine⟨0,cF,⟨by decide,by decide⟩,λw=> ?_⟩;go_enter func205,ntmps205
  go_wp2_with (first|(go_at_call 224;refine (AW _ _).mono ?_;rintro e w'⟨rfl,rfl⟩)|(go_at_call 225;refine (G2 _ _ _ (by decide)).mono ?_;rintro e w'⟨rfl,rfl⟩)|(go_at_call 199;refine (cU _).mono ?_;rintro e w1⟨rfl,au⟩))
  go_ret2
  exact⟨rfl,au⟩
def anK(c r m:J)(aq:iT c)(aC:iT r):∃q e:J,iT q/\sD 204 #[c,r,m] (bj #[q,e]):=by
 obtain⟨q,cF,az,iW⟩:=amQ c r 1000000 m aq aC ⟨by decide,by decide⟩;have cU:=I iW;clear iW;refine⟨q,cF,az,λw=> ?_⟩;go_enter func204,ntmps204
 go_wp2_with (go_at_call 223;refine (cU _).mono ?_;rintro e w1⟨rfl,au⟩)
 go_ret2
 exact⟨rfl,au⟩
def ajt(n d m:J):∃q e:J,iT q/\sD 207 #[n,d,m] (bj #[q,e]):=by
 by_cases aK:C5 m=true
 case neg=>
  refine⟨0,1,⟨by decide,by decide⟩,λw=> ?_⟩;go_enter func207,ntmps207
  go_wp2_with (go_at_call 224;refine (AW _ _).mono ?_;rintro e w'⟨rfl,rfl⟩)
  go_ret2
  exact⟨rfl,aG _⟩
 by_cases ar:d=0
 .subst ar;refine⟨0,12,⟨by decide,by decide⟩,λw=> ?_⟩;go_enter func207,ntmps207
  go_wp2_with (go_at_call 224;refine (AW _ _).mono ?_;rintro e w'⟨rfl,rfl⟩)
  go_ret2
  exact⟨rfl,aG _⟩
 have kF:(d==0)=false:=by simpa using ar
 cases aY:mq n 1000000000000000||mq d 1000000000000000
 case true=>
  refine⟨0,3,⟨by decide,by decide⟩,λw=> ?_⟩
  cases a':mq n 1000000000000000<;>cases bu:mq d 1000000000000000
  case false.false=>rw[a',bu]at aY;cases aY
  all_goals
   clear aY;go_enter func207,ntmps207
   go_wp2_with (first|(go_at_call 224;refine (AW _ _).mono ?_;rintro e w'⟨rfl,rfl⟩)|(go_at_call 225;refine (G2 _ _ _ (by decide)).mono ?_;rintro e w'⟨rfl,rfl⟩))
   go_ret2
   exact⟨rfl,aG _⟩
 rw[Ti]at aY;obtain⟨a',bu⟩:=aY;have bt:=FV a';have bF:=FV bu;obtain⟨U,ji,_,avm,avU⟩:=PL bt (by decide);obtain⟨D,cY,Wo,avl,avS⟩:=PL bF (by decide);have arz:=Wo ar;have hmul:=λw=>Sc U 1000000 (by omega) (by decide) w;have y5:U*1000000/18446744073709551616<18446744073709551616:=by omega
 have p1:U*1000000% 18446744073709551616<18446744073709551616:=Nat.mod_lt _ (by decide);generalize U*1000000/18446744073709551616=dY at*;generalize U*1000000% 18446744073709551616=ys at*;have sI:=I hmul;obtain⟨e9,eC⟩:=bt;obtain⟨d1,d2⟩:=bF;clear hmul Wo;by_cases nI:D<=dY
 .have kG:(D:J)<=dY:=by omega
  refine⟨0,3,⟨by decide,by decide⟩,λw=> ?_⟩;go_enter func207,ntmps207
  go_wp2_with (first|(go_at_call 224;refine (AW _ _).mono ?_;rintro e w'⟨rfl,rfl⟩)|(go_at_call 225;refine (G2 _ _ _ (by decide)).mono ?_;rintro e w'⟨rfl,rfl⟩)|(go_at_call 197;refine (sI _).mono ?_;rintro e w'⟨rfl,rfl⟩))
  go_ret2
  exact⟨rfl,aG _⟩
 have kG:¬((D:J)<=dY):=by omega
 obtain⟨Q,R,cL,aJ,iW⟩:=VF dY ys D (by omega) p1 (by omega);have q5:=I iW;clear iW;by_cases az:1000000000<Q
 .have wg:(1000000000:J)<Q:=by omega
  refine⟨0,3,⟨by decide,by decide⟩,λw=> ?_⟩;go_enter func207,ntmps207
  go_wp2_with (first|(go_at_call 224;refine (AW _ _).mono ?_;rintro e w'⟨rfl,rfl⟩)|(go_at_call 225;refine (G2 _ _ _ (by decide)).mono ?_;rintro e w'⟨rfl,rfl⟩)|(go_at_call 197;refine (sI _).mono ?_;rintro e w'⟨rfl,rfl⟩)|(go_at_call 198;refine (q5 _).mono ?_;rintro e w1⟨rfl,au⟩))
  go_ret2
  exact⟨rfl,au⟩
 have wg:¬(1000000000:J)<Q:=by omega
 obtain⟨e,he,cv⟩:=k2 ((D:J)-R);obtain⟨ub,Az⟩:∃ub:Bool,ub=(!decide (n<0)==decide (d<0)):=⟨_,rfl⟩;have p4:∀(b:Bool)w,b=ub->bg 226 #[.int .u64 Q,.int .u64 R,.int .u64 D,bR b,m] w λx w'=>x=bL (bR (decide (R≠0)&&J3 Q R e ub m))/\w=w':=by
  intro b w af;subst af;exact aoq Q R D e b m w cv (by omega)
 generalize (decide (R≠0)&&J3 Q R e ub m)=up at*;have tG:=I p4;have b3:=I Az;clear p4 cv he;obtain⟨T,bT⟩:∃T:aa,T=Q+1:=⟨_,rfl⟩;have VN:(Q:J)+1=T:=by omega
 obtain⟨P,eJ⟩:∃P:J,P=if up then (T:J)else Q:=⟨_,rfl⟩;have Wx: -1<=P/\P<=1000000001:=by rw[eJ];split<;>omega
 obtain⟨Z,lE⟩:∃Z:J,Z=if ub then -P else P:=⟨_,rfl⟩;have QX:iT Z:=by rw[lE];split<;>exact⟨by omega,by omega⟩
 have hTb:(T:J)<=1000000001:=by omega
 clear bT;have dU:=I eJ;have cE:=I lE;have HZB:=I QX;clear Az eJ lE QX Wx;by_cases hp:1000000000<P
 case' pos=>refine⟨0,3,⟨by decide,by decide⟩,λw=> ?_⟩
 case' neg=>refine⟨Z,0,HZB,λw=> ?_⟩
 all_goals
  cases up
  all_goals
   have sb:=dU.out;simp only[k3,A7,sx]at sb;subst sb;clear dU;go_enter func207,ntmps207
   go_wp2_with (first|(go_at_call 224;refine (AW _ _).mono ?_;rintro e w'⟨rfl,rfl⟩)|(go_at_call 225;refine (G2 _ _ _ (by decide)).mono ?_;rintro e w'⟨rfl,rfl⟩)|(go_at_call 197;refine (sI _).mono ?_;rintro e w'⟨rfl,rfl⟩)|(go_at_call 198;refine (q5 _).mono ?_;rintro e w1⟨rfl,au⟩)|(go_at_call 226;refine (tG _ _ (by rw[b3]<;>first|rfl|simp)).mono ?_;rintro e w'⟨rfl,rfl⟩))
   all_goals
    go_ret2
    first
     |exact⟨rfl,au⟩
     |(rename_i aT;exact⟨aeg (by rw[cE,b3,aT];rfl) rfl,au⟩)
def EC(k e n:J)(w:ag):bg 159 #[aF #[k,e,n]] w λx w'=>x=bL (bR (iv ⟨k,e,n⟩))/\Kept w w':=by
 go_enter func159,ntmps159
 go_wp2_with fail
 all_goals
  go_ret;exact⟨fG (by unfold iv;(rw[nZ];(try simp at*);(try omega))),(aG _).alloc _⟩
def eqB(a b:J):(a==b)=decide (a=b):=by by_cases h:a=b<;>simp[h]
def aca(k e n gH gB:J)(w:ag):bg 168 #[aF #[k,e,n],aF #[gH,gB]] w λx w'=>x=bL (bR (xq ⟨k,e,n⟩ gH gB))/\Kept w w':=by
 have dU:=I (λw=>EC k e n w)
 cases hp:iv ⟨k,e,n⟩
 all_goals
  rw[hp]at dU;have aX:=I (show xq ⟨k,e,n⟩ gH gB=_ from by unfold xq;rw[hp]);clear hp;have cp:=I (((aG w).alloc (.cells #[k,e,n] 34)).alloc (.cells #[gH,gB] 94));go_enter func168,ntmps168
  go_wp2_with (go_at_call 159;refine (dU _).mono ?_;rintro y w2⟨rfl,bt⟩;obtain⟨c9,bW,j8⟩:=Kept.aaY bt)
  all_goals
   go_ret;exact⟨fG (by rw[aX];(rw[nZ];(try simp at*);(try omega))),cp.trans bt⟩
def aow(a b:bC)(w:ag):bg 172 #[aF #[a.k,a.e,a.n],aF #[b.k,b.e,b.n]] w λx w'=>x=bL (bR (N6 a b))/\Kept w w':=by
 obtain⟨k,e,n⟩:=a;obtain⟨nQ,IJ,Yv⟩:=b;go_enter func172,ntmps172
 go_wp2_with fail
 all_goals
  go_ret;exact⟨fG (by unfold N6;(rw[nZ];(try simp at*);(try omega))),((aG _).alloc _).alloc _⟩
def X2(k:J)(w:ag):bg 180 #[k] w λx w'=>x=bL (bR (nt k))/\w=w':=by
 go_enter func180,ntmps180
 go_wp2_with fail
 all_goals
  go_ret;exact⟨fG (by unfold nt;(rw[nZ];(try simp at*);(try omega))),rfl⟩
def afj(o:J)(w:ag):bg 167 #[o] w λx w'=>x=bL (bR (zw o))/\w=w':=by
 go_enter func167,ntmps167
 go_wp2_with fail
 all_goals
  go_ret;exact⟨fG (by unfold zw;(rw[nZ];(try simp at*);(try omega))),rfl⟩
def afb(b:Bool)(w:ag):bg 184 #[bR b] w λx w'=>x=bL (aF #[ah 1,(),ah (rN b).n])/\Kept w w':=by
 cases b
 .go_enter func184,ntmps184
  go_wp2_with fail
  exact bI (v:=aF #[ah 1,(),()]) (by simp[results,results184,go_sem]) rfl ⟨rfl,by repeat (first|exact (aG _).alloc _|refine Kept.setCell ?_ (by simp) _)⟩
 .go_enter func184,ntmps184
  go_wp2_with fail
  exact bI (v:=aF #[ah 1,(),ah 1]) (by simp[results,results184,go_sem]) rfl ⟨rfl,by repeat (first|exact (aG _).alloc _|refine Kept.setCell ?_ (by simp) _)⟩
def aql(o k:J)(w:ag):bg 170 #[o,k] w λx w'=>x=bL (bR (Ol o k))/\w=w':=by
 have b3:=I (show nt k=decide (k=2\/k=3\/k=4)from rfl);have dY:=I (λw=>X2 k w)
 cases az:nt k
 all_goals
  rw[az]at b3 dY;clear az;go_enter func170,ntmps170
  go_wp2_with (go_at_call 180;refine (dY _).mono ?_;rintro e w'⟨rfl,rfl⟩)
  all_goals
   go_ret;have Co:=b3.out;clear dY b3;exact⟨fG (by unfold Ol;(rw[nZ];(try simp at*);(try omega))),rfl⟩
def amC(o k e:J)(w:ag):bg 169 #[o,aF #[k,e]] w λx w'=>x=bL (bR (NK o ⟨k,e⟩))/\Kept w w':=by
 have b3:=I (show nt k=decide (k=2\/k=3\/k=4)from rfl)
 cases az:nt k
 all_goals
  rw[az]at b3;have dY:=I (λw=>X2 k w);rw[az]at dY;clear az;go_enter func169,ntmps169
  go_wp2_with (go_at_call 180;refine (dY _).mono ?_;rintro e w'⟨rfl,rfl⟩)
  all_goals
   go_ret;have Co:=b3.out;clear dY b3;exact⟨fG (by unfold NK;(rw[nZ];(try simp at*);(try omega))),(aG _).alloc _⟩
def ahv(o:J):o=11\/o=12\/o=13\/o=14\/o=15\/o=16\/o=17\/o=18\/o=21\/o=22\/o=19\/o=20\/o=23\/o=24\/o=27\/o=28\/o=29\/o=30\/(o<11\/30<o\/o=25\/o=26):=by omega
def ahu(o dD e4 an hc be ew:J)(aA:(11<=o/\o<=24)\/(27<=o/\o<=30))(w:ag):bg 171 #[o,aF #[dD,e4,an],aF #[hc,be,ew]] w λx w'=>x=bL (bR (yD o ⟨dD,e4,an⟩ ⟨hc,be,ew⟩))/\Kept w w':=by
 have dY:=I (λw=>X2 dD w);have c8:=I (λw=>aow ⟨dD,e4,an⟩ ⟨hc,be,ew⟩ w);have b1:=I (show nt dD=decide (dD=2\/dD=3\/dD=4)from rfl);have eb:=I (show N6 ⟨dD,e4,an⟩ ⟨hc,be,ew⟩=decide (dD=hc/\e4=be)from rfl);generalize nt dD=q at*;generalize N6 ⟨dD,e4,an⟩ ⟨hc,be,ew⟩=s at*;rcases ahv o with rfl|rfl|rfl|rfl|rfl|rfl|rfl|rfl|rfl|rfl|rfl|rfl|rfl|rfl|rfl|rfl|rfl|rfl|h
 case inr.inr.inr.inr.inr.inr.inr.inr.inr.inr.inr.inr.inr.inr.inr.inr.inr.inr=>exfalso;omega
 case' inr.inr.inr.inr.inl=>by_cases h15:hc=2
 all_goals
  (try clear aA)
  go_enter func171,ntmps171
  go_wp2_with (first|(go_at_call 180;refine (dY _).mono ?_;rintro e w'⟨rfl,rfl⟩)|(go_at_call 172;refine (c8 _).mono ?_;rintro y w2⟨rfl,bt⟩;obtain⟨c9,bW,j8⟩:=Kept.aaY bt))
  all_goals
   go_ret;have az:=b1.out;have aO:=eb.out;clear dY c8 b1 eb;refine⟨fG ?_,?_⟩
   .cases q<;>cases s<;>first
     |contradiction
     |(rw[nZ];unfold yD;simp at az aO;simp<;>omega)
   .first
     |exact Kept.alloc (Kept.alloc (aG _) _) _
     |exact Kept.trans (Kept.alloc (Kept.alloc (aG _) _) _) ‹Kept _ _›
end Go.Proofs.YtilhklpfkgbikaaGreatDoor
