import Derived.Test.YtilhklpfkgbikaaGreatDoorB
import Derived.Deep.RegionLaw
import Derived.ProofKit
import Derived.OpenShut
import Derived.ShutString
import Derived.ChangeOld
import Derived.Lib.SmallJoins
import Derived.Deep.Slices
import Derived.Deep.Fields
import Derived.ChangeSame
import Derived.Test.YtilhklpfkgbikaaGreatDoorCards
import Derived.Test.YtilhklpfkgbikaaGreatDoorTie
import Derived.Deep.DeepHandedRow
import Derived.Lib.LaidTab
set_option linter.all false
namespace Go.Proofs.YtilhklpfkgbikaaGreatDoor
open Go.RowKit Go.Proofs.Tryz
set_option maxRecDepth 100000
set_option maxHeartbeats 8000000
def nr(n:aa):dN:=[ah (n:J)]
def adt(n:aa):(nr n).length=1:=rfl
def adu(n:aa):∀u∈nr n,u.oneCell'=true:=by
 intro u hu;simp only[nr,fM,nA,nd]at hu;subst hu;rfl
def ua(l:List aa):ho:=(l.map λn:aa=>Value.int .i64 (n:J)).toArray
def Se{l:List aa}{i n:aa}(h:l[i]?=some n):(ua l)[i]?=some (ah (n:J)):=by simp[ua,h]
def Sf(l:List aa)(i n:aa):(ua l).setIfInBounds i (ah (n:J))=ua (l.set i n):=by
 unfold ua;rw[kM,Kg]
def amU{w:ag}{g:aa}{t:dC}{l:List aa}{cap:aa}(h:aB w g t (ua l)):hP w nr 1 (ae (some (g,0)) l cap) l:=by
 refine⟨_,_,rfl,λ_=>⟨g,0,rfl,h.lt,λj x ay i u hu=> ?_⟩⟩;have aD:i<1:=(b2 hu).1;obtain rfl:i=0:=by omega
 rw[show 0+j*1+0=j by omega,h.cell,Se ay];exact hu
def amT{w:ag}{B:aa}{e:dC}{g n cap:aa}{l:List aa}(av:l.length=n)(h:w.ownsRow B e 1 (ae (some (g,0)) n cap) n (l.map λn:aa=>Value.int .i64 (n:J)))(aq:cap=n):aB w g e (ua l):=by
 subst aq;rcases h.2 with⟨aK,_⟩|⟨ju,rj,cur,aK,_,al,_,_,ao,aR⟩
 .cases aK
 .simp only[i_,vF,wJ]at aK;obtain⟨⟨rfl,_⟩,_,rfl⟩:=aK;rw[mH (by rw[Tj,ao];exact bB _)]at aR;unfold aB ua;rw[<-aR,ZV];exact al
def aqZ(n:aa):List.replicate n (Value.int .i64 0)=(List.replicate n 0).map λn:aa=>Value.int .i64 (n:J):=by simp
def ao4(ed:List aa)(k n:aa):(ed++List.replicate (k+1) 0).set ed n=(ed++[n])++List.replicate k 0:=by
 rw[A' _ _ (bB _),k7,J',lS];simp
def cb.far{α:Type}{f:α->List ak}{k:aa}{w:ag}{B:aa}{e:dC}{v:ak}{xs:List α}(h:cb w B e f k v xs){p:Addr}(hp:p.block<B)(u:ak):cb (w.setCell p u) B e f k v xs:=by
 refine⟨h.1,?_⟩;rcases h.2 with aH|⟨g,cap,cur,aK,af,al,r⟩
 .exact .inl aH
 .exact .inr ⟨g,cap,cur,aK,af,(jQ w p u g (by omega)).trans al,r⟩
def cb.alloc{α:Type}{f:α->List ak}{k:aa}{w:ag}{B:aa}{e:dC}{v:ak}{xs:List α}(h:cb w B e f k v xs)(o:Obj):cb (w.alloc o) B e f k v xs:=
 h.lk ((aG w).alloc o)
def adv{W:ag}{s:aa}{t:dC}:∀j u,(nr s)[j]?=some u->(W.alloc (.cells #[ah (s:J)] t)).cell? (((W,0):Addr).add j)=some u:=
 pf (l:=nr s)
def cb.row{w:ag}{B:aa}{e:dC}{v:ak}{xs:List aa}(h:cb w B e nr 1 v xs)(hp:0<xs.length):
  ∃g cap,v=ae (some ⟨g,0,none⟩) xs cap/\B<=g/\g<w.heap.size/\∀(j x:aa),xs[j]?=some x->aU w ⟨g,j,none⟩=some (ah (x:J)):=by
 have aC:=h.jx adt;rcases h.2 with⟨_,ar⟩|⟨g,cap,cur,rfl,bc,al,_⟩
 .omega
 .refine⟨g,cap,rfl,bc,(nW.1 al).1,λj x ay=> ?_⟩;obtain⟨A,c,aK,aj⟩:=aC;simp only[i_]at aK;obtain⟨rfl,_,rfl⟩:=aK;obtain⟨b,off,a7,_,aq⟩:=aj hp;simp only[vF,wJ]at a7;obtain⟨rfl,rfl,_⟩:=a7;have:=aq j x ay 0 _ rfl;rwa [show 0+j*1+0=j by omega]at this
def Tryz.td:(prog.info? 3).map (λi=>(i.zero,i.size,i.bytes))=some (some (ah 0),1,8):=by kernel_rfl
def DC.at_{w:ag}{v:ak}{xs:List cw}(h:DC w v xs):∃A cap,v=ae A xs cap/\(0<xs.length->∃b off,A=some ⟨b,off,none⟩/\b<w.heap.size/\
  ∀j t,xs[j]?=some t->aU w ⟨b,off+j*2,none⟩=some (ah t.o)/\aU w ⟨b,off+j*2+1,none⟩=some (ah t.n)):=by
 obtain⟨A,cap,aK,aj⟩:=h;refine⟨A,cap,aK,λhp=> ?_⟩;obtain⟨b,off,a7,af,aq⟩:=aj hp;exact⟨b,off,a7,af,λj t ay=>⟨aq j t ay 0 _ rfl,aq j t ay 1 _ rfl⟩⟩
def Zh(xs:List cw)(w:ag)(e:Ending)(w':ag):Prop:=∃v,e=bL (bj #[v,ah ((c' xs).2.1:aa),ah (c' xs).2.2])/\hP w' nr 1 v (c' xs).1/\Kept w w'
def api{xs:List cw}{i n:aa}{b0 ed:List aa}(h:lp (xs.drop i) i b0 ed=c' xs)(aD:¬i<n)(aH:n=xs.length)(av:b0.length<=1):c' xs=(ed,0,0):=by
 rw[<-h,zF.2 (by omega),lp,aw (by omega)]
def apg{xs:List cw}{i n:aa}{b0 ed:List aa}(h:lp (xs.drop i) i b0 ed=c' xs)(aD:¬i<n)(aH:n=xs.length)(av:1<b0.length):c' xs=([],i,4):=by
 rw[<-h,zF.2 (by omega),lp,aP av]
def apf{xs:List cw}{i:aa}{x:cw}{b0 ed:List aa}(h:lp (xs.drop i) i b0 ed=c' xs)(aj:xs[i]?=some x)(bD:eP x.o<0):c' xs=([],i,2):=by
 obtain⟨aD,rfl⟩:=b2 aj;rw[<-h,jA aD,lp,aP bD]
def apj{xs:List cw}{i a:aa}{x:cw}{b0 ed:List aa}(h:lp (xs.drop i) i b0 ed=c' xs)(aj:xs[i]?=some x)(bD:eP x.o=a)(av:b0.length<a):c' xs=([],i,5):=by
 obtain⟨aD,rfl⟩:=b2 aj;rw[<-h,jA aD,lp,aw (by omega),aP (by omega)]
def ape{xs:List cw}{i a m:aa}{x:cw}{b0 ed:List aa}(h:lp (xs.drop i) i b0 ed=c' xs)(aj:xs[i]?=some x)(bD:eP x.o=a)(av:b0.length=m+a)(aE:12<m+1):c' xs=([],i,16):=by
 obtain⟨aD,rfl⟩:=b2 aj;rw[<-h,jA aD,lp,aw (by omega),aw (by omega),aP (by rw[fk,gT,bD];simp;omega)]
def aph{xs:List cw}{i a m:aa}{x:cw}{b0 ed:List aa}(h:lp (xs.drop i) i b0 ed=c' xs)(aj:xs[i]?=some x)(bD:eP x.o=a)(av:b0.length=m+a)(aE:¬12<m+1):
  lp (xs.drop (i+1)) (i+1) (b0.take m++[mv i a b0]) (ed++[mv i a b0])=c' xs:=by
 obtain⟨aD,rfl⟩:=b2 aj;have e:b0.length-a=m:=by omega
 rw[<-h,jA aD,lp,aw (by omega),aw (by omega),aw (by rw[fk,gT,bD];simp;omega),bD];simp only[c7,e]
def ajs(i:aa)(b0:List aa):mv i 0 b0=i:=rfl
def ajr{i a m x:aa}{b0:List aa}(bD:0<a)(av:b0.length=m+a)(aj:b0[m]?=some x):mv i a b0=x:=by
 unfold mv;rw[aw (by omega),show b0.length-a=m by omega,aj];rfl
def aeV(v:ak)(xs:List cw)(w:ag)(cd:DC w v xs)(aH:xs.length<=9223372036854775807):bg 131 #[v] w (Zh xs w):=by
 obtain⟨A,cap,rfl,a7⟩:=cd.at_;obtain⟨n,tc⟩:∃n,n=xs.length:=⟨_,rfl⟩;rw[<-tc]at a7 aH⊢;have bS:=I tc;clear tc cd;unfold Zh;by_cases af:48<n
 .have WK:(48:J)<n:=by omega
  have aX:=I (show c' xs=([],0,4) by rw[c',aP (by have:=bS.out;omega)]);go_enter func131,ntmps131
  go_wp2_with fail
  go_ret3
  rw[aX];exact⟨_,rfl,hP.nil _ _ _,aG _⟩
 by_cases ar:n=0
 .subst ar;have aX:=I (show c' xs=([],0,5) by rw[c',aw (by have:=bS.out;omega),aP (by have:=bS.out;omega)]);go_enter func131,ntmps131
  go_wp2_with fail
  go_ret3
  rw[aX];exact⟨_,rfl,hP.nil _ _ _,aG _⟩
 have zU:=I (show lp (xs.drop 0) 0 [] []=c' xs by rw[c',aw (by have:=bS.out;omega),aw (by have:=bS.out;omega)];rfl);obtain⟨i0,aD,fY,cG,eM⟩:=hy Tryz.td;obtain⟨c9,j0,rfl,fU,dE⟩:=a7 (by omega);have hp:¬((48:J)<n):=by omega
 have az:((n:J)==0)=false:=by simp;omega
 clear a7 aH;have uA:=I dE;clear dE;go_enter func131,ntmps131
 go_wp2_with (at_make;refine rR _ rfl _ _ 46 rfl w.heap.size 3 i0 () 1 underlying46 aD fY cG _ _ _ _ n rfl rfl rfl rfl (by rw[eM];omega) (by unfold maxLen;omega) (bB _) ?_;intro w1 cN cu)
 have wk:w.heap.size<w1.heap.size:=by
  rcases cN.2 with⟨aK,_⟩|⟨g,rj,cur,aK,_,al,_⟩
  .cases aK
  .simp only[i_,vF,wJ]at aK;obtain⟨⟨rfl,_⟩,_⟩:=aK;exact (nW.1 al).1
 have oe:Kept w w1:=⟨cu.os,cu.tape,cu.output,cu.size,λb af=>cu.block b af (by simp)⟩;have od:aB w1 w.heap.size 3 (ua (List.replicate n 0)):=amT (l:=List.replicate n 0) (n:=n) (by simp) (by
  rw[<-aqZ];have e:=Ov (Value.int .i64 0) (n*1);rw[jD]at e;have h:=cN;rw[jD,show (Value.int IntKind.i64 0).cells=#[Value.int .i64 0]from rfl,e]at h;exact h) rfl
 clear cN cu;go_wp2_with fail
 have rA:w1<=w1.heap.size:=bB _;obtain⟨bo,Wi⟩:∃bo,bo=w1.heap.size:=⟨_,rfl⟩;rw[<-Wi]at wk;go_loopw [6,21] (λx y wr=>∃(i:aa)(b0 ed:List aa),y=ah i/\i<=n/\ed.length=i/\b0.length<=12/\Kept w wr/\bo<=wr.heap.size/\cb wr bo 3 nr 1 x b0/\aB wr w.heap.size 3 (ua (ed++List.replicate (n-i) 0))/\lp (xs.drop i) i b0 ed=c' xs) (λ_ y _=>n-(intOf y).toNat)
 case atStart=>exact⟨0,[],[],rfl,d' _,rfl,by simp,oe,by rw[Wi];exact bB _,cb.nil _ _ _,od,zU⟩
 case round=>
  obtain⟨i,b0,ed,rfl,dG,nM,dH,ax,ajF,cN,bc,a6⟩:=hrel;clear oe od rA Wi;by_cases aN:i<n
  .have al:xs[i]?=some (xs[i]'(by have:=bS.out;omega)):=bn _;generalize xs[i]'(by have:=bS.out;omega)=T at*;obtain⟨bX,bQ⟩:=uA.out i _ al;have iI:=ax.aI fU bX;have kk:=ax.aI fU bQ;clear bX bQ;have db:(i:J)<n:=by omega
   have DX:(i:J)<=48:=by omega
   have hwr:w.heap.size<wr.heap.size:=bG wk ajF;by_cases uY:eP T.o<0
   .have aX:=I (apf a6 al uY);have pL:=I (λw=>Iq T.o w);clear bc cN a6 al;go_wp2_with (go_at_call 152;refine (pL _).mono ?_;rintro e w'⟨rfl,rfl⟩)
    go_ret3
    rw[aX];exact⟨_,rfl,hP.nil _ _ _,ax.alloc _⟩
   .obtain⟨a,bD⟩:∃a:aa,eP T.o=a:=⟨(eP T.o).toNat,by omega⟩;have pg:=(DK T.o).2;have pL:=I (λw=>(by have:=Iq T.o w;rwa [bD]at this:bg 152 #[T.o] w λe w'=>e=bL (ah (a:J))/\w=w'));have ha3:a<=3:=by omega
    have MC:¬((a:J)<0):=by omega
    by_cases GF:b0.length<a
    .have aX:=I (apj a6 al bD GF);obtain⟨A,oz,aK,_,_⟩:=cN.form;subst aK;have ala:(b0:J)<a:=by omega
     clear bc cN a6 al bD pg uY;go_wp2_with (go_at_call 152;refine (pL _).mono ?_;rintro e w'⟨rfl,rfl⟩)
     go_ret3
     rw[aX];exact⟨_,rfl,hP.nil _ _ _,ax.alloc _⟩
    .obtain⟨m,hm⟩:∃m,b0.length=m+a:=⟨b0.length-a,by omega⟩;obtain⟨A,oz,aK,RJ,XD⟩:=cN.form;rw[hm]at aK RJ;subst aK;have ala:¬((m:J)+a<a):=by omega
     have Xb:m<=12:=by omega
     have hwp:IntKind.i64.wrap (m:J)=m:=by rw[IntKind.wrap_i64];omega
     have xC:m+a<=12:=by omega
     have cK:aU wr ⟨w.heap.size,i,none⟩=some (ah ((0:aa):J)):=by
      rw[bc.cell];exact Se (by rw[k4 (by omega),nM,k7,uj,aP (by omega)])
     have f:=bc.frozen;have c8:=cN.take adt (show m<=m+a by omega);have Gs:(b0.take m).length=m:=by rw[gT];omega
     have y9:=λaE=>aph a6 al bD hm aE;have Q9:=λaE=>ape a6 al bD hm aE;obtain⟨s,Au⟩:∃s,s=mv i a b0:=⟨_,rfl⟩;rw[<-Au]at y9;have Jm:∀cs:ho,cs=ua (ed++List.replicate (n-i) 0)\/cs=(ua (ed++List.replicate (n-i) 0)).setIfInBounds i (ah (i:J))->cs.setIfInBounds i (ah (s:J))=ua ((ed++[s])++List.replicate (n-(i+1)) 0):=by
      intro cs hR;have e:(ua (ed++List.replicate (n-i) 0)).setIfInBounds i (ah (s:J))=ua ((ed++[s])++List.replicate (n-(i+1)) 0):=by
       rw[Sf,show n-i=(n-(i+1))+1 by omega,<-nM,ao4]
      rcases hR with rfl|rfl
      .exact e
      .rw[Sf,Sf,List.set_set,<-Sf];exact e
     have HN:=I y9;have Kx:=I Q9;have aas:=I Jm;have dv:=I bc;have vQ:=I c8;have cB:=I hm;have o':=I nM;have zQ:=I Gs;have cp:=I ax;by_cases WH:a=0
     .subst WH;obtain rfl:s=i:=Au.trans (ajs i b0);clear uY GF a6 al bD pg cN y9 Q9 Jm bc c8 hm Au nM dH Gs ax;go_wp2_with (go_at_call 152;refine (pL _).mono ?_;rintro e w'⟨rfl,rfl⟩)
      have g_:=(dv.ba s (ah (s:J))).alloc (.cells #[T.o,T.n] 101);rw[aas _ (.inl rfl)]at g_;have xa:=(vQ.far (p:=⟨w.heap.size,s,none⟩) wk (ah (s:J))).alloc (.cells #[T.o,T.n] 101);have yq:=(cp.setCell (p:=⟨w.heap.size,s,none⟩) (bB _) (ah (s:J))).alloc (.cells #[T.o,T.n] 101);have aue:wr.heap.size<=((wr.setCell ⟨w.heap.size,s,none⟩ (ah (s:J))).alloc (.cells #[T.o,T.n] 101)).heap.size:=by simp
      generalize (wr.setCell ⟨w.heap.size,s,none⟩ (ah (s:J))).alloc (.cells #[T.o,T.n] 101)=dV at*;have d0:aU dV ⟨w.heap.size,s,none⟩=some (ah (s:J)):=by
       rw[g_.cell];exact Se (by rw[lQ (by rw[fk,o'];simp),k4 (by rw[o'];exact bB _),o'];simp)
      have Bl:=I (adv (W:=dV.drew) (s:=s) (t:=3));have sK:Hid ((dV.drew.alloc (.cells #[ah (s:J)] 3)).ownsRow bo 3 1 (ae A m oz) m ((b0.take m).flatMap nr)):=I (by
       have h:=cb.alloc (w:=dV.drew) xa (.cells #[ah (s:J)] 3);unfold cb at h;rwa [zQ]at h)
      have zN:Hid (bo<=(dV.drew.alloc (.cells #[ah (s:J)] 3)).heap.size):=I (by simp;omega);have Fq:=I (adu s);have GC:(m:J)<=oz:=by omega
      have pq:m+1<=maxLen:=by unfold maxLen;omega
      have Bo:=I xa;clear vQ xa;by_cases aE:12<m+1
      .have aX:=I (Kx aE);have Cf:(12:J)<m+1:=by omega
       go_region_law (first|(refine Hj _ rfl (.tmp 58) (.tmp 63) 46 rfl bo 3 i0 () 1 8 underlying46 aD fY cG eM rfl (by decide) _ m ((b0.take m).flatMap nr) (by simp[Act.eval]) sK ⟨dV.drew.heap.size,0,none⟩ 1 1 (nr s) (by simp[Act.eval]) rfl Bl Fq (by decide) pq (by omega) zN _ rfl ?_;intro ju rj w2 gy cu _ _))
       all_goals
        go_wp2_with fail
        go_ret3
        rw[aX];exact⟨_,rfl,hP.nil _ _ _,xN (yq.drewN 1) Bo (ui wk) cu⟩
      .have b3:=I (HN aE);have Cf:¬((12:J)<m+1):=by omega
       go_region_law (first|(refine Hj _ rfl (.tmp 58) (.tmp 63) 46 rfl bo 3 i0 () 1 8 underlying46 aD fY cG eM rfl (by decide) _ m ((b0.take m).flatMap nr) (by simp[Act.eval]) sK ⟨dV.drew.heap.size,0,none⟩ 1 1 (nr s) (by simp[Act.eval]) rfl Bl Fq (by decide) pq (by omega) zN _ rfl ?_;intro ju rj w2 gy cu _ _))
       all_goals
        go_wp2_with fail
        go_roundw
        case rel=>
         have kS:(dV.drew.alloc (.cells #[ah (s:J)] 3)).grownBy w2 (Value.slice A m oz).ownBlock:=cu;exact⟨s+1,b0.take m++[s],ed++[s],rfl,aN,by rw[fk,o'];rfl,by rw[fk,zQ];simp;omega,xN (yq.drewN 1) Bo (ui wk) kS,by have:dV.heap.size+1<=w2:=adW (wr:=dV.drew) kS;omega,cb.snoc (by rw[zQ];exact gy),(Sx (wr:=dV.drew) Bo kS g_.lt wk).trans g_,b3⟩
        case measure=>simp[intOf];omega
     .have Rx:0<a:=by omega
      have Cs:(0:J)<a:=by omega
      obtain⟨g,arp,aK,Rc,s5,uS⟩:=cN.row (by omega);simp only[i_]at aK;obtain⟨rfl,gp,rfl⟩:=aK;clear gp;have hg:b0[m]?=some (b0[m]'(by omega)):=bn _;have oR:s=b0[m]'(by omega):=Au.trans (ajr Rx hm hg);rw[<-oR]at hg;have hD:=uS m s hg;have bU:g≠w.heap.size:=by omega
      have M':(m:J)<m+a:=by omega
      clear uY GF a6 al bD pg cN y9 Q9 Jm bc c8 hm Au nM dH Gs ax hg oR uS;go_wp2_with (go_at_call 152;refine (pL _).mono ?_;rintro e w'⟨rfl,rfl⟩)
      have g_:=((dv.ba i (ah (i:J))).ba i (ah (s:J))).alloc (.cells #[T.o,T.n] 101);rw[aas _ (.inr rfl)]at g_;have xa:=((vQ.far (p:=⟨w.heap.size,i,none⟩) wk (ah (i:J))).far (p:=⟨w.heap.size,i,none⟩) wk (ah (s:J))).alloc (.cells #[T.o,T.n] 101);have yq:=((cp.setCell (p:=⟨w.heap.size,i,none⟩) (bB _) (ah (i:J))).setCell (p:=⟨w.heap.size,i,none⟩) (bB _) (ah (s:J))).alloc (.cells #[T.o,T.n] 101);have aue:wr.heap.size<=(((wr.setCell ⟨w.heap.size,i,none⟩ (ah (i:J))).setCell ⟨w.heap.size,i,none⟩ (ah (s:J))).alloc (.cells #[T.o,T.n] 101)).heap.size:=by simp
      generalize ((wr.setCell ⟨w.heap.size,i,none⟩ (ah (i:J))).setCell ⟨w.heap.size,i,none⟩ (ah (s:J))).alloc (.cells #[T.o,T.n] 101)=dV at*;have d0:aU dV ⟨w.heap.size,i,none⟩=some (ah (s:J)):=by
       rw[g_.cell];exact Se (by rw[lQ (by rw[fk,o'];simp),k4 (by rw[o'];exact bB _),o'];simp)
      have Bl:=I (adv (W:=dV.drew) (s:=s) (t:=3));have sK:Hid ((dV.drew.alloc (.cells #[ah (s:J)] 3)).ownsRow bo 3 1 (ae (some (g,0)) m oz) m ((b0.take m).flatMap nr)):=I (by
       have h:=cb.alloc (w:=dV.drew) xa (.cells #[ah (s:J)] 3);unfold cb at h;rwa [zQ]at h)
      have zN:Hid (bo<=(dV.drew.alloc (.cells #[ah (s:J)] 3)).heap.size):=I (by simp;omega);have Fq:=I (adu s);have GC:(m:J)<=oz:=by omega
      have pq:m+1<=maxLen:=by unfold maxLen;omega
      have Bo:=I xa;clear vQ xa;by_cases aE:12<m+1
      .have aX:=I (Kx aE);have Cf:(12:J)<m+1:=by omega
       go_region_law (first|(refine Hj _ rfl (.tmp 58) (.tmp 63) 46 rfl bo 3 i0 () 1 8 underlying46 aD fY cG eM rfl (by decide) _ m ((b0.take m).flatMap nr) (by simp[Act.eval]) sK ⟨dV.drew.heap.size,0,none⟩ 1 1 (nr s) (by simp[Act.eval]) rfl Bl Fq (by decide) pq (by omega) zN _ rfl ?_;intro ju rj w2 gy cu _ _))
       all_goals
        go_wp2_with fail
        go_ret3
        rw[aX];exact⟨_,rfl,hP.nil _ _ _,xN (yq.drewN 1) Bo (ui wk) cu⟩
      .have b3:=I (HN aE);have Cf:¬((12:J)<m+1):=by omega
       go_region_law (first|(refine Hj _ rfl (.tmp 58) (.tmp 63) 46 rfl bo 3 i0 () 1 8 underlying46 aD fY cG eM rfl (by decide) _ m ((b0.take m).flatMap nr) (by simp[Act.eval]) sK ⟨dV.drew.heap.size,0,none⟩ 1 1 (nr s) (by simp[Act.eval]) rfl Bl Fq (by decide) pq (by omega) zN _ rfl ?_;intro ju rj w2 gy cu _ _))
       all_goals
        go_wp2_with fail
        go_roundw
        case rel=>
         have kS:(dV.drew.alloc (.cells #[ah (s:J)] 3)).grownBy w2 (Value.slice (some (g,0)) m oz).ownBlock:=cu;exact⟨i+1,b0.take m++[s],ed++[s],rfl,aN,by rw[fk,o'];rfl,by rw[fk,zQ];simp;omega,xN (yq.drewN 1) Bo (ui wk) kS,by have:dV.heap.size+1<=w2:=adW (wr:=dV.drew) kS;omega,cb.snoc (by rw[zQ];exact gy),(Sx (wr:=dV.drew) Bo kS g_.lt wk).trans g_,b3⟩
        case measure=>simp[intOf];omega
  .obtain rfl:i=n:=by omega
   have asg:¬((i:J)<i):=by omega
   obtain⟨A,oz,aK,RJ,XD⟩:=cN.form;subst aK;have cp:=I ax;by_cases av:1<b0.length
   .have aX:=I (apg a6 aN bS av);have Cl:(1:J)<b0.length:=by omega
    clear bc cN a6 nM dH ax RJ XD;go_wp2_with fail
    go_ret3
    rw[aX];exact⟨_,rfl,hP.nil _ _ _,cp⟩
   .have aX:=I (api a6 aN bS (by omega));have Cl:¬((1:J)<b0.length):=by omega
    have HP:Hid (hP wr nr 1 (ae (some ⟨w.heap.size,0,none⟩) i i) ed):=I (by
     rw[k7,ZW,hj]at bc;have h:=amU (cap:=i) bc;rwa [nM]at h)
    clear bc cN a6 nM dH ax RJ XD;go_wp2_with fail
    go_ret3
    rw[aX];exact⟨_,rfl,HP,cp⟩
section
open Go.ChangeShapes Go.WideShapes Go.ChangeAt Go.RowKit Go.Joins
open Go.ChangeMaps (open_string shut_string)
def aay(w:ag)(e:Ending)(w':ag):Prop:=e=bL (bR true)/\Kept w w'
def own:ownKnob prog.godebug=none:=by kernel_rfl
def laidOut:laidOutB prog=true:=by kernel_rfl
def aqo:prog.underlying 4=some .bool:=by kernel_rfl
section
variable {H:Type} {enc:dC×ak->H}
def apZ{bA:List dC}(aC:bA.all (λt=>prog.readableRec t&&decide (t<prog.types.size))=true){W UZ:ag}(af:Kept W UZ):
  ∀{bY:dN}{ds:List (DataW H)}{ps:List MemPlace},DataW.TrodAll enc prog W 0 (λ_=>true) true bA bY ds ps->
  DataW.TrodAll enc prog UZ 0 (λb=>decide (b<W.heap.size)) true bA bY ds ps:=by
 induction bA with
 |nil=>intro bY ds ps h;cases bY<;>cases ds<;>simp_all [DataW.TrodAll]
 |cons t bA bO=>
  intro bY ds ps h;simp only[Hm,nB,gg]at aC;obtain⟨v,ZD,d,FY,p,q,rfl,rfl,rfl,ab,ad⟩:=trodAll_cons h;refine⟨p,q,Below.trod laidOut aC.1.1 aC.1.2 ab af ?_,bO aC.2 ad,rfl⟩;obtain⟨m,hm⟩:=ab;exact DataW.trod_lt m _ _ _ hm
def ap0{bA:List dC}{W:ag}{B:aa}{sp:aa->Bool}{aE:Bool}:∀{bY:dN}{ds:List (DataW H)}{ps:List MemPlace},DataW.TrodAll enc prog W B sp aE bA bY ds ps->ds.length=bA.length/\bY.length=bA.length:=by
 induction bA with
 |nil=>intro bY ds ps h;cases bY<;>cases ds<;>simp_all [DataW.TrodAll]
 |cons t bA bO=>
  intro bY ds ps h;obtain⟨v,ZD,d,FY,p,q,rfl,rfl,rfl,ab,ad⟩:=trodAll_cons h;have:=bO ad;simp[this.1,this.2]
variable {w:ag} {sp:aa->Bool} {aE:Bool} {m:aa}
def aa9{W:ag}{a:Addr}{v:ak}(h:aU W a=some v):a.block<W:=by
 rcases rT a.block W with aN|nI
 .exact aN
 .have aO:=World.cell?_spot h;obtain⟨b,o,s⟩:=a;simp only at aO nI;subst aO;simp[World.cell?,afC nI]at h
end
end
section
open Go.ChangeShapes Go.WideShapes Go.ChangeAt Go.RowKit Go.Joins
section
variable {H:Type} {enc:dC×ak->H} {w:ag}
abbrev Reads(enc:dC×ak->H)(w:ag)(t:dC)(cs:dN):Prop:=∃fuel x,DataW.trod enc prog w 0 (λ_=>true) true fuel t cs=some x
def Reads.field{t:dC}{il:Array Field}{cs:dN}(cr:prog.underlying t=some (.struct il))(h:Reads enc w t cs)(i:aa)(f:Field)(bV:il[i]?=some f):
  Reads enc w f.type ((cs.drop f.offset).take (prog.cellsOf f.type)):=by
 obtain⟨fuel,x,h⟩:=h;obtain⟨xs,n,_,_,_,av,al⟩:=DataW.trod_struct cr h;have aD:i<il.size:=(nW.1 bV).1;have:=al i f bV;rw[bn (by omega)]at this;exact⟨n,_,this⟩
def Reads.length{t:dC}{il:Array Field}{cs:dN}(cr:prog.underlying t=some (.struct il))(h:Reads enc w t cs):cs.length=prog.cellsOf t:=by
 obtain⟨fuel,x,h⟩:=h;obtain⟨xs,n,_,_,av,_,_⟩:=DataW.trod_struct cr h;exact av
def Reads.int{cs:dN}(h:Reads enc w 3 cs):∃n,cs=[ah n]/\(Lit.int .i64 n).wf=true:=by
 obtain⟨fuel,x,h⟩:=h;obtain⟨n,e,_,hw⟩:=DataW.trod_int underlying3 h;exact⟨n,e,hw⟩
def ahJ:prog.cellsOf 3=1:=by kernel_rfl
def Reads.of{t:dC}{cs:ho}{d:DataW H}{p:List MemPlace}(h:DataW.Trod enc prog w 0 (λ_=>true) true t (aF cs) d p):Reads enc w t cs.toList:=by
 obtain⟨fuel,bV⟩:=h;exact⟨fuel,_,bV⟩
def Reads.sub{t:dC}{il:Array Field}{cs:dN}(cr:prog.underlying t=some (.struct il))(h:Reads enc w t cs)(i o k:aa)(T:dC)(f:Field)(bV:il[i]?=some f)(aA:f.offset=o)(bT:f.type=T)(ai:prog.cellsOf T=k):Reads enc w T ((cs.drop o).take k):=by
 have:=h.field cr i f bV;rw[bT,ai,aA]at this;exact this
def Reads.RZ{t:dC}{il:Array Field}{cs:dN}(cr:prog.underlying t=some (.struct il))(h:Reads enc w t cs)(i o:aa)(f:Field)(bV:il[i]?=some f)(aA:f.offset=o)(aD:f.type=3):
  ∃n,cs[o]?=some (ah n)/\(Lit.int .i64 n).wf=true:=by
 have ab:=h.field cr i f bV;rw[aD,ahJ,aA]at ab;obtain⟨n,e,hw⟩:=ab.int;refine⟨n,?_,hw⟩;have:((cs.drop o).take 1)[0]?=some (ah n):=by rw[e];rfl
 simpa using this
end
end
def yz(w:ag)(v:ak)(xs:gh):Prop:=
 ∃A cap,v=ae A xs cap/\(0<xs.length->∃b off,A=some ⟨b,off,none⟩/\b<w.heap.size/\∀j,j<xs.length->aU w ⟨b,off+j,none⟩=some (.string (xs[j]?.getD ⟨#[]⟩)))
def yz.kept{w w':ag}{v:ak}{xs:gh}(h:yz w v xs)(ai:Kept w w'):yz w' v xs:=by
 obtain⟨A,cap,aK,aj⟩:=h;refine⟨A,cap,aK,λhp=> ?_⟩;obtain⟨b,off,a7,af,aq⟩:=aj hp;exact⟨b,off,a7,bG af ai.size,λj ay=>ai.aI af (aq j ay)⟩
def yz.nil(w:ag):yz w bf []:=⟨none,0,rfl,λh=>absurd h (by decide)⟩
def Fg(w:ag)(B:aa)(v:ak)(xs:gh):Prop:=w.ownsRow B 9 1 v xs (xs.map Value.string)
def Fg.nil(w:ag)(B:aa):Fg w B bf []:=qh _ _ _ _
def Fg.strs{w:ag}{B:aa}{v:ak}{xs:gh}(h:Fg w B v xs):yz w v xs:=by
 have ec:=h;rcases h.2 with⟨rfl,aH⟩|⟨g,cap,cur,rfl,_,al,_⟩
 .have:xs=[]:=oC.1 aH;subst this;exact yz.nil w
 .refine⟨_,_,rfl,λ_=>⟨g,0,rfl,(nW.1 al).1,λj ay=> ?_⟩⟩;have aq:=World.ownsRow.cells ec (g:=g) rfl j (.string (xs[j]?.getD ⟨#[]⟩)) (by
   rw[hS,bn ay];rfl)
  have e:(⟨g,0,none⟩:Addr).add j=⟨g,0+j,none⟩:=by
   unfold Addr.add;by_cases W3:j=0
   .subst W3;rfl
   .simp[W3]
  rw[e]at aq;exact aq
def Fg.snoc{w:ag}{B:aa}{v:ak}{xs:gh}{x:ez}(h:w.ownsRow B 9 1 v (xs.length+1) (xs.map Value.string++[.string x])):Fg w B v (xs++[x]):=by
 unfold Fg;rw[fk,k6];exact h
def Enums(w:ag)(v:ak)(ms:List gh):Prop:=
 ∃A cap,v=ae A ms cap/\ms.length<=9223372036854775807/\(0<ms.length->∃b off,A=some ⟨b,off,none⟩/\b<w.heap.size/\
  ∀j l,ms[j]?=some l->l.length<=9223372036854775807/\∃c1,aU w ⟨b,off+j*2+1,none⟩=some c1/\yz w c1 l)
def Enums.kept{w w':ag}{v:ak}{ms:List gh}(h:Enums w v ms)(ai:Kept w w'):Enums w' v ms:=by
 obtain⟨A,cap,aK,hm,aj⟩:=h;refine⟨A,cap,aK,hm,λhp=> ?_⟩;obtain⟨b,off,a7,af,aq⟩:=aj hp;refine⟨b,off,a7,bG af ai.size,λj l ay=> ?_⟩;obtain⟨av,c1,ab,ad⟩:=aq j l ay;exact⟨av,c1,ai.aI af ab,ad.kept ai⟩
def Enums.nil(w:ag):Enums w bf []:=⟨none,0,rfl,by decide,λh=>absurd h (by decide)⟩
def Enums.at_{w:ag}{v:ak}{ms:List gh}(h:Enums w v ms){j:aa}(ay:j<ms.length):
  ∃(b off cap n:aa)(B:gu)(c:aa)(l:gh),ms[j]?=some l/\l.length=n/\n<=9223372036854775807/\v=ae (some (b,off)) ms cap/\b<w/\aU w (b,off+j*2+1)=some (ae B n c)/\
   (0<n->∃bW adI,B=some ⟨bW,adI,none⟩/\bW<w.heap.size/\∀i,i<n->aU w ⟨bW,adI+i,none⟩=some (.string (l[i]?.getD ⟨#[]⟩))):=by
 obtain⟨A,cap,rfl,hm,aj⟩:=h;obtain⟨b,off,rfl,af,aq⟩:=aj (by omega);have al:ms[j]?=some ms[j]:=bn ay;obtain⟨av,c1,ab,B,c,rfl,ad⟩:=aq j _ al;exact⟨b,off,cap,_,B,c,_,al,rfl,av,rfl,af,ab,ad⟩
section
open Go.ChangeShapes Go.WideShapes Go.ChangeAt Go.RowKit Go.Joins Go.Deep
section
variable {H:Type} {enc:dC×ak->H} {P:Program} {w:ag} {base:aa} {spare:aa->Bool} {held:Bool}
end
section
variable {H:Type} {enc:dC×ak->H} {w:ag}
end
end
def FT{a b:J}(h:a≠b):(a==b)=false:=by simpa using h
def aqE(k e:J)(ms:List gh):((k=1\/k=2\/k=3\/k=4\/k=5)/\(e=0/\lr k e ms=true\/(e==0)=false/\lr k e ms=false))\/(k=6/\(e<0/\lr k e ms=false\/∃j:aa,e=j/\(decide (j<ms.length)=true/\lr k e ms=true\/decide (j<ms.length)=false/\lr k e ms=false)))\/
  ((k<1\/6<k)/\lr k e ms=false):=by
 by_cases eL:k=6
 .subst eL;refine .inr (.inl ⟨rfl,?_⟩);rw[ZF];by_cases he:e<0
  .exact .inl ⟨he,by rw[jC (by omega)];rfl⟩
  .refine .inr ⟨e.toNat,by omega,?_⟩;rw[jR (show 0<=e by omega),Kf];by_cases ay:e.toNat<ms.length
   .exact .inl ⟨jR ay,jR (by omega)⟩
   .exact .inr ⟨jC ay,jC (by omega)⟩
 .rw[ZE eL];by_cases ai:1<=k/\k<=5
  .refine .inl ⟨by omega,?_⟩;rw[jR ai.1,jR ai.2];by_cases he:e=0
   .exact .inl ⟨he,by simp[he]⟩
   .exact .inr ⟨FT he,by simp[he]⟩
  .refine .inr (.inr ⟨by omega,?_⟩);by_cases ab:1<=k
   .rw[jR ab,jC (show¬k<=5 by omega)];rfl
   .rw[jC ab];rfl
def On(k e:J)(v:ak)(ms:List gh)(w:ag)(a1:Enums w v ms):
  bg 105 #[aF #[k,e],v] w λr w'=>r=bL (bR (lr k e ms))/\Kept w w':=by
 obtain⟨A,cap,rfl,hm,_⟩:=a1;rcases aqE k e ms with⟨ai,⟨rfl,aK⟩|⟨he,aK⟩⟩|⟨rfl,⟨he,aK⟩|⟨j,rfl,⟨ay,aK⟩|⟨ay,aK⟩⟩⟩|⟨ai,aK⟩
 iterate 2
  .have fE:=I aK;clear aK;rcases ai with rfl|rfl|rfl|rfl|rfl
   all_goals
    go_enter func105,ntmps105
    go_wp2_with fail
    go_ret;rw[fE];exact⟨rfl,(aG _).alloc _⟩
 iterate 3
  .have fE:=I aK;clear aK;go_enter func105,ntmps105
   go_wp2_with fail
   go_ret;rw[fE]
   first|exact⟨rfl,(aG _).alloc _⟩|exact⟨fG ay,(aG _).alloc _⟩
 .have fE:=I aK;clear aK;have au:=FT (show k≠1 by omega);have bt:=FT (show k≠2 by omega);have bF:=FT (show k≠3 by omega);have ck:=FT (show k≠4 by omega);have cy:=FT (show k≠5 by omega);have ey:=FT (show k≠6 by omega);go_enter func105,ntmps105
  go_wp2_with fail
  go_ret;rw[fE];exact⟨rfl,(aG _).alloc _⟩
def aqF{k e:J}{ms:List gh}(h:lr k e ms=true):((k=1\/k=2\/k=3\/k=4\/k=5)/\e=0)\/(k=6/\∃j:aa,e=j/\j<ms.length):=by
 rcases aqD h with⟨he,ai⟩|⟨ai,ar,ab⟩
 .exact .inl ⟨ai,he⟩
 .exact .inr ⟨ai,e.toNat,by omega,by omega⟩
def Ve(k e:J)(v:ak)(ms:List gh)(w:ag)(a1:Enums w v ms):
  bg 86 #[aF #[k,e],v] w λr w'=>r=bL (bj #[ah (pU k e ms).1,ah (pU k e ms).2])/\Kept w w':=by
 have IW:=λo=>a1.kept ((aG w).alloc o);have bT:=I (λw h=>On k e v ms w h)
 cases aK:lr k e ms
 .have aX:=I (show pU k e ms=(0,-1) by rw[pU,aK];rfl);rw[aK]at bT;clear aK;go_enter func86,ntmps86
  go_wp2_with (go_at_call 105;refine (bT _ (IW _)).mono ?_;rintro r w1⟨rfl,ai⟩)
  go_ret2
  rw[aX];exact⟨rfl,((aG _).alloc _).trans ai⟩
 .have aX:=I (show pU k e ms=P0 k e ms by rw[pU,aK];rfl);rw[aK]at bT;have aq:=aqF aK;clear aK;rcases aq with⟨ai,rfl⟩|⟨rfl,j,rfl,ay⟩
  .rcases ai with rfl|rfl|rfl|rfl|rfl
   all_goals
    go_enter func86,ntmps86
    go_wp2_with (go_at_call 105;refine (bT _ (IW _)).mono ?_;rintro r w1⟨rfl,ai⟩;have B:=ai.aaT;have cK:=B.cell 0)
    go_ret2
    rw[aX];exact⟨rfl,((aG _).alloc _).trans ai⟩
  .obtain⟨b,off,cap,n,bm,a',l,av,aH,xx,rfl,af,oO,_⟩:=a1.at_ ay;have hm:=a1;obtain⟨_,_,_,hm,_⟩:=hm;have fE:=I (show P0 6 (j:J) ms=(0,(n:J)-1) by
    show (0,((Es (j:J) ms).length:J)-1)=_;rw[Es,c7,av,<-aH];rfl)
   clear av aH;go_enter func86,ntmps86
   go_wp2_with (go_at_call 105;refine (bT _ (IW _)).mono ?_;rintro r w1⟨rfl,ai⟩;have B:=ai.aaT;have cK:=B.cell 0)
   have aY:=aS.cell B.lt (B.cell 1);have fu:=aS.cell (bG af (((aG w).alloc _).trans ai).size) ((((aG w).alloc _).trans ai).aI af oO);have hH:(j:J)<ms.length:=by omega
   refine nc (by kernel_rfl) (by kernel_rfl) ?_
   repeat (go_big_quiet_step (fail))
   refine f' ?_;rintro _⟨⟨cj,eX⟩,rfl⟩;go_wp2_with fail
   go_ret2
   rw[aX,fE];exact⟨rfl,(((aG _).alloc _).trans ai).trans eX⟩
def wR(w:ag)(v:ak)(bA:List dh):Prop:=
 ∃A cap,v=ae A bA cap/\(0<bA.length->∃b off,A=some ⟨b,off,none⟩/\b<w.heap.size/\
  ∀j t,bA[j]?=some t->aU w ⟨b,off+j*3+1,none⟩=some (ah t.k)/\aU w ⟨b,off+j*3+2,none⟩=some (ah t.e))
def wR.kept{w w':ag}{v:ak}{bA:List dh}(h:wR w v bA)(ai:Kept w w'):wR w' v bA:=by
 obtain⟨A,cap,aK,aj⟩:=h;refine⟨A,cap,aK,λhp=> ?_⟩;obtain⟨b,off,a7,af,aq⟩:=aj hp;exact⟨b,off,a7,bG af ai.size,λj t ay=>⟨ai.aI af (aq j t ay).1,ai.aI af (aq j t ay).2⟩⟩
def wR.nil(w:ag):wR w bf []:=⟨none,0,rfl,λh=>absurd h (by simp)⟩
def DE(w:ag)(v:ak)(c2:List sP):Prop:=
 ∃A cap,v=ae A c2 cap/\c2.length<=9223372036854775807/\(0<c2.length->∃b off,A=some ⟨b,off,none⟩/\b<w.heap.size/\
  ∀j s,c2[j]?=some s->s.ins.length<=9223372036854775807/\aU w ⟨b,off+j*5+1,none⟩=some (ah s.m)/\∃b7,aU w ⟨b,off+j*5+2,none⟩=some b7/\wR w b7 s.ins)
def DE.kept{w w':ag}{v:ak}{c2:List sP}(h:DE w v c2)(ai:Kept w w'):DE w' v c2:=by
 obtain⟨A,cap,aK,av,aj⟩:=h;refine⟨A,cap,aK,av,λhp=> ?_⟩;obtain⟨b,off,a7,af,aq⟩:=aj hp;refine⟨b,off,a7,bG af ai.size,λj s ay=> ?_⟩;obtain⟨ar,ab,b7,ad,ao⟩:=aq j s ay;exact⟨ar,ai.aI af ab,b7,ai.aI af ad,ao.kept ai⟩
def H3(w:ag)(v:ak)(ms:List gh)(c2:List sP):Prop:=
 ∃dw At jZ fS cH,v=aF #[dw,ae At jZ fS,cH]/\Enums w dw ms/\DE w cH c2
def H3.kept{w w':ag}{v:ak}{ms:List gh}{c2:List sP}(h:H3 w v ms c2)(ai:Kept w w'):H3 w' v ms c2:=by
 obtain⟨dw,At,jZ,fS,cH,aK,a1,bH⟩:=h;exact⟨dw,At,jZ,fS,cH,aK,a1.kept ai,bH.kept ai⟩
def kh(w:ag)(v:ak)(mem:List (List bC)):Prop:=
 ∃A cap,v=ae A mem cap/\mem.length<=9223372036854775807/\(0<mem.length->∃b off,A=some ⟨b,off,none⟩/\b<w.heap.size/\
  ∀j l,mem[j]?=some l->l.length<=9223372036854775807/\∃cm,aU w ⟨b,off+j,none⟩=some cm/\ft w cm l)
def kh.kept{w w':ag}{v:ak}{mem:List (List bC)}(h:kh w v mem)(ai:Kept w w'):kh w' v mem:=by
 obtain⟨A,cap,aK,av,aj⟩:=h;refine⟨A,cap,aK,av,λhp=> ?_⟩;obtain⟨b,off,a7,af,aq⟩:=aj hp;refine⟨b,off,a7,bG af ai.size,λj s ay=> ?_⟩;obtain⟨ar,cm,ab,ad⟩:=aq j s ay;exact⟨ar,cm,ai.aI af ab,ad.kept ai⟩
def kh.nil(w:ag):kh w bf []:=⟨none,0,rfl,by decide,λh=>absurd h (by simp)⟩
def ft.at_{w:ag}{v:ak}{xs:List bC}(h:ft w v xs):∃A cap,v=ae A xs cap/\(0<xs.length->∃b off,A=some ⟨b,off,none⟩/\b<w.heap.size/\
  ∀j t,xs[j]?=some t->aU w ⟨b,off+j*3,none⟩=some (ah t.k)/\aU w ⟨b,off+j*3+1,none⟩=some (ah t.e)/\aU w ⟨b,off+j*3+2,none⟩=some (ah t.n)):=by
 obtain⟨A,cap,aK,aj⟩:=h;refine⟨A,cap,aK,λhp=> ?_⟩;obtain⟨b,off,a7,af,aq⟩:=aj hp;exact⟨b,off,a7,af,λj t ay=>⟨aq j t ay 0 _ rfl,aq j t ay 1 _ rfl,aq j t ay 2 _ rfl⟩⟩
def P1{a b:J}(h:a≠b):(a !=b)=true:=by simpa using h
def ah1{ms:List gh}{bA:List dh}{bY:List bC}{i:aa}{t:dh}{v:bC}(ab:bA[i]?=some t)(ad:bY[i]?=some v):
  DP ms i (bA.drop i) (bY.drop i)=if v.k=t.k/\v.e=t.e then (if XZ v.n t.k t.e ms then DP ms (i+1) (bA.drop (i+1)) (bY.drop (i+1))else (i,3))else (i,8):=by
 obtain⟨aD,rfl⟩:=b2 ab;obtain⟨ay,rfl⟩:=b2 ad;rw[jA aD,jA ay,DP]
def ah2{ms:List gh}{bA:List dh}{bY:List bC}{i:aa}(h:¬i<bY.length):DP ms i (bA.drop i) (bY.drop i)=(0,0):=by
 rw[zF.2 (show bY.length<=i by omega)]
 cases bA.drop i<;>rfl
def P_(R:aa×J)(w:ag)(e:Ending)(w':ag):Prop:=e=bL (bj #[R.1,R.2])/\Kept w w'
def abd(dw:ak)(At ati:gu)(jZ fS ns cs:aa)(tr b7:ak)(ms:List gh)(bA:List dh)(bY:List bC)(w:ag)(a1:Enums w dw ms)(c6:ft w tr bY)(b6:wR w b7 bA)(av:bY.length<=9223372036854775807):
  bg 53 #[aF #[dw,ae At jZ fS,ae ati ns cs],tr,b7] w (P_ (lZ ms bA bY) w):=by
 unfold P_;obtain⟨auZ,atB,rfl,Mi⟩:=c6.at_;obtain⟨eh,ci,rfl,Mh⟩:=id b6;have uz:=I (λ(k e:J)(w1:ag)(ai:Kept w w1)=>Ve k e dw ms w1 (a1.kept ai));obtain⟨c5,ce,rfl,_,_⟩:=id a1;by_cases ab:bY.length<bA.length
 .have aX:=I (show lZ ms bA bY=(bY.length,5) by rw[lZ,aP ab]);have V_:(bY:J)<bA.length:=by omega
  rw[aX];clear Mi Mh c6 b6 a1 ab;go_enter func53,ntmps53
  go_wp2_with fail
  go_ret2
  exact⟨rfl,(aG _).alloc _⟩
 by_cases ad:bA.length<bY.length
 .have aX:=I (show lZ ms bA bY=(bA.length,4) by rw[lZ,aw ab,aP ad]);have V_:¬((bY:J)<bA.length):=by omega
  have h2i:(bA:J)<bY.length:=by omega
  rw[aX];clear Mi Mh c6 b6 a1 ab ad;go_enter func53,ntmps53
  go_wp2_with fail
  go_ret2
  exact⟨rfl,(aG _).alloc _⟩
 have hlen:bA.length=bY.length:=by omega
 have aX:=I (show lZ ms bA bY=DP ms 0 (bA.drop 0) (bY.drop 0) by rw[lZ,aw ab,aw ad];rfl);obtain⟨n,aH⟩:∃n,n=bY.length:=⟨_,rfl⟩;rw[hlen,<-aH]at Mh;rw[<-aH]at Mi av;rw[hlen,<-aH];have b3:=I aH;have Dr:=I (aH.trans hlen.symm);clear c6 b6 a1 ab ad hlen aH;go_enter func53,ntmps53
 go_wp2_with fail
 generalize aL:w.alloc _=W at*;obtain⟨hKx,hBx⟩:=Kept.aQ aL;clear aL;go_loopw [29] (λy wr=>∃i:aa,y=ah i/\i<=n/\Kept w wr/\aB wr w 26 #[ae c5 ms ce,ae At jZ fS,ae ati ns cs]/\DP ms i (bA.drop i) (bY.drop i)=lZ ms bA bY) (λy _=>n-(intOf y).toNat)
 case atStart=>exact⟨0,rfl,d' _,hKx,hBx,aX.symm⟩
 case round=>
  obtain⟨i,rfl,dG,ax,bc,a6⟩:=hrel;clear hKx hBx;by_cases aN:i<n
  .obtain⟨c9,j0,rfl,fU,dE⟩:=Mi (by omega);obtain⟨bW,mY,rfl,hd,jj⟩:=Mh (by omega);have pj:bY[i]?=some (bY[i]'(by have:=b3.out;omega)):=bn _;have kS:bA[i]?=some (bA[i]'(by have:=Dr.out;omega)):=bn _;obtain⟨bX,bQ,cx⟩:=dE i _ pj;obtain⟨eU,dr⟩:=jj i _ kS;rw[ah1 kS pj]at a6;generalize bY[i]'(by have:=b3.out;omega)=V at*;generalize bA[i]'(by have:=Dr.out;omega)=T at*;have iI:=ax.aI fU bX;have kk:=ax.aI fU bQ;have lf:=ax.aI fU cx;have Ab:=ax.aI hd eU;have FI:=ax.aI hd dr;have db:(i:J)<n:=by omega
   have cK:=bc.cell 0;have aI:=bc.lt;have b1r:=bG fU ax.size;have b2r:=bG hd ax.size;clear bX bQ cx eU dr dE jj pj kS Mi Mh;obtain⟨cg,bK,dR⟩:=V;obtain⟨gH,gB⟩:=T;dsimp only at a6 iI kk lf Ab FI;by_cases wa:cg=gH
   .by_cases jm:bK=gB
    .subst wa jm;rw[aP ⟨rfl,rfl⟩]at a6;have hU:=I (uz cg bK);have MY:XZ dR cg bK ms=(decide ((pU cg bK ms).1<=dR)&&decide (dR<=(pU cg bK ms).2)):=rfl;rw[MY]at a6;generalize pU cg bK ms=R at*;obtain⟨e2,aD⟩:=R;dsimp only at hU a6;have ak2:(cg !=cg)=false:=by simp
     have asQ:(bK !=bK)=false:=by simp
     have dv:=I (λw2(h:Kept ((wr.alloc (.cells #[cg,bK,dR] 34)).alloc (.cells #[cg,bK] 94)) w2)=>((bc.alloc (.cells #[cg,bK,dR] 34)).alloc (.cells #[cg,bK] 94)).kept h);have I6:=(aB.new wr 34 #[cg,bK,dR]).alloc (.cells #[cg,bK] 94);have dU:=I (λw2(h:Kept ((wr.alloc (.cells #[cg,bK,dR] 34)).alloc (.cells #[cg,bK] 94)) w2)=>(I6.kept h).cell 2);have rZ:=I ((ax.alloc (.cells #[cg,bK,dR] 34)).alloc (.cells #[cg,bK] 94));have jj:W<=W.heap.size:=bB _;clear I6 jj;by_cases p1:e2<=dR
     .have akm:¬dR<e2:=by omega
      by_cases y5:dR<=aD
      .rw[jR p1,jR y5,aP (by decide)]at a6;have aj7:¬aD<dR:=by omega
       have fa:=I a6;clear bc a6 MY uz p1 y5;go_wp2_with (go_at_call 86;refine (hU _ rZ).mono ?_;rintro e w2⟨rfl,bt⟩;have dQ:=dU.out w2 bt)
       go_roundw
       case rel=>exact⟨i+1,rfl,aN,rZ.trans bt,dv w2 bt,fa⟩
       case measure=>simp[intOf];omega
      .rw[jR p1,jC y5,aw (by decide)]at a6;have aj7:aD<dR:=by omega
       have fa:=I a6;clear bc a6 MY uz p1 y5;go_wp2_with (go_at_call 86;refine (hU _ rZ).mono ?_;rintro e w2⟨rfl,bt⟩;have dQ:=dU.out w2 bt)
       go_ret2
       rw[<-fa];exact⟨rfl,rZ.trans bt⟩
     .rw[jC p1,Bool.false_and,aw (by decide)]at a6;have akm:dR<e2:=by omega
      have fa:=I a6;clear bc a6 MY uz p1;go_wp2_with (go_at_call 86;refine (hU _ rZ).mono ?_;rintro e w2⟨rfl,bt⟩;have dQ:=dU.out w2 bt)
      go_ret2
      rw[<-fa];exact⟨rfl,rZ.trans bt⟩
    .subst wa;rw[aw (λh=>jm h.2)]at a6;have ak2:(cg !=cg)=false:=by simp
     have hd:=P1 jm;have fa:=I a6;have rZ:=I ((ax.alloc (.cells #[cg,bK,dR] 34)).alloc (.cells #[cg,gB] 94));clear bc a6 uz jm;go_wp2_with fail
     go_ret2
     rw[<-fa];exact⟨rfl,rZ⟩
   .rw[aw (λh=>wa h.1)]at a6;have hd:=P1 wa;have fa:=I a6;have rZ:=I ((ax.alloc (.cells #[cg,bK,dR] 34)).alloc (.cells #[gH,gB] 94));clear bc a6 uz wa;go_wp2_with fail
    go_ret2
    rw[<-fa];exact⟨rfl,rZ⟩
  .have db:¬((i:J)<n):=by omega
   rw[ah2 (by have:=b3.out;omega)]at a6;have fa:=I a6;clear a6 bc;go_wp2_with fail
   go_ret2
   rw[<-fa];exact⟨rfl,ax⟩
section
open Go.ChangeShapes Go.WideShapes Go.ChangeAt Go.RowKit Go.Joins Go.Deep
theorem LL{α:Type}{p:aa->α->Prop}:∀(n:aa),(∀i,i<n->∃x,p i x)->∃xs:List α,xs.length=n/\∀(i:aa)x,xs[i]?=some x->p i x
 |0,_=>⟨[],rfl,λi x h=>by simp at h⟩
 |n+1,h=>by
  obtain⟨xs,av,aj⟩:=LL n (λi aD=>h i (by omega));obtain⟨y,bZ⟩:=h n (by omega);refine⟨xs++[y],by simp[av],λi x aD=> ?_⟩;by_cases aN:i<xs.length
  .rw[lQ aN]at aD;exact aj i x aD
  .have dG:i=n:=by
    have:=(b2 aD).1;rw[fk,sy]at this;omega
   subst dG;rw[k4 (by omega),av,k7]at aD;obtain rfl:y=x:=cJ aD;exact bZ
def sQ(w:ag)(k:aa)(p:ag->aa->aa->Prop)(v:ak):Prop:=
 ∃A n cap,v=ae A n cap/\n<=9223372036854775807/\(0<n->∃b off,A=some ⟨b,off,none⟩/\b<w.heap.size/\∀j,j<n->p w b (off+j*k))
def q'(p:ag->aa->aa->Prop):Prop:=∀w w' b o,Kept w w'->b<w.heap.size->p w b o->p w' b o
def sQ.kept{w w':ag}{k:aa}{p:ag->aa->aa->Prop}{v:ak}(hp:q' p)(h:sQ w k p v)(ai:Kept w w'):sQ w' k p v:=by
 obtain⟨A,n,cap,aK,aH,aj⟩:=h;refine⟨A,n,cap,aK,aH,λar=> ?_⟩;obtain⟨b,off,a7,af,aq⟩:=aj ar;exact⟨b,off,a7,bG af ai.size,λj ay=>hp _ _ _ _ ai af (aq j ay)⟩
def lb(w:ag)(b o:aa):Prop:=∃s,aU w (b,o)=some (.string s)
def gP(w:ag)(b o:aa):Prop:=∃n,aU w (b,o)=some (ah n)
def z_(w:ag)(b o:aa):Prop:=∃A n c,aU w (b,o)=some (ae A n c)/\n<=9223372036854775807
def lb.kept:q' lb:=λ_ _ b o ai af⟨s,h⟩=>⟨s,ai.aI af h⟩
def gP.kept:q' gP:=λ_ _ b o ai af⟨s,h⟩=>⟨s,ai.aI af h⟩
def z_.kept:q' z_:=λ_ _ b o ai af⟨A,n,c,h,aH⟩=>⟨A,n,c,ai.aI af h,aH⟩
def Ie(w:ag)(b o:aa):Prop:=lb w b o/\gP w b (o+1)/\gP w b (o+2)/\gP w b (o+3)/\gP w b (o+4)/\gP w b (o+5)/\z_ w b (o+6)/\z_ w b (o+7)/\lb w b (o+8)
def Ie.kept:q' Ie:=λ_ _ _ _ ai af⟨ar,ab,ad,ao,aR,bw,eL,hX,eI⟩=>
 ⟨lb.kept _ _ _ _ ai af ar,gP.kept _ _ _ _ ai af ab,gP.kept _ _ _ _ ai af ad,gP.kept _ _ _ _ ai af ao,gP.kept _ _ _ _ ai af aR,gP.kept _ _ _ _ ai af bw,z_.kept _ _ _ _ ai af eL,z_.kept _ _ _ _ ai af hX,lb.kept _ _ _ _ ai af eI⟩
def Lh(w:ag)(b o:aa):Prop:=lb w b o/\gP w b (o+1)/\(∃v,aU w (b,o+2)=some v/\sQ w 3 lb v)/\(∃v,aU w (b,o+3)=some v/\sQ w 3 lb v)/\∃v,aU w (b,o+4)=some v/\sQ w 9 Ie v
def Lh.kept:q' Lh:=λ_ _ b o ai af⟨ar,ab,⟨v2,ad,g2⟩,⟨v3,ao,g3⟩,⟨v4,aR,g4⟩⟩=>
 ⟨lb.kept _ _ _ _ ai af ar,gP.kept _ _ _ _ ai af ab,⟨v2,ai.aI af ad,g2.kept lb.kept ai⟩,⟨v3,ai.aI af ao,g3.kept lb.kept ai⟩,⟨v4,ai.aI af aR,g4.kept Ie.kept ai⟩⟩
def PG(w:ag)(b o:aa):Prop:=lb w b o/\z_ w b (o+5)
def PG.kept:q' PG:=λ_ _ _ _ ai af⟨ar,ab⟩=>⟨lb.kept _ _ _ _ ai af ar,z_.kept _ _ _ _ ai af ab⟩
def K_(w:ag)(v:ak):Prop:=∃dw cM cH,v=aF #[dw,cM,cH]/\sQ w 2 lb dw/\sQ w 6 PG cM/\sQ w 5 Lh cH
def K_.kept{w w':ag}{v:ak}(h:K_ w v)(ai:Kept w w'):K_ w' v:=by
 obtain⟨dw,cM,cH,aK,ar,ab,ad⟩:=h;exact⟨dw,cM,cH,aK,ar.kept lb.kept ai,ab.kept PG.kept ai,ad.kept Lh.kept ai⟩
section
variable {H:Type} {enc:dC×ak->H} {w:ag}
def PO(b o q:aa):((b,o):Addr).add q=⟨b,o+q,none⟩:=by
 unfold Addr.add;by_cases e:q=0
 .subst e;rfl
 .simp[e]
def Reads.slice{t e:dC}{k:aa}{v:ak}(cr:prog.underlying t=some (.slice e))(hC:prog.cellsOf e=k)(ai:0<k)(hlen:∀cs,Reads enc w e cs->cs.length=k)(h:Reads enc w t [v]):
  ∃A n cap,v=ae A n cap/\n<=9223372036854775807/\(n=0->A=none\/True)/\(0<n->∃b off,A=some ⟨b,off,none⟩/\b<w.heap.size/\
   ∀i,i<n->∃cs,cs.length=k/\(∀j,j<k->aU w ⟨b,off+i*k+j,none⟩=cs[j]?)/\Reads enc w e cs):=by
 obtain⟨fuel,x,h⟩:=h;rcases open_slice cr h with⟨hR,_⟩|⟨a,len,cap,m,n,D,ats,hR,af,av,hm,jW,aj,aD⟩
 .simp only[qk,kN]at hR;exact⟨none,0,0,hR,by omega,λ_=> .inl rfl,λh=>absurd h (by decide)⟩
 .simp only[k3]at jW;subst jW;simp only[qk,kN]at hR;unfold maxLen at hm;refine⟨some a,len,_,hR,by omega,λ_=> .inr trivial,λhp=> ?_⟩;have hex:∀i,i<len->∃cs,cs.length=k/\(∀j,j<k->aU w ((a.add (i*k)).add j)=cs[j]?)/\Reads enc w e cs:=by
   intro i fB;obtain⟨LN,aq,sj⟩:=aD i (by omega);rw[hC]at aq;obtain⟨_,oO,dK⟩:=World.cells?_some aq;have aC:Reads enc w e LN:=⟨_,_,sj⟩;exact⟨LN,hlen _ aC,λj ay=>dK j ay,aC⟩
  obtain⟨Vr,hl0,hG,_⟩:=hex 0 hp;have cK:aU w ((a.add (0*k)).add 0)=some (Vr[0]'(by omega)):=by rw[hG 0 ai,bn]
  have af:=aa9 cK;rw[PZ,PZ]at af;obtain⟨b,o,sp⟩:=a;have ir:sp=none:=by
   have:=World.cell?_spot cK;simpa[Addr.add] using this
  subst ir;refine⟨b,o,rfl,af,λi fB=> ?_⟩;obtain⟨cs,gK,bd,a8⟩:=hex i fB;refine⟨cs,gK,λj ay=> ?_,a8⟩;rw[<-bd j ay,PO,PO]
def Reads.xM{t:dC}{il:Array Field}{cs:dN}(cr:prog.underlying t=some (.struct il))(h:Reads enc w t cs)(i o:aa)(T:dC)(f:Field)(bV:il[i]?=some f)(aA:f.offset=o)(bT:f.type=T)(ai:prog.cellsOf T=1)(aN:o<cs.length):
  ∃u,cs[o]?=some u/\Reads enc w T [u]:=by
 have ab:=h.sub cr i o 1 T f bV aA bT ai;refine⟨cs[o],bn aN,?_⟩;rw[jA aN]at ab;exact ab
def Reads.SS{u:ak}(h:Reads enc w 9 [u]):∃s:ez,u= .string s:=by
 obtain⟨fuel,x,h⟩:=h;obtain⟨s,aQ,_,_⟩:=DataW.trod_string underlying9 h;simp only[qk,kN]at aQ;exact⟨s,aQ⟩
def Reads.alD{u:ak}(h:Reads enc w 3 [u]):∃n:J,u=ah n:=by
 obtain⟨n,e,_⟩:=h.int;simp only[qk,kN]at e;exact⟨n,e⟩
def Reads.amk{t:dC}{il:Array Field}{k:aa}(cr:prog.underlying t=some (.struct il))(hC:prog.cellsOf t=k){cs:dN}(h:Reads enc w t cs):cs.length=k:=(h.length cr).trans hC
def ahG:prog.cellsOf 9=1:=by kernel_rfl
def aa1:prog.cellsOf 113=3:=by kernel_rfl
def aa7:prog.cellsOf 34=3:=by kernel_rfl
def aa4:prog.cellsOf 138=9:=by kernel_rfl
def aa5:prog.cellsOf 89=5:=by kernel_rfl
def aa6:prog.cellsOf 97=6:=by kernel_rfl
def aa0:prog.cellsOf 92=2:=by kernel_rfl
def aa2:prog.cellsOf 101=2:=by kernel_rfl
def aa3:prog.cellsOf 181=5:=by kernel_rfl
def ahF:prog.cellsOf 27=1:=by kernel_rfl
def aqj:prog.underlying 90=some (.slice 9):=by kernel_rfl
def aqd:prog.underlying 87=some (.slice 113):=by kernel_rfl
def aff:prog.underlying 27=some (.slice 34):=by kernel_rfl
def aqe:prog.underlying 28=some (.slice 27):=by kernel_rfl
def aqh:prog.underlying 85=some (.slice 138):=by kernel_rfl
def aqi:prog.underlying 24=some (.slice 89):=by kernel_rfl
def aqk:prog.underlying 23=some (.slice 97):=by kernel_rfl
def aqb:prog.underlying 22=some (.slice 92):=by kernel_rfl
def aqf:prog.underlying 102=some (.slice 101):=by kernel_rfl
def aqg:prog.underlying 95=some (.slice 181):=by kernel_rfl
def adO{v:ak}(h:Reads enc w 27 [v]):∃xs:List bC,ft w v xs/\xs.length<=9223372036854775807:=by
 obtain⟨A,n,cap,rfl,aH,_,aj⟩:=h.slice aff aa7 (by decide) (λcs h=>h.amk underlying34 aa7);rcases zB n with ar|hp
 .subst ar;exact⟨[],⟨A,cap,rfl,λh=>absurd h (by simp)⟩,by simp⟩
 obtain⟨b,off,rfl,af,aq⟩:=aj hp;obtain⟨xs,av,oT⟩:=LL (p:=λi(x:bC)=>∀j u,(EW x)[j]?=some u->w.cell? ⟨b,off+i*3+j,none⟩=some u) n (λi aD=>by
  obtain⟨cs,oO,ef,aC⟩:=aq i aD;obtain⟨bX,hD,_⟩:=aC.RZ underlying34 0 0 _ rfl rfl rfl;obtain⟨bQ,aQ,_⟩:=aC.RZ underlying34 1 1 _ rfl rfl rfl;obtain⟨cx,a_,_⟩:=aC.RZ underlying34 2 2 _ rfl rfl rfl;refine⟨⟨bX,bQ,cx⟩,λj u hu=> ?_⟩;match j,hu with
  |0,hu=>obtain rfl:=cJ hu;rw[ef 0 (by decide),hD]
  |1,hu=>obtain rfl:=cJ hu;rw[ef 1 (by decide),aQ]
  |2,hu=>obtain rfl:=cJ hu;rw[ef 2 (by decide),a_]
  |j+3,hu=>simp[EW]at hu)
 subst av;exact⟨xs,⟨_,cap,rfl,λ_=>⟨b,off,rfl,af,λj x ay i u hu=>oT j x ay i u hu⟩⟩,aH⟩
def ani{v:ak}(h:Reads enc w 28 [v]):∃mem:List (List bC),kh w v mem:=by
 obtain⟨A,n,cap,rfl,aH,_,aj⟩:=h.slice aqe ahF (by decide) (λcs h=>by
  obtain⟨fuel,x,h⟩:=h;rcases open_slice aff h with⟨hR,_⟩|⟨a,len,cap,m,n,D,ats,hR,_⟩<;>rw[hR]<;>rfl)
 rcases zB n with ar|hp
 .subst ar;exact⟨[],⟨A,cap,rfl,by simp,λh=>absurd h (by simp)⟩⟩
 obtain⟨b,off,rfl,af,aq⟩:=aj hp;obtain⟨xs,av,oT⟩:=LL (p:=λi(l:List bC)=>l.length<=9223372036854775807/\∃cm,w.cell? ⟨b,off+i,none⟩=some cm/\ft w cm l) n (λi aD=>by
  obtain⟨cs,oO,ef,aC⟩:=aq i aD;match cs,oO with
  |[u],_=>
   obtain⟨l,ab,ad⟩:=adO aC;have:=ef 0 (by decide);exact⟨l,ad,u,by rw[show off+i=off+i*1+0 by omega,this];rfl,ab⟩)
 subst av;exact⟨xs,⟨_,cap,rfl,aH,λ_=>⟨b,off,rfl,af,oT⟩⟩⟩
def anf{base:aa}{v:ak}{d:DataW H}{p:List MemPlace}(aK:Value.okWide prog w .any base 30 v)(h:DataW.Trod enc prog w 0 (λ_=>true) true 30 v d p):
  ∃(dt:J)(b7 c1:ak)(ins:List bC)(mem:List (List bC)),v= .agg #[dt,b7,c1]/\ft w b7 ins/\ins.length<=9223372036854775807/\kh w c1 mem:=by
 obtain⟨⟨cs⟩,rfl,nN⟩:=okWide_struct underlying30 aK;rw[show prog.cellsOf 30=3 by kernel_rfl]at nN;have aC:=Reads.of h;have nM:cs.length=3:=nN;obtain⟨dt,g0,_⟩:=aC.RZ underlying30 0 0 _ rfl rfl rfl;obtain⟨u1,g1,hh⟩:=aC.xM underlying30 1 1 27 _ rfl rfl rfl (by kernel_rfl) (show 1<cs.length by omega);obtain⟨u2,g2,iC⟩:=aC.xM underlying30 2 2 28 _ rfl rfl rfl (by kernel_rfl) (show 2<cs.length by omega);obtain⟨ins,i1,i2⟩:=adO hh;obtain⟨mem,m1⟩:=ani iC;match cs,nM with
 |[cK,aY,a'],_=>
  simp at g0 g1 g2;subst g0 g1 g2;exact⟨dt,_,_,ins,mem,rfl,i1,i2,m1⟩
end
end
section
variable {α:Type} {f:α->List ak} {k:aa} {w:ag} {B:aa} {e:dC}
def cb.block{v:ak}{xs:List α}(h:cb w B e f k v xs){g:aa}(aK:v.ownBlock=some g):∃cur,w.heap[g]?=some (.cells cur e (0,0)):=by
 rcases h.2 with⟨rfl,_⟩|⟨ju,cap,cur,rfl,_,al,_⟩
 .cases aK
 .obtain rfl:ju=g:=cJ aK;exact⟨cur,al⟩
def cb.frozen{v:ak}{xs:List α}(h:cb w B e f k v xs){g:aa}(aK:v.ownBlock=some g)(i:aa):w.frozen? (g,i)=false:=by
 obtain⟨cur,aq⟩:=h.block aK;simp[World.frozen?,aq]
def cb.grown{w':ag}{v:ak}{xs:List α}{row:Option aa}(h:cb w B e f k v xs)(al:w.grownBy w' row)(bU:∀b,v.ownBlock=some b->row≠some b):cb w' B e f k v xs:=by
 refine⟨h.1,?_⟩;rcases h.2 with aH|⟨g,cap,cur,rfl,af,aq,r⟩
 .exact .inl aH
 .exact .inr ⟨g,cap,cur,rfl,af,(al.block g (nW.1 aq).1 (λe=>bU g rfl e.symm)).trans aq,r⟩
def aha{wr w1:ag}{v:ak}{o:Obj}{g n cap:aa}(al:(wr.alloc o).grownBy w1 v.ownBlock)(dK:v.ownBlock=some g\/g=(wr.alloc o).heap.size):o5 wr w1 v (ae (some (g,0)) n cap):=by
 refine (o5.kept ((aG wr).alloc o)).trans ⟨al,λb af=> ?_⟩;obtain rfl:g=b:=cJ af;rcases dK with h|h
 .exact .inl h
 .exact .inr (by rw[h];exact bB _)
def cb.cells{v:ak}{xs:List α}(bV:∀x,(f x).length=k)(h:cb w B e f k v xs)(hp:0<xs.length):
  ∃g cap,v=ae (some ⟨g,0,none⟩) xs cap/\v.ownBlock=some g/\B<=g/\g<w.heap.size/\xs.length<=cap/\∀(j:aa)(x:α),xs[j]?=some x->∀i u,(f x)[i]?=some u->aU w ⟨g,j*k+i,none⟩=some u:=by
 have aC:=h.jx bV;rcases h.2 with⟨_,ar⟩|⟨g,cap,cur,rfl,bc,al,aq,_⟩
 .omega
 .refine⟨g,cap,rfl,rfl,bc,(nW.1 al).1,aq,λj x ay i u hu=> ?_⟩;obtain⟨A,c,aK,aj⟩:=aC;simp only[i_]at aK;obtain⟨rfl,_,rfl⟩:=aK;obtain⟨b,off,a7,_,ef⟩:=aj hp;simp only[vF,wJ]at a7;obtain⟨rfl,rfl,_⟩:=a7;have:=ef j x ay i u hu;rwa [show 0+j*k+i=j*k+i by omega]at this
end
def GW{w:ag}{v:ak}{xs:List aa}(h:hP w nr 1 v xs):∃A cap,v=ae A xs cap/\(0<xs.length->∃b off,A=some ⟨b,off,none⟩/\b<w.heap.size/\∀(j x:aa),xs[j]?=some x->aU w ⟨b,off+j,none⟩=some (ah (x:J))):=by
 obtain⟨A,cap,aK,aj⟩:=h;refine⟨A,cap,aK,λhp=> ?_⟩;obtain⟨b,off,a7,af,aq⟩:=aj hp;refine⟨b,off,a7,af,λj x ay=> ?_⟩;have:=aq j x ay 0 _ rfl;rwa [show off+j*1+0=off+j by omega]at this
section
open Go.ChangeShapes Go.WideShapes Go.ChangeAt Go.RowKit Go.Joins
def adb:DataW Unit->ak
 | .lit (.int k z)=> .int k z
 |_=> .int .i64 0
def apu:DataW Unit->Array ak
 | .agg xs=>(xs.flatMap λ| .agg cA=>cA.map adb|d=>[adb d]).toArray
 |_=>#[]
def ac3(w:ag):List (aa×DataW Unit)->ag
 |[]=>w
 |(g,d)::r=>ac3 {w with heap:=w.heap.modify g fun
   | .cells _ t frozen=> .cells (apu d) t frozen
   |o=>o} r
noncomputable def Ye(os:Os):ag:=ac3 (World.holding prog os ⟨#[],#[],[]⟩) [(3,Rows.laid_guerdon_date_monthLengths)]
section
variable {H:Type} {enc:dC×ak->H}
end
def anE{F:FuncId}{VW:Func}{name:String}(aH:prog.funcNamed name=some F)(hF:prog.funcs[F]?=some VW){b:Bool}(av:b=Tryz.pinned.checked.prog.looks [])(bD:VW.params.toList.all (λt=> !(prog.wantsStandIn t))=true)(f:FuncId)(fn:Func)(bV:Tryz.pinned.checked.prog.funcNamed name=some f)(D8:Tryz.pinned.checked.prog.funcs[f]?=some fn):
  b=Tryz.pinned.checked.prog.looks []/\∀(j:aa)t,fn.params[j]?=some t->Tryz.pinned.checked.prog.wantsStandIn t=false:=by
 obtain rfl:F=f:=cJ (aH.symm.trans bV);obtain rfl:VW=fn:=cJ (hF.symm.trans D8);refine⟨av,λj t cr=> ?_⟩;have:=Tp.1 bD t (by simpa using Array.mem_of_getElem? cr);have ad:prog.wantsStandIn t=false:=by simpa using this
 exact ad
end
end Go.Proofs.YtilhklpfkgbikaaGreatDoor
