import Derived.Test.YtilhklpfkgbikaaGreatDoorQ
import Derived.Test.YtilhklpfkgbikaaGreatDoorX
set_option linter.all false
namespace Go.Proofs.YtilhklpfkgbikaaGreatDoor
open Go.RowKit Go.Proofs.Tryz
set_option maxRecDepth 100000
set_option maxHeartbeats 16000000
def kX(rs:List br)(i:aa):J:=if (rs[i]?.getD jz).bJ<0\/(i:J)<=(rs[i]?.getD jz).bJ then -1 else (rs[i]?.getD jz).bJ
def YQ(rs:List br)(i:aa):kX rs i<i:=by unfold kX;split<;>omega
def adY(rs:List br)(i:aa): -1<=kX rs i:=by unfold kX;split<;>omega
def sU(rs:List br):aa->List Bool->J->List Bool
 |0,k,_=>k
 |F+1,k,a=>if a<0\/e1 k a=true then k else sU rs F (k.set a.toNat true) (kX rs a.toNat)
def rD(rs:List br):aW->List Bool->List Bool->List Bool×List Bool
 |[],k,q=>(k,q)
 |r::l,k,q=>if r<0\/(rs:J)<=r then rD rs l k q else rD rs l (sU rs (rs.length+1) k r) (q.set r.toNat true)
def np(rs:List br)(keep:aW):List Bool×List Bool:=rD rs keep (List.replicate rs false) (List.replicate rs false)
def TQ(rs:List br)(k:List Bool)(a:J):Prop:=∀i:aa,e1 k (i:J)=true->0<=kX rs i->e1 k (kX rs i)=true\/kX rs i=a
theorem abg{rs:List br}:∀(F:aa)(k:List Bool)(a:J),k.length=rs.length->a<F->a<rs.length->TQ rs k a->(sU rs F k a).length=rs.length/\TQ rs (sU rs F k a) (-1)/\(∀i:J,0<=i->e1 k i=true->e1 (sU rs F k a) i=true)/\(0<=a->e1 (sU rs F k a) a=true)
 |0,k,a,av,hF,_,aq=>⟨av,λi ab ad=>(aq i ab ad).imp id (λh=>by omega),λ_ _ h=>h,λh=>by omega⟩
 |F+1,k,a,av,hF,bD,aq=>by
  rw[sU];by_cases h:a<0\/e1 k a=true
  .rw[aP h];refine⟨av,λi ab ad=> ?_,λ_ _ h=>h,λar=> ?_⟩
   .rcases aq i ab ad with ao|ao
    .exact .inl ao
    .rcases h with h|h
     .omega
     .exact .inl (by rw[ao];exact h)
   .rcases h with h|h
    .omega
    .exact h
  .rw[aw h];have ar:0<=a:=by omega
   have aC:0<=a/\a<k.length:=⟨ar,by rw[av];exact bD⟩;have hp:=YQ rs a.toNat;obtain⟨g1,g2,g3,g4⟩:=abg F (k.set a.toNat true) (kX rs a.toNat) (by rw[gJ];exact av) (by omega) (by omega) (λi ab ad=>by
    rw[wD aC (by omega)]at ab;rcases ab with ab|ab
    .rcases aq i ab ad with ao|ao
     .exact .inl ((wD aC ad).2 (.inl ao))
     .exact .inl ((wD aC ad).2 (.inr ao))
    .right;rw[<-ab,c7])
   exact⟨g1,g2,λi i0 aD=>g3 i i0 ((wD aC i0).2 (.inl aD)),λ_=>g3 a ar ((wD aC ar).2 (.inr rfl))⟩
structure UH(rs:List br)(k q:List Bool):Prop where
 rE:k.length=rs.length
 N3:q.length=rs.length
 aI:TQ rs k (-1)
 sub:∀i:J,0<=i->e1 q i=true->e1 k i=true
theorem X_{rs:List br}:∀(l:aW)(k q:List Bool),UH rs k q->UH rs (rD rs l k q).1 (rD rs l k q).2/\∀i:J,0<=i->i<rs.length->(e1 (rD rs l k q).2 i=true↔e1 q i=true\/i∈l)
 |[],k,q,h=>⟨h,λi _ _=>by simp[rD]⟩
 |r::l,k,q,h=>by
  rw[rD];by_cases aC:r<0\/(rs:J)<=r
  .rw[aP aC];obtain⟨ab,ad⟩:=X_ l k q h;refine⟨ab,λi i0 i1=> ?_⟩;rw[ad i i0 i1,fM];have:i≠r:=by omega
   simp[this]
  .rw[aw aC];have az:0<=r/\r<q.length:=⟨by omega,by rw[h.N3];omega⟩;obtain⟨aY,a',bu,b4⟩:=abg (rs:=rs) (rs.length+1) k r h.rE (by omega) (by omega) (λi g1 g2=>(h.aI i g1 g2).imp id (λh=>by omega));obtain⟨ab,ad⟩:=X_ l (sU rs (rs.length+1) k r) (q.set r.toNat true) ⟨aY,by rw[gJ];exact h.N3,a',λi i0 aD=>by
    rw[wD az i0]at aD;rcases aD with aD|rfl
    .exact bu i i0 (h.sub i i0 aD)
    .exact b4 i0⟩
   refine⟨ab,λi i0 i1=> ?_⟩;rw[ad i i0 i1,wD az i0,fM,or_assoc]
def Ya(rs:List br)(keep:aW):UH rs (np rs keep).1 (np rs keep).2/\∀i:J,0<=i->i<rs.length->(e1 (np rs keep).2 i=true↔i∈keep):=by
 obtain⟨ab,ad⟩:=X_ (rs:=rs) keep (List.replicate rs false) (List.replicate rs false) ⟨iQ ..,iQ ..,λi h=>(by rw[G7]at h;cases h),λi _ h=>(by rw[G7]at h;cases h)⟩;refine⟨ab,λi i0 i1=> ?_⟩;unfold np;rw[ad i i0 i1,G7];simp
def qR:List Bool->J->List J
 |[],_=>[]
 |b::r,c=>(if b then c else -1)::qR r (if b then c+1 else c)
def oJ(k:List Bool)(i:aa):aa:=((List.range i).filter λj=>k[j]?.getD false).length
def Vn(k:List Bool)(i:aa):oJ k (i+1)=oJ k i+if k[i]?.getD false=true then 1 else 0:=by
 unfold oJ;rw[Ts,x8,fk,sA,Ke];by_cases h:k[i]?.getD false=true<;>simp[h]
theorem RV:∀(k:List Bool)(c:J)(i:aa),i<k.length->(qR k c)[i]?=some (if k[i]?.getD false=true then c+oJ k i else -1)
 |[],_,i,h=>by simp at h
 |b::r,c,0,_=>by cases b<;>simp[qR,oJ]
 |b::r,c,i+1,h=>by
  rw[qR,jd,RV r _ i (by simpa using h),jd];have aq:oJ (b::r) (i+1)=(if b=true then 1 else 0)+oJ r i:=by
   unfold oJ;rw[List.range_succ_eq_map,sA];have hm:((List.map Nat.succ (List.range i)).filter λj=>(b::r)[j]?.getD false).length=((List.range i).filter λj=>r[j]?.getD false).length:=by
    rw[List.filter_map,er];rfl
   cases b
   .simp only[iP,b9,A7,sx];rw[hm];omega
   .simp only[iP,b9,k3];rw[hi,hm];omega
  rw[aq]
  cases b
  .simp
  .simp only[k3];by_cases ad:r[i]?.getD false=true
   .rw[aP ad,aP ad];congr 1;omega
   .rw[aw ad,aw ad]
def jM(s:cq)(d:J):List cw:=if d<0\/(s.ds:J)<=d then []else
 if 1<=(s.ds[d.toNat]?.getD ⟨kD,0,0⟩).k/\(s.ds[d.toNat]?.getD ⟨kD,0,0⟩).k<=5 then [⟨(s.ds[d.toNat]?.getD ⟨kD,0,0⟩).k,0⟩]else if (s.ds[d.toNat]?.getD ⟨kD,0,0⟩).k=6 then [⟨6,16*(s.ds[d.toNat]?.getD ⟨kD,0,0⟩).e⟩]else []
def ny(s:cq)(k q:List Bool)(i:aa)(r:br):br:=
 ⟨r.aM,r.bx,if 0<=kX s.rs i then (qR k 0)[(kX s.rs i).toNat]?.getD 0 else r.bJ,r.d_,r.cZ,r.cT,if q[i]?.getD false=true then r.g else [⟨1,0⟩],if q[i]?.getD false=true then r.v else jM s r.bx,r.src⟩
def vo(s:cq)(k q:List Bool):List br->aa->List br
 |[],_=>[]
 |r::l,i=>if k[i]?.getD false=true then ny s k q i r::vo s k q l (i+1)else vo s k q l (i+1)
def ht(s:cq)(keep:aW):List br:=vo s (np s.rs keep).1 (np s.rs keep).2 s.rs 0
def tf(k:List Bool)(n:aa):List aa:=(List.range n).filter λj=>k[j]?.getD false
theorem aeb(s:cq)(k q:List Bool):∀(n i:aa),i+n=s.rs.length->vo s k q (s.rs.drop i) i=((List.range' i n).filter λj=>k[j]?.getD false).map λj=>ny s k q j (s.rs[j]?.getD jz)
 |0,i,h=>by rw[vD (by omega)];rfl
 |n+1,i,h=>by
  have aD:i<s.rs.length:=by omega
  rw[jA aD,vo,aeb s k q n (i+1) (by omega),List.range'_succ,sA];by_cases ai:k[i]?.getD false=true
  .rw[aP ai,aP ai,zE,bn aD,b9]
  .rw[aw ai,aw ai]
def Y0(s:cq)(keep:aW):ht s keep=(tf (np s.rs keep).1 s.rs).map λj=>ny s (np s.rs keep).1 (np s.rs keep).2 j (s.rs[j]?.getD jz):=by
 have:=aeb s (np s.rs keep).1 (np s.rs keep).2 s.rs 0 (by omega);rw[rS,<-ZT]at this;exact this
def X5{k:List Bool}{n i:aa}(aD:i<n)(ai:k[i]?.getD false=true):(tf k n)[oJ k i]?=some i:=by
 unfold tf;obtain⟨m,rfl⟩:∃m,n=i+(m+1):=⟨n-i-1,by omega⟩;have tX:List.range (i+(m+1))=List.range i++i::List.range' (i+1) m:=by
  rw[ZT,ZT,<-List.range'_append_1,List.range'_succ];simp
 rw[tX,x8,sA,aP ai];unfold oJ;rw[k4 (bB _),k7];rfl
def R2{k:List Bool}{n j i:aa}(h:(tf k n)[j]?=some i):i<n/\k[i]?.getD false=true/\oJ k i=j:=by
 have hm:=fe h;unfold tf at hm;rw[uq,me]at hm;refine⟨hm.1,hm.2,?_⟩;have ad:=X5 hm.1 hm.2;have iA:(tf k n).Nodup:=List.nodup_range.filter _;have ao:=b2 h;have aR:=b2 ad;obtain⟨eS,a2⟩:=ao;obtain⟨c9,bW⟩:=aR;exact (List.getElem_inj iA).1 (bW.trans a2.symm)
def abm{k:List Bool}{i j:aa}(h:i<j)(aD:k[i]?.getD false=true):oJ k i<oJ k j:=by
 obtain⟨m,rfl⟩:∃m,j=i+1+m:=⟨j-i-1,by omega⟩;induction m with
 |zero=>rw[lT,Vn,aP aD];omega
 |succ m bO=>
  have:=bO (by omega);rw[<-Hl,Vn];split<;>omega
def anS{s:cq}{keep:aW}(aC:Ic s.rs)(aK:∀r∈s.rs,∃x:cw,jM s r.bx=[x]/\x.o≠8/\¬(36<=x.o/\x.o<=39)):
  ki s.rs (ht s keep) (λj=>(tf (np s.rs keep).1 s.rs)[j]?.getD 0) (λi=>(i:J)∈keep/\i<s.rs.length):=by
 obtain⟨K,bE⟩:=Ya s.rs keep;have a1:=Y0 s keep;generalize (np s.rs keep).1=k at*;generalize (np s.rs keep).2=q at*;have hlen:(ht s keep).length=(tf k s.rs).length:=by rw[a1,er]
 have ir:∀(l:List Bool)(i:aa),e1 l (i:J)=l[i]?.getD false:=λl i=>by unfold e1;rw[c7]
 refine⟨λj x ay=> ?_,λa b pg af=> ?_,λi aD fB=> ?_⟩
 .have qL:j<(tf k s.rs).length:=by rw[<-hlen];exact (b2 ay).1
  have al:=bn qL;obtain⟨i0,i1,i2⟩:=R2 al;rw[a1,hS,al,qi]at ay;obtain rfl:=cJ ay;rw[al,b9];generalize (tf k s.rs)[j]=i at*;have Jj:=bn i0;refine⟨s.rs[i],Jj,?_⟩;rw[Jj,b9];refine⟨rfl,rfl,rfl,rfl,rfl,rfl,λaT=> ?_,λaT=> ?_,?_⟩
  .have az:q[i]?.getD false=true:=by rw[<-ir];exact (bE i (by omega) (by omega)).2 aT.1
   exact⟨aP az,aP az⟩
  .have az:¬q[i]?.getD false=true:=λaz=>aT ⟨(bE i (by omega) (by omega)).1 (by rw[ir];exact az),i0⟩;obtain⟨y,dr,eV⟩:=aK _ (fe Jj);exact⟨aw az,y,(aw az).trans dr,eV⟩
  .rcases aC.bJ i _ Jj with hp|⟨dX,dM,-⟩
   .left;refine⟨hp,?_⟩;show (if 0<=kX s.rs i then _ else s.rs[i].bJ)= -1;rw[aw ?_,hp];unfold kX;rw[Jj,b9,aP (.inl (by omega))];decide
   .right;have Cs:kX s.rs i=s.rs[i].bJ:=by
     unfold kX;rw[Jj,b9,aw (by omega)]
    have W9:k[(s.rs[i].bJ).toNat]?.getD false=true:=by
     rcases K.aI i (by rw[ir];exact i1) (by rw[Cs];exact dX)with ab|ab
     .rw[Cs]at ab;exact ab
     .rw[Cs]at ab;omega
    have nK:(s.rs[i].bJ).toNat<k.length:=by rw[K.rE];omega
    have akA:(ny s k q i s.rs[i]).bJ=((oJ k (s.rs[i].bJ).toNat:aa):J):=by
     show (if 0<=kX s.rs i then (qR k 0)[(kX s.rs i).toNat]?.getD 0 else s.rs[i].bJ)=_;rw[aP (by rw[Cs];exact dX),Cs,RV k 0 _ nK,b9,aP W9];omega
    rw[akA];have aN:=abm (k:=k) (i:=(s.rs[i].bJ).toNat) (j:=i) (by omega) W9;refine⟨dX,by omega,by omega,?_⟩;rw[c7,X5 (n:=s.rs.length) (by omega) W9,b9];omega
 .rw[hlen]at af;have atH:=bn (l:=tf k s.rs) (i:=a) (by omega);have QD:=bn (l:=tf k s.rs) (i:=b) af;obtain⟨a0,eS,a2⟩:=R2 atH;obtain⟨b0',c9,bW⟩:=R2 QD;rw[atH,QD,b9,b9];rcases Kc (tf k s.rs)[a] (tf k s.rs)[b]with h|h|h
  .exact h
  .rw[h]at a2;omega
  .have:=abm (k:=k) h c9;omega
 .have ai:k[i]?.getD false=true:=by
   rw[<-ir];exact K.sub i (by omega) ((bE i (by omega) (by omega)).2 aD.1)
  have ab:=X5 (n:=s.rs.length) fB ai;refine⟨oJ k i,by rw[hlen];exact (b2 ab).1,?_⟩;rw[ab,b9]
def cC(l:List aa):aW:=l.map λi:aa=>(i:J)
def oW(l:List aa):(cC l).length=l.length:=er ..
def Sd{l:List aa}{j k:aa}(h:l[j]?=some k):(cC l)[j]?=some (k:J):=by unfold cC;rw[hS,h];rfl
def Yx(l:List aa)(k:aa):cC (l++[k])=cC l++[(k:J)]:=by unfold cC;rw[k6];rfl
def ahL(p:J):∀(l:aW)(i:aa),(tQ p l i).length<=l.length:=by
 intro l;induction l with
 |nil=>intro i;exact bB _
 |cons x l bO=>
  intro i;rw[tQ];have:=bO (i+1);split
  .simp only[hi];omega
  .simp only[hi];omega
def ahZ(v:ak)(par:aW)(p:J)(w:ag)(eJ:gw w v par)(av:par.length<=1000):bg 166 #[v,p] w (tj w (cC (gb par p)) w):=by
 obtain⟨jq,fx,fy,fz,fA⟩:=hy Tryz.td;obtain⟨A,cap,rfl,aj⟩:=eJ.at_;obtain⟨C,hC⟩:∃C,C=gb par p:=⟨_,rfl⟩;have ct:=I (show tQ p (par.drop 0) 0=C by rw[hC];rfl);rw[<-hC];obtain⟨n,aH⟩:∃n,n=par.length:=⟨_,rfl⟩;rw[<-aH]at aj av⊢;have b3:=I aH;have bS:=I aj;clear hC aH eJ aj;go_enter func166,ntmps166
 go_upto_region 3 with fail
 go_loopw [5,10] (λa y wr=>∃(i:aa)(l:List aa),y=ah i/\i<=n/\Kept w wr/\dj wr w a (cC l)/\l.length<=i/\l++tQ p (par.drop i) i=C) (λ_ y _=>n-(intOf y).toNat)
 case atStart=>exact⟨0,[],rfl,d' _,aG _,qh _ _ _ _,bB _,ct⟩
 case round=>
  obtain⟨i,l,rfl,dG,ax,dZ,uV,a6⟩:=hrel;by_cases aN:i<n
  .obtain⟨b,o,rfl,af,aq⟩:=bS.out (by omega);have al:par[i]?=some (par[i]'(by have:=b3.out;omega)):=bn _;have cK:=aq i _ al;rw[jA (by have:=b3.out;omega),tQ]at a6;generalize par[i]'(by have:=b3.out;omega)=q at*;have jF:=ax.aI af cK;have qG:=bG af ax.size;have db:(i:J)<n:=by omega
   have eG:=I dZ;have cp:=I ax;have nN:=ax.size;have kg:=I uV;by_cases az:q=p
   .rw[aP az]at a6;have aX:=I (show (l++[i])++tQ p (par.drop (i+1)) (i+1)=C by rw[nY];exact a6);subst az;clear a6 dZ ax aq al cK;go_wp2_with (at_builtin;refine jB _ rfl (.tmp 18) (.tmp 20) 46 rfl w 3 jq () 1 8 underlying46 fx fy fz fA rfl (by decide) _ (cC l).length ((cC l).map (.int .i64)) rfl (fX eG _) ⟨wr.heap.size,0,none⟩ 1 1 [ah i] rfl rfl (n0 _ _ _) (oY i) (by rw[oW];unfold maxLen;omega) (by rw[oW];omega) (by simp;omega) ?_;intro v6 dc bd a8 _ dk;have gm:=I (bb (vq bd) a8);clear bd a8 dk)
    have bM:=I (bb (ll (cp.out.alloc _) (fX eG.out _) (bB _) gm.out.2) (show dj dc w v6 (cC (l++[i])) by rw[Yx];exact gm.1));go_roundw
    case rel=>exact⟨i+1,l++[i],by go_num,aN,bM.1,bM.2,by rw[fk,sy];have:=kg.out;omega,aX⟩
    case measure=>simp[intOf];omega
   .rw[aw az]at a6;have aX:=I a6;clear a6 dZ ax aq al cK;go_wp2_with fail
    go_roundw
    case rel=>exact⟨i+1,l,by go_num,aN,cp,eG,by have:=kg.out;omega,aX⟩
    case measure=>simp[intOf];omega
  .obtain rfl:i=n:=by omega
   have db:¬((i:J)<i):=by omega
   rw[vD (by have:=b3.out;omega),tQ,hj]at a6;have bM:=I (bb dZ (bb ax a6));clear dZ ax a6;go_wp2_with fail
   go_ret;exact⟨_,rfl,by rw[<-bM.2.2];exact bM.1,bM.2.1⟩
def Lm(w:ag)(v:ak)(par pri o:aW):Prop:=∃fZ m_ gr,v=aF #[fZ,m_,gr]/\gw w fZ par/\gw w m_ pri/\gw w gr o
def Lm.kept{w w':ag}{v:ak}{par pri o:aW}(h:Lm w v par pri o)(ai:Kept w w'):Lm w' v par pri o:=by
 obtain⟨fZ,m_,gr,aK,ab,ad,ao⟩:=h;exact⟨fZ,m_,gr,aK,ab.kept ai,ad.kept ai,ao.kept ai⟩
def gW(l:aW)(i:aa):J:=l[i]?.getD 0
def ajn{α β:Type}(f:α->β->α){l:List β}{j:aa}{x:β}(h:l[j]?=some x)(a:α):(l.drop j).foldl f a=(l.drop (j+1)).foldl f (f a x):=by
 have ay:=(b2 h).1;rw[jA ay];obtain⟨_,rfl⟩:=b2 h;rfl
def Vj{par:aW}{p:J}{c:aa}(h:c∈gb par p):c<par.length:=(b2 (r8.1 h)).1
def Ao{l:aW}{i:aa}(h:i<l.length):l[i]?=some (gW l i):=by
 unfold gW;rw[bn h];rfl
def anC{w:ag}{B g m cap:aa}{l:aW}(h:dj w B (ae (some (g,0)) m cap) l)(av:l.length=m):dj w B (ae (some (g,0)) 0 cap) []:=by
 unfold dj at h;rw[av]at h;exact adX (m:=0) h (d' _)
def ahr{pri o:aa->J}{acc:List aa}{c:aa}(h:o c= -1):pe pri o acc c=acc:=by unfold pe;rw[aP h]
def ahq{pri o:aa->J}{c:aa}(h:o c≠ -1):pe pri o [] c=[c]:=by unfold pe;rw[aw h]
def ahp{pri o:aa->J}{b c:aa}{r:List aa}(h:o c≠ -1)(ab:pri b<pri c):pe pri o (b::r) c=[c]:=by unfold pe;rw[aw h];dsimp only;rw[aP ab]
def ahn{pri o:aa->J}{b c:aa}{r:List aa}(h:o c≠ -1)(ab:pri c=pri b):pe pri o (b::r) c=b::r++[c]:=by unfold pe;rw[aw h];dsimp only;rw[aw (by omega)];dsimp only;rw[aP ab]
def aho{pri o:aa->J}{b c:aa}{r:List aa}(h:o c≠ -1)(ab:pri c<pri b):pe pri o (b::r) c=b::r:=by unfold pe;rw[aw h];dsimp only;rw[aw (by omega)];dsimp only;rw[aw (by omega)]
def ahs(v:ak)(par pri o:aW)(p:J)(w:ag)(bT:Lm w v par pri o)(av:par.length<=1000)(az:pri.length=par.length)(aA:o.length=par.length):
  Calls prog 151 #[v,p] w (tj w (cC (jI (gW pri) (gW o) (gb par p))) w):=by
 obtain⟨jq,fx,fy,fz,fA⟩:=hy Tryz.td;obtain⟨fZ,m_,gr,rfl,eJ,cL,dZ⟩:=bT;have Dj:=I (λw1(ai:Kept w w1)=>ahZ fZ par p w1 (eJ.kept ai) av);obtain⟨xb,vj,rfl,-⟩:=eJ.at_;obtain⟨uG,nx,rfl,Cx⟩:=cL.at_;obtain⟨vT,CO,rfl,Jg⟩:=dZ.at_;rw[az]at Cx⊢;rw[aA]at Jg⊢;obtain⟨Dg,bc⟩:∃B,B=jI (gW pri) (gW o) (gb par p):=⟨_,rfl⟩;have dv:=I (show ((gb par p).drop 0).foldl (pe (gW pri) (gW o)) []=Dg by rw[bc];rfl);rw[<-bc];have hr:=I (λc(h:c∈gb par p)=>Vj h);have Bf:=I (show (gb par p).length<=par.length from ahL p par 0);generalize gb par p=mu at*;obtain⟨n,aH⟩:∃n,n=par.length:=⟨_,rfl⟩;have Ul:=I (λi(aD:i<n)=>by
  obtain⟨b,off,ab,ad,ao⟩:=Cx (by omega);exact (⟨b,off,ab,ad,ao i _ (Ao (by omega))⟩:∃b off,uG=some ⟨b,off,none⟩/\b<w.heap.size/\w.cell? ⟨b,off+i,none⟩=some (.int .i64 (gW pri i))))
 have Bp:=I (λi k(aD:i<n)(ai:k<n)=>by
  obtain⟨b,off,ab,ad,ao⟩:=Cx (by omega);exact (⟨b,off,ab,ad,ao i _ (Ao (by omega)),ao k _ (Ao (by omega))⟩:∃b off,uG=some ⟨b,off,none⟩/\b<w.heap.size/\w.cell? ⟨b,off+i,none⟩=some (.int .i64 (gW pri i))/\w.cell? ⟨b,off+k,none⟩=some (.int .i64 (gW pri k))))
 have Uf:=I (λi(aD:i<n)=>by
  obtain⟨b,off,ab,ad,ao⟩:=Jg (by omega);exact (⟨b,off,ab,ad,ao i _ (Ao (by omega))⟩:∃b off,vT=some ⟨b,off,none⟩/\b<w.heap.size/\w.cell? ⟨b,off+i,none⟩=some (.int .i64 (gW o i))))
 rw[<-aH]at av hr Bf Dj⊢;clear aH Cx Jg eJ cL dZ az aA bc;generalize gW pri=l3 at*;generalize gW o=F4 at*;go_enter func151,ntmps151
 go_upto_region 2 with fail
 generalize aL:w.alloc _=W at*;obtain⟨aV,bo⟩:=Kept.aQ aL;clear aL;have dX:=bo.cell 0;have cR:=bo.lt;simp only[hL,iP]at dX;have uA:=I (Dj W aV);go_upto_region 3 with (go_at_call 166;refine uA.mono ?_;rintro e w1⟨u,rfl,bd,a8⟩;obtain⟨at1,P7,rfl,s9⟩:=dj.row bd;have b1:=I (bb s9 a8);clear bd a8 s9)
 rw[oW];have ca:Kept w w1:=aV.trans b1.2;have bh:=bo.kept b1.2;have uF:=I b1.1;clear Dj uA b1 dX cR bo;have oO:(mu:J)<=1000:=by have:=Bf.out;omega
 go_loopw [5,13] (λa y wr=>∃(j:aa)(l:List aa),y= .int .i64 j/\j<=mu.length/\Kept w1 wr/\dj wr w1.heap.size a (cC l)/\l.length<=j/\(∀x∈l,x<n)/\(mu.drop j).foldl (pe l3 F4) l=Dg) (λ_ y _=>mu.length-(intOf y).toNat)
 case atStart=>exact⟨0,[],rfl,d' _,aG _,qh _ _ _ _,bB _,λx aj=>(by cases aj),dv⟩
 case round=>
  obtain⟨j,l,rfl,Aw,ax,QP,uV,Je,a6⟩:=hrel;by_cases aN:j<mu.length
  .obtain⟨P9,rfl,ajW,Q4,ML⟩:=uF.out (by rw[oW];omega);have al:mu[j]?=some mu[j]:=bn aN;have uR:=hr.out _ (fe al);rw[ajn _ al]at a6;have cK:=ML j _ (Sd al);generalize mu[j]=c at*;have jF:=ax.aI Q4 cK;have arP:=bG Q4 ax.size;have bm:=bh.kept ax;have dQ:=bm.cell 2;have b5:=bm.lt;simp only[hL,jd,iP]at dQ;obtain⟨YF,pz,rfl,Cp,Gw⟩:=Uf.out c uR;have vS:=ca.trans ax;have k8:=vS.aI Cp Gw;have acz:=bG Cp vS.size;have hH:(j:J)<mu.length:=by omega
   have D6:(c:J)<n:=by omega
   have eG:=I QP;have cp:=I ax;have kg:=I (bb uV Je);have nN:=ax.size;have eA:=I bm;have gi:=I vS;clear cK Gw al ML QP ax bm vS;by_cases Xo:F4 c= -1
   .have aX:=I (show (mu.drop (j+1)).foldl (pe l3 F4) l=Dg by rw[ahr Xo]at a6;exact a6);rw[Xo]at k8;clear a6;go_wp2_with fail
    go_roundw
    case rel=>exact⟨j+1,l,by go_num,aN,cp,eG,by have:=kg.1;omega,kg.2,aX⟩
    case measure=>simp[intOf];omega
   .have aX:=I a6;have sJ:=I Xo;obtain⟨lC,ac,rfl,Ge⟩:=dj.row eG;rw[oW]at Ge eG⊢;obtain⟨m,hm⟩:∃m,l.length=m:=⟨_,rfl⟩;rw[hm]at Ge eG⊢;have cB:=I hm;clear hm uV;go_upto_region 6 with fail
    match l,Ge,eG,kg,aX,cB with
    |[],Ge,eG,kg,aX,cB=>
     obtain rfl:m=0:=cB.symm;refine nc (by kernel_rfl) (by kernel_rfl) ?_
     repeat (go_big_quiet_step (fail))
     refine f' ?_;rintro xZ⟨⟨uh,kU⟩,aT⟩;obtain rfl:_=uh:=aT;go_upto_region 8 with fail
     refine nc (by kernel_rfl) (by kernel_rfl) ?_
     repeat (go_big_quiet_step (fail))
     refine f' ?_;rintro C_⟨⟨uh,ta⟩,aT⟩;obtain rfl:_=uh:=aT;have pM:=I ((cp.trans kU).trans ta);have zS:=I (eG.vd (kU.trans ta));have oT:=pM.size;clear kU ta Ge;go_wp2_with (at_builtin;refine jB _ rfl (.tmp 61) (.tmp 63) 46 rfl w1.heap.size 3 jq () 1 8 underlying46 fx fy fz fA rfl (by decide) _ (cC []).length ((cC []).map (.int .i64)) rfl (fX zS _) ⟨C_.heap.size,0,none⟩ 1 1 [.int .i64 c] rfl rfl (n0 _ _ _) (oY c) (by rw[oW];have:=kg.1;first|(unfold maxLen;omega)|(simp only[sB];unfold maxLen;omega)) (by rw[oW];have:=kg.1;first|omega|(simp only[sB];omega)) (by have:=pM.size;simp;omega) ?_;intro v9 mb bd a8 _ dk;have q4:=I (bb (vq bd) a8);clear bd a8 dk)
     have bM:=I (bb (ll (pM.out.alloc _) (fX zS.out _) (bB _) q4.out.2) (show dj mb w1.heap.size v9 (cC [c])from q4.out.1));have jH:=I (show (mu.drop (j+1)).foldl (pe l3 F4) [c]=Dg by rw[<-aX,ahq sJ]);go_roundw
     case rel=>exact⟨j+1,[c],by go_num,aN,bM.1,bM.2,by simp,λx aj=>by rw[kb]at aj;subst aj;omega,jH⟩
     case measure=>simp[intOf];omega
    |b::r,Ge,eG,kg,aX,cB=>
     obtain⟨aul,rfl,arF,Gc,ab7⟩:=Ge (by have:=cB.out;simp only[hi]at this;omega);have a0:=ab7 0 b rfl;have hm9:m<=1000:=by have:=cB.out;have:=kg.1;omega
     have kt:=kg.2 b (o2 ..);have WK:(b:J)<n:=by omega
     obtain⟨tl,vl,rfl,l_,Gz,hqd⟩:=Bp.out c b uR kt;have mf:=gi.aI l_ Gz;have iG:=gi.aI l_ hqd;have AD:=bG l_ gi.size;have dM:=eA.cell 1;simp only[hL,jd,iP]at dM;have Ny:=aS.cell Gc a0;have p7:=aS.cell AD mf;have Ek:=aS.cell AD iG;have kp:=aS.cell b5 dM;have GB:(0:J)<(m:J):=by have:=cB.out;simp only[hi]at this;omega
     have akS:¬(m:J)=0:=by omega
     have hf:decide (0<(m:J))=true:=jR GB;have mx:decide (0<m)=true:=jR (by omega);have se:((m:J)==0)=false:=by simp;omega
     have Q6:(m==0)=false:=by simp;omega
     clear Gz hqd ab7;rcases Int.lt_trichotomy (l3 b) (l3 c)with Jh|Jh|Jh
     .have Fm:=I Jh;refine nc (by kernel_rfl) (by kernel_rfl) ?_
      repeat (go_big_quiet_step (fail))
      refine f' ?_;rintro xZ⟨⟨uh,kU⟩,aT⟩;obtain rfl:_=uh:=aT;have Im:=kU.aI Gc a0;have arG:=bG Gc kU.size;clear Ny p7 Ek kp;go_upto_region 8 with fail
      refine nc (by kernel_rfl) (by kernel_rfl) ?_
      repeat (go_big_quiet_step (fail))
      refine f' ?_;rintro C_⟨⟨uh,ta⟩,aT⟩;obtain rfl:_=uh:=aT;have pM:=I ((cp.trans kU).trans ta);have zS:=I (show dj C_ w1.heap.size (.slice (some (aul,0)) 0 ac) (cC [])from anC (eG.vd (kU.trans ta)) (by rw[oW];exact cB));have oT:=pM.size;clear kU ta;go_wp2_with (at_builtin;refine jB _ rfl (.tmp 61) (.tmp 63) 46 rfl w1.heap.size 3 jq () 1 8 underlying46 fx fy fz fA rfl (by decide) _ (cC []).length ((cC []).map (.int .i64)) rfl (fX zS _) ⟨C_.heap.size,0,none⟩ 1 1 [.int .i64 c] rfl rfl (n0 _ _ _) (oY c) (by rw[oW];have:=kg.1;first|(unfold maxLen;omega)|(simp only[sB];unfold maxLen;omega)) (by rw[oW];have:=kg.1;first|omega|(simp only[sB];omega)) (by have:=pM.size;simp;omega) ?_;intro v9 mb bd a8 _ dk;have q4:=I (bb (vq bd) a8);clear bd a8 dk)
      have bM:=I (bb (ll (pM.out.alloc _) (fX zS.out _) (bB _) q4.out.2) (show dj mb w1.heap.size v9 (cC [c])from q4.out.1));have jH:=I (show (mu.drop (j+1)).foldl (pe l3 F4) [c]=Dg by rw[<-aX,ahp sJ Fm]);go_roundw
      case rel=>exact⟨j+1,[c],by go_num,aN,bM.1,bM.2,by simp,λx aj=>by rw[kb]at aj;subst aj;omega,jH⟩
      case measure=>simp[intOf];omega
     .have Fm:=I Jh;have Nd:¬l3 b<l3 c:=by omega
      have hpe:(l3 c==l3 b)=true:=by simp;omega
      refine nc (by kernel_rfl) (by kernel_rfl) ?_
      repeat (go_big_quiet_step (fail))
      refine f' ?_;rintro xZ⟨⟨uh,kU⟩,aT⟩;obtain rfl:_=uh:=aT;have X7:=aS.cell (bG Gc kU.size) (kU.aI Gc a0);have X9:=aS.cell (bG AD kU.size) (kU.aI AD mf);have X8:=aS.cell (bG AD kU.size) (kU.aI AD iG);have Yb:=aS.cell (bG b5 kU.size) (kU.aI b5 dM);have K0:=I kU;clear Ny p7 Ek kp kU;go_upto_region 8 with fail
      refine nc (by kernel_rfl) (by kernel_rfl) ?_
      repeat (go_big_quiet_step (fail))
      refine f' ?_;rintro C_⟨⟨uh,ta⟩,aT⟩;obtain rfl:_=uh:=aT;have pM:=I ((cp.trans K0).trans ta);have zS:=I (eG.vd (K0.trans ta));have oT:=pM.size;clear ta X7 X9 X8 Yb;go_wp2_with (at_builtin;refine jB _ rfl (.tmp 61) (.tmp 63) 46 rfl w1.heap.size 3 jq () 1 8 underlying46 fx fy fz fA rfl (by decide) _ (cC (b::r)).length ((cC (b::r)).map (.int .i64)) rfl (fX zS _) ⟨C_.heap.size,0,none⟩ 1 1 [.int .i64 c] rfl rfl (n0 _ _ _) (oY c) (by rw[oW];have:=kg.1;first|(unfold maxLen;omega)|(simp only[sB];unfold maxLen;omega)) (by rw[oW];have:=kg.1;first|omega|(simp only[sB];omega)) (by have:=pM.size;simp;omega) ?_;intro v9 mb bd a8 _ dk;have q4:=I (bb (vq bd) a8);clear bd a8 dk)
      have bM:=I (bb (ll (pM.out.alloc _) (fX zS.out _) (bB _) q4.out.2) (show dj mb w1.heap.size v9 (cC (b::r++[c]))from by rw[Yx];exact q4.1));have jH:=I (show (mu.drop (j+1)).foldl (pe l3 F4) (b::r++[c])=Dg by rw[<-aX,ahn sJ Fm.symm]);go_roundw
      case rel=>exact⟨j+1,(b::r++[c]),by go_num,aN,bM.1,bM.2,by have:=kg.1;simp only[fk,hi,sB]at*;omega,λx aj=>by
       rcases k5.1 aj with aj|aj
       .exact kg.2 x aj
       .rw[kb]at aj;subst aj;omega,jH⟩
      case measure=>simp[intOf];omega
     .have Fm:=I Jh;have Nd:¬l3 b<l3 c:=by omega
      have hpe:(l3 c==l3 b)=false:=by simp;omega
      refine nc (by kernel_rfl) (by kernel_rfl) ?_
      repeat (go_big_quiet_step (fail))
      refine f' ?_;rintro xZ⟨⟨uh,kU⟩,aT⟩;obtain rfl:_=uh:=aT;have X7:=aS.cell (bG Gc kU.size) (kU.aI Gc a0);have X9:=aS.cell (bG AD kU.size) (kU.aI AD mf);have X8:=aS.cell (bG AD kU.size) (kU.aI AD iG);have Yb:=aS.cell (bG b5 kU.size) (kU.aI b5 dM);have K0:=I kU;clear Ny p7 Ek kp kU;go_upto_region 8 with fail
      refine nc (by kernel_rfl) (by kernel_rfl) ?_
      repeat (go_big_quiet_step (fail))
      refine f' ?_;rintro C_⟨⟨uh,ta⟩,aT⟩;obtain rfl:_=uh:=aT;have pM:=I ((cp.trans K0).trans ta);have zS:=I (eG.vd (K0.trans ta));have oT:=pM.size;clear ta X7 X9 X8 Yb;have jH:=I (show (mu.drop (j+1)).foldl (pe l3 F4) (b::r)=Dg by rw[<-aX,aho sJ Fm]);go_wp2_with fail
      go_roundw
      case rel=>exact⟨j+1,b::r,by go_num,aN,pM,zS,by have:=kg.1;omega,kg.2,jH⟩
      case measure=>simp[intOf];omega
  .obtain rfl:j=mu.length:=by omega
   have hH:¬((mu:J)<mu.length):=by omega
   rw[E4]at a6;obtain rfl:l=Dg:=a6;have bM:=I (bb QP ax);clear QP ax;go_wp2_with fail
   go_ret;exact⟨_,rfl,dj.low bM.1 ca.size,ca.trans bM.2⟩
def Tx(z:J)(w:ag)(e:Ending)(w':ag):Prop:=e=bL z/\Kept w w'
def aaS{pri o:aa->J}{l:List aa}{c:aa}(h:c∈jI pri o l):c∈l:=by
 rw[sT]at h;exact (px.1 h).1
def aeA{pri f g:aa->J}{l:List aa}(h:∀c∈l,f c=g c):nu f (jI pri f l)=nu g (jI pri g l):=by
 have af:jI pri f l=jI pri g l:=by
  rw[sT,sT];unfold iY;refine E3 λc aq=> ?_;rw[Hk,h c aq];exact and_congr Iff.rfl ⟨λaT d aE=>by rw[<-h d aE];exact aT d aE,λaT d aE=>by rw[h d aE];exact aT d aE⟩
 have aO:∀c∈jI pri g l,f c=g c:=λc aq=>h c (aaS aq);rw[af];match oj:jI pri g l,aO with
 |[],_=>rfl
 |[c],aO=>exact aO c (by simp)
 |c::d::r,_=>rfl
def adE(v:ak)(par pri o:aW)(p:J)(w:ag)(bT:Lm w v par pri o)(av:par.length<=1000)(az:pri.length=par.length)(aA:o.length=par.length):
  Calls prog 130 #[v,p] w (Tx (nu (gW o) (jI (gW pri) (gW o) (gb par p))) w):=by
 have OR:=I (λw1(ai:Kept w w1)=>ahs v par pri o p w1 (bT.kept ai) av az aA);obtain⟨fZ,m_,gr,rfl,eJ,cL,dZ⟩:=bT;obtain⟨xb,vj,rfl,-⟩:=eJ.at_;obtain⟨uG,nx,rfl,-⟩:=cL.at_;obtain⟨vT,CO,rfl,Jg⟩:=dZ.at_;have Uf:=I (λi(aD:i<par.length)=>by
  obtain⟨b,off,ab,ad,ao⟩:=Jg (by omega);exact (⟨b,off,ab,ad,ao i _ (Ao (by omega))⟩:∃b off,vT=some ⟨b,off,none⟩/\b<w.heap.size/\w.cell? ⟨b,off+i,none⟩=some (.int .i64 (gW o i))))
 have KT:=I (λc(h:c∈jI (gW pri) (gW o) (gb par p))=>Vj (aaS h));generalize jI (gW pri) (gW o) (gb par p)=tP at*;have oP:(o:J)=par.length:=by omega
 rw[az,aA]at*;clear Jg eJ cL dZ;generalize par.length=n at*;go_enter func130,ntmps130
 go_upto_region 1 with fail
 generalize aL:w.alloc _=W at*;obtain⟨aV,bo⟩:=Kept.aQ aL;clear aL;have dX:=bo.cell 0;have dM:=bo.cell 1;have dQ:=bo.cell 2;have cR:=bo.lt;simp only[hL,iP,jd]at dX dM dQ;have e3:=I (OR W aV);go_upto_region 2 with (go_at_call 151;refine e3.mono ?_;rintro e w1⟨u,rfl,bd,a8⟩;obtain⟨at1,P7,rfl,s9⟩:=dj.row bd;have b1:=I (bb s9 a8);clear bd a8 s9)
 rw[oW];have ca:Kept w w1:=aV.trans b1.2;have bh:=bo.kept b1.2;have uF:=I b1.1;have fP:=bh.cell 2;have dW:=bh.lt;simp only[hL,iP,jd]at fP;have dA:=I ca;clear OR e3 b1 dX dM dQ cR bo bh;match tP,uF,KT with
 |[],uF,KT=>
  go_wp2_with fail
  go_ret;exact⟨rfl,dA⟩
 |c::d::r,uF,KT=>
  obtain⟨m,hm⟩:∃m,(c::d::r).length=m:=⟨_,rfl⟩;rw[hm];have ar:¬(m:J)=0:=by simp only[hi]at hm;omega
  have ab:¬(m:J)=1:=by simp only[hi]at hm;omega
  clear hm;go_wp2_with fail
  go_ret;exact⟨rfl,dA⟩
 |[c],uF,KT=>
  obtain⟨P9,rfl,ajW,Q4,ML⟩:=uF.out (by simp[cC]);have uR:=KT.out c (by simp);have cK:=ML 0 c rfl;obtain⟨YF,pz,rfl,Cp,Gw⟩:=Uf.out c uR;have k8:=dA.aI Cp Gw;have acz:=bG Cp dA.size;have et:=aS.cell Q4 cK;have au:=aS.cell acz k8;have bt:=aS.cell dW fP;have D6:(c:J)<n:=by omega
  clear ML Gw;go_upto_region 6 with fail
  refine nc (by kernel_rfl) (by kernel_rfl) ?_
  repeat (go_big_quiet_step (fail))
  refine f' ?_;rintro c4⟨⟨cj,eX⟩,aT⟩;obtain rfl:c4=cj:=aT;go_wp2_with fail
  go_ret;exact⟨rfl,dA.trans eX⟩
def Vp(b:Bool)(w:ag)(e:Ending)(w':ag):Prop:=∃c:J,e=bL c/\(b=true->c=0)/\(b=false->c≠0)/\Kept w w'
def apW{par pri:aW}{i:aa}{q:J}(aD:par[i]?=some q)(av:pri.length=par.length)(h:¬(-1<=q/\q<i/\0<=gW pri i/\gW pri i<=9)):o1 par pri=false:=by
 cases cr:o1 par pri
 .rfl
 .exact absurd (((G' av).1 cr).2 i q aD) h
def aop(fZ m_:ak)(par pri:aW)(w:ag)(eJ:gw w fZ par)(cL:gw w m_ pri)(av:par.length<=1000)(az:pri.length<=1000):bg 128 #[fZ,m_] w (Vp (o1 par pri) w):=by
 obtain⟨xb,vj,rfl,Xt⟩:=eJ.at_;obtain⟨uG,nx,rfl,Cx⟩:=cL.at_;have KM:=I (λi(aD:i<par.length)=>by
  obtain⟨b,off,ab,ad,ao⟩:=Xt (by omega);exact (⟨b,off,ab,ad,ao i _ (Ao (by omega))⟩:∃b off,xb=some ⟨b,off,none⟩/\b<w.heap.size/\aU w ⟨b,off+i,none⟩=some (ah (gW par i))))
 have Ul:=I (λi(aD:i<pri.length)=>by
  obtain⟨b,off,ab,ad,ao⟩:=Cx (by omega);exact (⟨b,off,ab,ad,ao i _ (Ao (by omega))⟩:∃b off,uG=some ⟨b,off,none⟩/\b<w.heap.size/\aU w ⟨b,off+i,none⟩=some (ah (gW pri i))))
 have H1:=I (show par.length≠pri.length->o1 par pri=false from λh=>by unfold o1;rw[jC h];rfl);have vL:=I (show par.length=pri.length->¬par.length<=8->o1 par pri=false from λh ad=>by unfold o1;rw[jC ad];simp);have pJ:=I (show∀i,i<par.length->par.length=pri.length->¬(-1<=gW par i/\gW par i<i/\0<=gW pri i/\gW pri i<=9)->o1 par pri=false from λi aD h ad=>apW (Ao aD) h.symm ad);have iR:=I (show par.length=pri.length->par.length<=8->(∀i,i<par.length->(-1<=gW par i/\gW par i<i/\0<=gW pri i/\gW pri i<=9))->o1 par pri=true from λh ad ao=>(G' h.symm).2 ⟨ad,λi p hp=>by
  have aD:=(b2 hp).1;have:=ao i aD;rw[Ao aD]at hp;obtain rfl:=cJ hp;exact this⟩)
 generalize o1 par pri=tb at*;obtain⟨n,aH⟩:∃n,par.length=n:=⟨_,rfl⟩;obtain⟨m,hm⟩:∃m,pri.length=m:=⟨_,rfl⟩;rw[aH]at av KM H1 vL pJ iR⊢;rw[hm]at az Ul H1 vL pJ iR⊢;clear aH hm Xt Cx eJ cL;generalize gW par=l3 at*;generalize gW pri=BZ at*;have e':=I (show∀c:J,tb=false->c≠0->∀w',Kept w w'->Vp tb w (bL c) w' from λc ab ad w' ai=>⟨c,rfl,λh=>(by rw[ab]at h;cases h),λ_=>ad,ai⟩);have UB:=I (show tb=true->∀w',Kept w w'->Vp tb w (bL ()) w' from λab w' ai=>⟨0,rfl,λ_=>rfl,λh=>(by rw[ab]at h;cases h),ai⟩);by_cases AA:n=m
 case neg=>
  have ab:=I (H1 AA);have bU:¬(n:J)=m:=by omega
  go_enter func128,ntmps128
  go_wp2_with fail
  go_ret;exact e' _ ab (by decide) _ (.refl _)
 subst AA;by_cases eI:n<=8
 case neg=>
  have ab:=I (vL rfl eI);have bU:(8:J)<n:=by omega
  go_enter func128,ntmps128
  go_wp2_with fail
  go_ret;exact e' _ ab (by decide) _ (.refl _)
 have h8i:¬(8:J)<n:=by omega
 go_enter func128,ntmps128
 go_upto_region 6 with fail
 go_loopw [17] (λy wr=>∃i:aa,y=ah i/\i<=n/\wr=w/\∀j,j<i->(-1<=l3 j/\l3 j<j/\0<=BZ j/\BZ j<=9)) (λy _=>n-(intOf y).toNat)
 case atStart=>exact⟨0,rfl,d' _,rfl,λj ay=>absurd ay (uo _)⟩
 case round=>
  obtain⟨i,rfl,dG,rfl,iK⟩:=hrel;have eF:=I iK;clear iK;by_cases aN:i<n
  .obtain⟨j1,auL,rfl,rz,Jh⟩:=KM.out i aN;obtain⟨tl,vl,rfl,l_,Gz⟩:=Ul.out i aN;have db:(i:J)<n:=by omega
   have yk:=I (pJ i aN (by trivial));have fl:=I (show (-1<=l3 i/\l3 i<i/\0<=BZ i/\BZ i<=9)->∀j,j<i+1->(-1<=l3 j/\l3 j<j/\0<=BZ j/\BZ j<=9)from λh j ay=>by
    by_cases e:j=i
    .subst e;exact h
    .exact eF j (by omega))
   generalize l3 i=a at*;generalize BZ i=b at*;rcases (show a< -1\/(¬a< -1/\(i:J)<=a)\/(¬a< -1/\¬(i:J)<=a/\b<0)\/(¬a< -1/\¬(i:J)<=a/\¬b<0/\9<b)\/(¬a< -1/\¬(i:J)<=a/\¬b<0/\¬9<b) by omega)with ab|⟨ab,ad⟩|⟨ab,ad,ao⟩|⟨ab,ad,ao,aR⟩|⟨ab,ad,ao,aR⟩
   iterate 4
    .have hF:=I (yk (by omega));go_wp2_with fail
     go_ret;exact e' _ hF.out (by decide) _ (aG _)
   .have eb:=I (fl (by omega));go_wp2_with fail
    go_roundw
    case rel=>exact⟨i+1,by go_num,aN,by trivial,eb⟩
    case measure=>simp[intOf];omega
  .obtain rfl:i=n:=by omega
   have db:¬((i:J)<i):=by omega
   have hF:=I (iR (by trivial) eI eF);go_wp2_with fail
   go_ret;exact UB hF.out _ (aG _)
structure ye(w:ag)(B:aa)(X:List aa)(us:dN)(ls:List aW):Prop where
 len:us.length=ls.length
 own:∀(d:aa)(u:ak)(l:aW),us[d]?=some u->ls[d]?=some l->dj w B u l
 ap:∀(d fp:aa)(u lO:ak),d≠fp->us[d]?=some u->us[fp]?=some lO->kP u lO
 far:∀(d:aa)(u:ak),us[d]?=some u->∀x∈X,u.ownBlock≠some x
 low:∀x∈X,x<w.heap.size
def dj.two{w w':ag}{B r:aa}{a:Option aa}{u:ak}{l:aW}(h:dj w B u l)(al:Two w w' a r)(bD:∀g,u.ownBlock=some g->a≠some g)(aC:u.ownBlock≠some r):dj w' B u l:=by
 refine⟨h.1,?_⟩;rcases h.2 with ad|⟨g,cap,cur,aK,af,aT,ao⟩
 .exact .inl ad
 .refine .inr ⟨g,cap,cur,aK,af,?_,ao⟩;rw[al.block g (nW.1 aT).1 (λe=>aC (by rw[aK,<-e];rfl)) (λe=>bD g (by rw[aK];rfl) e.symm)];exact aT
def ye.two{w w':ag}{B r d:aa}{X:List aa}{us:dN}{ls:List aW}{u v:ak}{m:aW}(h:ye w B X us ls)(hu:us[d]?=some u)(aA:dj w' B v m)(al:Two w w' u.ownBlock r)(aC:r∈X)(aK:v.ownBlock=u.ownBlock\/∃g,v.ownBlock=some g/\w.heap.size<=g):ye w' B X (us.set d v) (ls.set d m):=by
 have aE:=(b2 hu).1;have hvX:∀x∈X,v.ownBlock≠some x:=λx aj=>by
  rcases aK with e|⟨g,e,nI⟩
  .rw[e];exact h.far d u hu x aj
  .rw[e];intro a_;have:=cJ a_;have:=h.low x aj;omega
 have hva:∀(fp:aa)(lO:ak),d≠fp->us[fp]?=some lO->kP v lO:=λfp lO bU ku=>by
  rcases aK with e|⟨g,e,nI⟩
  .intro k ai iz;rw[e]at ai;exact h.ap d fp u lO bU hu ku k ai iz
  .intro k ai iz;rw[e]at ai;obtain rfl:=cJ ai;have oq:fp<ls.length:=by rw[<-h.len];exact (b2 ku).1
   have:=YO (h.own fp lO _ ku (bn oq)) iz;omega
 refine⟨by rw[gJ,gJ];exact h.len,λfp lO l' ku mz=> ?_,λd1 d2 u1 u2 bU ab ad=> ?_,λfp lO ku=> ?_,λx aj=>bG (h.low x aj) al.size⟩
 .rw[x2]at ku mz;by_cases e:d=fp
  .subst e;rw[aP rfl,aP aE]at ku;rw[aP rfl,aP (by rw[<-h.len];exact aE)]at mz
   cases ku;cases mz;exact aA
  .rw[aw e]at ku mz;exact (h.own fp lO l' ku mz).two al (λg pj kS=>h.ap d fp u lO e hu ku g kS pj) (h.far fp lO ku r aC)
 .rw[x2]at ab ad;by_cases aQ:d=d1
  .subst aQ;rw[aP rfl,aP aE]at ab;rw[aw bU]at ad
   cases ab;exact hva d2 u2 bU ad
  .rw[aw aQ]at ab;by_cases a_:d=d2
   .subst a_;rw[aP rfl,aP aE]at ad
    cases ad;exact (hva d1 u1 aQ ab).symm
   .rw[aw a_]at ad;exact h.ap d1 d2 u1 u2 bU ab ad
 .rw[x2]at ku;by_cases e:d=fp
  .subst e;rw[aP rfl,aP aE]at ku
   cases ku;exact hvX
  .rw[aw e]at ku;exact h.far fp lO ku
def ye.SQ{w:ag}{B x:aa}{X:List aa}{us:dN}{ls:List aW}(h:ye w B X us ls)(aj:x∈X)(i:aa)(u:ak):ye (w.setCell (x,i) u) B X us ls:=
 ⟨h.len,λd v l aK av=>(h.own d v l aK av).CX (h.far d v aK x aj) u,h.ap,h.far,λy bZ=>by simp;exact h.low y bZ⟩
def ye.keep{w w':ag}{B:aa}{X:List aa}{us:dN}{ls:List aW}(h:ye w B X us ls)(ai:Kept w w'):ye w' B X us ls:=
 ⟨h.len,λd v l aK av=>(h.own d v l aK av).vd ai,h.ap,h.far,λy bZ=>bG (h.low y bZ) ai.size⟩
def va(l:aW):ho:=(l.map (Value.int .i64)).toArray
def AI{l:aW}{i:aa}(h:i<l.length):(va l)[i]?=some (ah (dJ l i)):=by
 unfold va dJ;rw[hL,hS,bn h];rfl
def Jt(l:aW)(i:aa)(x:J):(va l).setIfInBounds i x=va (l.set i x):=by
 unfold va;rw[kM,Kg]
structure h6(w:ag)(B U T R:aa)(cf:dN)(fC:List aW)(aK:ak)(rd:aW)(gr:ak)(ib wt:aW):Prop where
 rO:aB w U 46 cf.toArray
 tb:aB w T 3 (va wt)
 ej:aB w R 194 #[aK]
 mM:ye w B [U,T,R] (cf++[aK,gr]) (fC++[rd,ib])
 len:cf.length=fC.length
 ut:U≠T
 C3:U≠R
 o0:T≠R
 fC:B<=U
 lt:B<=T
 zf:B<=R
section
variable {w w':ag} {B U T R:aa} {cf:dN} {fC:List aW} {aK:ak} {rd:aW} {gr:ak} {ib wt:aW}
def h6.Jr(h:h6 w B U T R cf fC aK rd gr ib wt):(cf++[aK,gr])[cf.length]?=some aK/\(fC++[rd,ib])[cf.length]?=some rd:=
 ⟨by rw[k4 (bB _),k7];rfl,by rw[h.len,k4 (bB _),k7];rfl⟩
def h6.Sw(h:h6 w B U T R cf fC aK rd gr ib wt):(cf++[aK,gr])[cf.length+1]?=some gr/\(fC++[rd,ib])[cf.length+1]?=some ib:=
 ⟨by rw[k4 (by omega),show cf.length+1-cf.length=1 by omega];rfl,by rw[h.len,k4 (by omega),show fC.length+1-fC.length=1 by omega];rfl⟩
def h6.JV(h:h6 w B U T R cf fC aK rd gr ib wt){d:aa}(aE:d<cf.length):(cf++[aK,gr])[d]?=some cf[d]/\(fC++[rd,ib])[d]?=some (fC[d]'(by rw[<-h.len];exact aE)):=
 ⟨by rw[lQ aE,bn aE],by rw[lQ (by rw[<-h.len];exact aE),bn]⟩
def h6.hp(h:h6 w B U T R cf fC aK rd gr ib wt):j6 w B R aK rd:=
 ⟨h.ej,h.mM.own _ _ _ h.Jr.1 h.Jr.2,h.mM.far _ _ h.Jr.1 R (by simp),h.zf⟩
def h6.pz(h:h6 w B U T R cf fC aK rd gr ib wt):dj w B gr ib:=h.mM.own _ _ _ h.Sw.1 h.Sw.2
def h6.keep(h:h6 w B U T R cf fC aK rd gr ib wt)(ai:Kept w w'):h6 w' B U T R cf fC aK rd gr ib wt:=
 ⟨h.rO.kept ai,h.tb.kept ai,h.ej.kept ai,h.mM.keep ai,h.len,h.ut,h.C3,h.o0,h.fC,h.lt,h.zf⟩
def h6.alloc(h:h6 w B U T R cf fC aK rd gr ib wt)(o:Obj):h6 (w.alloc o) B U T R cf fC aK rd gr ib wt:=h.keep (Kept.alloc (aG w) o)
def h6.aeE(h:h6 w B U T R cf fC aK rd gr ib wt)(k:aa)(x:J):h6 (w.setCell (T,k) x) B U T R cf fC aK rd gr ib (wt.set k x):=
 ⟨h.rO.far (p:=⟨T,k,none⟩) h.ut _,by have:=h.tb.ba k x;rwa [Jt]at this,h.ej.far (p:=⟨T,k,none⟩) h.o0.symm _,h.mM.SQ (by simp) k _,h.len,h.ut,h.C3,h.o0,h.fC,h.lt,h.zf⟩
def h6.heap{hv':ak}{rd':aW}(h:h6 w B U T R cf fC aK rd gr ib wt)(ab:j6 w' B R hv' rd')(ad:Two w w' aK.ownBlock R)(ao:hv'.ownBlock=aK.ownBlock\/∃g,hv'.ownBlock=some g/\w.heap.size<=g):h6 w' B U T R cf fC hv' rd' gr ib wt:=by
 have sg:=h.mM.far _ _ h.Jr.1;refine⟨(ad.block U h.rO.lt h.C3 (λe=>sg U (by simp) e.symm)).trans h.rO,(ad.block T h.tb.lt h.o0 (λe=>sg T (by simp) e.symm)).trans h.tb,ab.box,?_,h.len,h.ut,h.C3,h.o0,h.fC,h.lt,h.zf⟩;have:=h.mM.two h.Jr.1 ab.own ad (by simp) ao;rw[A' _ _ (bB _),k7]at this;rw[h.len,A' _ _ (bB _),k7]at this;exact this
def h6.ord{Su:ak}{od':aW}(h:h6 w B U T R cf fC aK rd gr ib wt)(ab:dj w' B Su od')(ad:w.grownBy w' gr.ownBlock)(ao:Su.ownBlock=gr.ownBlock\/Su.ownBlock=some w.heap.size):h6 w' B U T R cf fC aK rd Su od' wt:=by
 have sg:=h.mM.far _ _ h.Sw.1;refine⟨(ad.block U h.rO.lt (λe=>sg U (by simp) e.symm)).trans h.rO,(ad.block T h.tb.lt (λe=>sg T (by simp) e.symm)).trans h.tb,(ad.block R h.ej.lt (λe=>sg R (by simp) e.symm)).trans h.ej,?_,h.len,h.ut,h.C3,h.o0,h.fC,h.lt,h.zf⟩;have:=h.mM.two h.Sw.1 ab (Two.AQ (r:=R) ad) (by simp) (ao.imp id λe=>⟨_,e,bB _⟩);rw[A' _ _ (by omega),show cf.length+1-cf.length=1 by omega]at this;rw[h.len,A' _ _ (by omega),show fC.length+1-fC.length=1 by omega]at this;exact this
def h6.user{d:aa}{v:ak}{m:aW}(h:h6 w B U T R cf fC aK rd gr ib wt)(aE:d<cf.length)(ab:dj w' B v m)(ad:w.grownBy w' (cf[d]).ownBlock)(ao:v.ownBlock=(cf[d]).ownBlock\/v.ownBlock=some w.heap.size):
  h6 (w'.setCell (U,d) v) B U T R (cf.set d v) (fC.set d m) aK rd gr ib wt:=by
 have sg:=h.mM.far _ _ (h.JV aE).1;have ji:aB w' U 46 cf.toArray:=(ad.block U h.rO.lt (λe=>sg U (by simp) e.symm)).trans h.rO;have bT:aB w' T 3 (va wt):=(ad.block T h.tb.lt (λe=>sg T (by simp) e.symm)).trans h.tb;have aJ:aB w' R 194 #[aK]:=(ad.block R h.ej.lt (λe=>sg R (by simp) e.symm)).trans h.ej;refine⟨?_,bT.far (p:=⟨U,d,none⟩) h.ut.symm _,aJ.far (p:=⟨U,d,none⟩) h.C3.symm _,?_,by rw[gJ,gJ];exact h.len,h.ut,h.C3,h.o0,h.fC,h.lt,h.zf⟩
 .have:=ji.ba d v;rwa [kM]at this
 .have:=(h.mM.two (h.JV aE).1 ab (Two.AQ (r:=R) ad) (by simp) (ao.imp id λe=>⟨_,e,bB _⟩)).SQ (x:=U) (by simp) d v;rw[List.set_append_left _ _ aE,List.set_append_left _ _ (by rw[<-h.len];exact aE)]at this;exact this
end
end Go.Proofs.YtilhklpfkgbikaaGreatDoor
