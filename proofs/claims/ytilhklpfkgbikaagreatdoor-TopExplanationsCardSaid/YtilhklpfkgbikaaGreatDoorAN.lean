import Derived.Test.YtilhklpfkgbikaaGreatDoorAM
set_option linter.all false
namespace Go.Proofs.YtilhklpfkgbikaaGreatDoor
open Go.RowKit Go.Proofs.Tryz
set_option maxRecDepth 100000
set_option maxHeartbeats 32000000
def Yc(rs:List br)(keep:aW)(w:ag)(e:Ending)(w':ag):Prop:=
 ∃vK tz,e=bL (bj #[ae (some ⟨vK,0,none⟩) rs rs,ae (some ⟨tz,0,none⟩) rs rs])/\w.heap.size<=vK/\w.heap.size<=tz/\aB w' vK 4 (iJ (np rs keep).1)/\aB w' tz 4 (iJ (np rs keep).2)/\Kept w w'
def alP{rs:List br}{r:J}{l:aW}{k q:List Bool}(h:r<0\/(rs:J)<=r):rD rs (r::l) k q=rD rs l k q:=by rw[rD,aP h]
def alO{rs:List br}{r:J}{l:aW}{k q:List Bool}(h:¬(r<0\/(rs:J)<=r)):rD rs (r::l) k q=rD rs l (sU rs (rs.length+1) k r) (q.set r.toNat true):=by rw[rD,aw h]
def abh{rs:List br}{F:aa}{k:List Bool}{a:J}(h:a<0\/e1 k a=true):sU rs F k a=k:=by
 cases F with
 |zero=>rfl
 |succ F=>rw[sU,aP h]
def ah5{rs:List br}{F:aa}{k:List Bool}{a:aa}(hF:(a:J)<F)(h:e1 k (a:J)=false):∃Di,F=Di+1/\sU rs F k (a:J)=sU rs Di (k.set a true) (kX rs a):=by
 obtain⟨Di,rfl⟩:∃Di,F=Di+1:=⟨F-1,by omega⟩;refine⟨Di,rfl,?_⟩;rw[sU,aw (by rw[h];simp),c7]
def alQ(v wv:ak)(x:cq)(keep:aW)(w:ag)(bH:nF w v x)(hKp:gw w wv keep)(aH:x.rs.length<=1000)(hm:keep.length<=1000000):bg 46 #[v,wv] w (Yc x.rs keep w):=by
 have Fs:=I (λ(i:aa)w1(h:Kept w w1)(aD:i<x.rs.length)=>ad0 v x i w1 (bH.kept h) aD);unfold RW at Fs;obtain⟨b7,dy,cD,rfl,b6,cY,l5⟩:=bH;obtain⟨jf,jo,rfl,-⟩:=b6;obtain⟨hT,ij,rfl,-⟩:=cY;obtain⟨eR,rc,rfl,-⟩:=l5;obtain⟨du,p7,rfl,hkx⟩:=hKp.at_;have pM:=I hkx;obtain⟨i0,aD,fY,cG,eM⟩:=hy Tryz.Nu;obtain⟨Sn,avx,inx,dsx,rs⟩:=x;dsimp only at*;obtain⟨m,jW⟩:∃m,m=keep.length:=⟨_,rfl⟩;rw[<-jW]at hm⊢;have cB:=I jW;obtain⟨R,aJ⟩:∃R,R=np rs keep:=⟨_,rfl⟩;unfold Yc;rw[<-aJ];have aX:=I (show rD rs keep (List.replicate rs false) (List.replicate rs false)=R from aJ.symm);obtain⟨n,l9⟩:∃n,n=rs.length:=⟨_,rfl⟩;rw[<-l9]at aH aX Fs⊢;have b3:=I l9;generalize inx.length=cC at*;generalize dsx.length=ei at*;have s7:(n:J)<=1000:=by omega
 clear hkx jW aJ l9 hKp;go_enter func46,ntmps46
 go_upto_region 1 with fail
 generalize aL:w.alloc _=W at*;obtain⟨aV,bm⟩:=Kept.aQ aL;clear aL;obtain⟨a',b5⟩:=bm.p;go_upto_region 2 with (at_make;refine rR _ rfl _ _ 108 rfl W 4 i0 (bR false) 1 underlying108 aD fY cG _ _ _ _ n rfl rfl rfl rfl (by rw[eM];omega) (by unfold maxLen;omega) (bB _) ?_;intro w1 cN cu;have wV:=I (GU cN cu);clear cN cu)
 obtain⟨ra,UF⟩:=wV.out;have zI:=bm.kept UF;have Mn:W.heap.size<w1.heap.size:=ra.lt;clear a' b5;obtain⟨a',b5⟩:=zI.p;clear wV;go_upto_region 3 with (at_make;refine rR _ rfl _ _ 108 rfl w1.heap.size 4 i0 (bR false) 1 underlying108 aD fY cG _ _ _ _ n rfl rfl rfl rfl (by rw[eM];omega) (by unfold maxLen;omega) (bB _) ?_;intro w2 cN cu;have jS:=I (GU cN cu);clear cN cu)
 obtain⟨M2,UG⟩:=jS.out;have age:=I (ra.kept UG);have agf:=I M2;have hk:=I (UF.trans UG);have e8:=I aV;have eA:=I (λch(h:Kept W ch)=>bm.kept h);have qJ:w<W.heap.size:=bm.lt;have Np:w<=W.heap.size:=ui qJ;clear a' b5 ra M2 UF UG zI jS bm aV;generalize kS:w1.heap.size=g2 at*;generalize pj:W.heap.size=g1 at*;have HD:=I pj;go_upto_region 4 with fail
 go_loopw [21] (λy wr=>∃(i:aa)(k q:List Bool),y=ah i/\i<=m/\k.length=n/\q.length=n/\rD rs (keep.drop i) k q=R/\Kept W wr/\aB wr g1 4 (iJ k)/\aB wr g2 4 (iJ q)) (λy _=>m-(intOf y).toNat)
 case atStart=>exact⟨0,_,_,rfl,d' _,iQ,iQ,aX,hk,age,agf⟩
 case round=>
  obtain⟨i,k,q,rfl,dG,fu,uZ,a6,ax,od,rp⟩:=hrel;by_cases aN:i<m
  .obtain⟨c9,j0,rfl,fU,ef⟩:=pM.out (by have:=cB.out;omega);obtain⟨r,jl⟩:∃r,keep[i]?=some r:=⟨_,bn (by have:=cB.out;omega)⟩;have Aq:keep.drop i=r::keep.drop (i+1):=by
    obtain⟨ab,ad⟩:=b2 jl;rw[jA ab,ad]
   have en:=e8.trans ax;have bX:=en.aI fU (ef i r jl);have lb1:=bG fU en.size;have bW:=eA.out _ ax;obtain⟨a',b5⟩:=bW.p;have db:(i:J)<m:=by omega
   rw[Aq]at a6;clear ef jl Aq bW;by_cases aC:r<0\/(n:J)<=r
   .have bS:=I (bb ax (bb od rp));have nC:=I (show rD rs (keep.drop (i+1)) k q=R from by rw[<-alP (by rw[<-b3];exact aC)];exact a6);clear ax od rp a6;by_cases xA:r<0
    .go_wp2_with fail
     go_roundw
     case rel=>exact⟨i+1,k,q,by go_num,aN,fu,uZ,nC,bS.1,bS.2.1,bS.2.2⟩
     case measure=>simp[intOf];omega
    .have pt:(n:J)<=r:=by omega
     go_wp2_with fail
     go_roundw
     case rel=>exact⟨i+1,k,q,by go_num,aN,fu,uZ,nC,bS.1,bS.2.1,bS.2.2⟩
     case measure=>simp[intOf];omega
   .obtain⟨di,rfl⟩:∃di:aa,r=di:=⟨r.toNat,by omega⟩;have RE:di<n:=by omega
    have hrI:(di:J)<n:=by omega
    have hf:decide (n<=di)=false:=by simp;omega
    have mx:decide ((n:J)<=(di:J))=false:=by simp;omega
    have se:decide ((di:J)<0)=false:=by simp
    rw[alO (by rw[<-b3];exact aC),c7,<-b3]at a6;obtain⟨z,bP⟩:∃z,q[di]?=some z:=⟨_,bn (by omega)⟩;have xk:=rp.cell di;rw[oa bP]at xk;have BZ:=rp.frozen di;have GP:=rp.lt;go_upto_region 8 with fail
    have xp:=ax.setCell (p:=⟨g2,di,none⟩) (by simp only;omega) (bR true);have ab0:=od.far (p:=⟨g2,di,none⟩) (by simp only;omega) (bR true);have QH:=rp.ba di (bR true);rw[yE]at QH;clear xk BZ GP od rp ax a' b5 bX lb1 en;generalize wr.setCell ⟨g2,di,none⟩ (bR true)=U0 at*;obtain⟨a8,iX⟩:∃a8,a8=q.set di true:=⟨_,rfl⟩;rw[<-iX]at QH a6;have acD:a8.length=n:=by rw[iX,gJ];exact uZ
    obtain⟨gN,mO⟩:∃gN,gN=sU rs (n+1) k (di:J):=⟨_,rfl⟩;rw[<-mO]at a6;have uA:=I mO.symm;have nC:=I a6;have fl:=I (bb xp (bb ab0 QH));clear iX mO a6 bP xp ab0 QH uZ aC;go_wp2_with fail
    go_loopw [10] (λy vx=>∃(F:aa)(nQ:List Bool)(a:J),y=ah a/\nQ.length=n/\ -1<=a/\a<n/\a<F/\sU rs F nQ a=gN/\Kept W vx/\aB vx g1 4 (iJ nQ)/\aB vx g2 4 (iJ a8)) (λy _=>(intOf y+1).toNat)
    case atStart=>exact⟨n+1,k,di,rfl,fu,by omega,hrI,by omega,uA,fl.1,fl.2.1,fl.2.2⟩
    case round=>
     obtain⟨F,nQ,a,rfl,Rm,WH,MG,haF,oO,qE,B4,IT⟩:=hrel;by_cases MC:a<0
     .have bS:=I (bb qE (bb B4 IT));have cW:=I (show nQ=gN from (abh (.inl MC)).symm.trans oO);clear qE B4 IT oO;go_wp2_with fail
      go_roundw
      case rel=>exact⟨i+1,nQ,a8,by go_num,aN,Rm,acD,by rw[cW];exact nC,bS.1,bS.2.1,bS.2.2⟩
      case measure=>simp[intOf];omega
     obtain⟨an,rfl⟩:∃an:aa,a=an:=⟨a.toNat,by omega⟩;have ajL:an<n:=by omega
     obtain⟨Ty,Ej⟩:∃Ty,nQ[an]?=some Ty:=⟨_,bn (by omega)⟩;have ir:e1 nQ (an:J)=Ty:=by unfold e1;rw[c7,Ej];rfl
     have IC:=B4.cell an;rw[oa Ej]at IC;have uO:=B4.frozen an;have NC:=B4.lt
     cases Ty
     .obtain⟨Di,rfl,D6⟩:=ah5 haF ir;rw[D6]at oO;have xz:=YQ rs an;have we:=adY rs an;have Pf:=I (λw1(h:Kept w w1)=>Fs an w1 h ajL);have mP:=qE.setCell (p:=⟨g1,an,none⟩) (by simp only;have:=HD.out;omega) (bR true);have Wj:=B4.ba an (bR true);rw[yE]at Wj;have ab1:=IT.far (p:=⟨g1,an,none⟩) (by simp only;omega) (bR true);have b26:=eA.out _ mP;obtain⟨a',b5⟩:=b26.p;have bS:=I (bb mP (bb Wj ab1));have hr:=I oO;have HKL:=I (show (nQ.set an true).length=n by rw[gJ];exact Rm);have nN:(wr.setCell ⟨g1,an,none⟩ (bR true)).heap.size=wr.heap.size:=by simp
      clear qE B4 IT oO mP Wj ab1 ir Ej b26 D6;generalize kX rs an=CR at*;go_wp2_with (go_at_call 48;refine (Pf _ (e8.trans bS.1)).mono ?_;rintro aQ ch⟨rfl,bF⟩)
      go_roundw
      case rel=>
       exact⟨Di,nQ.set an true,CR,rfl,HKL,by omega,by omega,by omega,hr,bS.1.trans bF,bS.2.1.kept bF,bS.2.2.kept bF⟩
      case measure=>simp[intOf];omega
     .have bS:=I (bb qE (bb B4 IT));have cW:=I (show nQ=gN from (abh (.inr ir)).symm.trans oO);clear qE B4 IT oO ir Ej;go_wp2_with fail
      go_roundw
      case rel=>exact⟨i+1,nQ,a8,by go_num,aN,Rm,acD,by rw[cW];exact nC,bS.1,bS.2.1,bS.2.2⟩
      case measure=>simp[intOf];omega
  .obtain rfl:i=m:=by omega
   have db:¬((i:J)<i):=by omega
   rw[vD (by rw[<-cB];exact bB _),rD]at a6;have bS:=I (bb ax (bb od rp));have cW:=I a6;clear ax od rp a6;go_wp2_with fail
   refine bI (v:=bj #[ae (some (g1,0)) n n,ae (some (g2,0)) n n]) (by simp[results,results46,go_sem]) rfl ⟨g1,g2,rfl,by omega,by omega,?_,?_,e8.trans bS.1⟩
   .rw[<-cW];exact bS.2.1
   .rw[<-cW];exact bS.2.2
def ajq(a x:cl)(w:ag)(af: -9000000000000<=a.dp/\a.dp<=9000000000000)(ab:1<=x.dp)(ad:x.dp<=a.dp+1)(ao:x.dp<=a.dp):bg 22 #[tt a,tt x] w (fo true w):=by
 obtain⟨dD,PK,am,atw,atx,⟨avk,ave,avn⟩⟩:=a;obtain⟨ep,J6,zy,S',lu,⟨xvk,xve,xvn⟩⟩:=x;unfold fo tt;dsimp only at*;have g1:¬(J6<1):=by omega
 have g2:¬(PK+1<J6):=by omega
 go_enter func22,ntmps22
 go_wp2_with fail
 go_ret;exact⟨rfl,((aG w).alloc _).alloc _⟩
def ajp(a x:cl)(w:ag)(af: -9000000000000<=a.dp/\a.dp<=9000000000000)(ab:1<=x.dp)(ad:x.dp<=a.dp+1)(ao:a.dp<x.dp)(aR:a.k=1):bg 22 #[tt a,tt x] w (fo true w):=by
 obtain⟨dD,PK,am,atw,atx,⟨avk,ave,avn⟩⟩:=a;obtain⟨ep,J6,zy,S',lu,⟨xvk,xve,xvn⟩⟩:=x;unfold fo tt;dsimp only at*;subst aR;have bw:¬(J6<=PK):=by omega
 have g1:¬(J6<1):=by omega
 have g2:¬(PK+1<J6):=by omega
 go_enter func22,ntmps22
 go_wp2_with fail
 go_ret;exact⟨rfl,((aG w).alloc _).alloc _⟩
def ajo(a x:cl)(w:ag)(af: -9000000000000<=a.dp/\a.dp<=9000000000000)(h:IP a x=true):bg 22 #[tt a,tt x] w (fo true w):=by
 unfold IP at h;rw[gg]at h;obtain⟨ab,ad,ao⟩:=h;by_cases aR:x.dp<=a.dp
 .exact ajq a x w af ab ad aR
 .exact ajp a x w af ab ad (by omega) (ao.resolve_left aR)
def lY.le{k:dC}{b n Yv:aa}{f:ak->Option ak}{w:ag}(h:lY k b n f w)(aH:n<=Yv):lY k b Yv f w:=by
 obtain⟨D,ab,ad⟩:=h;exact⟨D,ab.mono aH,ad⟩
def ac1{α:Type}{l:List α}{j:aa}{a:α}(h:l[j]?=some a):(l.take (j+1)).getLast?=some a:=by
 rw[qZ,h,zA,ZU,List.getLast?_singleton,Option.some_or]
def afr{ns:List cl}(hw:vw [] ns){j:aa}{x:cl}(h:ns[j]?=some x):YL (ns.take j) x:=by
 have:=afp ns [] hw j x h;rwa [qj]at this
theorem afq{ns:List cl}(hw:vw [] ns)(ar:∀x,ns[0]?=some x->x.dp=0):∀(j:aa)(x:cl),ns[j]?=some x->0<=x.dp/\x.dp<=j
 |0,x,h=>by rw[ar x h];omega
 |j+1,x,h=>by
  have ay:=(b2 h).1;have al:=bn (l:=ns) (i:=j) (by omega);have ab:=(afr hw h).1 _ (ac1 al);unfold IP at ab;rw[gg]at ab;have:=afq hw ar j _ al;omega
def FH(f:ak->Option ak)(pre:List cl):Prop:=∀m d,f (gZ m d)=(rn pre m d).map J5
def FH.aiO{f:ak->Option ak}{ns:List cl}{i:aa}{x:cl}(h:FH f (ns.take i))(aj:ns[i]?=some x)(ai:x.k=1)(aH:rn (ns.take i) x.m x.cQ=none):FH (CQ f (gZ x.m x.cQ) (J5 x.v)) (ns.take (i+1)):=λm d=>by
 rw[qZ,aj,zA,ajb ai aH];by_cases e:m=x.m/\d=x.cQ
 .obtain⟨rfl,rfl⟩:=e;rw[YV,aP ⟨rfl,rfl⟩,qi]
 .rw[YU _ _ (λa_=>e (aeX a_)),aw e,h]
def FH.other{f:ak->Option ak}{ns:List cl}{i:aa}{x:cl}(h:FH f (ns.take i))(aj:ns[i]?=some x)(ai:x.k≠1):FH f (ns.take (i+1)):=λm d=>by
 rw[qZ,aj,zA,ajd ai];exact h m d
def aqH(u:ak)(ns:List cl)(w:ag)(aJ:hP w qe 8 u ns)(hw:vw [] ns)(bX:cl)(mV:ns[0]?=some bX)(my:bX.k=1)(kF:bX.dp=0)(av:ns.length<=1000000)(af:∀n∈ns,n.m<=8796093022208/\n.cQ<=8796093022208):bg 8 #[u] w (fo true w):=by
 have Kx:=I (afq hw (λx h=>by rw[mV]at h;cases h;exact kF));have ym:=I (λ(j:aa)(x:cl)(h:ns[j]?=some x)=>afr hw h);have dv:=I af;have hlen:=(b2 mV).1;obtain⟨A,cap,rfl,aj⟩:=aJ;obtain⟨atY,j3,rfl,qQ,RS⟩:=aj hlen;have HXC:=I RS;have z0:=RS 0 _ mV 0 _ rfl;have fL:=RS 0 _ mV 1 _ rfl;rw[vA,lT]at z0 fL;rw[my]at z0;rw[kF]at fL;obtain⟨n,aH⟩:∃n,n=ns.length:=⟨_,rfl⟩;rw[<-aH]at hlen av⊢;have b3:=I aH;have HX0:=I (show∀x,ns[0]?=some x->x.k=1 from λx h=>by rw[mV]at h;cases h;exact my);have nJ:(n:J)≠0:=by omega
 have asj:((n:J)==0)=false:=by simp;omega
 unfold fo;clear aj RS hw af aH mV my kF;go_enter func8,ntmps8
 go_upto_region 3 with fail
 have Xg:=run_makeMap (P:=prog) 79 w;go_upto_region 4 with fail
 clear Xg z0 fL;have I4:=lY.made 78 w;have ca:=(aG w).alloc (.map #[] 0);generalize hW1:w.alloc (.map #[] 0)=dV at*;clear hW1;go_upto_region 5 with fail
 go_loopw [29] (λy wr=>∃(i:aa)(f:ak->Option ak),y=ah i/\i<=n/\Kept w wr/\lY 78 w i f wr/\FH f (ns.take i)) (λy _=>n-(intOf y).toNat)
 case atStart=>exact⟨0,_,rfl,d' _,ca,I4,λm d=>by simp[rn]⟩
 case round=>
  obtain⟨i,f,rfl,dG,ax,bN,hF⟩:=hrel;clear ca I4;by_cases aN:i<n
  .have db:(i:J)<n:=by omega
   have kG:ns[i]?=some (ns[i]'(by have:=b3.out;omega)):=bn _;have ef:=HXC.out i _ kG;obtain⟨j0,⟨mY,kJ⟩,wA,auI,vh,NX,vi⟩:=ym.out i _ kG;obtain⟨d1,d2⟩:=Kx.out i _ kG;obtain⟨c9,bW⟩:=dv.out _ (fe kG);have TZ:=I (λab ad=>hF.aiO kG ab ad);have Pc:=I (λab=>hF.other kG ab);have D9:=hF (ns[i]'(by have:=b3.out;omega)).m (ns[i]'(by have:=b3.out;omega)).cQ;generalize ns[i]'(by have:=b3.out;omega)=x at*;have my:i=0->x.k=1:=λe=>HX0 _ (by rw[<-e];exact kG);obtain⟨rE,fu⟩:=SU (m:=x.m) (d:=x.cQ) (by omega) (by omega) (by omega) (by omega);have Bn:=I j0;obtain⟨ep,oB,zy,S',lu,⟨cg,bK,dR⟩⟩:=x;dsimp only at*;have bX:=ax.aI qQ (ef 0 _ rfl);rw[lT]at bX;have bQ:=ax.aI qQ (ef 1 _ rfl);have cx:=ax.aI qQ (ef 2 _ rfl);have hx:=ax.aI qQ (ef 3 _ rfl);have hK:=ax.aI qQ (ef 4 _ rfl);have pE:=ax.aI qQ (ef 5 _ rfl);have xZ:=ax.aI qQ (ef 6 _ rfl);have EX:=ax.aI qQ (ef 7 _ rfl);have mw:=bG qQ ax.size;clear ef kG hF j0;go_upto_region 7 with fail
   generalize aL:wr.alloc _=hs at*;obtain⟨fi,hq⟩:=Kept.aQ aL;clear aL;have gi:=I ax;have O_:=I bN;clear bX bQ cx hx hK pE xZ EX ax bN;have jG:=I fi;obtain⟨b_,gA⟩:=hq.p;have Cb:=bG mw fi.size;go_cut [45] (λx cj=>x=bR false/\Kept hs cj)
   case first=>
    by_cases ar:i=0
    .subst ar;have bP:¬((0:J)<((0:aa):J)):=by omega
     go_region
     all_goals
      go_wp2_with fail
      go_meet;exact⟨rfl,(aG _).drew⟩
    .obtain⟨p,hp⟩:∃p,p+1=i:=⟨i-1,by omega⟩;have s4:ns[p]?=some (ns[p]'(by have:=b3.out;omega)):=bn _;have ef:=HXC.out p _ s4;have Q7:=Kx.out p _ s4;have hfo:=Bn.out _ (by rw[<-hp];exact ac1 s4);generalize ns[p]'(by have:=b3.out;omega)=a at*;have HFO:=I (λw1=>ajo a _ w1 (by omega) hfo);unfold tt fo at HFO;have B7:=gi.trans jG;obtain⟨dD,PM,am,atw,atx,⟨avk,ave,avn⟩⟩:=a;dsimp only at*;have eU:=B7.aI qQ (ef 0 _ rfl);rw[lT]at eU;have dr:=B7.aI qQ (ef 1 _ rfl);have eV:=B7.aI qQ (ef 2 _ rfl);have jP:=B7.aI qQ (ef 3 _ rfl);have pF:=B7.aI qQ (ef 4 _ rfl);have vz:=B7.aI qQ (ef 5 _ rfl);have A4:=B7.aI qQ (ef 6 _ rfl);have A5:=B7.aI qQ (ef 7 _ rfl);have wi:(i:J)-1=(p:J):=by omega
     have Rj:0<i:=by omega
     have MX:decide (0<i)=true:=jR Rj;have Nf:(p:J)<n:=by omega
     clear ef s4 Q7 hfo B7 hp ar;have u0:=aS.cell Cb eU;have u1:=aS.cell Cb dr;have u2:=aS.cell Cb eV;have u3:=aS.cell Cb jP;have u4:=aS.cell Cb pF;have u5:=aS.cell Cb vz;have u6:=aS.cell Cb A4;have u7:=aS.cell Cb A5;have w0:=aS.cell gA (b_ 0);have w1:=aS.cell gA (b_ 1);have w2:=aS.cell gA (b_ 2);have ch:=aS.cell gA (b_ 3);have eK:=aS.cell gA (b_ 4);have c4:=aS.cell gA (b_ 5);have dc:=aS.cell gA (b_ 6);have lP:=aS.cell gA (b_ 7);clear eU dr eV jP pF vz A4 A5 b_;refine nc (by kernel_rfl) (by kernel_rfl) ?_
     repeat (go_big_quiet_step ((go_at_call 22;exact aS.call (HFO _))))
     refine f' ?_;rintro mb⟨cj,rfl⟩;go_wp2_with fail
     go_meet;exact⟨rfl,cj.h⟩
   obtain⟨rfl,c3⟩:=hcut;generalize wc=mn at*;clear b_ gA Cb;have g3:¬(S'<0):=by omega
   have g4:¬(zy< -1):=by omega
   by_cases au:ep=1
   .subst au;obtain⟨aQ,hex⟩:=vh rfl;rw[hex]at D9;have g5:¬(lu<0):=by omega
    clear NX vi my vh Pc;have jS:=O_.kept (jG.trans c3);have fm:=(hq.kept c3);obtain⟨b_,gA⟩:=fm.p;go_upto_region 14 with fail
    generalize aL:mn.alloc _=fQ at*;obtain⟨eO,e7⟩:=Kept.aQ aL;clear aL;have yC:=fm.kept eO;clear b_ gA;obtain⟨b_,gA⟩:=yC.p;obtain⟨dn,fq⟩:=e7.p;have a6:=(jS.kept eO).look true Tryz.vr Tryz.Od (Tryz.S7 fQ) fu;rw[D9]at a6;simp only[Option.map_none,Tn,Ox,k3,gZ,J5]at a6;go_upto_region 15 with fail
    generalize aL:fQ.alloc _=DJ at*;obtain⟨eB,o4⟩:=Kept.aQ aL;clear aL;have FP:=yC.kept eB;have FQ:=e7.kept eB;clear b_ gA dn fq a6;obtain⟨b_,gA⟩:=FP.p;obtain⟨dn,fq⟩:=FQ.p;obtain⟨mr,JB⟩:=o4.p;have wT:=I (gi.trans (jG.trans (c3.trans (eO.trans eB))));obtain⟨U,dH,bd,a8⟩:=((jS.kept eO).kept eB).store Tryz.vr Tryz.Od (by unfold maxLen;omega) fu (aF #[cg,bK,dR]);unfold gZ at dH;have b1:=I (bb (ads wT.out (bB _) a8) (bb bd (TZ.out rfl hex)));clear bd a8;go_wp2_with fail
    go_roundw
    case rel=>exact⟨i+1,_,by go_num,aN,b1.1,b1.2.1,b1.2.2⟩
    case measure=>simp[intOf];omega
   by_cases cy:ep=5
   .subst cy;have hex:=vi rfl;have aQ:=NX (by decide);subst aQ;rw[hex]at D9;clear NX vi my vh TZ;have jS:=O_.kept (jG.trans c3);have fm:=(hq.kept c3);obtain⟨b_,gA⟩:=fm.p;go_upto_region 14 with fail
    generalize aL:mn.alloc _=fQ at*;obtain⟨eO,e7⟩:=Kept.aQ aL;clear aL;have yC:=fm.kept eO;clear b_ gA;obtain⟨b_,gA⟩:=yC.p;obtain⟨dn,fq⟩:=e7.p;have a6:=(jS.kept eO).look true Tryz.vr Tryz.Od (Tryz.S7 fQ) fu;rw[D9]at a6;simp only[qi,b9,ZZ,k3,gZ,J5]at a6;go_upto_region 15 with fail
    generalize aL:fQ.alloc _=DJ at*;obtain⟨eB,o4⟩:=Kept.aQ aL;clear aL;have FP:=yC.kept eB;have FQ:=e7.kept eB;clear b_ gA dn fq a6;obtain⟨b_,gA⟩:=FP.p;obtain⟨dn,fq⟩:=FQ.p;obtain⟨mr,JB⟩:=o4.p;have wT:=I (gi.trans (jG.trans (c3.trans (eO.trans eB))));have b1:=I (bb (((jS.kept eO).kept eB).le (pG i)) (Pc.out (by decide)));go_wp2_with fail
    go_roundw
    case rel=>exact⟨i+1,_,by go_num,aN,wT,b1.1,b1.2⟩
    case measure=>simp[intOf];omega
   have aQ:=NX au;subst aQ;have g1:¬(ep<1):=by omega
   have g2:¬(5<ep):=by omega
   have kb1:(ep==1)=false:=by simpa using au
   have kb5:(ep==5)=false:=by simpa using cy
   have kb2:(ep !=1)=true:=by simpa using au
   clear NX vi my vh TZ
   cases hex:rn (List.take i ns) zy S' with
   |none=>
    rw[hex]at D9;have jS:=O_.kept (jG.trans c3);have fm:=(hq.kept c3);obtain⟨b_,gA⟩:=fm.p;go_upto_region 14 with fail
    generalize aL:mn.alloc _=fQ at*;obtain⟨eO,e7⟩:=Kept.aQ aL;clear aL;have yC:=fm.kept eO;clear b_ gA;obtain⟨b_,gA⟩:=yC.p;obtain⟨dn,fq⟩:=e7.p;have a6:=(jS.kept eO).look true Tryz.vr Tryz.Od (Tryz.S7 fQ) fu;rw[D9]at a6;simp only[Option.map_none,Tn,Ox,k3,gZ,J5]at a6;go_upto_region 15 with fail
    generalize aL:fQ.alloc _=DJ at*;obtain⟨eB,o4⟩:=Kept.aQ aL;clear aL;have FP:=yC.kept eB;have FQ:=e7.kept eB;clear b_ gA dn fq a6;obtain⟨b_,gA⟩:=FP.p;obtain⟨dn,fq⟩:=FQ.p;obtain⟨mr,JB⟩:=o4.p;have wT:=I (gi.trans (jG.trans (c3.trans (eO.trans eB))));have b1:=I (bb (((jS.kept eO).kept eB).le (pG i)) (Pc.out au));go_wp2_with fail
    go_roundw
    case rel=>exact⟨i+1,_,by go_num,aN,wT,b1.1,b1.2⟩
    case measure=>simp[intOf];omega
   |some y=>
    rw[hex]at D9;obtain⟨f_,h5,avV⟩:=y;have jS:=O_.kept (jG.trans c3);have fm:=(hq.kept c3);obtain⟨b_,gA⟩:=fm.p;go_upto_region 14 with fail
    generalize aL:mn.alloc _=fQ at*;obtain⟨eO,e7⟩:=Kept.aQ aL;clear aL;have yC:=fm.kept eO;clear b_ gA;obtain⟨b_,gA⟩:=yC.p;obtain⟨dn,fq⟩:=e7.p;have a6:=(jS.kept eO).look true Tryz.vr Tryz.Od (Tryz.S7 fQ) fu;rw[D9]at a6;simp only[qi,b9,ZZ,k3,gZ,J5]at a6;go_upto_region 15 with fail
    generalize aL:fQ.alloc _=DJ at*;obtain⟨eB,o4⟩:=Kept.aQ aL;clear aL;have FP:=yC.kept eB;have FQ:=e7.kept eB;clear b_ gA dn fq a6;obtain⟨b_,gA⟩:=FP.p;obtain⟨dn,fq⟩:=FQ.p;obtain⟨mr,JB⟩:=o4.p;have wT:=I (gi.trans (jG.trans (c3.trans (eO.trans eB))));have b1:=I (bb (((jS.kept eO).kept eB).le (pG i)) (Pc.out au));go_wp2_with fail
    go_roundw
    case rel=>exact⟨i+1,_,by go_num,aN,wT,b1.1,b1.2⟩
    case measure=>simp[intOf];omega
  .obtain rfl:i=n:=by omega
   have db:¬((i:J)<i):=by omega
   have cp:=I ax;clear ax bN hF;go_wp2_with fail
   go_ret;exact⟨rfl,cp⟩
end Go.Proofs.YtilhklpfkgbikaaGreatDoor
