import Derived.Test.YtilhklpfkgbikaaGreatDoorU
import Derived.Deep.LoopGhost
import Derived.Deep.AppendSrc
import Derived.Deep.Upon
set_option linter.all false
namespace Go.Proofs.YtilhklpfkgbikaaGreatDoor
open Go.RowKit Go.Proofs.Tryz
set_option maxRecDepth 100000
set_option maxHeartbeats 8000000
def vv(l:List bC):ho:=(l.flatMap EW).toArray
def afl(l:List bC):(l.flatMap EW).length=l.length*3:=by
 induction l with
 |nil=>rfl
 |cons a r bO=>rw[zC,fk,bO,Om,hi];omega
def aoM(P S:dN)(a b c x y z:ak):(((P++a::b::c::S).toArray.setIfInBounds P x).setIfInBounds (P.length+1) y).setIfInBounds (P.length+2) z=(P++x::y::z::S).toArray:=by
 simp[kM]
def afm(P S:List bC)(a x:bC):(((vv (P++a::S)).setIfInBounds (P.length*3) x.k).setIfInBounds (P.length*3+1) x.e).setIfInBounds (P.length*3+2) x.n=vv (P++x::S):=by
 unfold vv;rw[Ka,Ka,zC,zC,<-afl];exact aoM _ _ _ _ _ _ _ _
def aqY(n:aa):(madeCells #[Value.int .i64 0,Value.int .i64 0,Value.int .i64 0] (n*3)).toList=(List.replicate n v0).flatMap EW:=by
 have h:∀n,(List.replicate n v0).flatMap EW=List.replicate (n*3) (Value.int .i64 0):=by
  intro n;induction n with
  |zero=>rfl
  |succ n bO=>rw[J',zC,bO,Hn];rfl
 rw[h];apply A8;intro j;by_cases ay:j<n*3
 .have:j% 3=0\/j% 3=1\/j% 3=2:=by omega
  rcases this with h|h|h<;>simp[madeCells,ay,h]
 .simp[madeCells,ay]
def PY{w:ag}{B:aa}{e:dC}{g n cap k m:aa}{l:dN}(h:w.ownsRow B e k (ae (some (g,0)) n cap) m l)(av:l.length=cap*k):aB w g e l.toArray:=by
 rcases h.2 with⟨aK,_⟩|⟨ju,rj,cur,aK,_,al,_,_,ao,aR⟩
 .cases aK
 .simp only[i_,vF,wJ]at aK;obtain⟨⟨rfl,_⟩,_,rfl⟩:=aK;have:cur.toList=l:=by
   have bw:cur.toList.length=cap*k:=by rw[Tj,ao]
   have eL:(cur.toList.take (m*k)).length=cap*k:=by rw[aR,av]
   rw[<-aR,mH (by rw[gT]at eL;omega)]
  unfold aB;rw[<-this,ZV];exact al
def adk{w w1:ag}{t:dC}{n:aa}(cN:w1.ownsRow w t 3 (ae (some (w,0)) n n) n (madeCells (Value.agg #[(),(),()]).cells (n*3)).toList)(cu:w.grownBy w1 none):
  aB w1 w t (vv (List.replicate n v0))/\Kept w w1:=by
 rw[show (Value.agg #[(),(),()]).cells=#[Value.int .i64 0,Value.int .i64 0,Value.int .i64 0]from by simp[Value.cells],aqY]at cN;exact⟨PY cN (by rw[afl,iQ]),⟨cu.os,cu.tape,cu.output,cu.size,λb af=>cu.block b af (by simp)⟩⟩
def S6{w:ag}{g:aa}{t:dC}{l:List bC}(h:aB w g t (vv l)):ft w (ae (some (g,0)) l l) l:=
 ⟨_,_,rfl,λ_=>⟨g,0,rfl,h.lt,λj x ay i u hu=>by
  rw[h.cell];unfold vv;rw[hL,ql];exact DT Om l j x ay i u hu⟩⟩
def Tryz.acV:(prog.info? 34).map (λi=>(i.zero,i.size,i.bytes))=some (some (aF #[(),(),()]),3,24):=by kernel_rfl
def aaQ(f:J->bC×J)(i:J)(r:aW)(acc:List bC):tM f (i::r) acc=if (f i).2≠0 then ([],(f i).2)else tM f r (acc++[(f i).1]):=rfl
def ahl{f:J->bC×J}:∀(l:aW)(acc args:List bC),tM f l acc=(args,0)->args.length=acc.length+l.length:=by
 intro l;induction l with
 |nil=>intro acc args h;cases h;rfl
 |cons a r bO=>
  intro acc args h;rw[aaQ]at h;split at h
  .rename_i aq;exact absurd (A9 h).2 aq
  .rw[bO _ _ h,fk,hi,hi,sB];omega
abbrev TA(w:ag)(v:ak)(b':List aW):Prop:=c0 1 (tI gw) w v b'
def iJ(s:List Bool):ho:=(s.map Value.bool).toArray
def oa{s:List Bool}{i:aa}{b:Bool}(h:s[i]?=some b):(iJ s)[i]?=some (bR b):=by simp[iJ,h]
def yE(s:List Bool)(i:aa)(b:Bool):(iJ s).setIfInBounds i (bR b)=iJ (s.set i b):=by
 unfold iJ;rw[kM,Kg]
def Tryz.Nu:(prog.info? 4).map (λi=>(i.zero,i.size,i.bytes))=some (some (bR false),1,1):=by kernel_rfl
def GU{w w1:ag}{t:dC}{n:aa}(cN:w1.ownsRow w t 1 (ae (some (w,0)) n n) n (madeCells (Value.bool false).cells (n*1)).toList)(cu:w.grownBy w1 none):
  aB w1 w t (iJ (List.replicate n false))/\Kept w w1:=by
 have e:=Ov (Value.bool false) (n*1);rw[show (Value.bool false).cells=#[Value.bool false]from rfl,e]at cN;refine⟨?_,⟨cu.os,cu.tape,cu.output,cu.size,λb af=>cu.block b af (by simp)⟩⟩;have h:=PY cN (by simp);unfold iJ;rwa [jD,<-List.map_replicate]at h
def aea(v:ak)(b':List aW)(n:aa)(d0:J)(w:ag)(a7:TA w v b')(aH:b'.length=n)(aJ:∀d:J,h8 n (b'[d.toNat]?.getD []))(aE:0<=d0/\d0<n)(mA:n<=1000)(bE:∀l∈b',l.length<=1000000):
  Calls prog 55 #[v,d0] w (tj w (vm b' n d0) w):=by
 obtain⟨A,cap,rfl,-,hAl,Wg⟩:=a7;rw[aH]at hAl Wg⊢;obtain⟨T,bT⟩:∃T,T=Ag b' (2*n+2) (List.replicate n false) [d0]:=⟨_,rfl⟩;have c8:=I (show Ag b' (2*n+2) (List.replicate n false) [d0]=T from bT.symm);obtain⟨R,ja⟩:∃R,R=vm b' n d0:=⟨_,rfl⟩;have q7:Hid (((List.range n).filter λi:aa=>e1 T (i:J)).map (λi:aa=>(i:J))=R):=I (by rw[ja,bT];rfl);rw[<-ja];have b3:=I aH;have aX:=I aJ;have dB:=I bE;have HAA:=I Wg;obtain⟨i0,aD,fY,cG,eM⟩:=hy Tryz.Nu;obtain⟨jq,fx,fy,fz,fA⟩:=hy Tryz.td;obtain⟨kF,hf⟩:=aE;have ry:(n:J)<=1000:=by omega
 unfold tj;clear ja bT aH aJ Wg hAl bE;go_enter func55,ntmps55
 go_wp2_with (at_make;refine rR _ rfl _ _ 108 rfl w 4 i0 (.bool false) 1 underlying108 aD fY cG _ _ _ _ n rfl rfl rfl rfl (by rw[eM];omega) (by unfold maxLen;omega) (bB _) ?_;intro w1 cN cu)
 obtain⟨bc,wa⟩:=GU cN cu;clear cN cu;go_upto_region 3 with fail
 have cL:n8 (w1.alloc (.cells #[d0] 3)) w (.slice (some (w1,0)) 1 1) [d0]:=⟨w1.heap.size,0,1,_,rfl,wa.size,aB.new w1 3 #[d0],bB _,by unfold Go.maxLen;omega,by simp,λj x ay=>by cases j with|zero=>cases ay;rfl|succ j=>cases ay⟩;have od:=bc.alloc (.cells #[d0] 3);have oe:=wa.alloc (.cells #[d0] 3);have ako:w<w1.heap.size:=bc.lt;have az:(Value.slice (some (w1,0)) 1 1).ownBlock≠some w.heap.size:=by intro h;have:=cJ h;simp at this;omega
 clear bc wa;go_loopg [6] (2*n+2) (λk y wr=>∃s q,n8 wr w y q/\y.ownBlock≠some w.heap.size/\aB wr w 4 (iJ s)/\s.length=n/\h8 n q/\Kept w wr/\2*rk s+q.length<k/\k<=2*n+2/\Ag b' k s q=T)
 case atStart=>exact⟨_,_,cL,az,od,iQ ..,λe he=>by rw[kb]at he;subst he;exact⟨kF,hf⟩,oe,by unfold rk;rw[List.countP_replicate];simp,bB _,c8⟩
 case round=>
  obtain⟨s,q,cL,Rz,bc,aO,RA,ax,hm,jm,a6⟩:=hrel;clear ako az od oe;obtain⟨F,rfl⟩:∃F,gk=F+1:=⟨gk-1,by omega⟩;obtain⟨ED,vl,nx,cur,rfl,hqB,l_,jn,iX,Cv,p3⟩:=cL;match q with
  |[]=>
   rw[Ag]at a6;have eb:=I a6;have cp:=I ax;have dv:=I bc;clear a6 ax bc l_ RA p3 hm Rz;generalize wr=W0 at*;go_wp2_with fail
   go_loopw [10,50] (λa y vx=>∃i:aa,y= .int .i64 i/\i<=n/\Kept W0 vx/\dj vx W0 a (((List.range i).filter λk:aa=>e1 s (k:J)).map λk:aa=>(k:J))) (λ_ y _=>n-(intOf y).toNat)
   case atStart=>exact⟨0,rfl,d' _,aG _,qh _ _ _ _⟩
   case round=>
    obtain⟨i,rfl,dG,gj,dZ⟩:=hrel;by_cases aN:i<n
    .have jX:s[i]?=some (s[i]'(by omega)):=bn _;have ir:e1 s (i:J)=s[i]'(by omega):=by unfold e1;rw[c7,jX];rfl
     have im:=dv.kept gj;have DO:=im.cell i;rw[oa jX]at DO;have ni:=im.lt;have db:(i:J)<n:=by omega
     have pd:((List.range (i+1)).filter λk:aa=>e1 s (k:J)).map (λk:aa=>(k:J))=((List.range i).filter λk:aa=>e1 s (k:J)).map (λk:aa=>(k:J))++(if e1 s (i:J)then [(i:J)]else []):=by
      rw[Ts,x8,k6];congr 1
      cases hp:e1 s (i:J)<;>simp[hp]
     have L:(((List.range i).filter λk:aa=>e1 s (k:J)).map λk:aa=>(k:J)).length<=i:=by
      rw[er];exact fN (nX _ _) (by rw[vG];exact bB _)
     rw[ir]at pd;have eG:=I dZ;have gO:=I gj;have n6:=I pd;clear dZ gj pd im ir;generalize s[i]'(by omega)=pS at*;have hN:=I jX;clear jX
     cases pS
     .go_wp2_with fail
      go_roundw
      case rel=>exact⟨i+1,rfl,aN,gO,by have h:=n6.out;simp only[A7,sx,hj]at h;rw[h];exact eG⟩
      case measure=>simp[intOf];omega
     .go_wp2_with (at_builtin;refine jB _ rfl (.tmp 56) (.tmp 58) 46 rfl W0 3 jq () 1 8 underlying46 fx fy fz fA rfl (by decide) _ (((List.range i).filter λk:aa=>e1 s (k:J)).map λk:aa=>(k:J)).length ((((List.range i).filter λk:aa=>e1 s (k:J)).map λk:aa=>(k:J)).map (.int .i64)) rfl (fX eG _) ⟨wr.heap.size,0,none⟩ 1 1 [.int .i64 i] rfl rfl (n0 _ _ _) (oY i) (by unfold maxLen;omega) (by omega) (by have:=gO.size;simp;omega) ?_;intro v' c4 gy cu _ dK;have cI:=I (bb gy (bb cu dK));clear gy cu dK)
      obtain⟨ab,ad,bw⟩:=cI.out;go_roundw
      case rel=>
       have iL:=bb (ll (gO.out.alloc _) (fX eG.out _) (bB _) ad) (show dj c4 W0 v' (((List.range (i+1)).filter λk:aa=>e1 s (k:J)).map λk:aa=>(k:J)) by have h:=n6.out;simp only[k3]at h;rw[h];exact vq ab)
       first
        |exact⟨i+1,rfl,aN,iL⟩
        |exact⟨_,_,⟨i+1,rfl,aN,iL⟩,rfl,rfl⟩
        |exact⟨_,_,_,⟨i+1,rfl,aN,iL⟩,rfl,rfl,rfl⟩
        |exact⟨_,_,_,_,⟨i+1,rfl,aN,iL⟩,rfl,rfl,rfl,rfl⟩
      case measure=>simp[intOf];omega
    .obtain rfl:i=n:=by omega
     have db:¬((i:J)<i):=by omega
     have eG:=I dZ;have gO:=I gj;clear dZ gj;go_wp2_with fail
     go_ret;exact⟨_,rfl,by rw[<-q7,<-eb];exact dj.low eG cp.size,cp.trans gO⟩
  |d::q=>
   obtain⟨mx,se⟩:=RA d (o2 ..);have cK:wr.cell? (ED,vl)=some (.int .i64 d):=by rw[l_.cell];exact p3 0 d rfl
   obtain⟨ek,rfl⟩:∃ek:aa,d=ek:=⟨d.toNat,by omega⟩;obtain⟨yB,aum,rfl,pg,ph⟩:=HAA.out (by omega);have Gn:b'[ek]?=some (b'[ek]'(by have:=b3.out;omega)):=bn _;generalize b'[ek]'(by have:=b3.out;omega)=es at Gn;obtain⟨qd,bX,Nn⟩:=ph ek es Gn;have Rp:es.length<=1000000:=dB.out es (fe Gn);obtain⟨dx,a',rfl,ad⟩:=gw.at_ Nn;have iI:=ax.aI pg bX;rw[jD]at iI;have arD:=bG pg ax.size;have qK:b'[((ek:aa):J).toNat]?.getD []=es:=by rw[c7,Gn];rfl
   have L5:h8 n es:=by have:=aX.out (ek:J);rwa [qK]at this
   rw[Ag,qK]at a6;obtain⟨dM,dQ,fP,kW⟩:=ad8 es s q (by rw[aO];exact L5);rw[hi]at hm jn;have Xv:ED<wr.heap.size:=l_.lt;have hqt:∀(j:aa)(x:J),q[j]?=some x->cur[vl+1+j]?=some (.int .i64 x):=λj x ay=>by have:=p3 (j+1) x ay;rwa [show vl+(j+1)=vl+1+j by omega]at this
   have vL:=I ad;have hlen:((((ek:aa):J)::q).length:J)=q.length+1:=by rw[hi];omega
   have Rx:(0:J)<(q.length:J)+1:=by omega
   have RB:q.length<=3000:=by omega
   have dU:=I (bb dM (bb dQ (bb fP kW)));have fa:=I a6;have Uk:=I (bb RA hqt);have dv:=I bc;have cp:=I ax;clear dM dQ fP kW a6 RA hqt Nn bX ph Gn qK ad p3 bc ax;rw[hi];have b1:Hid (n8 wr w (if nx=1 then .slice (some (ED,vl)) 0 0 else .slice (some (ED,vl+1)) q.length (nx-1)) q):=I (by
    by_cases dE:nx=1
    .rw[aP dE];obtain rfl:q=[]:=oC.1 (by omega);exact⟨ED,vl,0,cur,rfl,hqB,l_,bB _,d' _,by omega,λj x ay=>by cases ay⟩
    .rw[aw dE];exact⟨ED,vl+1,nx-1,cur,rfl,hqB,l_,by omega,by omega,by omega,Uk.2⟩)
   have eQ:Hid ((if nx=1 then Value.slice (some (ED,vl)) 0 0 else .slice (some (ED,vl+1)) q.length (nx-1)).ownBlock≠some w.heap.size):=I (by
    by_cases dE:nx=1
    .rw[aP dE];exact Rz
    .rw[aw dE];exact Rz)
   clear l_ Rz;have WO:(nx=1/\q=[])\/nx≠1:=by
    by_cases dE:nx=1
    .exact .inl ⟨dE,oC.1 (by omega)⟩
    .exact .inr dE
   have cB:=I (show 2*rk s+q.length<=2*n+2 by omega);rcases WO with⟨rfl,rfl⟩|dE
   .rw[aP rfl]at b1 eQ;clear hlen Rx;go_wp2_with fail
    go_loopw [6,31] (λy z vx=>∃(j:aa)(s2:List Bool)(a8:aW),z= .int .i64 j/\j<=es.length/\n8 vx w y a8/\y.ownBlock≠some w.heap.size/\aB vx w 4 (iJ s2)/\s2.length=n/\Kept w vx/\2*rk s2+a8.length<=2*n+2/\oZ (es.drop j) s2 a8=oZ es s []) (λ_ z _=>(es.length-intOf z).toNat)
    case atStart=>exact⟨0,s,[],rfl,d' _,b1,eQ,dv,aO,cp,cB,rfl⟩
    case round=>
     obtain⟨j,s2,a8,rfl,ay,vZ,oN,im,mT,gj,lG,mS⟩:=hrel;by_cases aN:j<es.length
     .obtain⟨bW,mY,rfl,hd,ef⟩:=vL.out (by omega);have pk:es[j]?=some (es[j]'aN):=bn _;have bQ:=ef j _ pk;obtain⟨he0,I'⟩:=L5 _ (vH aN);rw[jA aN,oZ]at mS;generalize es[j]'aN=dw at*;obtain⟨bs,rfl⟩:∃bs:aa,dw=bs:=⟨dw.toNat,by omega⟩;have kk:=gj.aI hd bQ;have db:(j:J)<es.length:=by omega
      have qI:bs<s2.length:=by omega
      have jX:s2[bs]?=some (s2[bs]'qI):=bn _;have ir:e1 s2 (bs:J)=s2[bs]'qI:=by unfold e1;rw[c7,jX];rfl
      have DO:=im.cell bs;rw[oa jX]at DO;rw[ir]at mS;have MN:s2[bs]'qI=false->rk (s2.set bs true)+1=rk s2:=λh=>by have:=Vo (s:=s2) (e:=(bs:J)) ⟨by omega,by omega⟩ (by rw[ir,h]);rwa [c7]at this
      have HC:=I MN;generalize s2[bs]'qI=pS at*;obtain⟨-,ni,PW⟩:=im.q;have bS:=I (bb vZ (bb oN (bb im (bb mT (bb gj lG)))));have jH:=I mS;have eb:=I jX;clear ef pk bQ ir MN vZ oN im mT gj mS jX
      cases pS
      .go_upto_region 11 with fail
       have mh:=I (bS.2.2.1.ba bs (.bool true));have uE:=I (n8.other bS.1 (p:=⟨w.heap.size,bs,none⟩) (u:= .bool true) rfl bS.2.1);have gO:=I (bS.2.2.2.2.1.setCell (p:=⟨w.heap.size,bs,none⟩) (bB _) (.bool true));have nN:(wr.setCell ⟨w.heap.size,bs,none⟩ (.bool true)).heap.size=wr.heap.size:=by simp
       clear DO PW;generalize wr.setCell ⟨w.heap.size,bs,none⟩ (.bool true)=PI at*;rw[<-nN]at ni;clear nN;have akL:a8.length<=3000:=by omega
       go_wp2_with (at_builtin;refine afv _ rfl (.tmp 43) (.tmp 45) rfl jq fx fy fz fA w _ a8 rfl (uE.kept (Kept.alloc (aG _) _)) ⟨PI.heap.size,0,none⟩ 1 (bs:J) rfl (n0 _ _ _) (by omega) (by simp;omega) ?_;intro v' c4 g1 g2 g3;have cI:=I (bb g1 (bb g2 g3));clear g1 g2 g3)
       obtain⟨g1,g2,g3⟩:=cI.out;go_roundw
       case rel=>
        obtain⟨-,oN,-,mT,-,lG⟩:=bS.out;have bU:v'.ownBlock≠some w.heap.size:=by
         rcases g3 with h|⟨ju,h,D_⟩
         .rw[h];exact oN
         .rw[h];intro e;have:=cJ e;simp at D_;omega
        have Wk:aB c4 w 4 (iJ (s2.set bs true)):=by
         have h:=mh.alloc (.cells #[.int .i64 (bs:J)] 3);rw[yE]at h;exact (g2.block w h.lt (λe=>oN e.symm)).trans h
        have aC:=jH.out;rw[aw (by simp),c7]at aC;have Ng:=bb g1 (bb bU (bb Wk (bb (show (s2.set bs true).length=n by rw[gJ];exact mT) (bb (acZ (gO.out.alloc _) (uE.out.kept (Kept.alloc (aG _) _)) (bB _) g2) (bb (show 2*rk (s2.set bs true)+(a8++[(bs:J)]).length<=2*n+2 by have:=HC.out (by trivial);rw[fk,sy];omega) aC)))))
        first
         |exact⟨j+1,s2.set bs true,a8++[(bs:J)],rfl,aN,Ng⟩
         |exact⟨_,_,_,⟨j+1,rfl,aN,s2.set bs true,a8++[(bs:J)],Ng⟩,rfl,rfl,rfl⟩
       case measure=>simp[intOf];omega
      .go_wp2_with fail
       go_roundw
       case rel=>exact⟨j+1,s2,a8,rfl,aN,bS.1,bS.2.1,bS.2.2.1,bS.2.2.2.1,bS.2.2.2.2.1,bS.2.2.2.2.2,by have:=jH.out;rwa [aP rfl]at this⟩
       case measure=>simp[intOf];omega
     .obtain rfl:j=es.length:=by omega
      have db:¬((es:J)<es.length):=by omega
      rw[E4,oZ]at mS;have bS:=I (bb vZ (bb oN (bb im (bb mT (bb gj mS)))));clear vZ oN im mT gj mS;go_wp2_with fail
      go_roundg F
      case measure=>omega
      case rel=>
       obtain⟨vZ,oN,im,mT,gj,iL⟩:=bS.out;obtain⟨-,-,fP,kW⟩:=dU.out;have aC:=fa.out;rw[<-iL]at fP kW aC;exact⟨s2,a8,vZ,oN,im,mT,λx aj=>by
        rcases (fP x).1 aj with h|⟨h,-⟩
        .exact Uk.1 x (qY _ h)
        .exact L5 x h,gj,by dsimp only at kW;omega,by omega,aC⟩
   .rw[aw dE]at b1 eQ;go_wp2_with fail
    go_loopw [6,31] (λy z vx=>∃(j:aa)(s2:List Bool)(a8:aW),z= .int .i64 j/\j<=es.length/\n8 vx w y a8/\y.ownBlock≠some w.heap.size/\aB vx w 4 (iJ s2)/\s2.length=n/\Kept w vx/\2*rk s2+a8.length<=2*n+2/\oZ (es.drop j) s2 a8=oZ es s q) (λ_ z _=>(es.length-intOf z).toNat)
    case atStart=>exact⟨0,s,q,rfl,d' _,b1,eQ,dv,aO,cp,cB,rfl⟩
    case round=>
     obtain⟨j,s2,a8,rfl,ay,vZ,oN,im,mT,gj,lG,mS⟩:=hrel;by_cases aN:j<es.length
     .obtain⟨bW,mY,rfl,hd,ef⟩:=vL.out (by omega);have pk:es[j]?=some (es[j]'aN):=bn _;have bQ:=ef j _ pk;obtain⟨he0,I'⟩:=L5 _ (vH aN);rw[jA aN,oZ]at mS;generalize es[j]'aN=dw at*;obtain⟨bs,rfl⟩:∃bs:aa,dw=bs:=⟨dw.toNat,by omega⟩;have kk:=gj.aI hd bQ;have db:(j:J)<es.length:=by omega
      have qI:bs<s2.length:=by omega
      have jX:s2[bs]?=some (s2[bs]'qI):=bn _;have ir:e1 s2 (bs:J)=s2[bs]'qI:=by unfold e1;rw[c7,jX];rfl
      have DO:=im.cell bs;rw[oa jX]at DO;rw[ir]at mS;have MN:s2[bs]'qI=false->rk (s2.set bs true)+1=rk s2:=λh=>by have:=Vo (s:=s2) (e:=(bs:J)) ⟨by omega,by omega⟩ (by rw[ir,h]);rwa [c7]at this
      have HC:=I MN;generalize s2[bs]'qI=pS at*;obtain⟨-,ni,PW⟩:=im.q;have bS:=I (bb vZ (bb oN (bb im (bb mT (bb gj lG)))));have jH:=I mS;have eb:=I jX;clear ef pk bQ ir MN vZ oN im mT gj mS jX
      cases pS
      .go_upto_region 11 with fail
       have mh:=I (bS.2.2.1.ba bs (.bool true));have uE:=I (n8.other bS.1 (p:=⟨w.heap.size,bs,none⟩) (u:= .bool true) rfl bS.2.1);have gO:=I (bS.2.2.2.2.1.setCell (p:=⟨w.heap.size,bs,none⟩) (bB _) (.bool true));have nN:(wr.setCell ⟨w.heap.size,bs,none⟩ (.bool true)).heap.size=wr.heap.size:=by simp
       clear DO PW;generalize wr.setCell ⟨w.heap.size,bs,none⟩ (.bool true)=PI at*;rw[<-nN]at ni;clear nN;have akL:a8.length<=3000:=by omega
       go_wp2_with (at_builtin;refine afv _ rfl (.tmp 43) (.tmp 45) rfl jq fx fy fz fA w _ a8 rfl (uE.kept (Kept.alloc (aG _) _)) ⟨PI.heap.size,0,none⟩ 1 (bs:J) rfl (n0 _ _ _) (by omega) (by simp;omega) ?_;intro v' c4 g1 g2 g3;have cI:=I (bb g1 (bb g2 g3));clear g1 g2 g3)
       obtain⟨g1,g2,g3⟩:=cI.out;go_roundw
       case rel=>
        obtain⟨-,oN,-,mT,-,lG⟩:=bS.out;have bU:v'.ownBlock≠some w.heap.size:=by
         rcases g3 with h|⟨ju,h,D_⟩
         .rw[h];exact oN
         .rw[h];intro e;have:=cJ e;simp at D_;omega
        have Wk:aB c4 w 4 (iJ (s2.set bs true)):=by
         have h:=mh.alloc (.cells #[.int .i64 (bs:J)] 3);rw[yE]at h;exact (g2.block w h.lt (λe=>oN e.symm)).trans h
        have aC:=jH.out;rw[aw (by simp),c7]at aC;have Ng:=bb g1 (bb bU (bb Wk (bb (show (s2.set bs true).length=n by rw[gJ];exact mT) (bb (acZ (gO.out.alloc _) (uE.out.kept (Kept.alloc (aG _) _)) (bB _) g2) (bb (show 2*rk (s2.set bs true)+(a8++[(bs:J)]).length<=2*n+2 by have:=HC.out (by trivial);rw[fk,sy];omega) aC)))))
        first
         |exact⟨j+1,s2.set bs true,a8++[(bs:J)],rfl,aN,Ng⟩
         |exact⟨_,_,_,⟨j+1,rfl,aN,s2.set bs true,a8++[(bs:J)],Ng⟩,rfl,rfl,rfl⟩
       case measure=>simp[intOf];omega
      .go_wp2_with fail
       go_roundw
       case rel=>exact⟨j+1,s2,a8,rfl,aN,bS.1,bS.2.1,bS.2.2.1,bS.2.2.2.1,bS.2.2.2.2.1,bS.2.2.2.2.2,by have:=jH.out;rwa [aP rfl]at this⟩
       case measure=>simp[intOf];omega
     .obtain rfl:j=es.length:=by omega
      have db:¬((es:J)<es.length):=by omega
      rw[E4,oZ]at mS;have bS:=I (bb vZ (bb oN (bb im (bb mT (bb gj mS)))));clear vZ oN im mT gj mS;go_wp2_with fail
      go_roundg F
      case measure=>omega
      case rel=>
       obtain⟨vZ,oN,im,mT,gj,iL⟩:=bS.out;obtain⟨-,-,fP,kW⟩:=dU.out;have aC:=fa.out;rw[<-iL]at fP kW aC;exact⟨s2,a8,vZ,oN,im,mT,λx aj=>by
        rcases (fP x).1 aj with h|⟨h,-⟩
        .exact Uk.1 x (qY _ h)
        .exact L5 x h,gj,by dsimp only at kW;omega,by omega,aC⟩
structure nD(w:ag)(B G:aa)(us:dN)(ls:List aW):Prop where
 eH:aB w G 46 us.toArray
 len:us.length=ls.length
 own:∀(d:aa)(u:ak)(l:aW),us[d]?=some u->ls[d]?=some l->dj w B u l
 ap:∀(d fp:aa)(u lO:ak),d≠fp->us[d]?=some u->us[fp]?=some lO->kP u lO
 far:∀(d:aa)(u:ak),us[d]?=some u->u.ownBlock≠some G
def nD.alloc{w:ag}{B G:aa}{us:dN}{ls:List aW}(h:nD w B G us ls)(o:Obj):nD (w.alloc o) B G us ls:=
 ⟨h.eH.alloc o,h.len,λd u l hu av=>fX (h.own d u l hu av) o,h.ap,h.far⟩
def dj.oA{w:ag}{B:aa}{v:ak}{l:aW}(h:dj w B v l){p:Addr}(bU:v.ownBlock≠some p.block)(u:ak):dj (w.setCell p u) B v l:=by
 refine⟨h.1,?_⟩;rcases h.2 with ad|⟨g,cap,cur,aK,af,al,ao⟩
 .exact .inl ad
 .refine .inr ⟨g,cap,cur,aK,af,?_,ao⟩;have aR:aB w g 3 cur:=al;exact aR.far (λe=>bU (by rw[aK,<-e];rfl)) u
def nD.kept{w w':ag}{B G:aa}{us:dN}{ls:List aW}(h:nD w B G us ls)(ai:Kept w w'):nD w' B G us ls:=by
 refine⟨h.eH.kept ai,h.len,λd u l hu av=> ?_,h.ap,h.far⟩;have aA:=h.own d u l hu av;refine⟨aA.1,?_⟩;rcases aA.2 with ad|⟨g,cap,cur,aK,af,al,ao⟩
 .exact .inl ad
 .have aR:aB w g 3 cur:=al;exact .inr ⟨g,cap,cur,aK,af,aR.kept ai,ao⟩
def nD.upd{w w1:ag}{B G d:aa}{us:dN}{ls:List aW}{u v:ak}{m:aW}(h:nD w B G us ls)(hu:us[d]?=some u)(aA:dj w1 B v m)(al:w.grownBy w1 u.ownBlock)(aK:v.ownBlock=u.ownBlock\/v.ownBlock=some w.heap.size):nD (w1.setCell (G,d) v) B G (us.set d v) (ls.set d m):=by
 have aL:=h.eH.lt;have hvG:v.ownBlock≠some G:=by
  rcases aK with e|e
  .rw[e];exact h.far d u hu
  .rw[e];intro a_;have:=cJ a_;omega
 have aE:=(b2 hu).1;have fU:aB w1 G 46 us.toArray:=(al.block G aL (λe=>h.far d u hu e.symm)).trans h.eH;refine⟨?_,by rw[gJ,gJ];exact h.len,λfp lO l' ku mz=> ?_,λd1 d2 u1 u2 bU ab ad=> ?_,λfp lO ku=> ?_⟩
 .have:=fU.ba d v;rwa [kM]at this
 .rw[x2]at ku mz;by_cases e:d=fp
  .subst e;rw[aP rfl,aP aE]at ku;rw[aP rfl,aP (by rw[<-h.len];exact aE)]at mz
   cases ku;cases mz;exact aA.oA hvG v
  .rw[aw e]at ku mz;exact ((h.own fp lO l' ku mz).other al (h.ap d fp u lO e hu ku)).oA (h.far fp lO ku) v
 .rw[x2]at ab ad;by_cases aQ:d=d1
  .subst aQ;rw[aP rfl,aP aE]at ab;rw[aw bU]at ad
   cases ab;have oq:d2<ls.length:=by rw[<-h.len];exact (b2 ad).1
   exact kP.grown aK (h.own d2 u2 _ ad (bn oq)) (h.ap d d2 u u2 bU hu ad)
  .rw[aw aQ]at ab;by_cases a_:d=d2
   .subst a_;rw[aP rfl,aP aE]at ad
    cases ad;have uT:d1<ls.length:=by rw[<-h.len];exact (b2 ab).1
    exact (kP.grown aK (h.own d1 u1 _ ab (bn uT)) (h.ap d d1 u u1 aQ hu ab)).symm
   .rw[aw a_]at ad;exact h.ap d1 d2 u1 u2 bU ab ad
 .rw[x2]at ku;by_cases e:d=fp
  .subst e;rw[aP rfl,aP aE]at ku
   cases ku;exact hvG
  .rw[aw e]at ku;exact h.far fp lO ku
def alG{w:ag}{b off:aa}{cA:aW}(aq:∀(j:aa)x,cA[j]?=some x->aU w ⟨b,off+j,none⟩=some (ah x)):∀j u,(cA.map (Value.int .i64))[j]?=some u->aU w (((b,off):Addr).add j)=some u:=by
 intro j u ay;rw[hS]at ay
 cases bZ:cA[j]? with
 |none=>rw[bZ]at ay;cases ay
 |some x=>
  rw[bZ]at ay;have:=aq j x bZ;have e:(⟨b,off,none⟩:Addr).add j=⟨b,off+j,none⟩:=by
   unfold Addr.add;by_cases ar:j=0
   .subst ar;rfl
   .simp[ar]
  rw[e,this];exact ay
def ag9{w:ag}{base:aa}{v:ak}{xs:aW}(aL:dj w base v xs){x:ak}{cA:aW}(yX:gw w x cA)(av:xs.length+cA.length<=2000000)(af:base<=w)(ty:dC):
  ∃v' w',(Builtin.append_ #[46,46] ty #[v,x]).run prog w= .ok v' w'/\dj w' base v' (xs++cA)/\w.grownBy w' v.ownBlock/\(v'.ownBlock=v.ownBlock\/v'.ownBlock=some w.heap.size):=by
 obtain⟨i0,aD,fY,cG,eM⟩:=hy Tryz.td;obtain⟨A,cap,rfl,aj⟩:=yX.at_;by_cases ar:cA=[]
 .subst ar;have Jo:Src prog i0.size 46 (ae A 0 cap) 0 [] w:=⟨.inl ⟨3,underlying46⟩,λw'=>by simp[Builtin.lenOf],by cases A<;>simp[Builtin.firstCells,loadCells,loadCellsFrom],by cases A<;>simp[Builtin.firstCells,loadCells,loadCellsFrom],by simp,λu hu=>by cases hu⟩;refine⟨v,w,?_,by rw[hj];exact aL,⟨rfl,rfl,rfl,bB _,λ_ _ _=>rfl⟩,.inl rfl⟩;rcases aL.2 with⟨rfl,_⟩|⟨g,IE,cur,rfl,_,_,hnc,_⟩
  .exact run_append_nothing w _ _ ty 3 i0 underlying46 aD none 0 0 (bB _) _ Jo
  .exact run_append_nothing w _ _ ty 3 i0 underlying46 aD _ _ _ hnc _ Jo
 .obtain⟨b,off,rfl,oj,aq⟩:=aj (List.length_pos_iff.2 ar);obtain⟨v',w',ab,ad,ao,_,bw⟩:=run_append_own_at (P:=prog) (w:=w) base 46 ty 3 i0 () 1 8 underlying46 aD fY cG eM rfl (by decide) v xs (xs.map (Value.int .i64)) aL ⟨b,off,none⟩ cA cap (cA.map (Value.int .i64)) (by simp) (alG aq)
   (λu hu=>by obtain⟨y,_,rfl⟩:=o3.1 hu;rfl) (by unfold maxLen;omega) (by omega) af
  refine⟨v',w',ab,?_,ao,bw⟩;unfold dj;rw[fk,k6];exact ad
def afw{o:Oper}{a:Act}{K:Act->ag->Prop}{Q:Exit->Act->ag->Prop}{w:ag}(s x:Operand)(aA:o.op= .call {callee:= .builtin .append,args:=#[s,x],argTypes:=#[46,46]}){base:aa}{v:ak}{xs:aW}(aO:a.eval s=v)(aL:dj w base v xs){vy:ak}{cA:aW}(aj:a.eval x=vy)(yX:gw w vy cA)(av:xs.length+cA.length<=2000000)(af:base<=w)(h:∀v' w',dj w' base v' (xs++cA)->w.grownBy w' v.ownBlock->(v'.ownBlock=v.ownBlock\/v'.ownBlock=some w.heap.size)->K (a.put o.dst v') w'):o.wp prog a w K Q:=by
 obtain⟨v',w',aC,ab,ad,ao⟩:=ag9 aL yX av af o.type;unfold Oper.wp execOp;simp only[aA,resolve,invoke,builtin,OE,OD,Result.andThen_ok,List.map_toArray,zE,Kh,aO,aj,aC];exact h v' w' ab ad ao
def nF(w:ag)(v:ak)(x:cq):Prop:=∃b7 dy cD,v=aF #[x.aM,x.ms,b7,dy,cD]/\c0 3 jt w b7 x.ins/\c0 3 jt w dy x.ds/\c0 9 lz w cD x.rs
def nF.kept{w w':ag}{v:ak}{x:cq}(h:nF w v x)(ai:Kept w w'):nF w' v x:=by
 obtain⟨b7,dy,cD,aK,ab,ad,ao⟩:=h;exact⟨b7,dy,cD,aK,ab.kept jt.kept ai,ad.kept jt.kept ai,ao.kept lz.kept ai⟩
def FJ(n:aa)(r:br)(a:List aW):List aW:=if 0<=r.bx/\r.bx<n then a.set r.bx.toNat ((a[r.bx.toNat]?.getD [])++xl n r)else a
def uJ(n:aa):List br->List aW->List aW
 |[],a=>a
 |r::rs,a=>uJ n rs (FJ n r a)
def gV(n:aa)(rs:List br):List aW:=(uJ n rs (List.replicate n [])).map e_
def aaA(n:aa)(r:br)(a:List aW):(FJ n r a).length=a.length:=by
 unfold FJ;split
 .rw[gJ]
 .rfl
def aaB(n:aa):∀(rs:List br)(a:List aW),(uJ n rs a).length=a.length:=by
 intro rs;induction rs with
 |nil=>intro a;rfl
 |cons r rs bO=>intro a;rw[uJ,bO,aaA]
def BU(n:aa)(rs:List br):(gV n rs).length=n:=by
 unfold gV;rw[er,aaB,iQ]
def Sa{n:aa}{r:br}{e:J}:e∈xl n r↔(0<=e/\e<n)/\(e∈hZ r.g\/e∈hZ r.v):=by
 unfold xl;rw[k5,uq,uq,Et,Et];unfold l0;rw[gg];constructor
 .rintro (⟨h,ec⟩|⟨h,ec⟩)
  .exact⟨ec,.inl h⟩
  .exact⟨ec,.inr h⟩
 .rintro⟨h,ec|ec⟩
  .exact .inl ⟨ec,h⟩
  .exact .inr ⟨ec,h⟩
def amE{n:aa}:∀(rs:List br)(a:List aW),a.length=n->∀(d:aa),d<n->∀e,e∈(uJ n rs a)[d]?.getD []↔e∈a[d]?.getD []\/∃r∈rs,r.bx=d/\e∈xl n r:=by
 intro rs;induction rs with
 |nil=>intro a _ d _ e;simp[uJ]
 |cons r rs bO=>
  intro a bD d aE e;rw[uJ,bO _ ((aaA n r a).trans bD) d aE e];have ab:e∈(FJ n r a)[d]?.getD []↔e∈a[d]?.getD []\/(r.bx=d/\e∈xl n r):=by
   unfold FJ;by_cases aC:0<=r.bx/\r.bx<n
   .rw[aP aC,x2];by_cases Ef:r.bx.toNat=d
    .rw[aP Ef,aP (by omega),b9,k5,Ef];exact⟨λh=>h.imp id λh=>⟨by omega,h⟩,λh=>h.imp id λh=>h.2⟩
    .rw[aw Ef];exact⟨.inl,λh=>h.resolve_right λaT=>Ef (by omega)⟩
   .rw[aw aC];exact⟨.inl,λh=>h.resolve_right λaT=>aC (by omega)⟩
  rw[ab,or_assoc];constructor
  .rintro (h|⟨h,ec⟩|⟨x,aj,h⟩)
   .exact .inl h
   .exact .inr ⟨r,o2 ..,h,ec⟩
   .exact .inr ⟨x,qY _ aj,h⟩
  .rintro (h|⟨x,aj,h⟩)
   .exact .inl h
   .rcases fM.1 aj with rfl|aj
    .exact .inr (.inl h)
    .exact .inr (.inr ⟨x,aj,h⟩)
def ado{n:aa}{rs:List br}{d:aa}(aE:d<n){e:J}:e∈(gV n rs)[d]?.getD []↔∃r∈rs,r.bx=d/\e∈xl n r:=by
 unfold gV;have av:d<(uJ n rs (List.replicate n [])).length:=by rw[aaB,iQ];exact aE
 rw[hS,bn av,qi,b9,Et];have h:=amE rs (List.replicate n []) (iQ ..) d aE e;rw[bn av,b9]at h;rw[h,uj,aP aE];simp
def gS(nb:List Bool)(d:J):Bool:=nb[d.toNat]?.getD false
noncomputable def su(Lf:gD)(E:dT)(rs:List br)(nb:List Bool):aW->List bC->List bC×J
 |[],ds=>(ds,0)
 |d::r,ds=>if gS nb d=false then su Lf E rs nb r ds
  else if (fW Lf {E with ds:=ds} rs d).2.2.1≠0 then (ds,(fW Lf {E with ds:=ds} rs d).2.2.1)
  else su Lf E rs nb r (ds.set d.toNat (fW Lf {E with ds:=ds} rs d).1)
def rV(n:aa)(rs:List br)(d e:J):Prop:=(0<=e/\e<n)/\∃r∈rs,r.bx=d/\(e∈hZ r.g\/e∈hZ r.v)
def aiQ{n:aa}{rs:List br}{d:aa}(aE:d<n){e:J}:e∈(gV n rs)[d]?.getD []↔rV n rs d e:=by
 rw[ado aE];unfold rV;constructor
 .rintro⟨r,ab,ad,ao⟩;exact⟨(Sa.1 ao).1,r,ab,ad,(Sa.1 ao).2⟩
 .rintro⟨h,r,ab,ad,ao⟩;exact⟨r,ab,ad,Sa.2 ⟨h,ao⟩⟩
structure Ll(n:aa)(rs:List br)(o:aW):Prop where
 inr:h8 n o
 dz:o.Nodup
 dep:∀(p s:aW)(d:J),o=p++d::s->∀e,rV n rs d e->e∈p
def NN{l:List cw}{x:cw}(aj:x∈l)(eI:x.o=8):x.n∈hZ l:=by
 unfold hZ;exact o3.2 ⟨x,uq.2 ⟨aj,by simp[eI]⟩,rfl⟩
def Zf{Lf:gD}{E:dT}{n:aa}{rs:List br}{d:J}{ds FY:List bC}(av:ds.length=n)(mz:FY.length=n)(h:∀e,rV n rs d e->ds[e.toNat]?=FY[e.toNat]?):
  fW Lf {E with ds:=ds} rs d=fW Lf {E with ds:=FY} rs d:=by
 have Xp:∀x:J,0<=x->¬x<n->ds[x.toNat]?=FY[x.toNat]?:=λx ar ab=>by
  rw[lR (by omega),lR (by omega)]
 have key:∀(r:br),r∈rs->r.bx=d->∀x:J,(x∈hZ r.g\/x∈hZ r.v)->0<=x->ds[x.toNat]?=FY[x.toNat]?:=λr aC aE x aj ar=>by
  by_cases ab:x<n
  .exact h x ⟨⟨ar,ab⟩,r,aC,aE,aj⟩
  .exact Xp x ar ab
 refine ao6 rfl (λi r aD aE=> ?_);have aC:=fe aD;refine⟨⟨rfl,rfl,rfl,rfl,av.trans mz.symm,rfl,λx aj eI ar=>key r aC aE _ (.inl (NN aj eI)) ar,λx _ _ _ _ j m jY ab ad=> ?_⟩,⟨rfl,rfl,rfl,rfl,av.trans mz.symm,rfl,λx aj eI ar=>key r aC aE _ (.inr (NN aj eI)) ar,λx _ _ _ _ j m jY ab ad=> ?_⟩⟩
 all_goals
  simp only at ab ad;rw[ab]at ad;rw[cJ ad]
structure UU(Lf:gD)(E:dT)(n:aa)(rs:List br)(nb:List Bool)(V:List bC):Prop where
 len:V.length=n
 yes:∀d:J,0<=d->d<n->gS nb d=true->(fW Lf {E with ds:=V} rs d).2.2.1=0/\V[d.toNat]?=some (fW Lf {E with ds:=V} rs d).1
 no:∀d:J,0<=d->d<n->gS nb d=false->V[d.toNat]?=some v0
section
variable {Lf:gD} {E:dT} {n:aa} {rs:List br} {nb:List Bool} {o:aW}
def Y6:∀(s:aW)(ds:List bC),(su Lf E rs nb s ds).1.length=ds.length:=by
 intro s;induction s with
 |nil=>intro ds;rfl
 |cons d s bO=>
  intro ds;unfold su;split
  .exact bO ds
  .split
   .rfl
   .rw[bO,gJ]
def SO:∀(s:aW)(ds:List bC)(k:aa),(∀d∈s,d.toNat≠k)->(su Lf E rs nb s ds).1[k]?=ds[k]?:=by
 intro s;induction s with
 |nil=>intro ds k _;rfl
 |cons d s bO=>
  intro ds k h;unfold su;split
  .exact bO ds k (λx aj=>h x (qY _ aj))
  .split
   .rfl
   .rw[bO _ k (λx aj=>h x (qY _ aj)),wK (h d (o2 ..))]
def toNat_ne{a b:J}(bD:0<=a)(af:0<=b)(h:a≠b):a.toNat≠b.toNat:=by omega
def aoX(bT:Ll n rs o)(iK:∀d:J,0<=d->d<n->d∈o){V:List bC}(h:su Lf E rs nb o (List.replicate n v0)=(V,0)):UU Lf E n rs nb V:=by
 have c6:V.length=n:=by
  have:=Y6 (Lf:=Lf) (E:=E) (rs:=rs) (nb:=nb) o (List.replicate n v0);rw[h,iQ]at this;exact this
 have key:∀(s p:aW)(ds:List bC),o=p++s->ds.length=n->su Lf E rs nb s ds=(V,0)->(∀d∈s,ds[d.toNat]?=some v0)->
   ∀d∈s,(gS nb d=true->(fW Lf {E with ds:=V} rs d).2.2.1=0/\V[d.toNat]?=some (fW Lf {E with ds:=V} rs d).1)/\(gS nb d=false->V[d.toNat]?=some v0):=by
  intro s;induction s with
  |nil=>intro p ds _ _ _ _ d aE;cases aE
  |cons x s bO=>
   intro p ds aA av aC bP d aE;have iA:=bT.dz;rw[aA,Dc]at iA;obtain⟨-,Nb,Nc⟩:=iA;obtain⟨mV,nO⟩:=bT.inr x (by rw[aA];simp);have MZ:∀y∈s,0<=y:=λy bZ=>(bT.inr y (by rw[aA];simp[bZ])).1;have oT:∀y∈s,y.toNat≠x.toNat:=λy bZ=>toNat_ne (MZ y bZ) mV (λe=>(zD.1 Nb).1 (e▸bZ));have Ct:∀e∈p,∀y∈x::s,y.toNat≠e.toNat:=λe he y bZ=>toNat_ne (bT.inr y (by rw[aA];exact Hi _ bZ)).1 (bT.inr e (by rw[aA];simp[he])).1 (λa_=>Nc e he y bZ a_.symm);have sg:∀k:aa,(∀y∈x::s,y.toNat≠k)->V[k]?=ds[k]?:=λk ai=>by
    have:=SO (Lf:=Lf) (E:=E) (rs:=rs) (nb:=nb) (x::s) ds k ai;rw[aC]at this;exact this
   have dH:fW Lf {E with ds:=V} rs x=fW Lf {E with ds:=ds} rs x:=Zf c6 av (λe he=>sg _ (Ct e (bT.dep p s x aA e he)));unfold su at aC;by_cases af:gS nb x=false
   .rw[aP af]at aC;rcases fM.1 aE with rfl|aE
    .refine⟨λh=>(by rw[af]at h;cases h),λ_=> ?_⟩;have:=SO (Lf:=Lf) (E:=E) (rs:=rs) (nb:=nb) s ds d.toNat oT;rw[aC]at this;rw[this];exact bP d (o2 ..)
    .exact bO (p++[x]) ds (by rw[aA];simp) av aC (λy bZ=>bP y (qY _ bZ)) d aE
   .rw[aw af]at aC;by_cases aq:(fW Lf {E with ds:=ds} rs x).2.2.1≠0
    .rw[aP aq]at aC;exact absurd (congrArg Prod.snd aC) aq
    .rw[aw aq]at aC;rcases fM.1 aE with rfl|aE
     .refine⟨λ_=> ?_,λh=>absurd h af⟩;have:=SO (Lf:=Lf) (E:=E) (rs:=rs) (nb:=nb) s (ds.set d.toNat (fW Lf {E with ds:=ds} rs d).1) d.toNat oT;rw[aC,uk (by omega)]at this;rw[dH];exact⟨OA.1 aq,this⟩
     .refine bO (p++[x]) _ (by rw[aA];simp) (by rw[gJ];exact av) aC (λy bZ=> ?_) d aE;rw[wK (λe=>oT y bZ e.symm)];exact bP y (qY _ bZ)
 have ai:=key o [] (List.replicate n v0) rfl (iQ ..) h (λd aE=>by
  obtain⟨ar,ab⟩:=bT.inr d aE;rw[uj,aP (by omega)])
 exact⟨c6,λd ar ab af=>(ai d (iK d ar ab)).1 af,λd ar ab af=>(ai d (iK d ar ab)).2 af⟩
def aot(bT:Ll n rs o)(iK:∀d:J,0<=d->d<n->d∈o){V:List bC}(bH:UU Lf E n rs nb V):su Lf E rs nb o (List.replicate n v0)=(V,0):=by
 have key:∀(s p:aW)(ds:List bC),o=p++s->ds.length=n->(∀d∈p,ds[d.toNat]?=V[d.toNat]?)->(∀d∈s,ds[d.toNat]?=some v0)->su Lf E rs nb s ds=(V,0):=by
  intro s;induction s with
  |nil=>
   intro p ds aA av hp _;rw[su];congr 1;apply A8;intro k;by_cases ai:k<n
   .have hm:=iK (k:J) (by omega) (by omega);rw[aA,hj]at hm;exact hp (k:J) hm
   .rw[lR (by omega),lR (by have:=bH.len;omega)]
  |cons x s bO=>
   intro p ds aA av hp bP;have iA:=bT.dz;rw[aA,Dc]at iA;obtain⟨-,Nb,Nc⟩:=iA;obtain⟨mV,nO⟩:=bT.inr x (by rw[aA];simp);have MZ:∀y∈s,0<=y:=λy bZ=>(bT.inr y (by rw[aA];simp[bZ])).1;have oT:∀y∈s,y.toNat≠x.toNat:=λy bZ=>toNat_ne (MZ y bZ) mV (λe=>(zD.1 Nb).1 (e▸bZ));have dH:fW Lf {E with ds:=ds} rs x=fW Lf {E with ds:=V} rs x:=Zf av bH.len (λe he=>hp e (bT.dep p s x aA e he));unfold su;by_cases af:gS nb x=false
   .rw[aP af];refine bO (p++[x]) ds (by rw[aA];simp) av (λd aE=> ?_) (λy bZ=>bP y (qY _ bZ));rcases k5.1 aE with aE|aE
    .exact hp d aE
    .rw[kb]at aE;subst aE;rw[bH.no d mV nO af];exact bP d (o2 ..)
   .rw[aw af];have D5:gS nb x=true:=by simpa using af
    obtain⟨RU,hy2⟩:=bH.yes x mV nO D5;rw[dH,aw (by rw[RU];simp)];refine bO (p++[x]) _ (by rw[aA];simp) (by rw[gJ];exact av) (λd aE=> ?_) (λy bZ=> ?_)
    .rcases k5.1 aE with aE|aE
     .rw[wK (toNat_ne mV (bT.inr d (by rw[aA];simp[aE])).1 (λe=>Nc d aE x (o2 ..) e.symm))];exact hp d aE
     .rw[kb]at aE;subst aE;rw[uk (by omega),hy2]
    .rw[wK (λe=>oT y bZ e.symm)];exact bP y (qY _ bZ)
 exact key o [] _ rfl (iQ ..) (λd aE=>by cases aE) (λd aE=>by
  obtain⟨ar,ab⟩:=bT.inr d aE;rw[uj,aP (by omega)])
end
def lV(c m d r x y z:J):Prop:=(c=0->x=0/\y=0/\z=0)/\(c≠0->x=m/\y=d/\z=r)
def lV.ok{m d r:J}:lV 0 m d r 0 0 0:=⟨λ_=>⟨rfl,rfl,rfl⟩,λh=>absurd rfl h⟩
def lV.err{c m d r:J}(h:c≠0):lV c m d r m d r:=⟨λe=>absurd e h,λ_=>⟨rfl,rfl,rfl⟩⟩
def aex{Lf:gD}{E:dT}{rs:List br}{d:J}(ar:(e0 Lf E rs d).2.1=0):(e0 Lf E rs d).1= -1\/(e0 Lf E rs d).1= -2\/∃k:aa,(e0 Lf E rs d).1=k/\k<rs.length:=by
 have R:=tm (bz d E.dt) rs;unfold e0 at ar⊢;by_cases g0:(fw Lf E rs (b8 (bz d E.dt) rs).1 []).2.1≠0
 .rw[aP g0]at ar;exact absurd ar g0
 rw[aw g0];have tW:=SN (par:=(b8 (bz d E.dt) rs).2) (pri:=gG rs (b8 (bz d E.dt) rs).1) (apl:=(fw Lf E rs (b8 (bz d E.dt) rs).1 []).1);have aN:=G4 (par:=(b8 (bz d E.dt) rs).2) (pri:=gG rs (b8 (bz d E.dt) rs).1) (apl:=(fw Lf E rs (b8 (bz d E.dt) rs).1 []).1);generalize kz (b8 (bz d E.dt) rs).2 (gG rs (b8 (bz d E.dt) rs).1) (fw Lf E rs (b8 (bz d E.dt) rs).1 []).1=q at*;by_cases g1:q<0
 .rw[aP g1];simp only;omega
 .rw[aw g1];have az:q.toNat<(b8 (bz d E.dt) rs).1.length:=by
   rw[R.mX,<-R.pl];have:=aN (by omega);omega
  refine .inr (.inr ⟨_,rfl,?_⟩);rw[bn az,b9];exact (R.sq _ _ (bn az)).1
structure BD where
 bY:List bC
 us:aW
 c:J
 d:J
 r:J
noncomputable def lN(Lf:gD)(E:dT)(rs:List br)(nb:List Bool):aW->List bC->List J->BD
 |[],ds,us=>⟨ds,us,0,0,0⟩
 |d::o,ds,us=>if gS nb d=false then lN Lf E rs nb o ds us
  else if (fW Lf {E with ds:=ds} rs d).2.2.1≠0 then⟨ds,us,(fW Lf {E with ds:=ds} rs d).2.2.1,d,(fW Lf {E with ds:=ds} rs d).2.2.2⟩
  else lN Lf E rs nb o (ds.set d.toNat (fW Lf {E with ds:=ds} rs d).1) (us.set d.toNat (fW Lf {E with ds:=ds} rs d).2.1)
section
variable {Lf:gD} {E:dT} {rs:List br} {nb:List Bool} {d:J} {r:aW} {ds:List bC} {us:aW}
def aoA(h:gS nb d=false):lN Lf E rs nb (d::r) ds us=lN Lf E rs nb r ds us:=by rw[lN,aP h]
def aoy{c k:J}(h:gS nb d=true)(aq:(fW Lf {E with ds:=ds} rs d).2.2=(c,k))(ar:c≠0):lN Lf E rs nb (d::r) ds us=⟨ds,us,c,d,k⟩:=by
 rw[lN,aw (by rw[h];simp),aq,aP ar]
def aoz{v:bC}{k:J}(h:gS nb d=true)(aq:fW Lf {E with ds:=ds} rs d=(v,k,0,0)):lN Lf E rs nb (d::r) ds us=lN Lf E rs nb r (ds.set d.toNat v) (us.set d.toNat k):=by
 rw[lN,aw (by rw[h];simp),aq,aw (by simp)]
end
theorem JX{Lf:gD}{E:dT}{rs:List br}{nb:List Bool}:∀(o:aW)(ds:List bC)(us:aW),((lN Lf E rs nb o ds us).bY,(lN Lf E rs nb o ds us).c)=su Lf E rs nb o ds
 |[],_,_=>rfl
 |d::o,ds,us=>by
  rw[lN,su];split
  .exact JX o ds us
  .split
   .rfl
   .exact JX o _ _
theorem Y_{Lf:gD}{E:dT}{rs:List br}{nb:List Bool}:∀(o:aW)(ds:List bC)(us:aW),(lN Lf E rs nb o ds us).us.length=us.length
 |[],_,_=>rfl
 |d::o,ds,us=>by
  rw[lN];split
  .exact Y_ o ds us
  .split
   .rfl
   .rw[Y_ o _ _,gJ]
def am6(v:ak)(e:List cw)(E:dT)(q F:aa)(x:cw)(w:ag)(aK:(c' e).2.2=0)(aj:e[q]?=some x)(bD:0<=eP x.o)(b6:∀l,l<q->z8 e E l)(hF:q<=F)(c6:wQ w v e (c' e).1 E)(bN:Mon w)(aA:x.o=23\/x.o=24\/x.o=26):
  Calls prog 95 #[v,q] w (hA (hQ cz E e (c' e).1 (F+1) q) w):=by
 have bS:Hid (e[q]?=some x):=I aj;obtain⟨j3,iO⟩:=x;obtain⟨L,yW,F_,oh⟩:=adT (a:=(eP j3).toNat) aK aj (by dsimp only at bD⊢;omega);have eG:=I (λw1(h:Kept w w1)=>abF v e E q (eP j3).toNat ⟨j3,iO⟩ w1 (c6.kept h) aK aj (by dsimp only at bD⊢;omega));have fE:=I c6;obtain⟨p9,cH,dm,aY,dx,a',dq,bu,fr,b4,e6,b_,rfl,cd,bH,a1⟩:=c6;have cW:=I a1;obtain⟨A,cap,rfl,a7⟩:=cd.at_;obtain⟨uH,oz,rfl,-⟩:=GW bH;have uZ:=(b2 aj).1;obtain⟨c9,j0,rfl,fU,dE⟩:=a7 (by omega);obtain⟨bX,bQ⟩:=dE q _ aj;dsimp only at bX bQ;have a6:hQ cz E e (c' e).1 (F+1) q=CH ⟨j3,iO⟩ (λj=>hQ cz E e (c' e).1 F ((L.map (λn:aa=>(n:J)))[j]?.getD 0)):=by
  rw[hQ,c7,aj];simp only[b9];rw[aP aA,F_]
 have cE:Hid (∀(w1:ag)(g:aa),Kept w w1->aB w1 g 3 (sl (L.map (λn:aa=>(n:J))))->Calls prog 133 #[.agg #[.slice (some (c9,j0)) e cap,.slice uH (c' e).1.length oz,E.dt,.slice dm E.ins aY,.slice dx E.ds a',.slice dq E.ms bu,.slice fr E.mt b4,.slice e6 E.tb b_],.agg #[j3,iO],.slice (some ⟨g,0,none⟩) (L.map (λn:aa=>(n:J))).length (L.map (λn:aa=>(n:J))).length] w1 (hA (hQ cz E e (c' e).1 (F+1) q) w1)):=by
  refine I λw1 g ai bc=> ?_;rw[a6];by_cases aH:iO=0
  .subst aH;by_cases Wa:j3=26
   .subst Wa;obtain⟨cR,bq,b5,rfl⟩:∃cR bq b5,L=[cR,bq,b5]:=by
     match L,yW with
     |[a,b,c],_=>exact⟨a,b,c,rfl⟩
    exact al6 _ e E F cR bq b5 g w1 (b6 _ (oh _ (by simp))) (by have:=oh cR (by simp);omega) (b6 _ (oh _ (by simp))) (by have:=oh bq (by simp);omega) (b6 _ (oh _ (by simp))) (by have:=oh b5 (by simp);omega) (fE.kept ai) (bN.kept ai) bc
   .have Ru:j3=23\/j3=24:=by simp only at aA;omega
    have Gd:(eP j3).toNat=2:=by rcases Ru with rfl|rfl<;>rfl
    rw[Gd]at yW;obtain⟨cR,bq,rfl⟩:∃cR bq,L=[cR,bq]:=by
     match L,yW with
     |[a,b],_=>exact⟨a,b,rfl⟩
    exact al7 _ e E F cR bq g j3 w1 (b6 _ (oh _ (by simp))) (by have:=oh cR (by simp);omega) (b6 _ (oh _ (by simp))) (by have:=oh bq (by simp);omega) (fE.kept ai) (bN.kept ai) bc Ru
  .exact al8 _ _ j3 iO _ w1 aH (by unfold CH;rw[aP aH]) _ _ _ _ _ _ E _ _ _ _ _ _ _ _ _ _ rfl
 obtain⟨R,aJ⟩:∃R,R=hQ cz E e (c' e).1 (F+1) q:=⟨_,rfl⟩;rw[<-aJ]at cE⊢;obtain⟨⟨cS,eo,di⟩,rc⟩:=R;unfold hA at*;unfold Ss at eG;rw[F_]at eG;have Gv:(j3==23)=true\/((j3==23)=false/\(j3==24)=true)\/((j3==23)=false/\(j3==24)=false/\(j3==26)=true):=by have ao:j3=23\/j3=24\/j3=26:=aA;rcases ao with h|h|h<;>simp[h]
 have wg:(q:J)<e.length:=by omega
 generalize L.map (λn:aa=>(n:J))=Pr at*;generalize bU:e.length=ne at*;generalize (c' e).1.length=eC at*;clear aJ a6 yW F_ oh b6 a1 cd bH a7 dE aA aj bS bU aK cW fE bD;rcases Gv with bd|⟨bd,a8⟩|⟨bd,a8,dI⟩
 all_goals
  go_enter func95,ntmps95
  go_upto_region 2 with fail
  generalize aL:((w.alloc _).alloc _).alloc _=W at*;obtain⟨aV,bo,bh,bm⟩:=Kept.cv aL;clear aL;obtain⟨dX,cR⟩:=bo.p;obtain⟨dQ,b5⟩:=bm.p;obtain⟨dM,bq,YP⟩:=bh.q;go_upto_region 3 with (go_at_call 132;refine (eG _ aV).mono ?_;rintro y w1⟨u,rfl,⟨g,rfl,al,bc⟩,au⟩)
  have jF:=bo.kept au;have gN:=bh.kept au;have df:=bm.kept au;have ca:=aV.trans au;clear dX cR dQ b5 dM YP bq bo bh bm;obtain⟨dX,cR⟩:=jF.p;obtain⟨dQ,b5⟩:=df.p;obtain⟨dM,bq,YP⟩:=gN.q;go_wp2_with (go_at_call 133;refine (cE _ g ca bc).mono ?_;rintro y w2⟨rfl,bt⟩;have dO:=gN.kept bt;have d1c:=dO.cell;have Vz:=dO.frozen;have VA:=dO.lt)
  have Z:=(((dO.ba 0 cS).ba 1 eo).ba 2 di).cell;exact bI (v:= .tuple #[.agg #[cS,eo,di],rc]) (by simp[results,results95,go_sem,Z]) rfl ⟨rfl,ca.trans bt|>.sc (by omega)|>.sc (by omega)|>.sc (by omega)⟩
def am5(v:ak)(e:List cw)(E:dT)(q F:aa)(x:cw)(w:ag)(aK:(c' e).2.2=0)(aj:e[q]?=some x)(bD:0<=eP x.o)(b6:∀l,l<q->z8 e E l)(hF:q<=F)(c6:wQ w v e (c' e).1 E)(bN:Mon w)(aA:¬(x.o=23\/x.o=24\/x.o=26))(aH:iT x.n):
  bg 95 #[v,q] w (hA (hQ cz E e (c' e).1 (F+1) q) w):=by
 have bS:Hid (e[q]?=some x):=I aj;obtain⟨j3,iO⟩:=x;obtain⟨L,yW,F_,oh⟩:=adT (a:=(eP j3).toNat) aK aj (by dsimp only at bD⊢;omega);have eG:=I (λw1(h:Kept w w1)=>abF v e E q (eP j3).toNat ⟨j3,iO⟩ w1 (c6.kept h) aK aj (by dsimp only at bD⊢;omega));have fE:=I c6;obtain⟨p9,cH,dm,aY,dx,a',dq,bu,fr,b4,e6,b_,rfl,cd,bH,a1⟩:=c6;have cW:=I a1;obtain⟨A,cap,rfl,a7⟩:=cd.at_;obtain⟨uH,oz,rfl,-⟩:=GW bH;have uZ:=(b2 aj).1;obtain⟨c9,j0,rfl,fU,dE⟩:=a7 (by omega);obtain⟨bX,bQ⟩:=dE q _ aj;dsimp only at bX bQ;have hLn:L.length<=3:=by rw[yW];have:=(DK j3).2;omega
 have QN:(L.length:J)=eP j3:=by rw[yW];exact E2 bD
 have dY:=I (λ(l:aa)(av:l∈L)=>b6 l (oh l av) F (bG (oh l av) hF));have a6:hQ cz E e (c' e).1 (F+1) q=if (tM (hQ cz E e (c' e).1 F) (L.map (λn:aa=>(n:J))) []).2≠0 then (v0,(tM (hQ cz E e (c' e).1 F) (L.map (λn:aa=>(n:J))) []).2)else r6 cz ⟨j3,iO⟩ (tM (hQ cz E e (c' e).1 F) (L.map (λn:aa=>(n:J))) []).1 E:=by
  rw[hQ,c7,aj];simp only[b9];rw[aw aA,F_]
 obtain⟨n,Xj⟩:∃n,n=L.length:=⟨_,rfl⟩;have HLG:=I (show∀i,i<n->∃l,L[i]?=some l/\l∈L from λi aD=>⟨L[i]'(by omega),bn _,vH _⟩);obtain⟨f,bV⟩:∃f,f=hQ cz E e (c' e).1 F:=⟨_,rfl⟩;obtain⟨T,bT⟩:∃T,T=tM f (L.map (λn:aa=>(n:J))) []:=⟨_,rfl⟩;have vR:=I (show T.2=0->T.1.length=n from λh=>by have:=ahl (f:=f) (L.map (λn:aa=>(n:J))) [] T.1 (by rw[<-bT,<-h]);simp at this;omega);rw[<-bV,<-bT]at a6;obtain⟨R,aJ⟩:∃R,R=hQ cz E e (c' e).1 (F+1) q:=⟨_,rfl⟩;have aX:=I (aJ.trans a6);rw[<-aJ];have c8:=I (show tM f ((L.map (λn:aa=>(n:J))).drop 0) []=T from bT.symm);have wg:(q:J)<e.length:=by omega
 have ux:=I (λ(dV:ag)(dF:ak)(args:List bC)(ai:Kept w dV)(B3:ft dV dF args)(av:args.length=n)=>ahe j3 iO dF _ args E dV (a1.kept ai) B3 (by rw[av,Xj];exact QN) aH (by exact⟨λh=>aA (.inl h),λh=>aA (.inr (.inl h)),λh=>aA (.inr (.inr h))⟩) (bN.kept ai));have j5:Hid (∀(l:aa)(dV:ag),l∈L->Kept w dV->bg 95 #[aF #[ae (some (c9,j0)) e cap,.slice uH (c' e).1.length oz,E.dt,ae dm E.ins aY,ae dx E.ds a',ae dq E.ms bu,ae fr E.mt b4,ae e6 E.tb b_],ah l] dV (hA (f (l:J)) dV)):=I λl dV av ai=>by rw[bV];exact dY l av _ dV (fE.kept ai) (bN.kept ai)
 unfold Ss at eG;rw[F_]at eG;have o23:(j3==23)=false:=beq_eq_false_iff_ne.2 λh=>aA (.inl h);have o24:(j3==24)=false:=beq_eq_false_iff_ne.2 λh=>aA (.inr (.inl h));have o26:(j3==26)=false:=beq_eq_false_iff_ne.2 λh=>aA (.inr (.inr h));obtain⟨i0,aD,fY,cG,eM⟩:=hy Tryz.acV;generalize bU:e.length=ne at*;generalize (c' e).1.length=eC at*;have uW:n<=3:=by omega
 have asm:(n:J)<=3:=by omega
 generalize Wq:L.map (λn:aa=>(n:J))=Pr at*;have kg:=I Wq;have hlen:Pr.length=n:=by rw[<-Wq,er,Xj]
 have Dp:=I hlen;clear aJ a6 yW F_ oh b6 a1 cd bH a7 dE aA aj bS bU aK cW fE bD bV bT Wq hlen QN Xj hLn dY aH;go_enter func95,ntmps95
 go_upto_region 2 with fail
 generalize aL:((w.alloc _).alloc _).alloc _=W at*;obtain⟨aV,bo,bh,bm⟩:=Kept.cv aL;clear aL;obtain⟨dX,cR⟩:=bo.p;obtain⟨dQ,b5⟩:=bm.p;go_upto_region 3 with (go_at_call 132;refine (eG _ aV).mono ?_;rintro y w1⟨u,rfl,⟨g,rfl,al,bc⟩,au⟩)
 rw[Dp];have jF:=bo.kept au;have gN:=bh.kept au;have df:=bm.kept au;have ca:=aV.trans au;have Re:w<=g:=fN aV.size al;have pj:g<w1.heap.size:=bc.lt;clear dX cR dQ b5 bo bh bm au aV al bX bQ eG;generalize af:w.heap.size=b at*;obtain⟨dX,cR⟩:=jF.p;obtain⟨dQ,b5⟩:=df.p;go_wp2_with (at_make;refine rR _ rfl _ _ 27 rfl w1.heap.size 34 i0 (aF #[(),(),()]) 3 underlying27 aD fY cG _ _ _ _ n rfl rfl rfl rfl (by rw[eM];omega) (by unfold maxLen;omega) (bB _) ?_;intro w2 cN cu)
 obtain⟨hBV,jm⟩:=adk cN cu;clear cN cu dX cR dQ b5;have c3:=ca.trans jm;have wa:=jm;have hlw:=df.lt;go_loopw [38] (λy wr=>∃(i:aa)(acc:List bC),y=ah i/\acc.length=i/\i<=n/\tM f (Pr.drop i) acc=T/\Kept w1 wr/\aB wr w1.heap.size 34 (vv (acc++List.replicate (n-i) v0))) (λy _=>(n-intOf y).toNat)
 case atStart=>exact⟨0,[],rfl,rfl,d' _,c8,jm,hBV⟩
 case round=>
  obtain⟨i,acc,rfl,yY,dG,a6,ax,B5⟩:=hrel;clear jm hBV c3 wa;have aS:=ca.trans ax;have k8:=jF.kept ax;have dO:=gN.kept ax;have fh:=df.kept ax;have oD:=bc.kept ax;clear jF gN df bc;obtain⟨d0,d0l⟩:=k8.p;by_cases aN:i<n
  .obtain⟨l,av,hm⟩:=HLG.out i aN;have oq:Pr[i]?=some (l:J):=by rw[<-kg,hS,av];rfl
   rw[jA (by rw[Dp];exact aN),aaQ]at a6;rw[(b2 oq).2]at a6;have P9:aU wr ⟨g,i,none⟩=some (ah (l:J)):=by rw[oD.cell];exact Jw oq
   have cgl:=oD.lt;have ct:=I (λdV(h:Kept wr dV)=>j5 l dV hm (aS.trans h));obtain⟨Z,lE⟩:∃Z,Z=f (l:J):=⟨_,rfl⟩;rw[<-lE]at ct a6;obtain⟨⟨Bb,E6,atf⟩,wM⟩:=Z;unfold hA at ct;obtain⟨d1,VA,Vz⟩:=dO.q;obtain⟨-,ni,PW⟩:=B5.q;have db:(i:J)<n:=by omega
   by_cases aq:wM=0
   case neg=>
    have jv:(wM !=0)=true:=by simpa using aq
    rw[aP aq]at a6;have ja:R=(v0,wM):=by rw[aX,aP (by rw[<-a6];exact aq),<-a6]
    clear a6 aq lE av hm oq yY dG;subst ja;unfold hA;go_wp2_with (go_at_call 95;refine (ct _ (.refl _)).mono ?_;rintro y ch⟨rfl,bF⟩;have mf:=k8.kept bF;have iG:=dO.kept bF;have qo:=fh.kept bF;have at4:=oD.kept bF;have js:=B5.kept bF;have e0c:=mf.cell;have e0l:=mf.lt;have e1c:=iG.cell;have e1f:=iG.frozen;have e1l:=iG.lt;have erf:=js.frozen;have erl:=js.lt)
    have Z:=((((iG.ba 0 ()).ba 1 ()).ba 2 ()).alloc (.cells #[Bb,E6,atf] 34)).cell;exact bI (v:=bj #[aF #[(),(),()],wM]) (by simp[results,results95,go_sem,Z]) rfl ⟨rfl,aS.trans bF|>.sc (by omega)|>.sc (by omega)|>.sc (by omega)|>.aZ⟩
   case pos=>
    subst aq;have jv:((0:J) !=0)=false:=rfl;have y':List.replicate (n-i) v0=v0::List.replicate (n-(i+1)) v0:=by rw[<-J'];congr 1;omega
    rw[y']at B5;have oo:(acc++v0::List.replicate (n-(i+1)) v0)[i]?=some v0:=by rw[k4 (by omega),yY,k7];rfl
    have eU:aU wr ⟨w1.heap.size,i*3,none⟩=some (ah 0):=by rw[B5.cell];unfold vv;rw[hL];exact DT Om _ i v0 oo 0 _ rfl
    have dr:aU wr ⟨w1.heap.size,i*3+1,none⟩=some (ah 0):=by rw[B5.cell];unfold vv;rw[hL];exact DT Om _ i v0 oo 1 _ rfl
    have eV:aU wr ⟨w1.heap.size,i*3+2,none⟩=some (ah 0):=by rw[B5.cell];unfold vv;rw[hL];exact DT Om _ i v0 oo 2 _ rfl
    clear oo y';rw[aw (by simp)]at a6;have fa:=I a6;clear a6 lE av hm oq;go_wp2_with (go_at_call 95;refine (ct _ (.refl _)).mono ?_;rintro y ch⟨rfl,bF⟩;have mf:=k8.kept bF;have iG:=dO.kept bF;have qo:=fh.kept bF;have at4:=oD.kept bF;have js:=B5.kept bF;have e0c:=mf.cell;have e0l:=mf.lt;have e1c:=iG.cell;have e1f:=iG.frozen;have e1l:=iG.lt;have erf:=js.frozen;have erl:=js.lt;have Ab:=bF.aI ni eU;have FI:=bF.aI ni dr;have Ls:=bF.aI ni eV)
    go_roundw
    case rel=>
     have lJ:=afm acc (List.replicate (n-(i+1)) v0) v0 ⟨Bb,E6,atf⟩;rw[yY]at lJ;exact⟨i+1,acc++[⟨Bb,E6,atf⟩],rfl,by rw[fk,yY];rfl,aN,fa.out,((((ax.trans bF).setCell (p:=⟨w1.heap.size,_,none⟩) (bB _) _).setCell (p:=⟨w1.heap.size,_,none⟩) (bB _) _).setCell (p:=⟨w1.heap.size,_,none⟩) (bB _) _).alloc _,by rw[nY,J_,<-lJ];exact (((js.ba _ _).ba _ _).ba _ _).alloc _⟩
    case measure=>simp[intOf];omega
  .obtain rfl:i=n:=by omega
   rw[zF.2 (by rw[Dp];exact bB _),tM]at a6;rw[k7,ZW,hj]at B5;have WD:=S6 B5;rw[yY]at WD;have ct:=I (λdV(h:Kept wr dV)=>ux dV _ acc (aS.trans h) (WD.kept h) yY);have ja:R=r6 cz ⟨j3,iO⟩ acc E:=by rw[aX,aw (by rw[<-a6];simp),<-a6]
   rw[<-ja]at ct;obtain⟨⟨cS,eo,di⟩,rc⟩:=R;unfold hA at*;have db:¬((i:J)<i):=by omega
   obtain⟨d1,VA,Vz⟩:=dO.q;obtain⟨d2,d2l⟩:=fh.p;clear a6 yY ja WD;go_wp2_with (go_at_call 134;refine (ct _ (.refl _)).mono ?_;rintro y ch⟨rfl,bF⟩;have iG:=dO.kept bF;have e1c:=iG.cell;have e1f:=iG.frozen;have e1l:=iG.lt)
   have Z:=(((iG.ba 0 cS).ba 1 eo).ba 2 di).cell;exact bI (v:=bj #[aF #[cS,eo,di],rc]) (by simp[results,results95,go_sem,Z]) rfl ⟨rfl,aS.trans bF|>.sc (by omega)|>.sc (by omega)|>.sc (by omega)⟩
def am4(e:List cw)(E:dT)(aK:(c' e).2.2=0)(b6:∀x∈e,iT x.n):∀n q:aa,q<n->q<e.length->z8 e E q:=by
 intro n;induction n with
 |zero=>intro q h;omega
 |succ n bO=>
  intro q az av F hF v w c6 bN;have aj:e[q]?=some (e[q]'av):=bn _;obtain⟨_,_,_,iK,_⟩:=Oc aK;obtain⟨bD,-⟩:=iK q _ aj;have hm:=b6 _ (vH av);have hII:∀l,l<q->z8 e E l:=λl h=>bO l (by omega) (by omega);obtain⟨G,rfl⟩:∃G,F=G+1:=⟨F-1,by omega⟩;by_cases aA:(e[q]'av).o=23\/(e[q]'av).o=24\/(e[q]'av).o=26
  .exact am6 v e E q G _ w aK aj bD hII (by omega) c6 bN aA
  .exact am5 v e E q G _ w aK aj bD hII (by omega) c6 bN aA hm
def je.parts{w:ag}{v:ak}{E:dT}(h:je w v E):∃dm aY dx a' dq bu fr b4 e6 b_,v=aF #[E.dt,ae dm E.ins aY,ae dx E.ds a',ae dq E.ms bu,ae fr E.mt b4,ae e6 E.tb b_]/\je w v E:=by
 obtain⟨dm,aY,dx,a',dq,bu,fr,b4,e6,b_,aK,-⟩:=h.open_;exact⟨dm,aY,dx,a',dq,bu,fr,b4,e6,b_,aK,h⟩
def abI(p9 bK:ak)(e:List cw)(E:dT)(w:ag)(cd:iU w p9 e)(a1:je w bK E)(bN:Mon w):bg 61 #[p9,bK] w (hA (hW cz E e) w):=by
 obtain⟨cd,hlen,b6⟩:=cd;have eb:=I (λw1(h:Kept w w1)=>ao3 p9 e w1 (cd.kept h) (by omega));have B9:=cd;obtain⟨A,cap,rfl,-⟩:=cd.at_;obtain⟨dm,aY,dx,a',dq,bu,fr,b4,e6,b_,rfl,Wp⟩:=a1.parts;obtain⟨R,aJ⟩:∃R,R=hW cz E e:=⟨_,rfl⟩;rw[<-aJ];unfold hA;by_cases aK:(c' e).2.2=0
 case neg=>
  unfold hW at aJ;rw[aP aK]at aJ;generalize nL:(c' e).2.2=sc at*;obtain⟨⟨cS,eo,di⟩,rc⟩:=R;obtain⟨rfl,rfl,rfl,rfl⟩:=j2 aJ;have jv:(rc !=0)=true:=by simpa using aK
  clear aK aJ cd a1 B9 Wp;go_enter func61,ntmps61
  go_wp2_with (go_at_call 94;refine (eb _ ((aG _).aZ.aZ)).mono ?_;rintro y w1⟨u,rfl,hu,au⟩;obtain⟨dE,jk⟩:=Kept.cells au;have cG:=au.size;(try simp at cG))
  exact bI (v:=bj #[aF #[(),(),()],rc]) (by simp[results,results61,go_sem, *]) rfl ⟨rfl,(aG _).aZ.aZ.trans au|>.sc (by omega)|>.sc (by omega)|>.sc (by omega)⟩
 case pos=>
  unfold hW at aJ;rw[aw (by rw[aK];simp)]at aJ;obtain⟨ar,DX,-⟩:=Oc aK;have jL:(1:J)<=e.length:=by omega
  have mA:(e:J)<=48:=by omega
  have ct:Hid (∀(v:ak)(w1:ag),Kept w w1->wQ w1 v e (c' e).1 E->bg 95 #[v,ah ((e:J)-1)] w1 (hA R w1)):=by
   refine I λv w1 ai c6=> ?_;have aQ:((e:J)-1)=((e.length-1:aa):J):=by omega
   rw[aJ,aQ];exact am4 e E aK (λx aj=>b6 x aj) e (e.length-1) (by omega) (by omega) e (by omega) v w1 c6 (bN.kept ai)
  have h0:=I (λ(w1:ag)(u:ak)(ai:Kept w w1)(hu:hP w1 nr 1 u (c' e).1)=>(⟨_,_,dm,aY,dx,a',dq,bu,fr,b4,e6,b_,rfl,B9.kept ai,hu,Wp.kept ai⟩:wQ w1 (aF #[ae A e cap,u,E.dt,ae dm E.ins aY,ae dx E.ds a',ae dq E.ms bu,ae fr E.mt b4,ae e6 E.tb b_]) e (c' e).1 E));obtain⟨⟨cS,eo,di⟩,rc⟩:=R;unfold hA at ct;rw[aK]at eb;have KQ:=I (λ(w1:ag)(u:ak)(hu:hP w1 nr 1 u (c' e).1)=>GW hu);generalize (c' e).1=ed at*;clear aJ aK ar DX b6 hlen cd a1 B9 Wp;generalize e.length=n at*;go_enter func61,ntmps61
  go_upto_region 1 with fail
  generalize aL:(w.alloc _).alloc _=W at*;obtain⟨aV,bo,bh⟩:=Kept.a_ aL;clear aL;go_upto_region 2 with (go_at_call 94;refine (eb _ aV).mono ?_;rintro y w1⟨u,rfl,hu,au⟩)
  obtain⟨uH,oz,rfl,-⟩:=KQ.out _ _ hu;have jF:=bo.kept au;have gN:=bh.kept au;have ca:=aV.trans au;have rX:=I (ct _ _ ca (h0 _ _ ca hu));obtain⟨dX,cR⟩:=jF.p;obtain⟨dM,bq,YP⟩:=gN.q;clear bo bh hu;go_wp2_with (go_at_call 95;refine rX.mono ?_;rintro y w2⟨rfl,bt⟩;have dO:=gN.kept bt;have d1c:=dO.cell;have Vz:=dO.frozen;have VA:=dO.lt)
  have Z:=(((dO.ba 0 cS).ba 1 eo).ba 2 di).cell;exact bI (v:=bj #[aF #[cS,eo,di],rc]) (by simp[results,results61,go_sem,Z]) rfl ⟨rfl,ca.trans bt|>.sc (by omega)|>.sc (by omega)|>.sc (by omega)⟩
end Go.Proofs.YtilhklpfkgbikaaGreatDoor
