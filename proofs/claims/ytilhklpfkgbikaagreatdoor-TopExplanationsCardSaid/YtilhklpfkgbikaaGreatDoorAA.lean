import Derived.Test.YtilhklpfkgbikaaGreatDoorY
set_option linter.all false
namespace Go.Proofs.YtilhklpfkgbikaaGreatDoor
open Go.RowKit Go.Proofs.Tryz
set_option maxRecDepth 100000
set_option maxHeartbeats 16000000
def YI{w:ag}{B n CO:aa}{vT:gu}{l:aW}(h:dj w B (ae vT n CO) l){i:aa}{d:J}(aE:l[i]?=some d):∃g,vT=some ⟨g,0,none⟩/\B<=g/\g<w.heap.size/\aU w ⟨g,i,none⟩=some (ah d):=by
 obtain⟨A,cap,he,ad⟩:=h.row;simp only[i_]at he;obtain⟨rfl,-,rfl⟩:=he;obtain⟨g,ao,eL,aR,bw⟩:=ad (by have:=(b2 aE).1;omega);exact⟨g,ao,eL,aR,bw _ _ aE⟩
def Two.eH{w w':ag}{r g:aa}{t:dC}{cs:ho}(h:Two w w' none r)(bc:aB w g t cs)(bU:g≠r):aB w' g t cs:=(h.block g bc.lt bU (by simp)).trans bc
def YJ{w:ag}{B n c:aa}{A:gu}{l:aW}(h:dj w B (ae A n c) l):n<=9223372036854775807:=by
 rcases h.2 with⟨ab,ad⟩|⟨g,cap,cur,aK,-,-,ab,ad,-⟩
 .cases ab;omega
 .cases aK;exact fN ab ad
def adl(l:aW)(s:List Bool){i:aa}{d:J}(h:l[i]?=some d):oV (l.take (i+1)) s=(oV (l.take i) s).set d.toNat true:=by
 rw[qZ,h];simp[oV]
def agG(w ws:ag)(P M:aa)(cK aY a' bu b4 c10:ak)(b7 dy cD:ak)(m:cq)(cn:List Bool)(d:J)(ax:Kept w ws)(s3:aB ws P 110 #[cK,aY,a',bu,b4,m.aM,m.ms,b7,dy,cD,c10,ae (some (M,0)) cn cn])(bH:nF w (aF #[m.aM,m.ms,b7,dy,cD]) m)(bN:aB ws M 4 (iJ cn))(aE:0<=d/\d<cn.length)(av:cn.length=m.ds.length)(Mu:P≠M)(RP:w.heap.size<=M)(aJ:qw m.rs)(aH:m.ds.length<=1000):
  bg 33 #[.pointer (some (P,0)),d] ws λe w'=>e=bL (bj #[])/\Two ws w' none M/\aB w' M 4 (iJ (sR m.ds m.rs cn d)):=by
 have c8:=I (λ(w1:ag)(h:Kept w w1)=>Zs (aF #[m.aM,m.ms,b7,dy,cD]) m d w1 (bH.kept h) aJ aH);unfold tj at c8;obtain⟨_,_,_,he,b6,cY,I7⟩:=bH;simp only[x4,x7,qk,tu,kN]at he;obtain⟨rfl,rfl,rfl⟩:=he;obtain⟨jf,jo,rfl,-⟩:=b6;obtain⟨hT,ij,rfl,-⟩:=cY;obtain⟨eR,rc,rfl,-⟩:=I7;obtain⟨k,rfl⟩:=A_ aE.1;have ai:k<cn.length:=by omega
 have vR:=I (Oi m.ds m.rs k);have mg:=I (show sR m.ds m.rs cn k=oV (ma m.ds m.rs k) (cn.set k true) by unfold sR;rw[c7]);generalize sR m.ds m.rs cn k=kO at*;generalize ma m.ds m.rs k=T at*;rw[<-av]at vR;generalize m.ds.length=ei at*;generalize m.ins.length=cC at*;generalize m.rs.length=jb at*;have jL:cn.length<=1000:=by omega
 generalize cd:cn.length=n at*;have b3:=I cd;obtain⟨p,pl⟩:=s3.p;have py:=bN.lt;have NO:=bN.frozen k;obtain⟨z0,fY⟩:∃z0,cn[k]?=some z0:=⟨_,bn (by omega)⟩;have lK:=(bN.cell k).trans (oa fY);have lF:(k:J)<n:=by omega
 have ra:=bN.ba k (bR true);rw[yE]at ra;have yu:=s3.far (p:=⟨M,k,none⟩) Mu (bR true);have qx:=(Two.refl ws none M).ba k (bR true);have ca:=ax.setCell (p:=⟨M,k,none⟩) RP (bR true);clear s3 bN ax aE cd;go_enter func33,ntmps33
 go_upto_region 1 with fail
 clear p pl py NO lK;generalize ws.setCell ⟨M,k,none⟩ (bR true)=dV at*;obtain⟨p,pl⟩:=yu.p;go_upto_region 2 with (go_at_call 31;refine (c8 _ ca).mono ?_;rintro e w2⟨u,rfl,aA,bt⟩;obtain⟨kR,eg,rfl⟩:=iN aA;have eG:=I aA;clear aA)
 have hMl:M<dV.heap.size:=ra.lt;have pd:=I (qx.trans (Two.ky bt) (.inl rfl));have M2:=I (ra.kept bt);have UN:=I (yu.kept bt);clear p pl yu ra qx ca bt c8;generalize Mx:T.length=q at*;have b1:=I Mx;clear Mx;go_loopw [19] (λy wr=>∃i:aa,y=ah i/\i<=q/\Two ws wr none M/\aB wr P 110 #[cK,aY,a',bu,b4,m.aM,m.ms,ae jf cC jo,ae hT ei ij,ae eR jb rc,c10,ae (some (M,0)) n n]/\aB wr M 4 (iJ (oV (T.take i) (cn.set k true)))/\dj wr dV (ae kR q eg) T) (λy _=>q-(intOf y).toNat)
 case atStart=>exact⟨0,rfl,d' _,pd,UN,M2,eG⟩
 case round=>
  obtain⟨i,rfl,hiq,bT,eJ,bN,dZ⟩:=hrel;by_cases aN:i<q
  .have al:T[i]?=some (T[i]'(by rw[b1];exact aN)):=bn _;have aC:=vR.out _ (vH (by rw[b1];exact aN:i<T.length));have ir:=adl T (cn.set k true) al;generalize T[i]'(by rw[b1];exact aN)=e at*;obtain⟨g,rfl,pj,kS,l7⟩:=YI dZ al;obtain⟨x,rfl⟩:=A_ aC.1;have tc:(x:J)<n:=aC.2;have gp:(oV (T.take i) (cn.set k true)).length=n:=by rw[R_,gJ];exact b3
   rw[c7]at ir;have h7:=I ir;have db:(i:J)<q:=by omega
   have xx:(i:J)+1<=9223372036854775807:=by have:=YJ dZ;omega
   obtain⟨p,pl⟩:=eJ.p;have py:=bN.lt;have NO:=bN.frozen x;obtain⟨z0,fY⟩:∃z0,(oV (T.take i) (cn.set k true))[x]?=some z0:=⟨_,bn (by omega)⟩;have lK:=(bN.cell x).trans (oa fY);have H4:=bN.ba x (bR true);rw[yE,<-ir]at H4;have Lc:=eJ.far (p:=⟨M,x,none⟩) Mu (bR true);have re:=bT.ba x (bR true);have Lb:=dZ.CX (p:=⟨M,x,none⟩) (show Value.ownBlock (ae (some (g,0)) q eg)≠some M from λh=>by have:=zp dZ h;omega) (bR true);have bM:=I (bb re (bb Lc (bb H4 Lb)));clear eJ bN dZ bT H4 Lc re Lb ir al aC gp;go_wp2_with fail
   go_roundw
   case rel=>exact⟨i+1,by go_num,aN,bM.1,bM.2.1,bM.2.2.1,bM.2.2.2⟩
   case measure=>simp[intOf];omega
  .obtain rfl:i=q:=by omega
   have db:¬((i:J)<i):=by omega
   have bM:=I (bb bT bN);clear bT bN eJ dZ;go_wp2_with fail
   go_end0
   have:=bM.2;rw[mH (by rw[b1];omega),<-mg]at this;exact⟨rfl,bM.1,this⟩
def Yz(P D M:aa)(cs:ho)(nb cn:List Bool)(w:ag)(e:Ending)(w':ag):Prop:=e=bL (bj #[])/\Kept w w'/\aB w' P 110 cs/\aB w' D 4 (iJ nb)/\(0<cn.length->aB w' M 4 (iJ cn))
def agE(w ws:ag)(P D M:aa)(b7 dy cD kx km jN:ak)(gn:gu)(s m:cq)(nb cn:List Bool)(d:J)(ax:Kept w ws)(s3:aB ws P 110 #[s.aM,s.ms,b7,dy,cD,m.aM,m.ms,kx,km,jN,ae (some (D,0)) nb nb,ae gn cn cn])(bH:nF w (aF #[s.aM,s.ms,b7,dy,cD]) s)(D3:nF w (aF #[m.aM,m.ms,kx,km,jN]) m)(cY:aB ws D 4 (iJ nb))(bN:0<cn.length->gn=some ⟨M,0,none⟩/\aB ws M 4 (iJ cn))(aE:0<=d/\d<nb.length)(av:nb.length=s.ds.length)(mz:cn.length=m.ds.length)(Ca:P≠D)(Mu:P≠M)(Wm:D≠M)(hwD:w.heap.size<=D)(RP:w.heap.size<=M)(aJ:qw s.rs)(aH:s.ds.length<=1000)(hR':qw m.rs)(hn':m.ds.length<=1000)(rv:h8 m.ds (j9 s.ds s.rs d)):
  bg 19 #[.pointer (some (P,0)),d] ws (Yz P D M #[s.aM,s.ms,b7,dy,cD,m.aM,m.ms,kx,km,jN,ae (some (D,0)) nb nb,ae gn cn cn]
   (oV (ma s.ds s.rs d) (nb.set d.toNat true)) ((j9 s.ds s.rs d).foldl (sR m.ds m.rs) cn) w):=by
 have c8:=I (λ(w1:ag)(h:Kept w w1)=>Zs (aF #[s.aM,s.ms,b7,dy,cD]) s d w1 (bH.kept h) aJ aH);have Bk:=I (λ(w1:ag)(h:Kept w w1)=>amD (aF #[s.aM,s.ms,b7,dy,cD]) s d w1 (bH.kept h) aJ aH);have HAM:=I (λ(ws:ag)(Yq:List Bool)(e:J)(ax:Kept w ws)(oq:Yq.length=cn.length)(s3:aB ws P 110 #[s.aM,s.ms,b7,dy,cD,m.aM,m.ms,kx,km,jN,ae (some (D,0)) nb nb,ae (some (M,0)) cn cn])(bN:aB ws M 4 (iJ Yq))(he:0<=e/\e<cn.length)=>agG w ws P M _ _ _ _ _ _ kx km jN m Yq e ax (by rw[oq];exact s3) D3 bN (by rw[oq];exact he) (oq.trans mz) Mu RP hR' hn')
 unfold tj at c8 Bk;obtain⟨_,_,_,he,b6,QK,I7⟩:=bH;simp only[x4,x7,qk,tu,kN]at he;obtain⟨rfl,rfl,rfl⟩:=he;obtain⟨jf,jo,rfl,-⟩:=b6;obtain⟨hT,ij,rfl,-⟩:=QK;obtain⟨eR,rc,rfl,-⟩:=I7;obtain⟨_,_,_,he,b6,QK,I7⟩:=D3;simp only[x4,x7,qk,tu,kN]at he;obtain⟨rfl,rfl,rfl⟩:=he;obtain⟨IA',ic',rfl,-⟩:=b6;obtain⟨DA',dc',rfl,-⟩:=QK;obtain⟨UR,YX,rfl,-⟩:=I7;obtain⟨k,rfl⟩:=A_ aE.1;have ai:k<nb.length:=by omega
 have vR:=I (Oi s.ds s.rs k);rw[<-mz]at rv;rw[c7];have HMR:=I rv;have HFL:=I (λi=>V1 m.ds m.rs ((j9 s.ds s.rs k).take i) cn);have HFS:=I (λi e(h:(j9 s.ds s.rs k)[i]?=some e)=>(show ((j9 s.ds s.rs k).take (i+1)).foldl (sR m.ds m.rs) cn=sR m.ds m.rs (((j9 s.ds s.rs k).take i).foldl (sR m.ds m.rs) cn) e by rw[qZ,h];simp));generalize ma s.ds s.rs k=T at*;rw[<-av]at vR;generalize j9 s.ds s.rs k=U at*;generalize sR m.ds m.rs=F at*;generalize s.ds.length=ei at*;generalize s.ins.length=cC at*;generalize s.rs.length=jb at*;generalize m.ds.length=nD' at*;generalize m.ins.length=nI' at*;generalize m.rs.length=nR' at*;generalize s.aM=N' at*;generalize m.aM=NS at*;generalize s.ms=N_ at*;generalize m.ms=NQ at*;obtain⟨cs,hR⟩:∃cs,cs=(#[N',N_,ae jf cC jo,ae hT ei ij,ae eR jb rc,NS,NQ,ae IA' nI' ic',ae DA' nD' dc',ae UR nR' YX,ae (some (D,0)) nb nb,ae gn cn cn]:ho):=⟨_,rfl⟩;rw[<-hR]at s3⊢;have OV:=I hR;have ct:Hid (∀(x:ag),aB x P 110 cs->∀i,aU x ⟨P,i,none⟩=(#[N',N_,ae jf cC jo,ae hT ei ij,ae eR jb rc,NS,NQ,ae IA' nI' ic',ae DA' nD' dc',ae UR nR' YX,ae (some (D,0)) nb nb,ae gn cn cn]:ho)[i]?):=I λx h i=>by rw[<-hR];exact h.cell i
 have jL:nb.length<=1000:=by omega
 have mA:cn.length<=1000:=by omega
 generalize cd:nb.length=n at*;have b3:=I cd;have KL:=I (λ(h:0<cn.length)=>(bN h).1);have HK:Hid (0<cn.length->aB ws M 4 (iJ cn)):=I (λ(h:0<cn.length)=>(bN h).2);generalize hN2:cn.length=eC at*;have oF:=I hN2;have p:=ct.out ws s3;have pl:=s3.lt;have py:=cY.lt;have NO:=cY.frozen k;obtain⟨z0,fY⟩:∃z0,nb[k]?=some z0:=⟨_,bn (by omega)⟩;have lK:=(cY.cell k).trans (oa fY);have lF:(k:J)<n:=by omega
 have dO:=cY.ba k (bR true);rw[yE]at dO;have yu:=s3.far (p:=⟨D,k,none⟩) Ca (bR true);have ra:=λh=>(HK h).far (p:=⟨D,k,none⟩) Wm.symm (bR true);have ca:=ax.setCell (p:=⟨D,k,none⟩) hwD (bR true);clear s3 bN cY ax aE cd hN2 hR rv;go_enter func19,ntmps19
 go_upto_region 1 with fail
 clear p pl py NO lK;generalize ws.setCell ⟨D,k,none⟩ (bR true)=dV at*;have p:=ct.out dV yu;have pl:=yu.lt;go_upto_region 2 with (go_at_call 31;refine (c8 _ ca).mono ?_;rintro e w2⟨u,rfl,aA,bt⟩;obtain⟨kR,eg,rfl⟩:=iN aA;have eG:=I aA;clear aA)
 have Wn:D<dV.heap.size:=dO.lt;have Dv:Hid (w<=dV.heap.size):=I ca.size;have c3:=I (ca.trans bt);have fh:=I (dO.kept bt);have UN:=I (yu.kept bt);have M2:=I (λh=>(ra h).kept bt);clear p pl yu ra dO ca bt c8;generalize Mx:T.length=q at*;have b1:=I Mx;clear Mx;go_loopw [21] (λy wr=>∃i:aa,y=ah i/\i<=q/\Kept w wr/\aB wr P 110 cs/\aB wr D 4 (iJ (oV (T.take i) (nb.set k true)))/\(0<eC->aB wr M 4 (iJ cn))/\dj wr dV (ae kR q eg) T) (λy _=>q-(intOf y).toNat)
 case atStart=>exact⟨0,rfl,d' _,c3,UN,fh,M2,eG⟩
 case round=>
  obtain⟨i,rfl,hiq,bT,eJ,cY,D1,dZ⟩:=hrel;have tC:=I D1;clear D1;by_cases aN:i<q
  .have al:T[i]?=some (T[i]'(by rw[b1];exact aN)):=bn _;have aC:=vR.out _ (vH (by rw[b1];exact aN:i<T.length));have ir:=adl T (nb.set k true) al;generalize T[i]'(by rw[b1];exact aN)=e at*;obtain⟨g,rfl,pj,kS,l7⟩:=YI dZ al;obtain⟨x,rfl⟩:=A_ aC.1;have tc:(x:J)<n:=aC.2;have gp:(oV (T.take i) (nb.set k true)).length=n:=by rw[R_,gJ];exact b3
   rw[c7]at ir;have db:(i:J)<q:=by omega
   have xx:(i:J)+1<=9223372036854775807:=by have:=YJ dZ;omega
   have p:=ct.out wr eJ;have pl:=eJ.lt;have py:=cY.lt;have NO:=cY.frozen x;obtain⟨z0,fY⟩:∃z0,(oV (T.take i) (nb.set k true))[x]?=some z0:=⟨_,bn (by omega)⟩;have lK:=(cY.cell x).trans (oa fY);have jr:=cY.ba x (bR true);rw[yE,<-ir]at jr;have Lc:=eJ.far (p:=⟨D,x,none⟩) Ca (bR true);have re:=bT.setCell (p:=⟨D,x,none⟩) hwD (bR true);have H4:=λh=>(tC h).far (p:=⟨D,x,none⟩) Wm.symm (bR true);have Lb:=dZ.CX (p:=⟨D,x,none⟩) (show Value.ownBlock (ae (some (g,0)) q eg)≠some D from λh=>by have:=zp dZ h;omega) (bR true);have bM:=I (bb re (bb Lc (bb jr (bb H4 Lb))));clear eJ cY dZ bT jr Lc re Lb H4 ir al aC gp;go_wp2_with fail
   go_roundw
   case rel=>exact⟨i+1,by go_num,aN,bM.1,bM.2.1,bM.2.2.1,bM.2.2.2.1,bM.2.2.2.2⟩
   case measure=>simp[intOf];omega
  .obtain rfl:i=q:=by omega
   have db:¬((i:J)<i):=by omega
   rw[mH (by rw[b1];omega)]at cY;have bM:=I (bb bT (bb eJ cY));have p:=ct.out wr eJ;have pl:=eJ.lt;clear bT cY eJ dZ;go_upto_region 7 with (go_at_call 32;refine (Bk _ bM.1).mono ?_;rintro e c4⟨v,rfl,aA,cy⟩;obtain⟨gx,eT,rfl⟩:=iN aA;have fE:=I aA;clear aA)
   have mJ:=I (bM.1.trans cy);have auc:=I (bM.2.1.kept cy);have at2:=I (bM.2.2.kept cy);have jg:=I (λh=>(tC h).kept cy);have O':=I (λh=>(tC h).lt);clear p pl bM tC Bk cy;generalize wr.heap.size=hq at fE O';generalize oV T (nb.set k true)=Pu at*;generalize hUL:U.length=r at*;have pa:=I hUL;clear hUL;go_loopw [39] (λy wr=>∃j:aa,y=ah j/\j<=r/\Kept w wr/\aB wr P 110 cs/\aB wr D 4 (iJ Pu)/\(0<eC->aB wr M 4 (iJ ((U.take j).foldl F cn)))/\dj wr hq (ae gx r eT) U) (λy _=>r-(intOf y).toNat)
   case atStart=>exact⟨0,rfl,d' _,mJ,auc,at2,jg,fE⟩
   case round=>
    obtain⟨j,rfl,hjr,bT,eJ,cY,D1,dZ⟩:=hrel;by_cases aN:j<r
    .have al:U[j]?=some (U[j]'(by rw[pa];exact aN)):=bn _;have aC:=HMR.out _ (vH (by rw[pa];exact aN:j<U.length));have MU:=HFS.out j _ al;generalize U[j]'(by rw[pa];exact aN)=e at*;obtain⟨g,rfl,pj,kS,l7⟩:=YI dZ al;have nJ:0<eC:=by have:=aC.1;have:=aC.2;omega
     have v8:((U.take j).foldl F cn).length=eC:=HFL.out j;have M':=KL.out nJ;have aai:=I (HAM wr ((U.take j).foldl F cn) e bT v8 (by rw[<-M',<-OV];exact eJ) (D1 nJ) aC);rw[<-MU]at aai;have dv:=I (bb bT (bb eJ (bb cY dZ)));have HMQ:=I (O' nJ);have kT:(j:J)<r:=by omega
     have xx:(j:J)+1<=9223372036854775807:=by have:=YJ dZ;omega
     clear bT eJ cY dZ D1 al aC MU v8 M' nJ;go_wp2_with (go_at_call 33;refine aai.mono ?_;rintro qB dc⟨rfl,t6,m6⟩;have Ph:=I t6;have HM6:=I m6;clear t6 m6)
     go_roundw
     case rel=>exact⟨j+1,by go_num,aN,Ph.kept dv.1 RP,Ph.eH dv.2.1 Mu,Ph.eH dv.2.2.1 Wm,λ_=>HM6,dj.two dv.2.2.2 Ph (λ_ _=>by simp) (λh=>by have:=zp dv.2.2.2 h;have:=HMQ.out;omega)⟩
     case measure=>simp[intOf];omega
    .obtain rfl:j=r:=by omega
     have kT:¬((j:J)<j):=by omega
     rw[mH (by rw[pa];omega)]at D1;have bM:=I (show Yz P D M cs Pu (U.foldl F cn) w (bL (bj #[])) wr from⟨rfl,bT,eJ,cY,λh=>D1 (by have:=HFL.out U;rw[x3]at this;rw[<-this];exact h)⟩);clear bT eJ cY dZ D1;go_wp2_with fail
     go_end0
     exact bM
end Go.Proofs.YtilhklpfkgbikaaGreatDoor
