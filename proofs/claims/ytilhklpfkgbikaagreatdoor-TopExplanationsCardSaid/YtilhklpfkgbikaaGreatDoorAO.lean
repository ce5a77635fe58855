import Derived.Test.YtilhklpfkgbikaaGreatDoorAN
set_option linter.all false
namespace Go.Proofs.YtilhklpfkgbikaaGreatDoor
open Go.RowKit Go.Proofs.Tryz
set_option maxRecDepth 100000
set_option maxHeartbeats 64000000
def Tryz.acU:(prog.info? 138).map (λi=>(i.zero,i.size,i.bytes))=some (some (aF #[.string ⟨#[]⟩,(),(),(),(),(),bf,bf,.string ⟨#[]⟩]),9,120):=by kernel_rfl
def aoR{ok:aa->Prop}{w:ag}{ej ro n c:aa}{rs:List br}(h:ea ok w (λu=>c0 9 lz u (ae (some (ej,ro)) n c) rs))(ar:0<rs.length):ej<w/\ok ej:=by
 have aN:ej<w:=by
  obtain⟨A,fF,e,-,-,aj⟩:=h.now;simp only[i_]at e;obtain⟨rfl,-,-⟩:=e;obtain⟨b,off,a_,af,-⟩:=aj ar
  cases a_;exact af
 refine⟨aN,?_⟩;refine Classical.byContradiction λfK=> ?_;obtain⟨A,fF,e,-,-,aj⟩:=h {w with heap:=w.heap.setIfInBounds ej (.map #[] 0)} (by simp) (λb af aA=>by
  have bU:ej≠b:=λe=>fK (e▸aA);simp[Hg,bU])
 simp only[i_]at e;obtain⟨rfl,-,-⟩:=e;obtain⟨b,off,a_,af,aq⟩:=aj ar
 cases a_;obtain⟨r,aC⟩:∃r,rs[0]?=some r:=⟨_,bn ar⟩;obtain⟨⟨ab,-⟩,-⟩:=aq 0 r aC;unfold g' at ab;simp[World.cell?,Hg,aN]at ab
def aoS{ok:aa->Prop}{w:ag}{ej ro n c:aa}{rs:List br}(h:ea ok w (λu=>c0 9 lz u (ae (some (ej,ro)) n c) rs)){j:aa}{r:br}(ay:rs[j]?=some r){g v:ak}(al:aU w (ej,ro+j*9+6)=some g)(aK:aU w (ej,ro+j*9+7)=some v):ea ok w (λu=>iU u g r.g)/\ea ok w (λu=>iU u v r.v):=by
 have ar:0<rs.length:=Oy (d' _) (b2 ay).1;obtain⟨aN,h'⟩:=aoR h ar;have key:∀u,w.heap.size<=u.heap.size->(∀b,b<w.heap.size->ok b->u.heap[b]?=w.heap[b]?)->iU u g r.g/\iU u v r.v:=λu hu af=>by
  obtain⟨A,fF,e,-,-,aj⟩:=h u hu af;simp only[i_]at e;obtain⟨rfl,-,-⟩:=e;obtain⟨b,off,a_,-,aq⟩:=aj ar
  cases a_;obtain⟨-,-,-,-,-,-,⟨ju,ey,D_⟩,⟨v',xE,hv'⟩,-⟩:=aq j r ay;unfold g' at ey xE;have qB:aU u (ej,ro+j*9+6)=aU w (ej,ro+j*9+6):=Db (a:=⟨ej,ro+j*9+6,none⟩) (af ej aN h');have r9:aU u (ej,ro+j*9+7)=aU w (ej,ro+j*9+7):=Db (a:=⟨ej,ro+j*9+7,none⟩) (af ej aN h');rw[qB,al]at ey;rw[r9,aK]at xE
  cases ey
  cases xE;exact⟨D_,hv'⟩
 exact⟨λu hu af=>(key u hu af).1,λu hu af=>(key u hu af).2⟩
def okW(ok:aa->Prop)(n b:aa):Prop:=(ok b/\b<n)\/n<=b
def SF(ok:aa->Prop)(x:cq)(keep:aW)(w:ag)(e:Ending)(w':ag):Prop:=∃u,e=bL u/\ea (okW ok w) w' (λw2=>c0 9 lz w2 u (ht x keep))/\Kept w w'
def anO{s:cq}{k q:List Bool}{i:aa}{r:br}(h:s.rs[i]?=some r):vo s k q (s.rs.drop i) i=if k[i]?.getD false=true then ny s k q i r::vo s k q (s.rs.drop (i+1)) (i+1)else vo s k q (s.rs.drop (i+1)) (i+1):=by
 obtain⟨ab,ad⟩:=b2 h;rw[jA ab,ad,vo]
theorem aec(s:cq)(k q:List Bool):∀(l:List br)(i:aa),(vo s k q l i).length<=l.length
 |[],_=>bB _
 |r::l,i=>by
  rw[vo];have:=aec s k q l (i+1);split
  .rw[hi,hi];omega
  .rw[hi];omega
def R6{ok:aa->Prop}{w wr:ag}{Q:ag->Prop}{v:ak}(h:ea ok w Q)(ai:Kept w wr)(aK:∀g,v.ownBlock=some g->w.heap.size<=g):ea (λb=>okW ok w b/\v.ownBlock≠some b) wr Q:=λu hu af=>
 h u (fN ai.size hu) λb mw aA=>(af b (bG mw ai.size) ⟨.inl ⟨aA,mw⟩,λe=>by have:=aK b e;omega⟩).trans (ai.block b mw)
def zl{ok:aa->Prop}{wr:ag}{n m:aa}{Q:ag->Prop}{v:ak}(h:ea (λb=>m<=b) wr Q)(hm:n<=m)(aK:∀g,v.ownBlock=some g->g<m):ea (λb=>okW ok n b/\v.ownBlock≠some b) wr Q:=
 h.mono λb _ aA=>⟨.inr (fN hm aA),λe=>by have:=aK b e;omega⟩
def ea.set{w:ag}{m:aa}{Q:ag->Prop}{p:Addr}{u:ak}(h:ea (λb=>m<=b) w Q)(hp:p.block<m):ea (λb=>m<=b) (w.setCell p u) Q:=
 h.step (by simp) (λb _ aA=>jQ w p u b (by omega)) λ_ _ aA=>aA
def acR{dL:List Bool}{j:aa}{z:J}(av:dL.length<=1000)(h:(qR dL 0)[j]?=some z):ow z:=by
 have ay:=(b2 h).1;rw[GI]at ay;rw[RV dL 0 j ay]at h;have:=abk dL j;have ad:=cJ h;unfold ow;split at ad<;>omega
def N4(e9 eC:ez)(a b c d e:J)(dm dx:gu)(bq aY b5 a':aa):∀u∈[Value.string e9,a,b,c,d,e,ae dm bq aY,ae dx b5 a',eC],u.oneCell'=true:=by
 intro u hu;simp at hu;rcases hu with rfl|rfl|rfl|rfl|rfl|rfl|rfl|rfl|rfl<;>rfl
def anT(ok:aa->Prop)(cH wv:ak)(x:cq)(keep:aW)(w:ag)(bH:ea ok w (λw2=>nF w2 cH x))(ax:gw w wv keep)(aC:x.rs.length<=1000)(fu:keep.length<=1000000)(Gk:∀r∈x.rs,0<=r.bx/\r.bx<x.ds.length)(Q_:∀f∈x.ds,(1<=f.k/\f.k<=6)/\0<=f.e/\f.e<=1000):bg 26 #[cH,wv] w (SF ok x keep w):=by
 have tT:=bH.now;have o8:=I (λw1(h:Kept w w1)=>alQ cH wv x keep w1 (tT.kept h) (ax.kept h) aC fu);have Fs:=I (λ(i:aa)w1(h:Kept w w1)(aD:i<x.rs.length)=>ad0 cH x i w1 (tT.kept h) aD);have yi:=I (λ(r:br)(za:r∈x.rs)w1(h:Kept w w1)=>(by
  obtain⟨d0,d1⟩:=Gk r za;have al:=bn (l:=x.ds) (i:=r.bx.toNat) (by omega);obtain⟨f1,f2⟩:=Q_ _ (fe al);exact amo cH x r.bx w1 (tT.kept h) ⟨d0,d1⟩ _ al f1 f2:bg 49 #[cH,r.bx] w1 (R7 (jM x r.bx) w1)))
 have q6:=I (λ(G:aa)(k:List Bool)w1(aL:aB w1 G 4 (iJ k))(av:k.length<=1000)=>amW G k w1 aL av);unfold Yc at o8;unfold RW at Fs;unfold R7 at yi;unfold YB at q6;obtain⟨b7,dy,cD,rfl,b6,cY,l5⟩:=tT;have HDR:=I (bH.imp (Q':=λu=>c0 9 lz u cD x.rs) (λu hu=>by
  obtain⟨kx,km,jN,e,-,-,ao⟩:=hu;simp only[x4,x7,qk,tu,kN]at e;obtain⟨-,-,rfl⟩:=e;exact ao))
 obtain⟨jf,jo,rfl,-⟩:=b6;obtain⟨hT,ij,rfl,-⟩:=cY;obtain⟨eR,rc,rfl,-,-,lI⟩:=l5;have pO:=I lI;obtain⟨du,p7,rfl,-⟩:=ax.at_;obtain⟨i0,fx,fy,fz,fA⟩:=hy Tryz.acU;obtain⟨X6,hlL⟩:=Ya x.rs keep;have W8:=X6.rE;have akN:=X6.N3;have o_:=I (show vo x (np x.rs keep).1 (np x.rs keep).2 (x.rs.drop 0) 0=ht x keep from by rw[rS];rfl);unfold SF;obtain⟨R,aJ⟩:∃R,R=ht x keep:=⟨_,rfl⟩;rw[<-aJ]at o_⊢;have I7:R.length<=1000:=by
  rw[aJ];unfold ht;have:=aec x (np x.rs keep).1 (np x.rs keep).2 x.rs 0;omega
 generalize (np x.rs keep).1=dL at*;generalize (np x.rs keep).2=JR at*;obtain⟨n,aH⟩:∃n,n=x.rs.length:=⟨_,rfl⟩;rw[<-aH]at aC o8 Fs yi W8 akN⊢;have b3:=I aH;obtain⟨m,hm⟩:∃m,m=keep.length:=⟨_,rfl⟩;rw[<-hm]at fu o8⊢;clear bH ax Gk Q_ lI aH hm aJ X6 hlL;go_enter func26,ntmps26
 go_upto_region 1 with fail
 generalize aL:w.alloc _=W at*;obtain⟨aV,bm⟩:=Kept.aQ aL;clear aL;obtain⟨a',b5⟩:=bm.p;go_upto_region 2 with (go_at_call 46;refine (o8 _ aV).mono ?_;rintro aQ w1⟨vK,tz,rfl,pj,kS,Mn,oN,au⟩)
 go_upto_region 3 with (go_at_call 47;rw[<-W8];refine (q6 vK dL _ Mn (by omega)).mono ?_;rintro a_ w2⟨H,rfl,aT,I0,bt⟩;rw[W8])
 have uu:=(bm.kept au).kept bt;have HD:=I (Mn.kept bt);have uD:=I (oN.kept bt);have O1:=I I0;have hk:=I (aV.trans (au.trans bt));have RN:=uu.lt;have eA:=I (λch(h:Kept w2 ch)=>uu.kept h);clear a' b5 bm Mn oN I0 au bt aV;obtain⟨a',b5⟩:=uu.p;go_upto_region 5 with fail
 clear a' b5 uu;go_loopw [8,23] (λa y wr=>∃(i:aa)(cA:List (br×ak×ak)),y=ah i/\i<=n/\Kept w2 wr/\jT wr w2.heap.size 138 9 CU (okW ok w) EI a cA/\cA.map (·.1)++vo x dL JR (x.rs.drop i) i=R) (λ_ y _=>n-(intOf y).toNat)
 case atStart=>exact⟨0,[],rfl,d' _,aG _,jT.nil,o_⟩
 case round=>
  obtain⟨i,cA,rfl,dG,ax,cL,a6⟩:=hrel;by_cases aN:i<n
  .obtain⟨ej,ro,rfl,gq,kH⟩:=pO.out (by have:=b3.out;omega);obtain⟨r,jl⟩:∃r,x.rs[i]?=some r:=⟨_,bn (by have:=b3.out;omega)⟩;have ja:=kH i r jl;obtain⟨gC,gc,gx,eT,hR,-,-⟩:=ja.cells;have kt:=ja.Iy;obtain⟨hdg,MQ⟩:=aoS HDR jl hR.2.2.2.2.2.2.1 hR.2.2.2.2.2.2.2.1;have en:=hk.trans ax;have MO:=hR.kept en gq;unfold Bw at MO;obtain⟨eU,dr,eV,jP,pF,vz,A4,A5,sv⟩:=MO;have Yi:=bG gq en.size;have db:(i:J)<n:=by omega
   rw[anO jl]at a6;obtain⟨Ek,Gq⟩:∃b,dL[i]?=some b:=⟨_,bn (by omega)⟩;obtain⟨tl,l_⟩:∃b,JR[i]?=some b:=⟨_,bn (by omega)⟩;rw[Gq,b9]at a6;obtain⟨lC,ac,v7⟩:=iN cL.g;have ov:cA.length<=1000:=by
    have:=congrArg List.length a6;rw[fk,er]at this;omega
   subst v7;have hd:=eA.out _ ax;obtain⟨a',b5⟩:=hd.p;have IC:=(HD.kept ax).cell i;rw[oa Gq]at IC;have NC:=(HD.kept ax).lt;have zY:=I (fe jl);clear kH ja hR hd jl Gq;go_upto_region 7 with fail
   have fi:=(aG wr).alloc (.cells #[r.aM,r.bx,r.bJ,r.d_,r.cZ,r.cT,ae gC r.g.length gc,ae gx r.v.length eT,r.src] 138);have BT:=aB.new wr 138 #[r.aM,r.bx,r.bJ,r.d_,r.cZ,r.cT,ae gC r.g.length gc,ae gx r.v.length eT,r.src];have b1:=I (cL.kept fi);have Ds:=I cL;have jG:=I fi;have iS:=I (ax.trans fi);have hbt:wr.heap.size<(wr.alloc (.cells #[r.aM,r.bx,r.bJ,r.d_,r.cZ,r.cT,ae gC r.g.length gc,ae gx r.v.length eT,r.src] 138)).heap.size:=BT.lt;have Js:=ax.size;have IC:=fi.aI NC IC;have NC:=bG NC fi.size;have a':=λj=>(eA _ iS).cell j;have b5:=(eA _ iS).lt;have cN:=λg e=>(iF cL.g g e);have o9:=I cN;have HDG:=I hdg;have q5:=I MQ;clear eU dr eV jP pF vz A4 A5 sv Yi cL ax en cN hdg MQ;generalize as0:wr.heap.size=gt at*;generalize wr.alloc (.cells #[r.aM,r.bx,r.bJ,r.d_,r.cZ,r.cT,ae gC r.g.length gc,ae gx r.v.length eT,r.src] 138)=V at*
   cases Ek
   .have nC:=I a6;clear a6 BT;go_wp2_with fail
    go_roundw
    case rel=>exact⟨i+1,cA,by go_num,aN,iS,b1,by have:=nC.out;simpa using this⟩
    case measure=>simp[intOf];omega
   simp only[k3]at a6;obtain⟨CR,Cu⟩:∃CR,kX x.rs i=CR:=⟨_,rfl⟩;have xz:=YQ x.rs i;have we:=adY x.rs i;have Pf:=I (λw1(h:Kept w w1)=>Fs i w1 h aN);rw[Cu]at xz we Pf;go_upto_region 9 with (go_at_call 48;refine (Pf _ (hk.trans iS)).mono ?_;rintro cv ch⟨rfl,bF⟩)
   have gj:=iS.trans bF;have D0:=jG.trans bF;have ya:=BT.kept bF;have mT:=bF.size;clear IC NC a' b5 BT bF;generalize ch=mn at*;obtain⟨fS,lt⟩:=ya.p;by_cases xy:0<=CR
   .cases tl
    .obtain⟨zu,rfl⟩:∃zu:aa,CR=zu:=⟨CR.toNat,by omega⟩;obtain⟨z,bP⟩:∃z,(qR dL 0)[zu]?=some z:=⟨_,bn (by rw[GI];omega)⟩;have Ej:=acR (by omega) bP;have mu:=(O1.kept gj).cell zu;rw[Jw bP]at mu;have NB:=(O1.kept gj).lt;have Nf:(zu:J)<n:=by omega
     have Uj:=I Cu;have cE:=I bP;have V3:=ya.frozen;clear bP Cu;go_upto_region 11 with fail
     have qm:=ya.ba 2 (ah z);simp only[kM,lS,qg]at qm;have og:=gj.setCell (p:=⟨gt,2,none⟩) (by simp only;omega) (ah z);have yV:=D0.setCell (p:=⟨gt,2,none⟩) (by simp only;omega) (ah z);have RH:mn.heap.size<=(mn.setCell ⟨gt,2,none⟩ (ah z)).heap.size:=by simp
     clear fS lt ya gj D0 mu NB V3;generalize mn.setCell ⟨gt,2,none⟩ (ah z)=fQ at*;have yn:Hid ((if 0<=kX x.rs i then (qR dL 0)[(kX x.rs i).toNat]?.getD 0 else r.bJ)=z/\ow z):=I ⟨by rw[Uj,aP (by omega),c7,cE,b9],Ej⟩;obtain⟨fS,lt⟩:=qm.p;have xk:=(uD.kept og).cell i;rw[oa l_]at xk;have GP:=(uD.kept og).lt;have Ft:=I l_;clear l_;have akY:gt<fQ:=qm.lt;have Ko:=qm.alloc (.cells #[ah 1,()] 101);obtain⟨Vs,Yk,V4⟩:=Ko.q;go_upto_region 13 with fail
     clear Vs Yk V4 Ko;have g_:aB ((fQ.setCell ⟨gt,6,none⟩ (ae (some (fQ,0)) 1 1)).alloc (.cells #[ah 1,()] 101)) fQ 101 #[ah 1,()]:=xi (by simp);have zR:=I (Ey g_ (by omega) (bB fQ.heap.size));have Be:=(qm.ba 6 (ae (some (fQ,0)) 1 1)).alloc (.cells #[ah 1,()] 101);simp only[kM,lS,qg]at Be;have xp:=(og.setCell (p:=⟨gt,6,none⟩) (by simp only;omega) (ae (some (fQ,0)) 1 1)).alloc (.cells #[ah 1,()] 101);have Mp:=(yV.setCell (p:=⟨gt,6,none⟩) (by simp only;omega) (ae (some (fQ,0)) 1 1)).alloc (.cells #[ah 1,()] 101);have XA:fQ.heap.size+1<=((fQ.setCell ⟨gt,6,none⟩ (ae (some (fQ,0)) 1 1)).alloc (.cells #[ah 1,()] 101)).heap.size:=by simp
     clear fS lt xk GP qm g_ og yV;generalize (fQ.setCell ⟨gt,6,none⟩ (ae (some (fQ,0)) 1 1)).alloc (.cells #[ah 1,()] 101)=DJ at*;generalize xu:fQ.heap.size=g4 at*;obtain⟨fS,lt⟩:=Be.p;have MI:=eA.out _ xp;obtain⟨a',b5⟩:=MI.p;have Fk:=I (λw1(h:Kept DJ w1)=>yi r zY w1 (hk.trans (xp.trans h)));clear MI;go_upto_region 13 with fail
     go_upto_region 14 with (go_at_call 49;refine (Fk _ (aG _)).mono ?_;rintro h_ c4⟨u,rfl,zc,cy⟩;obtain⟨gI,eg,rfl⟩:=adz zc.now;have yI:=Be.kept cy;have Vt:=yI.cell;have Yl:=yI.lt;have V5:=yI.frozen;have Ux:=I zc;clear zc)
     have RI:=cy.size;have oF:=I (ea.set (p:=⟨gt,7,none⟩) (u:= .slice gI (jM x r.bx).length eg) (zR.kept cy) (by simp only;omega));have yo:=I (ea.set (p:=⟨gt,7,none⟩) (u:= .slice gI (jM x r.bx).length eg) Ux (by simp only;omega));have tw:=yI.ba 7 (.slice gI (jM x r.bx).length eg);simp only[kM,lS,qg]at tw;have mP:=(xp.trans cy).setCell (p:=⟨gt,7,none⟩) (by simp only;omega) (.slice gI (jM x r.bx).length eg);have B8:=(Mp.trans cy).setCell (p:=⟨gt,7,none⟩) (by simp only;omega) (.slice gI (jM x r.bx).length eg);clear fS lt a' b5 Vt Yl V5 yI Be xp Mp;generalize c4.setCell ⟨gt,7,none⟩ (.slice gI (jM x r.bx).length eg)=rf at*;obtain⟨fS,lt⟩:=tw.p;have o7:=I mP;have qs:=I (Ds.kept B8);have rY:Hid (ea (λb=>okW ok w b/\(Value.slice lC cA ac).ownBlock≠some b) rf (EI (⟨r.aM,r.bx,z,r.d_,r.cZ,r.cT,[⟨1,0⟩],jM x r.bx,r.src⟩,ae (some (g4,0)) 1 1,.slice gI (jM x r.bx).length eg))):=I (by
      have ab:=zl (ok:=ok) (n:=w.heap.size) (v:=ae lC cA ac) oF (by omega) (λg e=>by have:=o9.out g e;omega);have ad:=zl (ok:=ok) (n:=w.heap.size) (v:=ae lC cA ac) yo (by omega) (λg e=>by have:=o9.out g e;omega);exact (ab.and ad).imp λu hu=>⟨⟨kt.aM,kt.bx,yn.2,kt.d_,kt.cZ,kt.cT,kt.src⟩,hu.1,hu.2⟩)
     have zX:Hid (ny x dL JR i r=⟨r.aM,r.bx,z,r.d_,r.cZ,r.cT,[⟨1,0⟩],jM x r.bx,r.src⟩):=I (by unfold ny;rw[yn.1,Ft,b9,aw (by decide),aw (by decide)]);clear mP B8 tw;have u':w2.heap.size<=rf.heap.size:=o7.size;have nC:=I a6;clear a6;go_wp2_with (at_builtin;refine jB _ rfl (.tmp 56) (.tmp 58) 85 rfl w2.heap.size 138 i0 (aF #[.string ⟨#[]⟩,(),(),(),(),(),bf,bf,.string ⟨#[]⟩]) 9 120 underlying85 fx fy fz fA rfl (by decide) _ cA (cA.flatMap CU) rfl (fX qs.g _) ⟨rf.heap.size,0,none⟩ 1 1 [.string r.aM,r.bx,ah (z),r.d_,r.cZ,r.cT,ae (some (g4,0)) 1 1,.slice gI (jM x r.bx).length eg,r.src] rfl rfl pf (N4 _ _ _ _ _ _ _ _ _ _ _ _ _) (by unfold maxLen;omega) (by omega) (by simp;omega) ?_;intro v6 dc gy cu _ dK;have cI:=I (bb gy (bb cu dK));clear gy cu dK)
     obtain⟨ab,ad,bw⟩:=cI.out;have tE:=I (jT.snoc (y:=(⟨r.aM,r.bx,z,r.d_,r.cZ,r.cT,[⟨1,0⟩],jM x r.bx,r.src⟩,ae (some (g4,0)) 1 1,.slice gI (jM x r.bx).length eg)) qs ab ad bw rY.out);have yl:=I (xN o7 qs.g (bB _) ad);clear ab ad bw;go_roundw
     case rel=>exact⟨i+1,_,by go_num,aN,yl,tE,by have:=nC.out;rw[zX]at this;rw[k6,nY];exact this⟩
     case measure=>simp[intOf];omega
    .obtain⟨zu,rfl⟩:∃zu:aa,CR=zu:=⟨CR.toNat,by omega⟩;obtain⟨z,bP⟩:∃z,(qR dL 0)[zu]?=some z:=⟨_,bn (by rw[GI];omega)⟩;have Ej:=acR (by omega) bP;have mu:=(O1.kept gj).cell zu;rw[Jw bP]at mu;have NB:=(O1.kept gj).lt;have Nf:(zu:J)<n:=by omega
     have Uj:=I Cu;have cE:=I bP;have V3:=ya.frozen;clear bP Cu;go_upto_region 11 with fail
     have qm:=ya.ba 2 (ah z);simp only[kM,lS,qg]at qm;have og:=gj.setCell (p:=⟨gt,2,none⟩) (by simp only;omega) (ah z);have yV:=D0.setCell (p:=⟨gt,2,none⟩) (by simp only;omega) (ah z);have RH:mn.heap.size<=(mn.setCell ⟨gt,2,none⟩ (ah z)).heap.size:=by simp
     clear fS lt ya gj D0 mu NB V3;generalize mn.setCell ⟨gt,2,none⟩ (ah z)=fQ at*;have yn:Hid ((if 0<=kX x.rs i then (qR dL 0)[(kX x.rs i).toNat]?.getD 0 else r.bJ)=z/\ow z):=I ⟨by rw[Uj,aP (by omega),c7,cE,b9],Ej⟩;obtain⟨fS,lt⟩:=qm.p;have xk:=(uD.kept og).cell i;rw[oa l_]at xk;have GP:=(uD.kept og).lt;have Ft:=I l_;clear l_;have o7:=I og;have qs:=I (Ds.kept yV);have rY:Hid (ea (λb=>okW ok w b/\(Value.slice lC cA ac).ownBlock≠some b) fQ (EI (⟨r.aM,r.bx,z,r.d_,r.cZ,r.cT,r.g,r.v,r.src⟩,ae gC r.g.length gc,ae gx r.v.length eT))):=I (by
      have ab:=R6 HDG (hk.trans og) (λg e=>by have:=o9.out g e;omega);have ad:=R6 q5 (hk.trans og) (λg e=>by have:=o9.out g e;omega);exact (ab.and ad).imp λu hu=>⟨⟨kt.aM,kt.bx,yn.2,kt.d_,kt.cZ,kt.cT,kt.src⟩,hu.1,hu.2⟩)
     have zX:Hid (ny x dL JR i r=⟨r.aM,r.bx,z,r.d_,r.cZ,r.cT,r.g,r.v,r.src⟩):=I (by unfold ny;rw[yn.1,Ft,b9,aP rfl,aP rfl]);clear og yV qm;generalize fQ=rf at*;have u':w2.heap.size<=rf.heap.size:=o7.size;have nC:=I a6;clear a6;go_wp2_with (at_builtin;refine jB _ rfl (.tmp 56) (.tmp 58) 85 rfl w2.heap.size 138 i0 (aF #[.string ⟨#[]⟩,(),(),(),(),(),bf,bf,.string ⟨#[]⟩]) 9 120 underlying85 fx fy fz fA rfl (by decide) _ cA (cA.flatMap CU) rfl (fX qs.g _) ⟨rf.heap.size,0,none⟩ 1 1 [.string r.aM,r.bx,ah (z),r.d_,r.cZ,r.cT,ae gC r.g.length gc,ae gx r.v.length eT,r.src] rfl rfl pf (N4 _ _ _ _ _ _ _ _ _ _ _ _ _) (by unfold maxLen;omega) (by omega) (by simp;omega) ?_;intro v6 dc gy cu _ dK;have cI:=I (bb gy (bb cu dK));clear gy cu dK)
     obtain⟨ab,ad,bw⟩:=cI.out;have tE:=I (jT.snoc (y:=(⟨r.aM,r.bx,z,r.d_,r.cZ,r.cT,r.g,r.v,r.src⟩,ae gC r.g.length gc,ae gx r.v.length eT)) qs ab ad bw rY.out);have yl:=I (xN o7 qs.g (bB _) ad);clear ab ad bw;go_roundw
     case rel=>exact⟨i+1,_,by go_num,aN,yl,tE,by have:=nC.out;rw[zX]at this;rw[k6,nY];exact this⟩
     case measure=>simp[intOf];omega
   .cases tl
    .have yn:Hid ((if 0<=kX x.rs i then (qR dL 0)[(kX x.rs i).toNat]?.getD 0 else r.bJ)=r.bJ/\ow r.bJ):=I ⟨by rw[Cu,aw xy],kt.bJ⟩;clear Cu;go_upto_region 11 with fail
     have qm:=ya;have og:=gj;have yV:=D0;clear fS lt ya gj D0;generalize mn=fQ at*;obtain⟨fS,lt⟩:=qm.p;have xk:=(uD.kept og).cell i;rw[oa l_]at xk;have GP:=(uD.kept og).lt;have Ft:=I l_;clear l_;have akY:gt<fQ:=qm.lt;have Ko:=qm.alloc (.cells #[ah 1,()] 101);obtain⟨Vs,Yk,V4⟩:=Ko.q;go_upto_region 13 with fail
     clear Vs Yk V4 Ko;have g_:aB ((fQ.setCell ⟨gt,6,none⟩ (ae (some (fQ,0)) 1 1)).alloc (.cells #[ah 1,()] 101)) fQ 101 #[ah 1,()]:=xi (by simp);have zR:=I (Ey g_ (by omega) (bB fQ.heap.size));have Be:=(qm.ba 6 (ae (some (fQ,0)) 1 1)).alloc (.cells #[ah 1,()] 101);simp only[kM,lS,qg]at Be;have xp:=(og.setCell (p:=⟨gt,6,none⟩) (by simp only;omega) (ae (some (fQ,0)) 1 1)).alloc (.cells #[ah 1,()] 101);have Mp:=(yV.setCell (p:=⟨gt,6,none⟩) (by simp only;omega) (ae (some (fQ,0)) 1 1)).alloc (.cells #[ah 1,()] 101);have XA:fQ.heap.size+1<=((fQ.setCell ⟨gt,6,none⟩ (ae (some (fQ,0)) 1 1)).alloc (.cells #[ah 1,()] 101)).heap.size:=by simp
     clear fS lt xk GP qm g_ og yV;generalize (fQ.setCell ⟨gt,6,none⟩ (ae (some (fQ,0)) 1 1)).alloc (.cells #[ah 1,()] 101)=DJ at*;generalize xu:fQ.heap.size=g4 at*;obtain⟨fS,lt⟩:=Be.p;have MI:=eA.out _ xp;obtain⟨a',b5⟩:=MI.p;have Fk:=I (λw1(h:Kept DJ w1)=>yi r zY w1 (hk.trans (xp.trans h)));clear MI;go_upto_region 13 with fail
     go_upto_region 14 with (go_at_call 49;refine (Fk _ (aG _)).mono ?_;rintro h_ c4⟨u,rfl,zc,cy⟩;obtain⟨gI,eg,rfl⟩:=adz zc.now;have yI:=Be.kept cy;have Vt:=yI.cell;have Yl:=yI.lt;have V5:=yI.frozen;have Ux:=I zc;clear zc)
     have RI:=cy.size;have oF:=I (ea.set (p:=⟨gt,7,none⟩) (u:= .slice gI (jM x r.bx).length eg) (zR.kept cy) (by simp only;omega));have yo:=I (ea.set (p:=⟨gt,7,none⟩) (u:= .slice gI (jM x r.bx).length eg) Ux (by simp only;omega));have tw:=yI.ba 7 (.slice gI (jM x r.bx).length eg);simp only[kM,lS,qg]at tw;have mP:=(xp.trans cy).setCell (p:=⟨gt,7,none⟩) (by simp only;omega) (.slice gI (jM x r.bx).length eg);have B8:=(Mp.trans cy).setCell (p:=⟨gt,7,none⟩) (by simp only;omega) (.slice gI (jM x r.bx).length eg);clear fS lt a' b5 Vt Yl V5 yI Be xp Mp;generalize c4.setCell ⟨gt,7,none⟩ (.slice gI (jM x r.bx).length eg)=rf at*;obtain⟨fS,lt⟩:=tw.p;have o7:=I mP;have qs:=I (Ds.kept B8);have rY:Hid (ea (λb=>okW ok w b/\(Value.slice lC cA ac).ownBlock≠some b) rf (EI (⟨r.aM,r.bx,r.bJ,r.d_,r.cZ,r.cT,[⟨1,0⟩],jM x r.bx,r.src⟩,ae (some (g4,0)) 1 1,.slice gI (jM x r.bx).length eg))):=I (by
      have ab:=zl (ok:=ok) (n:=w.heap.size) (v:=ae lC cA ac) oF (by omega) (λg e=>by have:=o9.out g e;omega);have ad:=zl (ok:=ok) (n:=w.heap.size) (v:=ae lC cA ac) yo (by omega) (λg e=>by have:=o9.out g e;omega);exact (ab.and ad).imp λu hu=>⟨⟨kt.aM,kt.bx,yn.2,kt.d_,kt.cZ,kt.cT,kt.src⟩,hu.1,hu.2⟩)
     have zX:Hid (ny x dL JR i r=⟨r.aM,r.bx,r.bJ,r.d_,r.cZ,r.cT,[⟨1,0⟩],jM x r.bx,r.src⟩):=I (by unfold ny;rw[yn.1,Ft,b9,aw (by decide),aw (by decide)]);clear mP B8 tw;have u':w2.heap.size<=rf.heap.size:=o7.size;have nC:=I a6;clear a6;go_wp2_with (at_builtin;refine jB _ rfl (.tmp 56) (.tmp 58) 85 rfl w2.heap.size 138 i0 (aF #[.string ⟨#[]⟩,(),(),(),(),(),bf,bf,.string ⟨#[]⟩]) 9 120 underlying85 fx fy fz fA rfl (by decide) _ cA (cA.flatMap CU) rfl (fX qs.g _) ⟨rf.heap.size,0,none⟩ 1 1 [.string r.aM,r.bx,ah (r.bJ),r.d_,r.cZ,r.cT,ae (some (g4,0)) 1 1,.slice gI (jM x r.bx).length eg,r.src] rfl rfl pf (N4 _ _ _ _ _ _ _ _ _ _ _ _ _) (by unfold maxLen;omega) (by omega) (by simp;omega) ?_;intro v6 dc gy cu _ dK;have cI:=I (bb gy (bb cu dK));clear gy cu dK)
     obtain⟨ab,ad,bw⟩:=cI.out;have tE:=I (jT.snoc (y:=(⟨r.aM,r.bx,r.bJ,r.d_,r.cZ,r.cT,[⟨1,0⟩],jM x r.bx,r.src⟩,ae (some (g4,0)) 1 1,.slice gI (jM x r.bx).length eg)) qs ab ad bw rY.out);have yl:=I (xN o7 qs.g (bB _) ad);clear ab ad bw;go_roundw
     case rel=>exact⟨i+1,_,by go_num,aN,yl,tE,by have:=nC.out;rw[zX]at this;rw[k6,nY];exact this⟩
     case measure=>simp[intOf];omega
    .have yn:Hid ((if 0<=kX x.rs i then (qR dL 0)[(kX x.rs i).toNat]?.getD 0 else r.bJ)=r.bJ/\ow r.bJ):=I ⟨by rw[Cu,aw xy],kt.bJ⟩;clear Cu;go_upto_region 11 with fail
     have qm:=ya;have og:=gj;have yV:=D0;clear fS lt ya gj D0;generalize mn=fQ at*;obtain⟨fS,lt⟩:=qm.p;have xk:=(uD.kept og).cell i;rw[oa l_]at xk;have GP:=(uD.kept og).lt;have Ft:=I l_;clear l_;have o7:=I og;have qs:=I (Ds.kept yV);have rY:Hid (ea (λb=>okW ok w b/\(Value.slice lC cA ac).ownBlock≠some b) fQ (EI (⟨r.aM,r.bx,r.bJ,r.d_,r.cZ,r.cT,r.g,r.v,r.src⟩,ae gC r.g.length gc,ae gx r.v.length eT))):=I (by
      have ab:=R6 HDG (hk.trans og) (λg e=>by have:=o9.out g e;omega);have ad:=R6 q5 (hk.trans og) (λg e=>by have:=o9.out g e;omega);exact (ab.and ad).imp λu hu=>⟨⟨kt.aM,kt.bx,yn.2,kt.d_,kt.cZ,kt.cT,kt.src⟩,hu.1,hu.2⟩)
     have zX:Hid (ny x dL JR i r=⟨r.aM,r.bx,r.bJ,r.d_,r.cZ,r.cT,r.g,r.v,r.src⟩):=I (by unfold ny;rw[yn.1,Ft,b9,aP rfl,aP rfl]);clear og yV qm;generalize fQ=rf at*;have u':w2.heap.size<=rf.heap.size:=o7.size;have nC:=I a6;clear a6;go_wp2_with (at_builtin;refine jB _ rfl (.tmp 56) (.tmp 58) 85 rfl w2.heap.size 138 i0 (aF #[.string ⟨#[]⟩,(),(),(),(),(),bf,bf,.string ⟨#[]⟩]) 9 120 underlying85 fx fy fz fA rfl (by decide) _ cA (cA.flatMap CU) rfl (fX qs.g _) ⟨rf.heap.size,0,none⟩ 1 1 [.string r.aM,r.bx,ah (r.bJ),r.d_,r.cZ,r.cT,ae gC r.g.length gc,ae gx r.v.length eT,r.src] rfl rfl pf (N4 _ _ _ _ _ _ _ _ _ _ _ _ _) (by unfold maxLen;omega) (by omega) (by simp;omega) ?_;intro v6 dc gy cu _ dK;have cI:=I (bb gy (bb cu dK));clear gy cu dK)
     obtain⟨ab,ad,bw⟩:=cI.out;have tE:=I (jT.snoc (y:=(⟨r.aM,r.bx,r.bJ,r.d_,r.cZ,r.cT,r.g,r.v,r.src⟩,ae gC r.g.length gc,ae gx r.v.length eT)) qs ab ad bw rY.out);have yl:=I (xN o7 qs.g (bB _) ad);clear ab ad bw;go_roundw
     case rel=>exact⟨i+1,_,by go_num,aN,yl,tE,by have:=nC.out;rw[zX]at this;rw[k6,nY];exact this⟩
     case measure=>simp[intOf];omega
  .obtain rfl:i=n:=by omega
   have db:¬((i:J)<i):=by omega
   rw[vD (by rw[<-b3];exact bB _),vo,hj]at a6;have b1:=I cL;have cp:=I ax;have cW:=I a6;have ov:cA.length<=1000:=by
    have:=congrArg List.length a6;rw[er]at this;omega
   clear cL ax a6;go_wp2_with fail
   go_ret;refine⟨_,rfl,?_,hk.trans cp⟩;rw[<-cW];exact b1.CZ ael aem (by omega) (λb af=> .inr (by omega))
end Go.Proofs.YtilhklpfkgbikaaGreatDoor
