import Derived.Test.YtilhklpfkgbikaaGreatDoorZ
set_option linter.all false
namespace Go.Proofs.YtilhklpfkgbikaaGreatDoor
open Go.RowKit Go.Proofs.Tryz
set_option maxRecDepth 100000
set_option maxHeartbeats 8000000
def aey(cn d:J)(R:J×J×J)(w:ag)(e:Ending)(w':ag):Prop:=∃a b c:J,e=bL (bj #[R.1,aF #[R.2.1,a,b,c]])/\lV R.2.1 cn d R.2.2 a b c/\Kept w w'
def U8{wr:ag}{N i m:aa}{acc:List Bool}{b:Bool}(av:acc.length=i)(aD:i<m)(h:aB wr N 4 ((iJ (acc++List.replicate (m-i) false)).setIfInBounds i (bR b))):aB wr N 4 (iJ ((acc++[b])++List.replicate (m-(i+1)) false)):=by
 rw[yE,A' _ _ (by omega),av,k7,show m-i=(m-(i+1))+1 by omega,J',lS]at h;rw[nY];exact h
def ahA{w:ag}{g:aa}{l:List Bool}(h:aB w g 4 (iJ l)):E9 w (.slice (some (g,0)) l l) l:=by
 refine⟨_,_,rfl,λ_=>⟨g,0,rfl,h.lt,λj x ay i u aD=> ?_⟩⟩;match i,aD with
 |0,aD=>
  cases aD;rw[h.cell,ql,jD,lT,oa ay]
def ahd{Lf:gD}{E:dT}{rs:List br}{i:aa}{l:List aa}{acc:List Bool}{r:br}(aC:rs[i]?=some r)(h:r.g.length=0):fw Lf E rs (i::l) acc=fw Lf E rs l (acc++[true]):=by
 rw[fw,aC,b9,aP h]
def ahc{Lf:gD}{E:dT}{rs:List br}{i:aa}{l:List aa}{acc:List Bool}{r:br}(aC:rs[i]?=some r)(h:r.g.length≠0)(ad:(hW Lf E r.g).2=0):fw Lf E rs (i::l) acc=fw Lf E rs l (acc++[decide ((hW Lf E r.g).1.n=1)]):=by
 rw[fw,aC,b9,aw h,aw (by omega)]
def ahb{Lf:gD}{E:dT}{rs:List br}{i:aa}{l:List aa}{acc:List Bool}{r:br}(aC:rs[i]?=some r)(h:r.g.length≠0)(ad:(hW Lf E r.g).2≠0):fw Lf E rs (i::l) acc=([],(hW Lf E r.g).2,(i:J)):=by
 rw[fw,aC,b9,aw h,aP ad]
def aoK(cH dw:ak)(x:cq)(E:dT)(cn d:J)(w:ag)(bH:nF w cH x)(a1:je w dw E)(bN:Mon w)(aJ:qw x.rs):
  bg 60 #[cH,dw,cn,d] w (aey cn d (e0 cz E x.rs d) w):=by
 obtain⟨i0,aD,fY,cG,eM⟩:=hy Tryz.Nu;obtain⟨pt,iL⟩:=aJ;have zZ:=I (λw1(ai:Kept w w1)=>apX cH x d E.dt w1 (bH.kept ai) pt);have h0:=I (λ(p9:ak)(e:List cw)(w1:ag)(ai:Kept w w1)(aH:iU w p9 e)=>abI p9 dw e E w1 (aH.kept ai) (a1.kept ai) (bN.kept ai));obtain⟨b7,dy,cD,rfl,b6,cY,l5⟩:=bH;obtain⟨jf,jo,rfl,-⟩:=b6;obtain⟨hT,ij,rfl,-⟩:=cY;obtain⟨eR,rc,rfl,-,-,lI⟩:=l5;obtain⟨dm,aY,dx,a',dq,bu,fr,b4,e6,b_,rfl,-⟩:=a1.parts;have pO:=I lI;have h':=tm (bz d E.dt) x.rs;have uR:hB (bz d E.dt) x.rs x.rs<=1000:=by
  unfold hB;refine fN (nX _ _) ?_;rw[gT];omega
 have ym:=I (λk i h=>(h'.sq k i h).1);have I3:(b8 (bz d E.dt) x.rs).1.length=(b8 (bz d E.dt) x.rs).2.length:=h'.mX.trans h'.pl.symm;have I6:(b8 (bz d E.dt) x.rs).2.length<=1000:=by rw[h'.pl];exact uR
 obtain⟨T,bT⟩:∃T,e0 cz E x.rs d=T:=⟨_,rfl⟩;rw[bT];unfold e0 at bT;generalize (b8 (bz d E.dt) x.rs).1=L at*;generalize (b8 (bz d E.dt) x.rs).2=P at*;generalize x.aM=aM at*;generalize x.ms=ms at*;generalize x.ins.length=AN at*;generalize x.ds.length=dz at*;generalize x.rs=rs at*;have hQL:(gG rs L).length=L.length:=by unfold gG;rw[er]
 generalize gG rs L=Q at*;obtain⟨sC,Wh⟩:∃sC,fw cz E rs L []=sC:=⟨_,rfl⟩;rw[Wh]at bT;have c8:=I bT;have pL:=I (show fw cz E rs (L.drop 0) []=sC from Wh);obtain⟨n,l9⟩:∃n,rs.length=n:=⟨_,rfl⟩;rw[l9]at pt pO ym zZ⊢;have b3:=I l9;have ry:(n:J)<=1000:=by omega
 have Dq:=I (bb I3 (bb I6 hQL));have jH:=I iL;clear lI l9 bT Wh h' uR I3 I6 hQL a1 iL;go_enter func60,ntmps60
 go_upto_region 1 with fail
 generalize aL:((w.alloc _).alloc _).alloc _=W at*;obtain⟨aV,bo,bh,bm⟩:=Kept.cv aL;clear aL;obtain⟨dX,cR⟩:=bo.p;obtain⟨dM,bq⟩:=bh.p;have KW:=I (zZ W aV);go_upto_region 2 with (go_at_call 92;refine KW.mono ?_;rintro e dV⟨cm,fZ,m_,rfl,bd,a8,dI,dk⟩;obtain⟨at7,lc,rfl,M9⟩:=gw.at_ bd;have b1:=I (bb a8 (bb dI (bb dk M9)));clear bd a8 dI dk M9)
 rw[oW];have Fo:=I b1.2.2.2;rw[oW]at Fo;have au:=b1.2.2.1;have zM:=I (bo.kept au);have e3:=I (bh.kept au);have Un:=I (bm.kept au);have dA:=I (aV.trans au);have HPQ:=I (bb b1.out.1 b1.out.2.1);obtain⟨m,jW⟩:∃m,L.length=m:=⟨_,rfl⟩;rw[jW]at Fo Dq⊢;have tC:=I jW;have po:m<=1000:=by have:=Dq.2.1;have:=Dq.1;omega
 clear zZ KW b1 dX cR dM bq bo bh bm au jW aV;go_upto_region 3 with (at_make;refine rR _ rfl _ _ 108 rfl dV 4 i0 (bR false) 1 underlying108 aD fY cG _ _ _ _ m rfl rfl rfl rfl (by rw[eM];omega) (by unfold maxLen;omega) (bB _) ?_;intro w2 cN cu;have HMK:=I (GU cN cu);clear cN cu)
 go_upto_region 4 with fail
 go_loopw [33] (λy wr=>∃(i:aa)(acc:List Bool),y=ah i/\i<=m/\Kept dV wr/\acc.length=i/\aB wr dV 4 (iJ (acc++List.replicate (m-i) false))/\fw cz E rs (L.drop i) acc=sC) (λy _=>m-(intOf y).toNat)
 case atStart=>exact⟨0,[],rfl,d' _,HMK.2,rfl,by rw[qj,Nat.sub_zero];exact HMK.1,pL⟩
 case round=>
  obtain⟨i,acc,rfl,him,ax,yZ,D2,a6⟩:=hrel;by_cases aN:i<m
  .obtain⟨Yf,e2,rfl,rr,Ed⟩:=Fo.out (by omega);have Ea:i<L.length:=by have:=tC.out;omega
   have al:L[i]?=some L[i]:=bn Ea;have l8:=ym.out i _ al;have NA:=Ed i _ (Sd al);rw[jA Ea]at a6;generalize L[i]=k at*;obtain⟨ej,ro,rfl,gq,kH⟩:=pO.out (by omega);have fu:k<rs.length:=by have:=b3.out;omega
   have jl:rs[k]?=some rs[k]:=bn fu;obtain⟨-,-,-,-,-,-,⟨sY,dn,oo⟩,-,-⟩:=kH _ _ jl;have D':=(jH _ (fe jl)).1;generalize rs[k]=r at*;have HEG:=I (λw1 ai=>h0 sY r.g w1 ai oo);obtain⟨gC,gc,rfl,-⟩:=oo.1.at_;unfold g' at dn;have Dz:=ax.aI rr NA;have lbl:=bG rr ax.size;have aS:=dA.trans ax;have Dh:=aS.aI gq dn;have YW:=bG gq aS.size;have kD:=zM.kept ax;have b04:=kD.cell 4;have b0l:=kD.lt;have b1b:=e3.kept ax;obtain⟨c9,Ir⟩:=b1b.p;simp only[hL,iP,jd]at b04;have db:(i:J)<m:=by omega
   have lF:(k:J)<n:=by omega
   have kB:=I D2;have cp:=I ax;have fa:=I a6;have cE:=I (λh:r.g.length=0=>(ahd (Lf:=cz) (E:=E) (l:=L.drop (i+1)) (acc:=acc) jl h).symm.trans a6);have Bn:=I (λ(h:r.g.length≠0)ad=>(ahc (Lf:=cz) (E:=E) (l:=L.drop (i+1)) (acc:=acc) jl h ad).symm.trans a6);have wX:=I (λ(h:r.g.length≠0)ad=>(ahb (Lf:=cz) (E:=E) (l:=L.drop (i+1)) (acc:=acc) jl h ad).symm.trans a6);have nc0:=D2.cell i;rw[oa (b:=false) (by rw[k4 (by omega),yZ,k7,uj,aP (by omega)])]at nc0;have nl0:=D2.lt;have nf0:=D2.frozen i;clear D2 a6 dn oo kH jl NA Ed al aS;by_cases qJ:r.g.length=0
   .have ke:=I (cE qJ);have arV:(r.g:J)=0:=by omega
    generalize r.g.length=r' at*;subst qJ;go_wp2_with fail
    have iw:=I (kB.ba i (bR true));have h2:=cp.setCell (p:=⟨dV.heap.size,i,none⟩) (bB _) (bR true);have k':=I h2;clear h2;go_roundw
    case rel=>exact⟨i+1,acc++[true],by go_num,aN,k',by rw[fk,yZ];rfl,U8 yZ aN iw,ke⟩
    case measure=>simp[intOf];omega
   .obtain⟨l2,rm,bs,fc,Ar⟩:∃l2 rm bs fc,hW cz E r.g=(⟨l2,rm,bs⟩,fc):=⟨_,_,_,_,rfl⟩;have ux:=I (λad:fc=0=>by have:=Bn.out qJ (by rw[Ar];exact ad);rwa [Ar]at this);have HAE:=I (show fc≠0->∀C7,Kept w C7->aey cn d T w (bL (bj #[(),aF #[ah fc,cn,d,k]])) C7 from λad C7 ai=>by
     have ao:=wX.out qJ (by rw[Ar];exact ad);rw[Ar]at ao;have aR:=c8.out;rw[<-ao]at aR;simp only[ne_eq,ad,not_false_eq_true,k3]at aR;exact⟨cn,d,k,by rw[<-aR],by rw[<-aR];exact lV.err ad,ai⟩)
    have mi:=I (show∀w1,Kept w w1->bg 61 #[ae gC r.g gc,aF #[E.dt,ae dm E.ins aY,ae dx E.ds a',ae dq E.ms bu,ae fr E.mt b4,ae e6 E.tb b_]] w1 (λe w'=>e=bL (bj #[aF #[ah l2,ah rm,ah bs],ah fc])/\Kept w1 w')from λw1 ai=>by
     have h:=HEG.out w1 ai;rw[Ar]at h;exact h)
    have kG:¬(r.g:J)=0:=by omega
    generalize r.g.length=r' at*;clear Bn wX cE HEG Ar qJ h0 nc0 nf0;go_upto_region 8 with fail
    have eF:=I (show∀X,Kept wr X->Kept wr X/\aU X (w,4)=some (ae (some (ej,ro)) n rc)/\aU X (w.heap.size+1,0)=some (ah E.dt)/\aU X (w.heap.size+1,1)=some (ae dm E.ins aY)/\aU X (w.heap.size+1,2)=some (ae dx E.ds a')/\aU X (w.heap.size+1,3)=some (ae dq E.ms bu)/\aU X (w.heap.size+1,4)=some (ae fr E.mt b4)/\aU X (w.heap.size+1,5)=some (ae e6 E.tb b_)/\aU X ⟨ej,ro+k*9+6,none⟩=some (ae gC r' gc)from λX h=>⟨h,h.aI b0l b04,h.aI Ir (c9 0),h.aI Ir (c9 1),h.aI Ir (c9 2),h.aI Ir (c9 3),h.aI Ir (c9 4),h.aI Ir (c9 5),h.aI YW Dh⟩);clear Dz lbl Dh kD b1b;go_region_held3 (λX=>Kept wr X/\aU X (w,4)=some (ae (some (ej,ro)) n rc)/\aU X (w.heap.size+1,0)=some (ah E.dt)/\aU X (w.heap.size+1,1)=some (ae dm E.ins aY)/\aU X (w.heap.size+1,2)=some (ae dx E.ds a')/\aU X (w.heap.size+1,3)=some (ae dq E.ms bu)/\aU X (w.heap.size+1,4)=some (ae fr E.mt b4)/\aU X (w.heap.size+1,5)=some (ae e6 E.tb b_)/\aU X ⟨ej,ro+k*9+6,none⟩=some (ae gC r' gc))
     ((refine eF _ ?_;(with_reducible repeat (first|exact .refl _|assumption|refine .drew ?_|refine .alloc ?_ _|refine .setCell ?_ (by simp only;omega) _|refine .trans ?_ ‹Kept _ _›))))
     ((go_at_call 61;refine (mi _ ((dA.trans cp).trans ?_)).mono ?_;(·(with_reducible first|exact (aG _).drew|exact (aG _).aZ.drew));rintro e w'⟨rfl,iz⟩;(try (have cd:=aB.kept (aB.drew (aB.new wr 34 #[(),(),()])) iz;have jL:=cd.cell;have mA:=cd.frozen;have uW:=cd.lt));have oR:=Below.size iz;(try simp at oR)))
    .have cP:=aB.new w' 34 #[ah l2,ah rm,ah bs];have fT:Kept wr (w'.alloc (.cells #[ah l2,ah rm,ah bs] 34)):=Kept.alloc (Kept.trans (Kept.drew (aG _)) iz) _;clear iz oR;rename_i hHeld;clear hHeld;generalize w'.alloc (.cells #[ah l2,ah rm,ah bs] 34)=ha at fT cP⊢;generalize w'.heap.size=g3 at cP⊢;have lX:=I (cp.trans fT);obtain⟨Is,It⟩:=cP.p;have yt:=kB.kept fT;have NT:=yt.cell i;rw[oa (b:=false) (by rw[k4 (by omega),yZ,k7,uj,aP (by omega)])]at NT;have nl6:=yt.lt;have YA:=yt.frozen i;have Uc:=I yt;have FD:=Un.kept lX;obtain⟨YZ,rl6,Y2⟩:=FD.q;have HO:=I FD;have ak7:=lX.size;clear fT cP yt FD;by_cases pY:fc=0
     .have ke:=I (ux pY);subst pY;clear YZ Y2;go_wp2_with fail
      have iw:=I (Uc.ba i (bR (bs==1)));have h2:=lX.setCell (p:=⟨dV.heap.size,i,none⟩) (bB _) (bR (bs==1));have k':=I h2;clear h2;go_roundw
      case rel=>exact⟨i+1,acc++[decide (bs=1)],by go_num,aN,k',by rw[fk,yZ];rfl,U8 yZ aN iw,ke⟩
      case measure=>simp[intOf];omega
     .have ke:=I (HAE pY);have jv:(fc !=0)=true:=by simpa using pY
      clear pY NT YA;go_wp2_with fail
      have Z:=((((HO.ba 0 (ah fc)).ba 1 cn).ba 2 d).ba 3 k).cell;have I2:=((((dA.trans lX).setCell (p:=⟨w.heap.size+1+1,0,none⟩) (by simp only;omega) (ah fc)).setCell (p:=⟨w.heap.size+1+1,1,none⟩) (by simp only;omega) cn).setCell (p:=⟨w.heap.size+1+1,2,none⟩) (by simp only;omega) d).setCell (p:=⟨w.heap.size+1+1,3,none⟩) (by simp only;omega) k;exact bI (v:=bj #[(),aF #[ah fc,cn,d,k]]) (by simp[results,results60,go_sem,Z]) rfl (ke _ I2)
    .have cP:=((cd.ba 0 (ah l2)).ba 1 (ah rm)).ba 2 (ah bs);have fT:Kept wr (((w'.setCell ⟨wr.heap.size,0,none⟩ (ah l2)).setCell ⟨wr.heap.size,1,none⟩ (ah rm)).setCell ⟨wr.heap.size,2,none⟩ (ah bs)):=by
      have jm:Kept wr w':=Kept.trans (Kept.drew (Kept.alloc (aG _) _)) iz;refine Kept.setCell (Kept.setCell (Kept.setCell jm ?_ _) ?_ _) ?_ _<;>exact bB _
     replace cP:aB _ wr.heap.size 34 #[ah l2,ah rm,ah bs]:=cP;clear iz oR cd jL mA uW;rename_i hHeld;clear hHeld;generalize ((w'.setCell ⟨wr.heap.size,0,none⟩ (ah l2)).setCell ⟨wr.heap.size,1,none⟩ (ah rm)).setCell ⟨wr.heap.size,2,none⟩ (ah bs)=ha at fT cP⊢;generalize wr.heap.size=g3 at cP⊢;have lX:=I (cp.trans fT);obtain⟨Is,It⟩:=cP.p;have yt:=kB.kept fT;have NT:=yt.cell i;rw[oa (b:=false) (by rw[k4 (by omega),yZ,k7,uj,aP (by omega)])]at NT;have nl6:=yt.lt;have YA:=yt.frozen i;have Uc:=I yt;have FD:=Un.kept lX;obtain⟨YZ,rl6,Y2⟩:=FD.q;have HO:=I FD;have ak7:=lX.size;clear fT cP yt FD;by_cases pY:fc=0
     .have ke:=I (ux pY);subst pY;clear YZ Y2;go_wp2_with fail
      have iw:=I (Uc.ba i (bR (bs==1)));have h2:=lX.setCell (p:=⟨dV.heap.size,i,none⟩) (bB _) (bR (bs==1));have k':=I h2;clear h2;go_roundw
      case rel=>exact⟨i+1,acc++[decide (bs=1)],by go_num,aN,k',by rw[fk,yZ];rfl,U8 yZ aN iw,ke⟩
      case measure=>simp[intOf];omega
     .have ke:=I (HAE pY);have jv:(fc !=0)=true:=by simpa using pY
      clear pY NT YA;go_wp2_with fail
      have Z:=((((HO.ba 0 (ah fc)).ba 1 cn).ba 2 d).ba 3 k).cell;have I2:=((((dA.trans lX).setCell (p:=⟨w.heap.size+1+1,0,none⟩) (by simp only;omega) (ah fc)).setCell (p:=⟨w.heap.size+1+1,1,none⟩) (by simp only;omega) cn).setCell (p:=⟨w.heap.size+1+1,2,none⟩) (by simp only;omega) d).setCell (p:=⟨w.heap.size+1+1,3,none⟩) (by simp only;omega) k;exact bI (v:=bj #[(),aF #[ah fc,cn,d,k]]) (by simp[results,results60,go_sem,Z]) rfl (ke _ I2)
  .obtain rfl:i=m:=by omega
   have db:¬((i:J)<i):=by omega
   rw[vD (by have:=tC.out;omega),fw]at a6;rw[k7,ZW,hj]at D2;have Gi:=ahA D2;rw[yZ]at Gi;have wZ:=I (aoL fZ m_ _ P Q acc wr (HPQ.1.kept ax) (HPQ.2.kept ax) Gi Dq.2.1 (by have:=Dq.out;omega));have nH:=c8.out;rw[<-a6]at nH;simp only[ne_eq,not_true_eq_false,sx]at nH;have Fm:=I (G4 (par:=P) (pri:=Q) (apl:=acc));generalize kz P Q acc=at_ at*;have HKF:=I (dA.trans ax);have Uq:=I (Un.kept ax);have Bj:=I ax;have n6:=I nH;clear ax D2 Gi a6 nH yZ;go_upto_region 14 with (go_at_call 93;refine wZ.mono ?_;rintro e c4⟨rfl,bd⟩;have pK:=I bd;clear bd)
   have UQ:=Uq.kept pK;obtain⟨r5c,r5l,r5f⟩:=UQ.q;have asS:=fN HKF.size pK.size;have RC:w.heap.size+1+1<c4:=r5l;have I2:Kept w ((((c4.setCell ⟨w.heap.size+1+1,0,none⟩ ()).setCell ⟨w.heap.size+1+1,1,none⟩ ()).setCell ⟨w.heap.size+1+1,2,none⟩ ()).setCell ⟨w.heap.size+1+1,3,none⟩ ()):=
    ((((HKF.trans pK).setCell (p:=⟨w.heap.size+1+1,0,none⟩) (by simp only;omega) _).setCell (p:=⟨w.heap.size+1+1,1,none⟩) (by simp only;omega) _).setCell (p:=⟨w.heap.size+1+1,2,none⟩) (by simp only;omega) _).setCell (p:=⟨w.heap.size+1+1,3,none⟩) (by simp only;omega) _
   have aal:=I I2;have zW:=I UQ;clear I2 UQ;by_cases dK:at_<0
   .have KX:=I (show (at_,(0:J),(0:J))=T by have:=n6.out;rwa [aP dK]at this);go_wp2_with fail
    have Z:=((((zW.ba 0 ()).ba 1 ()).ba 2 ()).ba 3 ()).cell;exact bI (v:=bj #[at_,aF #[(),(),(),()]]) (by simp[results,results60,go_sem,Z]) rfl ⟨0,0,0,by rw[<-KX],by rw[<-KX];exact lV.ok,aal⟩
   .have ajR:0<=at_:=by omega
    obtain⟨an,rfl⟩:∃an:aa,at_=an:=⟨at_.toNat,by omega⟩;have qN:=Fm.out ajR;have arI:(an:J)<i:=by have:=Dq.1;omega
    have ab8:an<L.length:=by have:=tC.out;omega
    obtain⟨Yf,e2,rfl,rr,Ed⟩:=Fo.out (by omega);have NA:=Ed an _ (Sd (bn ab8));have KX:=I (show (((L[an]:aa):J),(0:J),(0:J))=T by
     have:=n6.out;rw[aw dK,c7,bn ab8,b9]at this;exact this)
    generalize L[an]=k at*;have Dz:=(Bj.trans pK).aI rr NA;have lbl:=bG rr (Bj.trans pK).size;clear Ed NA;go_wp2_with fail
    have Z:=((((zW.ba 0 ()).ba 1 ()).ba 2 ()).ba 3 ()).cell;exact bI (v:=bj #[k,aF #[(),(),(),()]]) (by simp[results,results60,go_sem,Z]) rfl ⟨0,0,0,by rw[<-KX],by rw[<-KX];exact lV.ok,aal⟩
end Go.Proofs.YtilhklpfkgbikaaGreatDoor
