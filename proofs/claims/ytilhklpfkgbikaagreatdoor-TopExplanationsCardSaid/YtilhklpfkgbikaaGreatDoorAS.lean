import Derived.Test.YtilhklpfkgbikaaGreatDoorAR
set_option linter.all false
namespace Go.Proofs.YtilhklpfkgbikaaGreatDoor
open Go.RowKit Go.Proofs.Tryz
set_option maxRecDepth 100000
set_option maxHeartbeats 64000000
def Oh(w:ag)(e:Ending)(w':ag):Prop:=e=bL (bR true)/\Kept w w'
def ahm{cm gX hn:ak}{l:cO}{sc d:J}{c:gl}{w:ag}(bE:h1 w cm l)(b6:ft w gX c.ins)(bN:kh w hn c.mem)(fB:c.ins.length<=9223372036854775807)(h3:Mon w)(aq:(eD l sc c d).c≠0):
  bg 6 #[cm,sc,aF #[c.d,gX,hn],d] w (λe w'=>e=bL (bj #[aF #[ah (eD l sc c d).v.k,ah (eD l sc c d).v.e,ah (eD l sc c d).v.n],ah (eD l sc c d).cf,aF #[ah (eD l sc c d).c,ah (eD l sc c d).m,ah (eD l sc c d).d,ah (eD l sc c d).r]])/\Kept w w')/\
  bg 7 #[cm,sc,aF #[c.d,gX,hn],d] w (λe w'=>e=bL (bj #[bf,aF #[ah (eD l sc c d).c,ah (eD l sc c d).m,ah (eD l sc c d).d,ah (eD l sc c d).r]])/\Kept w w'):=by
 refine⟨(F2 cm gX hn l sc d c w bE b6 bN fB h3).mono λe w' aT=> ?_,(Qz cm gX hn l sc d c w bE b6 bN fB h3).mono λe w' aT=> ?_⟩
 .obtain⟨a,b,f,ab,ad,ao⟩:=aT;obtain⟨rfl,rfl,rfl⟩:=ad.2 aq;exact⟨ab,ao⟩
 .obtain⟨ab,-,ao⟩:=aT;obtain⟨a,b,f,ab,ad⟩:=ab aq;obtain⟨rfl,rfl,rfl⟩:=ad.2 aq;exact⟨ab,ao⟩
def ajy{cm gX hn:ak}{l:cO}{i:aa}{d:J}{c:gl}{w:ag}(bE:h1 w cm l)(b6:ft w gX c.ins)(bN:kh w hn c.mem)(fB:c.ins.length<=9223372036854775807)(h3:Mon w){s:cq}(aD:l.sc[i]?=some s)(aq:(eD l (i:J) c d).c=0):
  bg 6 #[cm,ah (i:J),aF #[c.d,gX,hn],d] w (λe w'=>e=bL (bj #[aF #[ah (eD l (i:J) c d).v.k,ah (eD l (i:J) c d).v.e,ah (eD l (i:J) c d).v.n],ah (eD l (i:J) c d).cf,aF #[(),(),(),()]])/\Kept w w')/\
  bg 7 #[cm,ah (i:J),aF #[c.d,gX,hn],d] w (λe w'=>∃u,e=bL (bj #[u,aF #[(),(),(),()]])/\hP w' qe 8 u (oc l s c d)/\Kept w w')/\
  bg 11 #[cm,ah (i:J),aF #[c.d,gX,hn],d] w (λe w'=>e=bL (bj #[aF #[ah (eD l (i:J) c d).v.k,ah (eD l (i:J) c d).v.e,ah (eD l (i:J) c d).v.n],aF #[(),(),(),()]])/\Kept w w'):=by
 refine⟨(F2 cm gX hn l i d c w bE b6 bN fB h3).mono λe w' aT=> ?_,(Qz cm gX hn l i d c w bE b6 bN fB h3).mono λe w' aT=> ?_,(aee cm gX hn l i d c w bE b6 bN fB h3).mono λe w' aT=>⟨aT.2.1 aq,aT.2.2⟩⟩
 .obtain⟨a,b,f,ab,ad,ao⟩:=aT;rw[aq]at ab ad;obtain⟨rfl,rfl,rfl⟩:=ad.1 rfl;exact⟨ab,ao⟩
 .obtain⟨-,ab,ao⟩:=aT;obtain⟨u,ab,ad⟩:=ab aq;have tX:EO l i=s:=by unfold EO;rw[c7,aD,b9]
  rw[tX]at ad;exact⟨u,ab,ad,ao⟩
def apM(cm gX hn:ak)(l:cO)(sc d:J)(c:gl)(w:ag)(bE:h1 w cm l)(b6:ft w gX c.ins)(bN:kh w hn c.mem)(h3:Mon w)(aq:(eD l sc c d).c≠0):
  bg 3 #[cm,sc,aF #[c.d,gX,hn],d] w (Oh w):=by
 have Fv:=I (λw1(h:Kept w w1)=>aeH cm gX hn l c w1 (bE.kept h) (b6.kept h) (bN.kept h));have Kt:=I (λw1(h:Kept w w1)=>aaR w1 (h3.kept h));have h0:=I (λw1(h:Kept w w1)(fB:c.ins.length<=14)=>ahm (d:=d) (bE.kept h) (b6.kept h) (bN.kept h) (by omega) (h3.kept h) aq);unfold DF at Fv;unfold Oh;obtain⟨R,aJ⟩:∃R,R=eD l sc c d:=⟨_,rfl⟩;rw[<-aJ]at h0 aq;obtain⟨⟨ep,fj,iO⟩,lu,cF,em,xm,r_⟩:=R;dsimp only at h0 aq;obtain⟨dw,cM,cH,rfl,ar,ab,ad⟩:=bE;obtain⟨c5,eW,rfl,-⟩:=ar;obtain⟨cV,cX,rfl,-⟩:=ab;obtain⟨hM,fJ,rfl,-⟩:=ad;obtain⟨eh,fR,rfl,-⟩:=b6;obtain⟨ff,ih,rfl,-⟩:=bN;generalize uX:l.bs.length=dS at*;generalize wb:l.tb.length=dd at*;generalize ot:l.sc.length=fO at*;generalize s7:c.ins.length=cC at*;generalize p2:c.mem.length=eE at*;have jv:(cF !=0)=true:=by simpa using aq
 clear h3 aJ uX wb ot s7 p2;go_enter func3,ntmps3
 go_upto_region 1 with fail
 generalize aL:(w.alloc _).alloc _=W at*;obtain⟨aV,fH,e7⟩:=Kept.a_ aL;clear aL;have e8:=I aV;have j4:=I fH;have sF:=I e7;obtain⟨b4,gz⟩:=fH.p;obtain⟨dn,fq⟩:=e7.p;clear fH e7 aV;go_upto_region 3 with (first|(go_at_call 4;refine (Fv _ e8).mono ?_;rintro aQ w1⟨b,rfl,au,bd⟩;have sL:=I (λh:b=true=>(bd h).1);have dA:=I au;have ee:=j4.kept au;have b4:=ee.cell;have gz:=ee.lt;have gU:=sF.kept au;have dn:=gU.cell;have fq:=gU.lt;clear bd au ee gU;cases b)|(go_at_call 5;refine (Kt _ (e8.trans dA)).mono ?_;rintro a_ w2⟨rfl,bt⟩;have hk:=I bt;clear bt))
 .go_wp2_with fail
  go_ret;exact⟨rfl,(e8.trans dA).trans hk⟩
 have vO:=I (sL (by simp));have gi:=I (e8.trans dA);go_upto_region 4 with (go_at_call 6;refine (h0 _ gi vO).1.mono ?_;rintro cv ch⟨rfl,bF⟩;have gO:=I (dA.trans bF);have ee:=j4.kept (dA.trans bF);have b4:=ee.cell;have gz:=ee.lt;have gU:=sF.kept (dA.trans bF);have dn:=gU.cell;have fq:=gU.lt;clear bF ee gU)
 generalize aL:(ch.alloc _).alloc _=V at*;obtain⟨hz,iw,x'⟩:=Kept.a_ aL;clear aL;have du:=gO.trans hz;clear hz;generalize ch.heap.size=g9 at*;have Fh:=I x';have jG:=I (e8.trans du);have ee:=j4.kept du;obtain⟨b4,gz⟩:=ee.p;have gU:=sF.kept du;obtain⟨dn,fq⟩:=gU.p;clear iw x' du ee gU;go_upto_region 5 with (go_at_call 7;refine (h0 _ jG vO).2.mono ?_;rintro ko c4⟨rfl,cy⟩;have o7:=I cy;clear cy)
 generalize aL:c4.alloc _=Z at*;obtain⟨hz,Hs⟩:=Kept.aQ aL;clear aL;have q_:=o7.trans hz;clear hz;have uK:=Fh.kept q_;obtain⟨DL,AK⟩:=uK.p;obtain⟨c13,l13⟩:=Hs.p;have wU:=I (jG.trans q_);clear b4 gz dn fq uK Hs q_;go_wp2_with (go_at_call 5;refine (Kt _ wU).mono ?_;rintro r9 lP⟨rfl,xE⟩;have O4:=I xE;clear xE)
 go_ret;exact⟨rfl,wU.trans O4⟩
def apR(cm gX hn:ak)(l:cO)(i:aa)(s:cq)(d:J)(c:gl)(w:ag)(bE:h1 w cm l)(b6:ft w gX c.ins)(bN:kh w hn c.mem)(h3:Mon w)(aD:l.sc[i]?=some s)(aq:(eD l (i:J) c d).c=0):
  bg 3 #[cm,ah (i:J),aF #[c.d,gX,hn],d] w (Oh w):=by
 have Fv:=I (λw1(h:Kept w w1)=>aeH cm gX hn l c w1 (bE.kept h) (b6.kept h) (bN.kept h));have Kt:=I (λw1(h:Kept w w1)=>aaR w1 (h3.kept h));have h0:=I (λw1(h:Kept w w1)(fB:c.ins.length<=14)=>ajy (d:=d) (bE.kept h) (b6.kept h) (bN.kept h) (by omega) (h3.kept h) aD aq);have HLR:=I (λw1(h:Kept w w1)=>bE.kept h);have qt:Hid (c.ins.length<=14->aaz l i s c d (oc l s c d)):=I (λfB=>by
  obtain⟨E,T,S,rfl,-⟩:=id bE;exact afa aD aq bE b6 bN (by omega) h3)
 have Bq:=I (λ(u:ak)w1(h:Kept w w1)(fB:c.ins.length<=14)(hu:h1 w1 u (j_ l i s (e_ (pA (oc l s c d))) (e_ (pw (oc l s c d)))))=>F2 u gX hn _ i d c w1 hu (b6.kept h) (bN.kept h) (by omega) (h3.kept h));have eG:=I (kd.of aD aq).ok;unfold DF at Fv;unfold Oh;obtain⟨⟨cg,bK,dR⟩,c6⟩:∃V,V=(eD l (i:J) c d).v:=⟨_,rfl⟩;obtain⟨cf,p4⟩:∃r,r=(eD l (i:J) c d).cf:=⟨_,rfl⟩;rw[<-c6,<-p4]at h0;dsimp only at h0;obtain⟨ns,y8⟩:∃ns,ns=oc l s c d:=⟨_,rfl⟩;rw[<-y8]at h0 qt Bq;obtain⟨fs,Gb⟩:∃fs,fs=j_ l i s (e_ (pA ns)) (e_ (pw ns)):=⟨_,rfl⟩;rw[<-Gb]at Bq;have Dt:=I Gb;have fE:=I c6;have Ut:=I p4;have dY:=I aD;obtain⟨dw,cM,cH,rfl,ar,ab,ad⟩:=bE;obtain⟨c5,eW,rfl,-⟩:=ar;obtain⟨cV,cX,rfl,-⟩:=ab;obtain⟨hM,fJ,rfl,-⟩:=ad;obtain⟨eh,fR,rfl,-⟩:=b6;obtain⟨ff,ih,rfl,-⟩:=bN;generalize uX:l.bs.length=dS at*;generalize wb:l.tb.length=dd at*;generalize ot:l.sc.length=fO at*;generalize s7:c.ins.length=cC at*;generalize p2:c.mem.length=eE at*;clear h3 uX wb ot s7 p2 aq c6 p4 y8 Gb aD;go_enter func3,ntmps3
 go_upto_region 1 with fail
 generalize aL:(w.alloc _).alloc _=W at*;obtain⟨aV,fH,e7⟩:=Kept.a_ aL;clear aL;have e8:=I aV;have j4:=I fH;have sF:=I e7;obtain⟨b4,gz⟩:=fH.p;obtain⟨dn,fq⟩:=e7.p;clear fH e7 aV;go_upto_region 3 with (first|(go_at_call 4;refine (Fv _ e8).mono ?_;rintro aQ w1⟨b,rfl,au,bd⟩;have sL:=I (λh:b=true=>(bd h).1);have dA:=I au;have ee:=j4.kept au;have b4:=ee.cell;have gz:=ee.lt;have gU:=sF.kept au;have dn:=gU.cell;have fq:=gU.lt;clear bd au ee gU;cases b)|(go_at_call 5;refine (Kt _ (e8.trans dA)).mono ?_;rintro a_ w2⟨rfl,bt⟩;have hk:=I bt;clear bt))
 .go_wp2_with fail
  go_ret;exact⟨rfl,(e8.trans dA).trans hk⟩
 have vO:=I (sL (by simp));have gi:=I (e8.trans dA);have qt:=I (qt vO);go_upto_region 4 with (go_at_call 6;refine (h0 _ gi vO).1.mono ?_;rintro cv ch⟨rfl,bF⟩;have gO:=I (dA.trans bF);clear bF)
 generalize aL:(ch.alloc _).alloc _=V at*;obtain⟨hz,iw,x'⟩:=Kept.a_ aL;clear aL;have du:=gO.trans hz;clear hz;generalize ch.heap.size=g9 at*;have uy:=I iw;have Fh:=I x';have iS:=I du;have ee:=j4.kept du;obtain⟨b4,gz⟩:=ee.p;have gU:=sF.kept du;obtain⟨dn,fq⟩:=gU.p;clear iw x' du ee gU;go_upto_region 5 with (go_at_call 7;refine (h0 _ (e8.trans iS) vO).2.1.mono ?_;rintro ko c4⟨u,rfl,hu,cy⟩;have pa:=I hu;have o7:=I cy;obtain⟨kR,eg,rfl,-⟩:=hu;clear cy)
 have Hs:=aB.new c4 37 #[(),(),(),()];have q_:=(aG c4).alloc (.cells #[(),(),(),()] 37);have Uy:=I (pa.kept q_);have Jc:=qt.aE;rw[<-Ut,<-fE]at Jc;have HHD:=I Jc;have nJ:0<ns.length:=by
  rcases zB ns.length with h|h
  .rw[List.eq_nil_of_length_eq_zero h]at Jc;cases Jc
  .exact h
 obtain⟨pH,fF,IJ,aC⟩:=id Uy;simp only[i_,tu]at IJ;obtain⟨rfl,rfl⟩:=IJ;obtain⟨nb,no,rfl,lH,ef⟩:=aC nJ;have Cc:∀k u,(qe ⟨1,0,-1,d,cf,⟨cg,bK,dR⟩⟩)[k]?=some u->(c4.alloc (.cells #[(),(),(),()] 37)).cell? ⟨nb,no+k,none⟩=some u:=λk u ai=>by
  have:=ef 0 _ Jc k u ai;rwa [vA,lT]at this
 have bX:=Cc 0 _ rfl;have bQ:=Cc 1 _ rfl;have cx:=Cc 2 _ rfl;have hx:=Cc 3 _ rfl;have hK:=Cc 4 _ rfl;have pE:=Cc 5 _ rfl;have xZ:=Cc 6 _ rfl;have EX:=Cc 7 _ rfl;rw[lT]at bX;clear aC ef Cc Jc;have Dy:=iS.trans (o7.trans q_);have pP:=o7.trans q_;generalize c4.alloc (.cells #[(),(),(),()] 37)=Z at*;generalize c4.heap.size=g13 at*;have wU:=I Dy;have uy:=I (uy.kept pP);have uK:=Fh.kept pP;obtain⟨DL,AK⟩:=uK.p;have aq9:=I Hs;obtain⟨c13,l13⟩:=Hs.p;generalize hNl:ns.length=N at*;have jL:N≠0:=by omega
 have hnz:¬((N:J)=0):=by omega
 clear hNl;clear uK Hs q_ Dy pP b4 gz dn fq;have w5:=I (λw1(h:Kept Z w1)=>aqH _ ns w1 (Uy.kept h) qt.wf _ HHD rfl rfl qt.len qt.Iy);unfold fo at w5;go_upto_region 9 with (go_at_call 8;refine (w5 _ (aG _)).mono ?_;rintro qB dc⟨rfl,ey⟩;have lX:=I ey;clear ey)
 have c4':=(j4.kept (wU.trans lX)).cell;have UE:=(aG dc).alloc (.cells #[ah 1,(),ah (-1),d,cf,cg,bK,dR] 45);have eU:=lX.aI lH bX;have dr:=lX.aI lH bQ;have eV:=lX.aI lH cx;have jP:=lX.aI lH hx;have pF:=lX.aI lH hK;have vz:=lX.aI lH pE;have A4:=lX.aI lH xZ;have A5:=lX.aI lH EX;have akt:=bG lH lX.size;clear bX bQ cx hx hK pE xZ EX DL AK c13 l13 c4';go_upto_region 10 with fail
 generalize aL:dc.alloc _=X at*;obtain⟨-,B14⟩:=Kept.aQ aL;clear aL;have O4:=I (lX.trans UE);have kl:=uy.kept (lX.trans UE);clear eU dr eV jP pF vz A4 A5 akt UE;generalize dc.heap.size=g14 at*;obtain⟨c14,l14⟩:=B14.p;obtain⟨ri,xG⟩:=kl.p;clear B14 kl;go_upto_region 12 with fail
 clear c14 l14 ri xG;have tG:=I (λw1(h:Kept Z w1)=>aes _ ns w1 (Uy.kept h) qt.len);unfold S5 at tG;go_upto_region 13 with (go_at_call 9;refine (tG _ O4).mono ?_;rintro DR xW⟨u1,u2,rfl,i1,i2,sn⟩;have O3:=I (bb i1 i2);have qq:=I (O4.trans sn);clear i1 i2 sn)
 have aam:=I (e8.trans (wU.trans qq));have ee:=j4.kept (wU.trans qq);obtain⟨b4,gz⟩:=ee.p;clear ee;have o8:=I (acX _ u1 u2 l i s _ _ xW (HLR _ aam) eG dY O3.1 O3.2 qt.own qt.t');unfold R5 at o8;rw[<-Dt]at o8;go_upto_region 14 with (go_at_call 10;refine o8.mono ?_;rintro L2 mb⟨u9,rfl,Rn,te⟩;have HL9:=I Rn;have k':=I te;obtain⟨ev9,tv9,sv9,rfl,h90,h91,h92⟩:=Rn;obtain⟨Hp,Iz,rfl,-⟩:=h90;obtain⟨Hr,IB,rfl,-⟩:=h91;obtain⟨Hq,IA,rfl,-⟩:=h92;clear te)
 have xB:=qt.red;rw[<-Dt,<-fE]at xB;have TD:=aB.new mb 26 #[ae Hp fs.bs.length Iz,ae Hr fs.tb.length IB,ae Hq fs.sc.length IA];have Bt:=k'.alloc (.cells #[ae Hp fs.bs.length Iz,ae Hr fs.tb.length IB,ae Hq fs.sc.length IA] 26);have aan:=I (HL9.kept ((aG mb).alloc (.cells #[ae Hp fs.bs.length Iz,ae Hr fs.tb.length IB,ae Hq fs.sc.length IA] 26)));have qG:qV fs<=1000000:=by rw[Dt];exact fN qt.cf qt.ej
 have TW:=I qG;have q7:=I (show qV fs<=qV l by rw[Dt];exact qt.cf);generalize mb.alloc (.cells #[ae Hp fs.bs.length Iz,ae Hr fs.tb.length IB,ae Hq fs.sc.length IA] 26)=Y at*;generalize mb.heap.size=g17 at*;have Bi:=I (aam.trans Bt);have a1:∀w1,Kept Y w1->bg 6 #[aF #[ae Hp fs.bs.length Iz,ae Hr fs.tb.length IB,ae Hq fs.sc.length IA],ah (i:J),aF #[c.d,ae eh cC fR,ae ff eE ih],d] w1 (λe w'=>∃lo:J,e=bL (bj #[aF #[cg,bK,dR],lo,aF #[(),(),(),()]])/\Kept w1 w'):=λw1 h=>(Bq _ w1 (Bi.trans h) vO (aan.kept h)).mono λe w' aT=>by
  obtain⟨a,b,f,ab,ad,ao⟩:=aT;rw[xB.1]at ab ad;obtain⟨rfl,rfl,rfl⟩:=ad.1 rfl;rw[xB.2]at ab;exact⟨_,ab,ao⟩
 have cW:=I a1;clear a1 xB qG;have afN:=I TD;obtain⟨c17,l17⟩:=TD.p;have Pq:=wU.trans (qq.trans Bt);have T7:=I Pq;have agc:=I (qq.trans Bt);have gU:=sF.kept Pq;obtain⟨dn,fq⟩:=gU.p;have ee:=j4.kept Pq;obtain⟨b4,gz⟩:=ee.p;clear ee gU TD Bt Pq;go_upto_region 15 with (go_at_call 6;refine (cW _ (aG _)).mono ?_;rintro Qg S8⟨r10,rfl,k10⟩;have T5:=I k10;clear k10)
 generalize aL:(S8.alloc _).alloc _=U at*;obtain⟨hz,B18,B20⟩:=Kept.a_ aL;clear aL;have Bu:=T5.trans hz;clear hz;generalize S8.heap.size=g18 at*;have HF:=I Bu;have afO:=I B18;have afP:=I B20;have gU:=sF.kept (T7.trans Bu);obtain⟨dn,fq⟩:=gU.p;have ee:=j4.kept (T7.trans Bu);obtain⟨b4,gz⟩:=ee.p;clear ee gU B18 B20 Bu c17 l17;go_upto_region 16 with (go_at_call 11;refine (h0 _ (Bi.trans HF) vO).2.2.mono ?_;rintro e11 w11⟨rfl,k11⟩;have af7:=I k11;clear k11)
 generalize aL:(w11.alloc _).alloc _=Q at*;obtain⟨hz,zI,uu⟩:=Kept.a_ aL;clear aL;have Po:=af7.trans hz;clear hz;generalize w11.heap.size=g21 at*;have H0:=HF.trans Po;have HG:=I (Bi.trans H0);have FL:=afN.kept H0;have ee:=j4.kept (T7.trans H0);have kl:=uy.kept (agc.trans H0);have FM:=afO.kept Po;have BH:=afP.kept Po;have a0:=aS.cell FL.lt (FL.cell 0);have eS:=aS.cell FL.lt (FL.cell 1);have a2:=aS.cell FL.lt (FL.cell 2);have d0:=aS.cell ee.lt (ee.cell 0);have d1:=aS.cell ee.lt (ee.cell 1);have d2:=aS.cell ee.lt (ee.cell 2);have hD:=aS.cell kl.lt (kl.cell 0);have aQ:=aS.cell kl.lt (kl.cell 1);have a_:=aS.cell kl.lt (kl.cell 2);have f0:=aS.cell FM.lt (FM.cell 0);have f1:=aS.cell FM.lt (FM.cell 1);have f2:=aS.cell FM.lt (FM.cell 2);have i0:=aS.cell BH.lt (BH.cell 0);have i1:=aS.cell BH.lt (BH.cell 1);have i2:=aS.cell BH.lt (BH.cell 2);have i3:=aS.cell BH.lt (BH.cell 3);have jq:=aS.cell zI.lt (zI.cell 0);have GK:=aS.cell zI.lt (zI.cell 1);have auw:=aS.cell zI.lt (zI.cell 2);have m0:=aS.cell uu.lt (uu.cell 0);have m1:=aS.cell uu.lt (uu.cell 1);have m2:=aS.cell uu.lt (uu.cell 2);have m3:=aS.cell uu.lt (uu.cell 3);have n5:=I (λ(x:aS Q)=>aet _ fs x.W (aan.kept (H0.trans x.h)) TW);have jH:=I (λ(x:aS Q)=>aet _ l x.W (HLR _ (HG.trans x.h)) qt.ej);have tA:=I (λ(x:aS Q)=>Kt x.W (HG.trans x.h));unfold Y3 at n5 jH;have hle:=q7.out;generalize qV fs=e9 at*;generalize qV l=eC at*;have aki:(e9:J)<=eC:=by omega
 have hf:decide (e9<=eC)=true:=by simpa using hle
 have mx:decide ((e9:J)<=eC)=true:=by simpa using aki
 clear b4 gz dn fq FL ee kl FM BH zI uu Po H0;refine nc (by kernel_rfl) (by kernel_rfl) ?_
 repeat (go_big_quiet_step (first
  |(go_at_call_of 12 (Value.agg #[Value.slice Hp fs.bs.length Iz,Value.slice Hr fs.tb.length IB,Value.slice Hq fs.sc.length IA]);exact aS.call (n5 _))
  |(go_at_call_of 12 (Value.agg #[Value.slice c5 dS eW,Value.slice cV dd cX,Value.slice hM fO fJ]);exact aS.call (jH _))
  |(go_at_call 5;exact aS.call (tA _))))
 refine f' ?_;rintro w12⟨x12,rfl⟩;have pM:=I (HG.trans x12.h);clear a0 eS a2 d0 d1 d2 hD aQ a_ f0 f1 f2 i0 i1 i2 i3 jq GK auw m0 m1 m2 m3;go_wp2_with fail
 go_ret;exact⟨rfl,pM⟩
end Go.Proofs.YtilhklpfkgbikaaGreatDoor
