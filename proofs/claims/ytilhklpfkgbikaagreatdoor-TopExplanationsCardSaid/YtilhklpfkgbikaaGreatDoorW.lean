import Derived.Test.YtilhklpfkgbikaaGreatDoorV
set_option linter.all false
namespace Go.Proofs.YtilhklpfkgbikaaGreatDoor
open Go.RowKit Go.Proofs.Tryz
set_option maxRecDepth 100000
set_option maxHeartbeats 8000000
def Tryz.acT:(prog.info? 46).map (λi=>(i.zero,i.size,i.bytes))=some (some (ae none 0 0),1,24):=by kernel_rfl
def abE(n:aa)(r:br)(ab:r.g.length<=48)(ad:r.v.length<=48):(xl n r).length<=96:=by
 unfold xl;rw[fk];have eS:=nX (l0 n) (e_ (hZ r.g));have a2:=nX (l0 n) (e_ (hZ r.v));have c9:=AY (hZ r.g);have bW:=AY (hZ r.v);have aY:=SJ r.g;have a':=SJ r.v;omega
def dj.vd{w w':ag}{B:aa}{v:ak}{l:aW}(h:dj w B v l)(ai:Kept w w'):dj w' B v l:=by
 refine⟨h.1,?_⟩;rcases h.2 with ad|⟨g,cap,cur,aK,af,al,ao⟩
 .exact .inl ad
 .have aR:aB w g 3 cur:=al;exact .inr ⟨g,cap,cur,aK,af,aR.kept ai,ao⟩
def YO{w:ag}{B g:aa}{v:ak}{l:aW}(h:dj w B v l)(e:v.ownBlock=some g):g<w:=by
 rcases h.2 with⟨ad,_⟩|⟨ju,cap,cur,aK,af,al,ao⟩
 .rw[ad]at e;cases e
 .rw[aK]at e;obtain rfl:ju=g:=cJ e;exact (nW.1 al).1
def apb{ops:Array Oper}{E:Prop}{o:Oper}{a:Act}{K:Act->ag->Prop}{Q:Exit->Act->ag->Prop}{w:ag}(al:o.guard=none)(s x:Operand)(aA:o.op= .call {callee:= .builtin .append,args:=#[s,x],argTypes:=#[46,46]}){base:aa}{v:ak}{xs:aW}(aO:a.eval s=v)(aL:dj w base v xs){vy:ak}{cA:aW}(aj:a.eval x=vy)(yX:gw w vy cA)(av:xs.length+cA.length<=2000000)(af:base<=w)(h:∀v' w',dj w' base v' (xs++cA)->w.grownBy w' v.ownBlock->(v'.ownBlock=v.ownBlock\/v'.ownBlock=some w.heap.size)->K (a.put o.dst v') w'):
  if Region.wanted o (yielded ops a.tmps)=true then o.wp prog a w K Q else E:=by
 rw[aP (by simp[Region.wanted,al])];exact afw s x aA aO aL aj yX av af h
def nD.low{w:ag}{B ur G:aa}{us:dN}{ls:List aW}(h:nD w B G us ls)(bc:ur<=B):nD w ur G us ls:=⟨h.eH,h.len,λd u l hu av=>(h.own d u l hu av).low bc,h.ap,h.far⟩
def adi{w w1:ag}{n:aa}(cN:w1.ownsRow w 46 1 (ae (some (w,0)) n n) n (madeCells (Value.slice none 0 0).cells (n*1)).toList)(cu:w.grownBy w1 none):
  nD w1 w w (List.replicate n (ae none 0 0)) (List.replicate n [])/\Kept w w1:=by
 have e:=Ov (Value.slice none 0 0) (n*1);rw[show (Value.slice none 0 0).cells=#[Value.slice none 0 0]from rfl,e]at cN;have h:=PY cN (by simp);rw[jD]at h;refine⟨⟨h,by simp,λd u l hu av=> ?_,λd fp u lO _ hu _=> ?_,λd u hu=> ?_⟩,⟨cu.os,cu.tape,cu.output,cu.size,λb af=>cu.block b af (by simp)⟩⟩
 .rw[uj]at hu av;split at hu
  .rw[aP (by assumption)]at av
   cases hu;cases av;exact qh _ _ _ _
  .cases hu
 .rw[uj]at hu;split at hu
  .cases hu;exact kP.nil _
  .cases hu
 .rw[uj]at hu;split at hu
  .cases hu;intro h;cases h
  .cases hu
def agU(n:aa)(rs:List br)(w:ag)(e:Ending)(w':ag):Prop:=∃G us,e=bL (ae (some ⟨G,0,none⟩) n n)/\nD w' w G us (gV n rs)/\w.heap.size<=G/\Kept w w'
def qw(rs:List br):Prop:=rs.length<=1000/\∀r∈rs,r.g.length<=48/\r.v.length<=48
def U4(v:ak)(x:cq)(w:ag)(bH:nF w v x)(aJ:qw x.rs)(aH:x.ds.length<=1000):bg 56 #[v] w (agU x.ds x.rs w):=by
 obtain⟨b7,dy,cD,rfl,b6,cY,l5⟩:=bH;obtain⟨jf,jo,rfl,-⟩:=b6;obtain⟨hT,ij,rfl,-⟩:=cY;obtain⟨eR,rc,rfl,-,GB,lI⟩:=l5;obtain⟨pt,iL⟩:=aJ;generalize x.rs=rs at*;generalize x.ds.length=n at*;obtain⟨i0,aD,fY,cG,eM⟩:=hy Tryz.acT;have pO:=I lI;have jH:=I iL;have ry:(n:J)<=1000:=by omega
 clear lI iL;go_enter func56,ntmps56
 go_upto_region 1 with fail
 generalize aL:w.alloc _=W at*;obtain⟨aV,bo⟩:=Kept.aQ aL;clear aL;obtain⟨dX,cR⟩:=bo.p;go_upto_region 3 with (at_make;refine rR _ rfl _ _ 150 rfl W 46 i0 bf 1 underlying150 aD fY cG _ _ _ _ n rfl rfl rfl rfl (by rw[eM];omega) (by unfold maxLen;omega) (bB _) ?_;intro w1 cN cu;have cB:=I (adi cN cu);clear cN cu;have bh:=bo.kept cB.2;have gK:=bh.cell;have N3:=bh.lt)
 have ca:=aV.trans cB.2;clear dX cR;have aL:w<W.heap.size:=bo.lt;obtain⟨T,bT⟩:∃T,T=uJ n rs (List.replicate n []):=⟨_,rfl⟩;have c8:=I (show uJ n (rs.drop 0) (List.replicate n [])=T from bT.symm);have cU:=I (show gV n rs=T.map e_ by rw[bT];rfl);clear bT;go_loopw [15] (λy wr=>∃(i:aa)(us:dN)(a:List aW),y=ah i/\i<=rs.length/\nD wr W W us a/\a.length=n/\(∀l∈a,l.length<=96*i)/\uJ n (rs.drop i) a=T/\Kept W wr) (λy _=>(rs.length-intOf y).toNat)
 case atStart=>exact⟨0,_,_,rfl,d' _,cB.1,iQ ..,λl av=>by rw[(Z0.1 av).2];exact d' _,c8,cB.2⟩
 case round=>
  obtain⟨i,us,a,rfl,dG,wh,ks,pg,a6,ax⟩:=hrel;by_cases aN:i<rs.length
  .obtain⟨ej,ro,rfl,gq,kH⟩:=pO.out (by omega);have al:rs[i]?=some (rs[i]'aN):=bn _;have mR:=vH aN;obtain⟨⟨cK,-⟩,⟨aY,-⟩,⟨a',-⟩,⟨bu,-⟩,⟨b4,-⟩,⟨b_,-⟩,⟨sY,dn,oo⟩,⟨tr,mr,AF⟩,⟨hV,-⟩⟩:=kH i _ al;rw[jA aN,uJ]at a6;obtain⟨D',GG⟩:=jH.out _ mR;generalize rs[i]'aN=r at*;obtain⟨gC,gc,rfl,-⟩:=oo.1.at_;obtain⟨gx,eT,rfl,-⟩:=AF.1.at_;unfold g' at cK aY a' bu b4 b_ dn mr hV;have aS:=aV.trans ax;have jF:=aS.aI gq cK;have gN:=aS.aI gq aY;have df:=aS.aI gq a';have ev:=aS.aI gq bu;have tx:=aS.aI gq b4;have Kp:=aS.aI gq b_;have Dh:=aS.aI gq dn;have yb:=aS.aI gq mr;have rU:=aS.aI gq hV;have acE:=bG gq aS.size;have db:(i:J)<rs.length:=by omega
   have Ut:=I (show Ib w (aF #[r.aM,r.bx,r.bJ,r.d_,r.cZ,r.cT,ae gC r.g gc,ae gx r.v eT,r.src]) r from⟨_,_,rfl,oo,AF⟩);have HQ:=I wh;have cp:=I ax;have fa:=I a6;have Hz:=I pg;clear cK aY a' bu b4 b_ dn mr hV oo AF kH al wh ax aS a6 pg;go_upto_region 5 with fail
   generalize aL:wr.alloc _=ha at*;obtain⟨c3,bm⟩:=Kept.aQ aL;clear aL;have dX:=bm.cell 0;have dM:=bm.cell 1;have dQ:=bm.cell 2;have fP:=bm.cell 3;have kW:=bm.cell 4;have zr:=bm.cell 5;have NY:=bm.cell 6;have AT:=bm.cell 7;have tk:=bm.cell 8;have b5:=bm.lt;simp only[hL,iP,jd]at dX dM dQ fP kW zr NY AT tk;clear jF gN df ev tx Kp Dh yb rU;by_cases aE:0<=r.bx/\r.bx<n
   .obtain⟨ek,rq⟩:∃ek:aa,r.bx=ek:=⟨r.bx.toNat,by omega⟩;have y3:ek<n:=by omega
    have gR:=HQ.kept c3;have XN:ek<us.length:=by rw[gR.len,ks];exact y3
    have Nk:ek<a.length:=by rw[ks];exact y3
    have tV:us[ek]?=some us[ek]:=bn XN;have s4:a[ek]?=some a[ek]:=bn Nk;have cN:=gR.own ek _ _ tV s4;have hlen:=Hz.out _ (fe s4);have mS:=fa.out;unfold FJ at mS;rw[aP aE,rq,c7,s4,b9]at mS;generalize us[ek]=u at*;generalize a[ek]=aZ at*;obtain⟨gI,eg,rfl⟩:=iN cN;have d0:=gR.eH.cell ek;simp only[hL,tV]at d0;have dl:=gR.eH.lt;rw[rq]at dM bm;have OT:=I (show∀c4,Kept ha c4->bg 87 #[aF #[r.aM,ek,r.bJ,r.d_,r.cZ,r.cT,ae gC r.g gc,ae gx r.v eT,r.src],n] c4 (tj c4.heap.size (xl n r) c4)from λc4(ai:Kept ha c4)=>rq▸aiP _ r n c4 ((Ut.kept (aV.trans cp)).kept (c3.trans ai)) D' GG);have eF:=I (show∀X:ag,aB X wr.heap.size 138 #[r.aM,ek,r.bJ,r.d_,r.cZ,r.cT,ae gC r.g gc,ae gx r.v eT,r.src]->aU X ⟨wr.heap.size,0,none⟩=some (.string r.aM)/\aU X ⟨wr.heap.size,1,none⟩=some (ah ek)/\aU X ⟨wr.heap.size,2,none⟩=some (ah r.bJ)/\aU X ⟨wr.heap.size,3,none⟩=some (ah r.d_)/\aU X ⟨wr.heap.size,4,none⟩=some (ah r.cZ)/\aU X ⟨wr.heap.size,5,none⟩=some (ah r.cT)/\aU X ⟨wr.heap.size,6,none⟩=some (ae gC r.g gc)/\aU X ⟨wr.heap.size,7,none⟩=some (ae gx r.v eT)/\aU X ⟨wr.heap.size,8,none⟩=some (.string r.src)from λX h=>⟨h.cell 0,h.cell 1,h.cell 2,h.cell 3,h.cell 4,h.cell 5,h.cell 6,h.cell 7,h.cell 8⟩);have bS:=I (bb gR (bb tV (bb s4 (bb cN (bb hlen mS)))));have agn:=I (show∀(dc lP:ag)(xU:ak),Kept ha dc->dj lP W xU (aZ++xl n r)->dc.grownBy lP (Value.slice gI aZ eg).ownBlock->(xU.ownBlock=(Value.slice gI aZ eg).ownBlock\/xU.ownBlock=some dc.heap.size)->
      ∃S4 fI,nD (lP.setCell ⟨W.heap.size,ek,none⟩ xU) W W S4 fI/\fI.length=n/\(∀l∈fI,l.length<=96*(i+1))/\uJ n (rs.drop (i+1)) fI=T/\Kept W (lP.setCell ⟨W.heap.size,ek,none⟩ xU)from λdc lP xU bd a8 dI dk=>
     ⟨_,_,(gR.kept bd).upd tV a8 dI dk,by rw[gJ];exact ks,λl av=>by
      rcases ZP av with av|rfl
      .have:=Hz.out l av;omega
      .have:=abE n r D' GG;rw[fk];omega,mS,(ll ((cp.trans c3).trans bd) (cN.vd bd) (bB _) dI).setCell (p:=⟨W.heap.size,ek,none⟩) (bB _) _⟩)
    have TU:=I (bb rq aE);have eA:=I bm;have Bo:=I (show some wr.heap.size≠(Value.slice gI aZ eg).ownBlock from λe=>Nat.lt_irrefl _ (YO (HQ.own ek _ _ tV s4) e.symm));have arT:=abE n r D' GG;have hGb:W.heap.size≠wr.heap.size:=by have:=HQ.eH.lt;omega
    have Fl:=I (show aZ.length<=96*1000 from fN hlen (by omega));have hf:(ek:J)<n:=by omega
    have TX:=I (show W<=ha.heap.size from ui dl);rw[rq]at aE;clear gR tV s4 cN hlen mS aE bm;go_upto_region 6 with fail
    go_region_law
     (first
      |(rw[aP (by rfl)];go_simp;go_at_call 87;refine (OT _ ((aG _).drew)).mono ?_;rintro e dc⟨u6,rfl,Wu,ab3⟩;have mP:Kept ha dc:=((aG ha).drew).trans ab3;clear ab3;obtain⟨wN,dn,rfl⟩:=iN Wu;have gU:=(mP.aI b5 dM);have e7:aB dc wr.heap.size 138 #[r.aM,ek,r.bJ,r.d_,r.cZ,r.cT,ae gC r.g gc,ae gx r.v eT,r.src]:=eA.kept mP;have zL:aU dc (W,ek)=some (ae gI aZ eg):=mP.aI dl d0;have gm:=I (bb Wu mP);clear Wu mP)
      |(refine apb rfl (.tmp 36) (.tmp 40) rfl rfl (bS.2.2.2.1.vd gm.2) rfl gm.1.reads (by have:=Fl.out;omega) (by have:=TX.out;have:=gm.2.size;omega) ?_;intro xU lP IS F6 Mg;obtain⟨Kj,mr,rfl⟩:=iN IS;have o4:aB lP wr.heap.size 138 #[r.aM,ek,r.bJ,r.d_,r.cZ,r.cT,ae gC r.g gc,ae gx r.v eT,r.src]:=(F6.block wr.heap.size e7.lt Bo).trans e7;have sS:=aB.cell o4 1;simp only[hL,iP,jd]at sS;have OO:=(F6.block W (bG dl gm.2.size) (λe=>bS.1.far ek _ bS.2.1 e.symm)).trans (bS.1.eH.kept gm.2);have g7:=aB.cell OO ek;have f7:=aB.frozen OO ek;have JB:=aB.lt OO;simp only[hL,bS.out.2.1]at g7;clear OO;have sE:=I (bb IS (bb F6 Mg));clear IS F6 Mg))
    all_goals
     obtain⟨IS,F6,Mg⟩:=sE.out;have cE:=I (agn _ _ _ gm.2 IS F6 Mg);clear IS F6 Mg;go_wp2_with fail
     go_roundw
     case rel=>
      obtain⟨S4,fI,fL,z2,z3,z4,z5⟩:=cE.out;rw[fk]at fL z5;exact⟨i+1,S4,fI,by go_num,aN,fL,z2,z3,z4,z5⟩
     case measure=>simp[intOf];omega
   .have mS:=fa.out;unfold FJ at mS;rw[aw aE]at mS;have Fu:=I mS;have Br:=I (HQ.kept c3);have gO:=I (cp.trans c3);have tA:=I (show∀l∈a,l.length<=96*(i+1)from λl av=>by have:=Hz.out l av;omega);clear mS;rcases (show r.bx<0\/(0<=r.bx/\(n:J)<=r.bx) by omega)with kF|⟨kF,hf⟩
    .go_wp2_with fail
     go_roundw
     case rel=>exact⟨i+1,us,a,by go_num,aN,Br,ks,tA,Fu,gO⟩
     case measure=>simp[intOf];omega
    .go_wp2_with fail
     go_roundw
     case rel=>exact⟨i+1,us,a,by go_num,aN,Br,ks,tA,Fu,gO⟩
     case measure=>simp[intOf];omega
  .obtain rfl:i=rs.length:=by omega
   rw[E4,uJ]at a6;subst a6;have db:¬((rs:J)<rs.length):=by omega
   have cp:=I ax;have HQ:=I wh;have Hz:=I pg;have zU:=I pO.out;have nh:=I (show gV n rs=a.map e_ from cU);clear ax wh pg cU c8 pO cB bh bo gK N3;generalize wr=PI at*;go_wp2_with fail
   go_loopw [46] (λy eK=>∃(d:aa)(Hc:dN),y=ah d/\d<=n/\nD eK W W Hc ((a.take d).map e_++a.drop d)/\Kept W eK) (λy _=>n-(intOf y).toNat)
   case atStart=>exact⟨0,us,rfl,d' _,by rw[q0,Kh,qj,rS];exact HQ,cp⟩
   case round=>
    obtain⟨d,Hc,rfl,rq,wh,ax⟩:=hrel;by_cases aN:d<n
    .have XN:d<Hc.length:=by rw[wh.len,fk,er,gT,OB];omega
     have MD:d<a.length:=by omega
     have tV:Hc[d]?=some Hc[d]:=bn XN;have s4:a[d]?=some a[d]:=bn MD;have wj:((a.take d).map e_).length=d:=by rw[er,gT];omega
     have s5:((a.take d).map e_++a.drop d)[d]?=some a[d]:=by
      rw[k4 (by omega),wj,k7,Kb,lT,s4]
     have cN:=wh.own d _ _ tV s5;have hlen:=Hz.out _ (fe s4);have Jm:((a.take d).map e_++a.drop d).set d (e_ a[d])=(a.take (d+1)).map e_++a.drop (d+1):=by
      apply A8;intro k;rw[x2];have ak8:((a.take (d+1)).map e_).length=d+1:=by rw[er,gT];omega
      rcases Kc d k with ai|ai|ai
      .rw[aw (by omega),k4 (by omega),k4 (by omega),wj,ak8,Kb,Kb];congr 1;omega
      .subst ai;rw[aP rfl,aP (by rw[fk,wj,OB];omega),lQ (by omega),hS,tv (by omega),s4];rfl
      .rw[aw (by omega),lQ (by omega),lQ (by omega),hS,hS,tv (by omega),tv (by omega)]
     generalize Hc[d]=u at*;generalize a[d]=aZ at*;obtain⟨gI,eg,rfl⟩:=iN cN;have d0:=wh.eH.cell d;simp only[hL,tV]at d0;have dl:=wh.eH.lt;have eb:=I (aeM _ _ _ _ cN (by have:=Hz.out;omega));have Cf:(d:J)<n:=by omega
     have bS:=I (bb wh (bb tV (bb Jm (bb cN ax))));clear wh tV Jm cN ax s5 s4;go_upto_region 11 with fail
     go_wp2_with (go_at_call 58;refine eb.mono ?_;rintro e c4⟨u5,rfl,bd,a8,dI⟩;obtain⟨e6,b_,rfl⟩:=iN bd;have yf:=(dI.block W dl (λe=>bS.1.far d _ bS.2.1 e.symm)).trans bS.1.eH;have g5:=aB.cell yf d;have f5:=aB.frozen yf d;have gA:=aB.lt yf;simp only[hL,bS.out.2.1]at g5;have pK:=I (bb bd (bb a8 dI));clear bd a8 dI yf)
     obtain⟨bd,a8,dI⟩:=pK.out;obtain⟨bQ,cx,hx,hK,pE⟩:=bS.out;have fL:=bQ.upd cx bd dI (.inl a8);rw[hx]at fL;have z2:Kept W (c4.setCell ⟨W.heap.size,d,none⟩ (.slice e6 (e_ aZ).length b_)):=(ll pE hK (bB _) dI).setCell (p:=⟨W.heap.size,d,none⟩) (bB _) _;have cE:=I (bb fL z2);clear fL z2 bQ cx hx hK pE bd a8 dI;go_roundw
     case rel=>exact⟨d+1,_,by go_num,aN,cE.1,cE.2⟩
     case measure=>simp[intOf];omega
    .obtain rfl:d=n:=by omega
     have Rk:¬((d:J)<d):=by omega
     have bS:=I (bb wh ax);have bM:=I (show (a.take d).map e_++a.drop d=gV d rs by rw[mH (by omega),vD (by omega),hj];exact nh.symm);clear wh ax;go_wp2_with fail
     go_ret;exact⟨W.heap.size,Hc,rfl,by rw[<-bM];exact nD.low bS.1 (ui aL),ui aL,aV.trans bS.2⟩
end Go.Proofs.YtilhklpfkgbikaaGreatDoor
